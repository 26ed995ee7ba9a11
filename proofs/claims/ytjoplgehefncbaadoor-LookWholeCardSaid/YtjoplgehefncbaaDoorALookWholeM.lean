/- LookWhole by the engine (merged). -/
import Derived.Test.YtjoplgehefncbaaDoorAbsSpec
import Derived.WalkKit
import Derived.OpenShut
import Derived.ChangeArms
import Derived.DataReads
import Derived.DataElems
import Derived.Test.YtjoplgehefncbaaDoorAbsCodes
import Derived.Shelf.Strings.Builder1
import Derived.Shelf.Strings.BuilderF
import Derived.Shelf.Strings.BuilderK
import Derived.Shelf.Strings.BuilderRune
import Derived.Test.YtjoplgehefncbaaDoorProg
import Derived.Shelf.Abstract
import Derived.Shelf.RegionOpen
import Derived.LoopN
import Derived.Deep.LoopGhost
import Derived.Lib.ValidLaws
import Derived.Test.YtjoplgehefncbaaDoorShelfV
import Derived.Lib.OthersKept
import Derived.Maps.AppendAt
import Derived.OwnWalk
import Derived.Test.YtjoplgehefncbaaDoorADestA
import Derived.Test.YtjoplgehefncbaaDoorATbl
import Derived.Test.YtjoplgehefncbaaDoorAHx
import Derived.Test.YtjoplgehefncbaaDoorAMatch
set_option linter.all false
namespace Go.Abs
open Go.RowKit
section
variable {P : Program} {t e : TypeId} {α β : Type} {f : α → List AV} {f' : β → List AV} {wf : α → Prop} {wf' : β → Prop} {sz sz' : Nat}
/-- The blocks there are. -/
def Sall (w : World) (b : Nat) : Prop := b < w.heap.size
/-- Whatever reads as data at the type t is told by f, and meets wf. -/
def OpA (P : Program) (t : TypeId) {α : Type} (f : α → List AV) (wf : α → Prop) : Prop :=
  ∀ {H : Type} (enc : TypeId × Value → H) (w : World) (base : Nat) (spare : Nat → Bool) (held : Bool) (fuel : Nat) (cs : List Value) (x : DataW H × List MemPlace),
    DataW.trod enc P w base spare held fuel t cs = some x → ∃ a : α, RVs0 w (Sall w) (f a) cs ∧ wf a
theorem rvs1 {w : World} {S : Nat → Prop} {a : AV} {v : Value} (h : RV0 w S a v) : RVs0 w S [a] [v] := ⟨rfl, fun i x u h1 h2 => by
  cases i with
  | zero => simp at h1 h2; subst h1; subst h2; exact h
  | succ i => simp at h1⟩
theorem OpA.int {k : IntKind} (ht : P.underlying t = some (.int k)) : OpA P t (fun n : Int => [.int k n]) (fun n => (Lit.int k n).wf = true) := by
  intro H enc w base spare held fuel cs x h
  obtain ⟨n, rfl, _, hw⟩ := DataW.trod_int ht h
  exact ⟨n, rvs1 (.int _ _), hw⟩
theorem OpA.bool (ht : P.underlying t = some .bool) : OpA P t (fun b : Bool => [.sb b]) (fun _ => True) := by
  intro H enc w base spare held fuel cs x h
  obtain ⟨n, rfl, _⟩ := DataW.trod_bool ht h
  exact ⟨n, rvs1 (.sb _), trivial⟩
theorem OpA.string (ht : P.underlying t = some .string) : OpA P t (fun s : ByteArray => [.str s]) (fun s => s.size ≤ maxLen) := by
  intro H enc w base spare held fuel cs x h
  obtain ⟨n, rfl, _, hw⟩ := DataW.trod_string ht h
  exact ⟨n, rvs1 (.str _), hw⟩
theorem OpA.mono {wf2 : α → Prop} (h : OpA P t f wf) (hm : ∀ a, wf a → wf2 a) : OpA P t f wf2 := by
  intro H enc w base spare held fuel cs x hx
  obtain ⟨a, hk, hw⟩ := h enc w base spare held fuel cs x hx
  exact ⟨a, hk, hm a hw⟩
theorem list_of {n : Nat} {Q : Nat → α → Prop} (h : ∀ i, i < n → ∃ a, Q i a) : ∃ l : List α, l.length = n ∧ ∀ i a, l[i]? = some a → Q i a := by
  induction n with
  | zero => exact ⟨[], rfl, fun i a hi => by simp at hi⟩
  | succ n ih =>
    obtain ⟨l, hl, hq⟩ := ih (fun i hi => h i (by omega))
    obtain ⟨a, ha⟩ := h n (by omega)
    refine ⟨l ++ [a], by simp [hl], fun i b hi => ?_⟩
    by_cases hin : i < n
    · rw [List.getElem?_append_left (by omega)] at hi
      exact hq i b hi
    · have hlt : i < (l ++ [a]).length := (List.getElem?_eq_some_iff.1 hi).1
      obtain rfl : i = n := by simp [hl] at hlt; omega
      rw [List.getElem?_append_right (by omega), hl, Nat.sub_self] at hi
      obtain rfl := Option.some.inj hi
      exact ha
theorem OpA.slice [Inhabited α] (ht : P.underlying t = some (.slice e)) (hc : P.cellsOf e = sz) (hf : Emb f sz) (he : OpA P e f wf) :
    OpA P t (fun l : List α => [aL f sz l]) (fun l => l.length ≤ maxLen ∧ ∀ x ∈ l, wf x) := by
  intro H enc w base spare held fuel cs x h
  rcases DataW.trod_slice ht h with ⟨rfl, _⟩ | ⟨a, len, cap, elems, rest, n, _, rfl, _, hb, hl, hm, hlen, hel, _, _⟩
  · exact ⟨[], rvs1 (.sl _ _ _ none 0 (fun _ _ => undef) (Nat.le_refl _) (Nat.zero_le _) (fun i hi => by simp at hi) (fun i j hi => by simp at hi) (fun i j a hi => by simp at hi)), Nat.zero_le _, fun x hx => by simp at hx⟩
  · have hex : ∀ i, i < len → ∃ b : α, wf b ∧ ∃ c, c.length = sz ∧ RVs0 w (Sall w) (f b) c ∧ ∀ j u, c[j]? = some u → w.cell? (a.add (i * sz + j)) = some u := by
      intro i hi
      have h1 := hel i hi
      rw [List.getElem?_eq_getElem (by omega)] at h1
      obtain ⟨c, hcs, htr⟩ := Option.bind_eq_some_iff.mp h1
      obtain ⟨_, hcl, hat⟩ := World.cells?_some hcs
      obtain ⟨b, hK, hw⟩ := he enc w base spare held n c _ htr
      refine ⟨b, hw, c, by rw [hcl, hc], hK, fun j u hj => ?_⟩
      have hjl : j < c.length := (List.getElem?_eq_some_iff.1 hj).1
      have := hat j (by omega)
      rw [hj, hc] at this
      rw [← this, Addr.add_add]
    obtain ⟨l, hll, hq⟩ := list_of hex
    have hget : ∀ i, i < l.length → l[i]? = some (l.getD i default) := fun i hi => by simp [List.getD, hi]
    refine ⟨l, rvs1 ?_, by omega, fun x hx => ?_⟩
    · subst hll
      refine .sl _ _ _ (some a) cap (fun i j => (w.cell? (a.add (i * sz + j))).getD undef) (by omega) (by omega) (fun i hi => ⟨(hf _).2.2, (hf _).1⟩) (fun i j hi hj => ?_) (fun i j x hi hx => ?_)
      · obtain ⟨_, c, hcl, hK, hcell⟩ := hq i _ (hget i hi)
        have h1 := hcell j c[j] (List.getElem?_eq_getElem (by omega))
        refine ⟨a, rfl, ?_, by rw [h1]; rfl⟩
        have h2 := World.block_lt_of_cell? _ _ h1
        have h3 : (a.add (i * sz + j)).block = a.block := by unfold Addr.add; split <;> rfl
        exact h3 ▸ h2
      · obtain ⟨_, c, hcl, hK, hcell⟩ := hq i _ (hget i hi)
        have hj : j < sz := by rw [← (hf (l.getD i default)).2.2]; exact (List.getElem?_eq_some_iff.1 hx).1
        have h1 := hcell j c[j] (List.getElem?_eq_getElem (by omega))
        rw [h1]
        exact hK.2 j x _ hx (List.getElem?_eq_getElem (by omega))
    · obtain ⟨i, hi, rfl⟩ := List.getElem_of_mem hx
      exact (hq i _ (List.getElem?_eq_getElem hi)).1
/-- A run of a struct's fields, from a cell on. -/
def OpAF (P : Program) (fs : List Field) (off n : Nat) {α : Type} (f : α → List AV) (wf : α → Prop) : Prop :=
  ∀ {H : Type} (enc : TypeId × Value → H) (w : World) (base : Nat) (spare : Nat → Bool) (held : Bool) (fuel : Nat) (cs : List Value),
    (∀ (j : Nat) (fl : Field), fs[j]? = some fl → ∃ y, DataW.trod enc P w base spare held fuel fl.type ((cs.drop fl.offset).take (P.cellsOf fl.type)) = some y) →
    cs.length = off + n → ∃ a : α, RVs0 w (Sall w) (f a) (cs.drop off) ∧ wf a
theorem OpAF.one {fl : Field} {off n : Nat} (hf : OpA P fl.type f wf) (ho : fl.offset = off) (hc : P.cellsOf fl.type = n) : OpAF P [fl] off n f wf := by
  intro H enc w base spare held fuel cs hx hl
  obtain ⟨y, hy⟩ := hx 0 fl rfl
  obtain ⟨a, hK, hw⟩ := hf enc w base spare held fuel _ y hy
  rw [ho, hc, List.take_of_length_le (by rw [List.length_drop]; omega)] at hK
  exact ⟨a, hK, hw⟩
theorem RVs0.append {w : World} {S : Nat → Prop} {xs1 bs : List AV} {us vs : List Value} (h : RVs0 w S xs1 us) (k : RVs0 w S bs vs) : RVs0 w S (xs1 ++ bs) (us ++ vs) := by
  refine ⟨by rw [List.length_append, List.length_append, h.1, k.1], fun i a v h1 h2 => ?_⟩
  by_cases hi : i < xs1.length
  · rw [List.getElem?_append_left hi] at h1
    rw [List.getElem?_append_left (by rw [h.1]; exact hi)] at h2
    exact h.2 i a v h1 h2
  · rw [List.getElem?_append_right (by omega)] at h1
    rw [List.getElem?_append_right (by rw [h.1]; omega), h.1] at h2
    exact k.2 _ a v h1 h2
theorem OpAF.cons {fl : Field} {fs : List Field} {off n m : Nat} (hf : OpA P fl.type f wf) (ho : fl.offset = off) (hc : P.cellsOf fl.type = n) (hr : OpAF P fs (off + n) m f' wf') :
    OpAF P (fl :: fs) off (n + m) (fun x : α × β => f x.1 ++ f' x.2) (fun x => wf x.1 ∧ wf' x.2) := by
  intro H enc w base spare held fuel cs hx hl
  obtain ⟨y, hy⟩ := hx 0 fl rfl
  obtain ⟨a, hK, hw⟩ := hf enc w base spare held fuel _ y hy
  obtain ⟨b, hK2, hw2⟩ := hr enc w base spare held fuel cs (fun j g hg => hx (j + 1) g hg) (by omega)
  rw [ho, hc] at hK
  refine ⟨(a, b), ?_, hw, hw2⟩
  have := RVs0.append hK hK2
  rwa [← List.drop_drop, List.take_append_drop] at this
theorem OpA.struct {fs : Array Field} {n : Nat} (ht : P.underlying t = some (.struct fs)) (hf : OpAF P fs.toList 0 n f wf) (hc : P.cellsOf t = n) : OpA P t f wf := by
  intro H enc w base spare held fuel cs x h
  obtain ⟨xs, m, rfl, _, hlen, hxl, hget⟩ := DataW.trod_struct ht h
  obtain ⟨a, hK, hw⟩ := hf enc w base spare held m cs (fun j fl hj => by
    have hj' : fs[j]? = some fl := by simpa using hj
    have hjl : j < fs.size := (Array.getElem?_eq_some_iff.1 hj').1
    exact ⟨_, (hget j fl hj').trans (List.getElem?_eq_getElem (by omega))⟩) (by omega)
  exact ⟨a, by simpa using hK, hw⟩
theorem OpA.iso {g : β → List AV} (h : OpA P t f wf) (tob : α → β) (hg : ∀ a, g (tob a) = f a) (hw : ∀ a, wf a → wf' (tob a)) : OpA P t g wf' := by
  intro H enc w base spare held fuel cs x hx
  obtain ⟨a, hk, hwf⟩ := h enc w base spare held fuel cs x hx
  exact ⟨tob a, by rw [hg]; exact hk, hw a hwf⟩
end
end Go.Abs
set_option maxRecDepth 100000
namespace Go.Abs.Utf
open Go.RowKit Go.Proofs
def goodB (x : Int) : Bool := decide (0 ≤ x ∧ x ≤ 1114111 ∧ (x < 55296 ∨ 57343 < x))
def gd (x : Int) : Int := if goodB x = true then x else 65533
def highB (x : Int) : Bool := decide (55296 ≤ x ∧ x ≤ 56319)
def lowB (x : Int) : Bool := decide (56320 ≤ x ∧ x ≤ 57343)
def oneU (x : Int) : Int := if x > 65535 then 65533 else gd x
def decU : List Int → List Int
  | [] => []
  | [a] => [oneU a]
  | a :: b :: r => if highB a = true ∧ lowB b = true then (65536 + (a - 55296) * 1024 + b - 56320) :: decU r else oneU a :: decU (b :: r)
theorem decU_pair {a b : Int} {r : List Int} (h1 : highB a = true) (h2 : lowB b = true) : decU (a :: b :: r) = (65536 + (a - 55296) * 1024 + b - 56320) :: decU r := by
  rw [decU, if_pos ⟨h1, h2⟩]
theorem decU_one {a : Int} {r : List Int} (h : ∀ b r', r = b :: r' → ¬ (highB a = true ∧ lowB b = true)) : decU (a :: r) = oneU a :: decU r := by
  cases r with
  | nil => simp [decU]
  | cons b r => rw [decU, if_neg (h b r rfl)]
theorem decU_len : ∀ l : List Int, (decU l).length ≤ l.length
  | [] => Nat.le_refl _
  | [a] => Nat.le_refl _
  | a :: b :: r => by
    have h1 := decU_len r
    have h2 := decU_len (b :: r)
    rw [decU]
    split
    · simp only [List.length_cons]
      omega
    · simp only [List.length_cons] at *
      omega
def SGood : Sp := ⟨Int, fun _ => True, fun n => [.int .i64 n], fun n => .st (.sb (goodB n))⟩
def SGd : Sp := ⟨Int, fun _ => True, fun n => [.int .i64 n], fun n => .st (.int .i64 (gd n))⟩
def SHigh : Sp := ⟨Int, fun _ => True, fun n => [.int .i64 n], fun n => .st (.sb (highB n))⟩
def SLow : Sp := ⟨Int, fun _ => True, fun n => [.int .i64 n], fun n => .st (.sb (lowB n))⟩
def SOneU : Sp := ⟨Int, fun _ => True, fun n => [.int .i64 n], fun n => .st (.int .i64 (oneU n))⟩
theorem good : SpOK Tryd.prog 50 SGood := fun (n : Int) _ => by
  have hC := base
  ((refine Fn.ofF hC Tryd.func50 Tryd.ntmps50 rfl rfl rfl ?_); (repeat' first | (with_reducible exact trivial) | (with_reducible rfl) | (refine And.intro ?_ ?_) | (refine Need.mk ?_) | exact True.intro | (first | (refine ⟨_, Told.refl _, ?_, ?_⟩) | (refine ⟨⟨_, _⟩, Told.refl _, ?_, ?_⟩) | (refine ⟨⟨_, _, _⟩, Told.refl _, ?_, ?_⟩) | (refine ⟨⟨_, _, _, _⟩, Told.refl _, ?_, ?_⟩) | (refine ⟨⟨_, _, _, _, _⟩, Told.refl _, ?_, ?_⟩) | (refine ⟨(), Told.refl _, ?_, ?_⟩)) | (with_reducible intro _) | (refine fun (_ : Bool) => ?_)))
  all_goals
    unfold goodB
    ((try dsimp only at *); (try simp only [decide_eq_true_eq, decide_eq_false_iff_not, beq_iff_eq, bne_iff_ne, beq_eq_false_iff_ne, bne_eq_false_iff_eq, ne_eq, Decidable.not_not, ge_iff_le, gt_iff_lt, Bool.not_eq_true', Bool.not_eq_false', Int.not_lt, Int.not_le, Nat.not_lt, Nat.not_le] at *))
    first
      | (rw [decide_eq_true (by omega)]; exact decide_eq_true (by omega))
      | (symm; rw [decide_eq_false_iff_not]; omega)
      | (rw [Bool.eq_iff_iff, decide_eq_true_eq, decide_eq_true_eq]; omega)
      | (symm; rw [decide_eq_true_eq]; omega)
theorem gdf : SpOK Tryd.prog 34 SGd := fun (n : Int) _ => by
  have hC : COK Tryd.prog (cfg [(50, SGood)]) := Ty.ty.cfg ⟨good, trivial⟩
  ((refine Fn.ofF hC Tryd.func34 Tryd.ntmps34 rfl rfl rfl ?_); (repeat' first | (with_reducible exact trivial) | (with_reducible rfl) | (refine And.intro ?_ ?_) | (refine Need.mk ?_) | exact True.intro | (first | (refine ⟨_, Told.refl _, ?_, ?_⟩) | (refine ⟨⟨_, _⟩, Told.refl _, ?_, ?_⟩) | (refine ⟨⟨_, _, _⟩, Told.refl _, ?_, ?_⟩) | (refine ⟨⟨_, _, _, _⟩, Told.refl _, ?_, ?_⟩) | (refine ⟨⟨_, _, _, _, _⟩, Told.refl _, ?_, ?_⟩) | (refine ⟨(), Told.refl _, ?_, ?_⟩)) | (with_reducible intro _) | (refine fun (_ : Bool) => ?_)))
  all_goals
    unfold gd
    first
      | (rw [if_pos ‹_›]; done)
      | (rw [if_neg (by simp [‹goodB n = false›])]; done)
theorem high : SpOK Tryd.prog 29 SHigh := fun (n : Int) _ => by
  have hC := base
  ((refine Fn.ofF hC Tryd.func29 Tryd.ntmps29 rfl rfl rfl ?_); (repeat' first | (with_reducible exact trivial) | (with_reducible rfl) | (refine And.intro ?_ ?_) | (refine Need.mk ?_) | exact True.intro | (first | (refine ⟨_, Told.refl _, ?_, ?_⟩) | (refine ⟨⟨_, _⟩, Told.refl _, ?_, ?_⟩) | (refine ⟨⟨_, _, _⟩, Told.refl _, ?_, ?_⟩) | (refine ⟨⟨_, _, _, _⟩, Told.refl _, ?_, ?_⟩) | (refine ⟨⟨_, _, _, _, _⟩, Told.refl _, ?_, ?_⟩) | (refine ⟨(), Told.refl _, ?_, ?_⟩)) | (with_reducible intro _) | (refine fun (_ : Bool) => ?_)))
  all_goals
    unfold highB
    ((try dsimp only at *); (try simp only [decide_eq_true_eq, decide_eq_false_iff_not, beq_iff_eq, bne_iff_ne, beq_eq_false_iff_ne, bne_eq_false_iff_eq, ne_eq, Decidable.not_not, ge_iff_le, gt_iff_lt, Bool.not_eq_true', Bool.not_eq_false', Int.not_lt, Int.not_le, Nat.not_lt, Nat.not_le] at *))
    first
      | (symm; rw [decide_eq_false_iff_not]; omega)
      | (rw [Bool.eq_iff_iff, decide_eq_true_eq, decide_eq_true_eq]; omega)
theorem low : SpOK Tryd.prog 30 SLow := fun (n : Int) _ => by
  have hC := base
  ((refine Fn.ofF hC Tryd.func30 Tryd.ntmps30 rfl rfl rfl ?_); (repeat' first | (with_reducible exact trivial) | (with_reducible rfl) | (refine And.intro ?_ ?_) | (refine Need.mk ?_) | exact True.intro | (first | (refine ⟨_, Told.refl _, ?_, ?_⟩) | (refine ⟨⟨_, _⟩, Told.refl _, ?_, ?_⟩) | (refine ⟨⟨_, _, _⟩, Told.refl _, ?_, ?_⟩) | (refine ⟨⟨_, _, _, _⟩, Told.refl _, ?_, ?_⟩) | (refine ⟨⟨_, _, _, _, _⟩, Told.refl _, ?_, ?_⟩) | (refine ⟨(), Told.refl _, ?_, ?_⟩)) | (with_reducible intro _) | (refine fun (_ : Bool) => ?_)))
  all_goals
    unfold lowB
    ((try dsimp only at *); (try simp only [decide_eq_true_eq, decide_eq_false_iff_not, beq_iff_eq, bne_iff_ne, beq_eq_false_iff_ne, bne_eq_false_iff_eq, ne_eq, Decidable.not_not, ge_iff_le, gt_iff_lt, Bool.not_eq_true', Bool.not_eq_false', Int.not_lt, Int.not_le, Nat.not_lt, Nat.not_le] at *))
    first
      | (symm; rw [decide_eq_false_iff_not]; omega)
      | (rw [Bool.eq_iff_iff, decide_eq_true_eq, decide_eq_true_eq]; omega)
theorem oneF : SpOK Tryd.prog 31 SOneU := fun (n : Int) _ => by
  have hC : COK Tryd.prog (cfg [(34, SGd)]) := Ty.ty.cfg ⟨gdf, trivial⟩
  ((refine Fn.ofF hC Tryd.func31 Tryd.ntmps31 rfl rfl rfl ?_); (repeat' first | (with_reducible exact trivial) | (with_reducible rfl) | (refine And.intro ?_ ?_) | (refine Need.mk ?_) | exact True.intro | (first | (refine ⟨_, Told.refl _, ?_, ?_⟩) | (refine ⟨⟨_, _⟩, Told.refl _, ?_, ?_⟩) | (refine ⟨⟨_, _, _⟩, Told.refl _, ?_, ?_⟩) | (refine ⟨⟨_, _, _, _⟩, Told.refl _, ?_, ?_⟩) | (refine ⟨⟨_, _, _, _, _⟩, Told.refl _, ?_, ?_⟩) | (refine ⟨(), Told.refl _, ?_, ?_⟩)) | (with_reducible intro _) | (refine fun (_ : Bool) => ?_)))
  all_goals
    unfold oneU
    ((try dsimp only at *); (try simp only [decide_eq_true_eq, decide_eq_false_iff_not, beq_iff_eq, bne_iff_ne, beq_eq_false_iff_ne, bne_eq_false_iff_eq, ne_eq, Decidable.not_not, ge_iff_le, gt_iff_lt, Bool.not_eq_true', Bool.not_eq_false', Int.not_lt, Int.not_le, Nat.not_lt, Nat.not_le] at *))
    first
      | (rw [if_pos (by omega)]; done)
      | (rw [if_neg (by omega)]; done)
def SDec : Sp := ⟨List Int, fun l => l.length ≤ 1000000000, fun l => [aI l], fun l => .row 3 1 (decU l).length (els ci (decU l))⟩
theorem getD_drop (l : List Int) (k i : Nat) : (l.drop k).getD i default = l.getD (k + i) default := by
  simp [List.getD, List.getElem?_drop]
def pairX (a b : Int) : Int := IntKind.i64.wrap (IntKind.i64.wrap (IntKind.i64.wrap (65536 + IntKind.i64.wrap (IntKind.i64.wrap (a - 55296) * 2 ^ min (Int.toNat 10) IntKind.i64.bits)) + b) - 56320)
theorem pairW {a b : Int} (h1 : highB a = true) (h2 : lowB b = true) : pairX a b = 65536 + (a - 55296) * 1024 + b - 56320 := by
  unfold pairX
  unfold highB at h1
  unfold lowB at h2
  rw [decide_eq_true_eq] at h1 h2
  rw [show (2 : Int) ^ min (Int.toNat 10) IntKind.i64.bits = 1024 from rfl]
  simp only [IntKind.wrap_i64]
  omega
set_option maxHeartbeats 4000000 in
theorem dec16 : SpOK Tryd.prog 18 SDec := fun (l : List Int) hl => by
  have hC : COK Tryd.prog (cfg [(29, SHigh), (30, SLow), (31, SOneU)]) := Ty.ty.cfg ⟨high, low, oneF, trivial⟩
  have hl : l.length ≤ 1000000000 := hl
  ((refine Fn.ofF hC Tryd.func18 Tryd.ntmps18 rfl rfl rfl ?_); (repeat' first | (with_reducible exact trivial) | (with_reducible rfl) | (refine And.intro ?_ ?_) | (refine Need.mk ?_) | exact True.intro | (first | (refine ⟨_, Told.refl _, ?_, ?_⟩) | (refine ⟨⟨_, _⟩, Told.refl _, ?_, ?_⟩) | (refine ⟨⟨_, _, _⟩, Told.refl _, ?_, ?_⟩) | (refine ⟨⟨_, _, _, _⟩, Told.refl _, ?_, ?_⟩) | (refine ⟨⟨_, _, _, _, _⟩, Told.refl _, ?_, ?_⟩) | (refine ⟨(), Told.refl _, ?_, ?_⟩)) | (with_reducible intro _) | (refine fun (_ : Bool) => ?_)))
  refine AW.loop (I := fun x : List Int × List Int => ⟨48, [(0, aI x.1), (3, .own 0)], [.row 3 1 x.2.length (els ci x.2)]⟩) (fun x => x.1.length + x.2.length ≤ l.length ∧ decU l = x.2 ++ decU x.1) (fun x => x.1.length) (l, []) ⟨Nat.le_refl _, rfl⟩ ?_ ?_
  · (repeat' first | (with_reducible exact trivial) | (with_reducible rfl) | (refine And.intro ?_ ?_) | (refine Need.mk ?_) | exact True.intro | (first | (refine ⟨_, Told.refl _, ?_, ?_⟩) | (refine ⟨⟨_, _⟩, Told.refl _, ?_, ?_⟩) | (refine ⟨⟨_, _, _⟩, Told.refl _, ?_, ?_⟩) | (refine ⟨⟨_, _, _, _⟩, Told.refl _, ?_, ?_⟩) | (refine ⟨⟨_, _, _, _, _⟩, Told.refl _, ?_, ?_⟩) | (refine ⟨(), Told.refl _, ?_, ?_⟩)) | (with_reducible intro _) | (refine fun (_ : Bool) => ?_))
    all_goals rfl
  · rintro ⟨u, out⟩ ⟨h1, h2⟩
    dsimp only at h1 h2 ⊢
    rcases u with _ | ⟨a, u⟩
    · have h3 : decU l = out := by rw [h2]; simp [decU]
      ((refine AW.byF ‹_› ?_); (repeat' first | (with_reducible exact trivial) | (with_reducible rfl) | (refine And.intro ?_ ?_) | (refine Need.mk ?_) | exact True.intro | (first | (refine ⟨_, Told.refl _, ?_, ?_⟩) | (refine ⟨⟨_, _⟩, Told.refl _, ?_, ?_⟩) | (refine ⟨⟨_, _, _⟩, Told.refl _, ?_, ?_⟩) | (refine ⟨⟨_, _, _, _⟩, Told.refl _, ?_, ?_⟩) | (refine ⟨⟨_, _, _, _, _⟩, Told.refl _, ?_, ?_⟩) | (refine ⟨(), Told.refl _, ?_, ?_⟩)) | (with_reducible intro _) | (refine fun (_ : Bool) => ?_)))
      all_goals first | (exact absurd ‹decide ((([] : List Int).length : Int) > 0) = true› (by decide)) | skip
      all_goals rw [h3]
    · have hdl := decU_len (a :: u)
      have hd : decide (((a :: u).length : Int) > 0) = true := by simp
      have hd2 : ∀ i : Nat, (a :: u).getD (1 + i) default = u.getD i default := fun i => by rw [Nat.add_comm]; rfl
      rcases u with _ | ⟨b, u⟩
      · have h5 : decU l = (out ++ [oneU a]) ++ decU [] := by rw [h2]; simp [decU]
        ((refine AW.byF ‹_› ?_); (repeat' first | (with_reducible exact trivial) | (with_reducible rfl) | (refine And.intro ?_ ?_) | (refine Need.mk ?_) | exact True.intro | (first | (refine ⟨_, Told.refl _, ?_, ?_⟩) | (refine ⟨⟨_, _⟩, Told.refl _, ?_, ?_⟩) | (refine ⟨⟨_, _, _⟩, Told.refl _, ?_, ?_⟩) | (refine ⟨⟨_, _, _, _⟩, Told.refl _, ?_, ?_⟩) | (refine ⟨⟨_, _, _, _, _⟩, Told.refl _, ?_, ?_⟩) | (refine ⟨(), Told.refl _, ?_, ?_⟩)) | (with_reducible intro _) | (refine fun (_ : Bool) => ?_)))
        all_goals first | (exact absurd ‹decide ((([a] : List Int).length : Int) > 1) = true› (by simp)) | (exact absurd ‹decide ((([a] : List Int).length : Int) > 0) = false› (by rw [hd]; decide)) | skip
        any_goals (refine Exists.intro (([], out ++ [oneU a]) : List Int × List Int) (And.intro ?_ (And.intro ?_ ?_)); all_goals (repeat' first | (with_reducible exact trivial) | (with_reducible rfl) | (refine And.intro ?_ ?_) | (refine Need.mk ?_) | exact True.intro | (first | (refine ⟨_, Told.refl _, ?_, ?_⟩) | (refine ⟨⟨_, _⟩, Told.refl _, ?_, ?_⟩) | (refine ⟨⟨_, _, _⟩, Told.refl _, ?_, ?_⟩) | (refine ⟨⟨_, _, _, _⟩, Told.refl _, ?_, ?_⟩) | (refine ⟨⟨_, _, _, _, _⟩, Told.refl _, ?_, ?_⟩) | (refine ⟨(), Told.refl _, ?_, ?_⟩)) | (with_reducible intro _) | (refine fun (_ : Bool) => ?_)))
        all_goals first
          | (exact h5)
          | (rename_i i hi; exact els_of ci_emb (n := 0) (cat_snoc rfl) i hi)
          | (rw [List.length_append]; rfl)
          | (rename_i i hi; exact absurd hi (Nat.not_lt_zero _))
          | omega | (simp only [List.length_cons, List.length_nil, List.length_append] at h1 ⊢; omega) | (simp only [List.length_cons, List.length_nil, List.length_append]; omega) | (simp only [List.length_cons, List.length_nil, List.length_append] at h1 hl hdl ⊢; dsimp only [] at *; omega)
      · have hd3 : decide (((a :: b :: u).length : Int) > 1) = true := by
          rw [decide_eq_true_eq]
          simp only [List.length_cons]
          omega
        by_cases hp : highB a = true ∧ lowB b = true
        · have h5 : decU l = (out ++ [pairX a b]) ++ decU u := by
            rw [h2, decU_pair hp.1 hp.2, pairW hp.1 hp.2, List.append_assoc]
            rfl
          ((refine AW.byF ‹_› ?_); (repeat' first | (with_reducible exact trivial) | (with_reducible rfl) | (refine And.intro ?_ ?_) | (refine Need.mk ?_) | exact True.intro | (first | (refine ⟨_, Told.refl _, ?_, ?_⟩) | (refine ⟨⟨_, _⟩, Told.refl _, ?_, ?_⟩) | (refine ⟨⟨_, _, _⟩, Told.refl _, ?_, ?_⟩) | (refine ⟨⟨_, _, _, _⟩, Told.refl _, ?_, ?_⟩) | (refine ⟨⟨_, _, _, _, _⟩, Told.refl _, ?_, ?_⟩) | (refine ⟨(), Told.refl _, ?_, ?_⟩)) | (with_reducible intro _) | (refine fun (_ : Bool) => ?_)))
          all_goals first | (exact absurd ‹decide (((a :: b :: u).length : Int) > 1) = false› (by rw [hd3]; decide)) | (exact absurd ‹decide (((a :: b :: u).length : Int) > 0) = false› (by rw [hd]; decide)) | skip
          all_goals first | (exact absurd ‹highB ((a :: b :: u).getD (Int.toNat 0) default) = false› (by rw [show (a :: b :: u).getD (Int.toNat 0) default = a from rfl, hp.1]; decide)) | (exact absurd ‹lowB ((a :: b :: u).getD (Int.toNat 1) default) = false› (by rw [show (a :: b :: u).getD (Int.toNat 1) default = b from rfl, hp.2]; decide)) | skip
          any_goals (refine Exists.intro ((u, out ++ [pairX a b]) : List Int × List Int) (And.intro ?_ (And.intro ?_ ?_)); all_goals (repeat' first | (with_reducible exact trivial) | (with_reducible rfl) | (refine And.intro ?_ ?_) | (refine Need.mk ?_) | exact True.intro | (first | (refine ⟨_, Told.refl _, ?_, ?_⟩) | (refine ⟨⟨_, _⟩, Told.refl _, ?_, ?_⟩) | (refine ⟨⟨_, _, _⟩, Told.refl _, ?_, ?_⟩) | (refine ⟨⟨_, _, _, _⟩, Told.refl _, ?_, ?_⟩) | (refine ⟨⟨_, _, _, _, _⟩, Told.refl _, ?_, ?_⟩) | (refine ⟨(), Told.refl _, ?_, ?_⟩)) | (with_reducible intro _) | (refine fun (_ : Bool) => ?_)))
          all_goals first
            | (exact h5)
            | (rename_i i hi; exact els_of ci_emb (n := 0) (cat_snoc rfl) i hi)
            | (rw [List.length_append]; rfl)
            | (rw [show Int.toNat 1 + _ = _ + 1 from Nat.add_comm _ _]; rfl)
            | (rw [show Int.toNat 2 + _ = _ + 1 + 1 from Nat.add_comm _ _]; rfl)
            | omega | (simp only [List.length_cons, List.length_nil, List.length_append] at h1 ⊢; omega) | (simp only [List.length_cons, List.length_nil, List.length_append]; omega) | (simp only [List.length_cons, List.length_nil, List.length_append] at h1 hl hdl ⊢; dsimp only [] at *; omega)
        · have h5 : decU l = (out ++ [oneU a]) ++ decU (b :: u) := by
            rw [h2, decU_one (fun b' r' e hh => by
              injection e with e1 e2
              subst e1
              exact hp hh), List.append_assoc]
            rfl
          ((refine AW.byF ‹_› ?_); (repeat' first | (with_reducible exact trivial) | (with_reducible rfl) | (refine And.intro ?_ ?_) | (refine Need.mk ?_) | exact True.intro | (first | (refine ⟨_, Told.refl _, ?_, ?_⟩) | (refine ⟨⟨_, _⟩, Told.refl _, ?_, ?_⟩) | (refine ⟨⟨_, _, _⟩, Told.refl _, ?_, ?_⟩) | (refine ⟨⟨_, _, _, _⟩, Told.refl _, ?_, ?_⟩) | (refine ⟨⟨_, _, _, _, _⟩, Told.refl _, ?_, ?_⟩) | (refine ⟨(), Told.refl _, ?_, ?_⟩)) | (with_reducible intro _) | (refine fun (_ : Bool) => ?_)))
          all_goals first | (exact absurd ‹decide (((a :: b :: u).length : Int) > 1) = false› (by rw [hd3]; decide)) | (exact absurd ‹decide (((a :: b :: u).length : Int) > 0) = false› (by rw [hd]; decide)) | skip
          all_goals first | (exact absurd (And.intro ‹highB ((a :: b :: u).getD (Int.toNat 0) default) = true› ‹lowB ((a :: b :: u).getD (Int.toNat 1) default) = true›) hp) | skip
          any_goals (refine Exists.intro ((b :: u, out ++ [oneU a]) : List Int × List Int) (And.intro ?_ (And.intro ?_ ?_)); all_goals (repeat' first | (with_reducible exact trivial) | (with_reducible rfl) | (refine And.intro ?_ ?_) | (refine Need.mk ?_) | exact True.intro | (first | (refine ⟨_, Told.refl _, ?_, ?_⟩) | (refine ⟨⟨_, _⟩, Told.refl _, ?_, ?_⟩) | (refine ⟨⟨_, _, _⟩, Told.refl _, ?_, ?_⟩) | (refine ⟨⟨_, _, _, _⟩, Told.refl _, ?_, ?_⟩) | (refine ⟨⟨_, _, _, _, _⟩, Told.refl _, ?_, ?_⟩) | (refine ⟨(), Told.refl _, ?_, ?_⟩)) | (with_reducible intro _) | (refine fun (_ : Bool) => ?_)))
          all_goals first
            | (exact h5)
            | (rename_i i hi; exact els_of ci_emb (n := 0) (cat_snoc rfl) i hi)
            | (rw [List.length_append]; rfl)
            | (rw [show Int.toNat 1 + _ = _ + 1 from Nat.add_comm _ _]; rfl)
            | (rw [show Int.toNat 2 + _ = _ + 1 + 1 from Nat.add_comm _ _]; rfl)
            | omega | (simp only [List.length_cons, List.length_nil, List.length_append] at h1 ⊢; omega) | (simp only [List.length_cons, List.length_nil, List.length_append]; omega) | (simp only [List.length_cons, List.length_nil, List.length_append] at h1 hl hdl ⊢; dsimp only [] at *; omega)
end Go.Abs.Utf
set_option maxRecDepth 100000
namespace Go.Proofs
open Go.Shelf Go.RowKit
def Tryd.lays169_ren : Go.Shelf.Ren := ⟨fun | 169 => 21 | n => n, fun | 0 => 0 | 3 => 3 | 9 => 9 | 37 => 27 | 70 => 62 | 72 => 64 | 127 => 94 | 5 => 5 | n => n, fun | n => n⟩
theorem Tryd.lays169 : Go.Proofs.Lays.n169 Tryd.prog Tryd.lays169_ren := {
  mixed := by kernel_rfl
  f169 := Tryd.func21.trans (congrArg some (by kernel_rfl))
  t0 := Tryd.underlying0
  a0 := Tryd.isAgg0
  z0 := Tryd.sizeOf0
  v0 := Tryd.zeroValue0
  t3 := Tryd.underlying3
  a3 := Tryd.isAgg3
  z3 := Tryd.sizeOf3
  v3 := Tryd.zeroValue3
  t9 := Tryd.underlying9
  a9 := Tryd.isAgg9
  z9 := Tryd.sizeOf9
  v9 := Tryd.zeroValue9
  t37 := Tryd.underlying27
  a37 := Tryd.isAgg27
  z37 := Tryd.sizeOf27
  v37 := Tryd.zeroValue27
  t70 := Tryd.underlying62
  a70 := Tryd.isAgg62
  z70 := Tryd.sizeOf62
  v70 := Tryd.zeroValue62
  t72 := Tryd.underlying64
  a72 := Tryd.isAgg64
  z72 := Tryd.sizeOf64
  v72 := Tryd.zeroValue64
  t127 := Tryd.underlying94
  a127 := Tryd.isAgg94
  z127 := Tryd.sizeOf94
  v127 := Tryd.zeroValue94 }
theorem Tryd.Builder_Extra_169 : Builder.Extra Tryd.prog Tryd.lays169_ren := {
  sizeBuilder := by kernel_rfl
  liesBuilder := by kernel_rfl
  t5 := Tryd.underlying5
  a5 := Tryd.isAgg5
  z5 := Tryd.sizeOf5
  v5 := Tryd.zeroValue5
  infoByte := by kernel_rfl
  cellsByte := by kernel_rfl
  sizeByte := by kernel_rfl
  neB5 := by decide }
theorem Tryd.Builder_String_any_k (B b : Nat) (l : List UInt8) (w : World) (h : Lib.IsBuilderF 64 5 B b (Lib.byteCells l) w) (hBw : B ≤ w.heap.size) :
    Calls Tryd.prog 21 #[.pointer (some ⟨b, 0, none⟩)] w fun e w' => e = .returned (.string ⟨l.toArray⟩) ∧ (Lib.IsBuilderF 64 5 B b (Lib.byteCells l) w' ∧ Below B w w' ∧ Lib.OthersKept 5 (some b) w w') := Any.Builder_String_any_k Tryd.lays169 Tryd.Builder_Extra_169 B b l w h hBw
def Tryd.lays168_ren : Go.Shelf.Ren := ⟨fun | 168 => 33 | 240 => 32 | 242 => 49 | 276 => 48 | 278 => 63 | n => n, fun | 0 => 0 | 3 => 3 | 4 => 4 | 5 => 5 | 9 => 9 | 20 => 20 | 21 => 21 | 37 => 27 | 46 => 85 | 51 => 123 | 70 => 62 | 72 => 64 | 75 => 67 | 164 => 108 | 80 => 71 | n => n, fun | n => n⟩
theorem Tryd.lays168 : Go.Proofs.Lays.n168 Tryd.prog Tryd.lays168_ren := {
  mixed := by kernel_rfl
  f168 := Tryd.func33.trans (congrArg some (by kernel_rfl))
  f240 := Tryd.func32.trans (congrArg some (by kernel_rfl))
  f242 := Tryd.func49.trans (congrArg some (by kernel_rfl))
  f276 := Tryd.func48.trans (congrArg some (by kernel_rfl))
  f278 := Tryd.func63.trans (congrArg some (by kernel_rfl))
  t0 := Tryd.underlying0
  a0 := Tryd.isAgg0
  z0 := Tryd.sizeOf0
  v0 := Tryd.zeroValue0
  t3 := Tryd.underlying3
  a3 := Tryd.isAgg3
  z3 := Tryd.sizeOf3
  v3 := Tryd.zeroValue3
  t4 := Tryd.underlying4
  a4 := Tryd.isAgg4
  z4 := Tryd.sizeOf4
  v4 := Tryd.zeroValue4
  t5 := Tryd.underlying5
  a5 := Tryd.isAgg5
  z5 := Tryd.sizeOf5
  v5 := Tryd.zeroValue5
  t9 := Tryd.underlying9
  a9 := Tryd.isAgg9
  z9 := Tryd.sizeOf9
  v9 := Tryd.zeroValue9
  t20 := Tryd.underlying20
  a20 := Tryd.isAgg20
  z20 := Tryd.sizeOf20
  v20 := Tryd.zeroValue20
  t21 := Tryd.underlying21
  a21 := Tryd.isAgg21
  z21 := Tryd.sizeOf21
  v21 := Tryd.zeroValue21
  t37 := Tryd.underlying27
  a37 := Tryd.isAgg27
  z37 := Tryd.sizeOf27
  v37 := Tryd.zeroValue27
  t46 := Tryd.underlying85
  a46 := Tryd.isAgg85
  z46 := Tryd.sizeOf85
  v46 := Tryd.zeroValue85
  t51 := Tryd.underlying123
  a51 := Tryd.isAgg123
  z51 := Tryd.sizeOf123
  v51 := Tryd.zeroValue123
  t70 := Tryd.underlying62
  a70 := Tryd.isAgg62
  z70 := Tryd.sizeOf62
  v70 := Tryd.zeroValue62
  t72 := Tryd.underlying64
  a72 := Tryd.isAgg64
  z72 := Tryd.sizeOf64
  v72 := Tryd.zeroValue64
  t75 := Tryd.underlying67
  a75 := Tryd.isAgg67
  z75 := Tryd.sizeOf67
  v75 := Tryd.zeroValue67
  t164 := Tryd.underlying108
  a164 := Tryd.isAgg108
  z164 := Tryd.sizeOf108
  v164 := Tryd.zeroValue108 }
theorem Tryd.Builder_Extra_168 : Builder.Extra Tryd.prog Tryd.lays168_ren := {
  sizeBuilder := by kernel_rfl
  liesBuilder := by kernel_rfl
  t5 := Tryd.underlying5
  a5 := Tryd.isAgg5
  z5 := Tryd.sizeOf5
  v5 := Tryd.zeroValue5
  infoByte := by kernel_rfl
  cellsByte := by kernel_rfl
  sizeByte := by kernel_rfl
  neB5 := by decide }
theorem Tryd.Builder_WriteRune_k (B b : Nat) (bs : List Value) (r : Int) (hr0 : -2147483648 ≤ r) (hr1 : r ≤ 2147483647) (w : World) (h : Lib.IsBuilderF 64 5 B b bs w) (hlen : bs.length + 4 ≤ 140737488355328) (hBw : B ≤ w.heap.size) :
    Calls Tryd.prog 33 #[.pointer (some ⟨b, 0, none⟩), .int .i32 r] w fun e w' => e = .returned (.tuple #[.int .i64 (Lib.runeCells r).length, .nilIface]) ∧ (Lib.BuilderAtF 64 5 B b (.pointer (some ⟨b, 0, none⟩)) (bs ++ Lib.runeCells r) w' ∧ Below B w w' ∧ Lib.OthersKept 5 (some b) w w') := Any.Builder_WriteRune_k Tryd.lays168 Tryd.Builder_Extra_168 B b bs r hr0 hr1 w h hlen hBw
def Tryd.lays166_ren : Go.Shelf.Ren := ⟨fun | 166 => 19 | 240 => 32 | 276 => 48 | n => n, fun | 0 => 0 | 3 => 3 | 4 => 4 | 9 => 9 | 20 => 20 | 37 => 27 | 70 => 62 | 72 => 64 | 75 => 67 | 164 => 108 | 80 => 71 | 5 => 5 | n => n, fun | n => n⟩
theorem Tryd.lays166 : Go.Proofs.Lays.n166 Tryd.prog Tryd.lays166_ren := {
  mixed := by kernel_rfl
  f166 := Tryd.func19.trans (congrArg some (by kernel_rfl))
  f240 := Tryd.func32.trans (congrArg some (by kernel_rfl))
  f276 := Tryd.func48.trans (congrArg some (by kernel_rfl))
  t0 := Tryd.underlying0
  a0 := Tryd.isAgg0
  z0 := Tryd.sizeOf0
  v0 := Tryd.zeroValue0
  t3 := Tryd.underlying3
  a3 := Tryd.isAgg3
  z3 := Tryd.sizeOf3
  v3 := Tryd.zeroValue3
  t4 := Tryd.underlying4
  a4 := Tryd.isAgg4
  z4 := Tryd.sizeOf4
  v4 := Tryd.zeroValue4
  t9 := Tryd.underlying9
  a9 := Tryd.isAgg9
  z9 := Tryd.sizeOf9
  v9 := Tryd.zeroValue9
  t20 := Tryd.underlying20
  a20 := Tryd.isAgg20
  z20 := Tryd.sizeOf20
  v20 := Tryd.zeroValue20
  t37 := Tryd.underlying27
  a37 := Tryd.isAgg27
  z37 := Tryd.sizeOf27
  v37 := Tryd.zeroValue27
  t70 := Tryd.underlying62
  a70 := Tryd.isAgg62
  z70 := Tryd.sizeOf62
  v70 := Tryd.zeroValue62
  t72 := Tryd.underlying64
  a72 := Tryd.isAgg64
  z72 := Tryd.sizeOf64
  v72 := Tryd.zeroValue64
  t75 := Tryd.underlying67
  a75 := Tryd.isAgg67
  z75 := Tryd.sizeOf67
  v75 := Tryd.zeroValue67
  t164 := Tryd.underlying108
  a164 := Tryd.isAgg108
  z164 := Tryd.sizeOf108
  v164 := Tryd.zeroValue108 }
theorem Tryd.Builder_Extra_166 : Builder.Extra Tryd.prog Tryd.lays166_ren := {
  sizeBuilder := by kernel_rfl
  liesBuilder := by kernel_rfl
  t5 := Tryd.underlying5
  a5 := Tryd.isAgg5
  z5 := Tryd.sizeOf5
  v5 := Tryd.zeroValue5
  infoByte := by kernel_rfl
  cellsByte := by kernel_rfl
  sizeByte := by kernel_rfl
  neB5 := by decide }
theorem Tryd.Builder_WriteString_k (B b : Nat) (bs : List Value) (s : ByteArray) (w : World) (h : Lib.IsBuilderF 64 5 B b bs w) (hlen : bs.length + s.size ≤ 140737488355328) (hBw : B ≤ w.heap.size) :
    Calls Tryd.prog 19 #[.pointer (some ⟨b, 0, none⟩), .string s] w fun e w' => e = .returned (.tuple #[.int .i64 s.size, .nilIface]) ∧ (Lib.BuilderAtF 64 5 B b (.pointer (some ⟨b, 0, none⟩)) (bs ++ Lib.strCells s) w' ∧ Below B w w' ∧ Lib.OthersKept 5 (some b) w w') := Any.Builder_WriteString_k Tryd.lays166 Tryd.Builder_Extra_166 B b bs s w h hlen hBw
end Go.Proofs
set_option maxRecDepth 100000
namespace Go.Abs.Txt
open Go.RowKit Go.Proofs Go.Abs.Utf
attribute [local go_sem] Oper.semAt_some
structure Aside0 (p : Prop) : Prop where mk :: (out : p)
theorem isB_below {T e : TypeId} {B b : Nat} {bs : List Value} {w w' : World} (h : Lib.IsBuilderF T e B b bs w) (hb : Below w.heap.size w w') : Lib.IsBuilderF T e B b bs w' := by
  have key : ∀ p, Lib.BuilderAtF T e B b p bs w → Lib.BuilderAtF T e B b p bs w' := fun p h => by
    have hlt := h.lt
    obtain ⟨hB, v, hbk, hown, hne⟩ := h
    exact ⟨hB, v, (hb.block b hlt).trans hbk, hown.kept (row := none) ⟨hb.os, hb.tape, hb.output, hb.size, fun k hk _ => hb.block k hk⟩ (by cases hv : v.ownBlock <;> simp), hne⟩
  exact h.elim (fun h => .inl (key _ h)) (fun h => .inr (key _ h))
theorem gd_range (x : Int) : 0 ≤ gd x ∧ gd x ≤ 1114111 := by
  unfold gd goodB
  split
  · rename_i h
    rw [decide_eq_true_eq] at h
    omega
  · omega
def enc (l : List Int) : List UInt8 := l.flatMap fun x => Lib.encodeRune (gd x)
def encB (l : List Int) : ByteArray := ⟨(enc l).toArray⟩
theorem enc_len : ∀ l : List Int, (enc l).length ≤ 4 * l.length
  | [] => by simp [enc]
  | x :: l => by
    have h := enc_len l
    have h2 := Lib.runeCells_le (gd x)
    rw [Lib.runeCells_length] at h2
    unfold enc at h ⊢
    rw [List.flatMap_cons, List.length_append, List.length_cons]
    omega
theorem goodC (x : Int) (w : World) : Calls Tryd.prog 34 #[.int .i64 x] w fun e w' => e = .returned (.int .i64 (gd x)) ∧ Below w.heap.size w w' := by
  refine ((gdf x trivial).2 w (fun _ => False) [.int .i64 x] (fun _ h => h.elim) ⟨rfl, fun i a v h1 h2 => ?_⟩).mono ?_
  · match i, h1, h2 with
    | 0, h1, h2 =>
      obtain rfl := Option.some.inj h1
      obtain rfl := Option.some.inj h2
      exact .int _ _
  · rintro e w' ⟨v, S', rfl, hr, _, _, hb⟩
    cases hr
    exact ⟨rfl, hb⟩
/-- The cells of a row of numbers. -/
theorem intCells {w : World} {S : Nat → Prop} {l : List Int} {v : Value} (h : RV0 w S (aI l) v) : ∃ A c, v = .slice A l.length c ∧ l.length ≤ c ∧ c ≤ maxLen ∧ ∀ i, i < l.length → ∃ ad, A = some ad ∧ S ad.block ∧ w.cell? (ad.add i) = some (.int .i64 (l.getD i default)) := by
  generalize ha : aI l = a at h
  cases h with
  | sl sz n el A cap g hcap hmax hl hm hr =>
    unfold aI at ha
    injection ha with h1 h2 h3
    subst h1 h2 h3
    refine ⟨A, cap, rfl, hcap, hmax, fun i hi => ?_⟩
    obtain ⟨ad, e1, e2, e3⟩ := hm i 0 hi (by omega)
    have e4 := hr i 0 (.int .i64 (l.getD i default)) hi rfl
    generalize hg : g i 0 = u at e3 e4
    cases e4
    refine ⟨ad, e1, e2, ?_⟩
    rw [← e3]
    simp
  | _ => exact absurd ha (by unfold aI; intro h; cases h)
def SText : Sp := ⟨List Int, fun l => l.length < 4398046511104, fun l => [aI l], fun l => .st (.str (encB l))⟩
set_option maxHeartbeats 4000000 in
theorem textC (A0 : Option Addr) (c0 : Nat) (l0 : List Int) (S : Nat → Prop) (w : World) (hS : ∀ b, S b → b < w.heap.size) (hr0 : ∀ i, i < l0.length → ∃ ad, A0 = some ad ∧ S ad.block ∧ w.cell? (ad.add i) = some (.int .i64 (l0.getD i default))) (hc0 : l0.length ≤ c0) (hl : l0.length < 4398046511104) :
    Calls Tryd.prog 20 #[.slice A0 l0.length c0] w fun e w' => e = .returned (.string (encB l0)) ∧ Below w.heap.size w w' := by
  have HL := Aside0.mk hl
  have HR0 := Aside0.mk hr0
  have HC0 := Aside0.mk hc0
  have HS := Aside0.mk hS
  clear hl hr0 hc0 hS
  go_enter Tryd.func20, Tryd.ntmps20
  go_wp2
  go_loopg [8] (l0.length + 1) (fun kq v8 w' => ∃ (i : Nat), v8 = .int .i64 (i : Nat) ∧ Aside0 (i ≤ l0.length ∧ l0.length + 1 ≤ kq + i) ∧ Aside0 (Lib.IsBuilderF 64 5 w.heap.size w.heap.size (Lib.byteCells (enc (l0.take i))) w') ∧ Aside0 (Below w.heap.size w w'))
  case atStart => exact ⟨0, rfl, ⟨by omega⟩, ⟨Lib.IsBuilderF.of (Lib.fresh_isBuilder 64 5 w)⟩, ⟨(Below.refl _ w).alloc (Nat.le_refl _) _⟩⟩
  case round =>
    obtain ⟨i, rfl, HI, HO, HB⟩ := hrel
    cases gk with
    | zero => have := HI.out; omega
    | succ k1 =>
      by_cases hi : i < l0.length
      · obtain ⟨ad, ead, hsb, hcell0⟩ := HR0.out i hi
        have hcell : wr.cell? (ad.add i) = some (.int .i64 l0[i]) := by
          rw [World.cell?_of_block (w := w) (by
            have : (ad.add i).block = ad.block := by unfold Addr.add; split <;> rfl
            rw [this]
            exact HB.out.block _ (HS.out _ hsb)), hcell0]
          simp [List.getD, hi]
        clear hcell0
        subst ead
        have htk : enc (l0.take (i + 1)) = enc (l0.take i) ++ Lib.encodeRune (gd l0[i]) := by rw [List.take_succ_eq_append_getElem hi]; unfold enc; rw [List.flatMap_append]; simp
        have hln := enc_len (l0.take i)
        have hl2 : (enc (l0.take i)).length ≤ 4 * i := by rw [List.length_take] at hln; omega
        have hg := gd_range l0[i]
        have p0 : (0 ≤ (i : Int)) = True := eq_true (by omega)
        have p1 : ((i : Int) < (l0.length : Int)) = True := eq_true (by omega)
        have HTK := Aside0.mk htk
        have HL2 := Aside0.mk hl2
        have HLi := Aside0.mk hi
        have hgd := goodC l0[i]
        clear htk hln hl2
        generalize gd l0[i] = y at *
        generalize l0[i] = x at *
        have hg0 := hg.1
        have hg1 := hg.2
        have HG := Aside0.mk hg
        have HGD := Aside0.mk hgd
        clear hg hgd
        go_wp2_with (first | (go_at_call 34; refine (HGD.out _).mono ?_; rintro e w1 ⟨rfl, hb1⟩; have HB1 := Aside0.mk hb1; clear hb1) | (go_at_call 33; have hbn := Aside0.mk (HB.out.trans (HB1.out.mono HB.out.size)); refine (Tryd.Builder_WriteRune_k w.heap.size w.heap.size (Lib.byteCells (enc (l0.take i))) y (by have := HG.out; omega) (by have := HG.out; omega) _ (isB_below HO.out HB1.out) (by rw [Lib.byteCells_length]; have := HL.out; have := HL2.out; have := HLi.out; omega) hbn.out.size).mono ?_; rintro e W1 ⟨rfl, h1, b1, _⟩))
        go_roundg k1
        case measure => have := HI.out; omega
        case rel => exact ⟨i + 1, (by first | rfl | (have := HL.out; have := HLi.out; congr 1; unfold wrap64; omega) | (have := HL.out; have := HLi.out; simp [wrap64]; omega)), ⟨by have := HI.out; omega⟩, ⟨by rw [HTK.out, Lib.byteCells_append, Lib.byteCells_encodeRune]; exact Or.inr h1⟩, ⟨hbn.out.trans b1⟩⟩
      · obtain rfl : i = l0.length := by have := HI.out; omega
        have ho := HO.out
        rw [List.take_length] at ho
        clear HO
        have HO := Aside0.mk ho
        clear ho
        go_wp2_with (go_at_call 21; refine (Tryd.Builder_String_any_k w.heap.size w.heap.size (enc l0) _ HO.out (HB.out.size)).mono ?_; rintro e W1 ⟨rfl, _, b1, _⟩)
        go_ret
        exact ⟨rfl, HB.out.trans b1⟩
theorem text : SpOK Tryd.prog 20 SText := fun (l : List Int) hl => by
  refine ⟨⟨_, Tryd.func20, rfl, rfl⟩, fun w S vs hS hv => ?_⟩
  obtain ⟨hl1, hv2⟩ := hv
  match vs, hl1, hv2 with
  | [v], hl1, hv2 =>
    obtain ⟨A, c, rfl, h1, h2, h3⟩ := intCells (hv2 0 _ _ rfl rfl)
    refine (textC A c l S w hS h3 h1 hl).mono ?_
    rintro e w' ⟨rfl, hb⟩
    exact ⟨_, S, rfl, .str _, fun _ q => q, fun b q => ⟨Nat.lt_of_lt_of_le (hS b q) hb.size, .inl q⟩, hb⟩
end Go.Abs.Txt
set_option maxRecDepth 100000
namespace Go.Abs.Txt
open Go.RowKit Go.Proofs Go.Abs.Utf
open Go.Lib (decodeL decodeL_width decodeL_N decodeN decodeN_ascii decodeN_cont decodeN_shape decodeL_drop encodeRune encodeRuneZ encodeRuneZ_one encodeRuneZ_two encodeRuneZ_three encodeRuneZ_four encodeRuneZ_length validD validD_step encode_decode)
theorem goodB_gd (x : Int) : goodB (gd x) = true := by
  unfold gd
  split
  · assumption
  · decide
theorem byte_num (n : Nat) (h : n < 256) : (n.toUInt8).toNat = n := by
  simp [Nat.toUInt8, UInt8.toNat_ofNat']
  omega
set_option maxRecDepth 100000 in
set_option maxHeartbeats 4000000 in
theorem decode_encodeN (n : Nat) (h : n ≤ 1114111 ∧ (n < 55296 ∨ 57343 < n)) (t : List UInt8) : decodeL (encodeRune (n : Int) ++ t) = (n, (encodeRune (n : Int)).length) := by
  rw [decodeL_N]
  unfold encodeRune
  by_cases h1 : n ≤ 127
  · rw [encodeRuneZ_one (by omega) (by omega)]
    simp only [List.map_cons, List.map_nil, List.cons_append, List.nil_append, List.getD_cons_zero, List.length_cons, List.length_nil, Int.toNat_natCast]
    rw [byte_num n (by omega), decodeN_ascii _ _ _ _ _ (by omega)]
  by_cases h2 : n ≤ 2047
  · rw [encodeRuneZ_two (by omega) (by omega)]
    have e0 : (192 + (n : Int) / 64).toNat = 192 + n / 64 := by omega
    have e1 : (128 + (n : Int) % 64).toNat = 128 + n % 64 := by omega
    simp only [List.map_cons, List.map_nil, List.cons_append, List.nil_append, List.getD_cons_zero, List.getD_cons_succ, List.length_cons, List.length_nil, e0, e1]
    rw [byte_num (192 + n / 64) (by omega), byte_num (128 + n % 64) (by omega)]
    unfold decodeN
    rw [if_neg (by omega), if_pos (by omega), if_pos (by omega)]
    refine Prod.ext ?_ rfl
    show _ = n
    omega
  by_cases h3 : n ≤ 65535
  · rw [encodeRuneZ_three (by omega)]
    have e0 : (224 + (n : Int) / 4096).toNat = 224 + n / 4096 := by omega
    have e1 : (128 + (n : Int) / 64 % 64).toNat = 128 + n / 64 % 64 := by omega
    have e2 : (128 + (n : Int) % 64).toNat = 128 + n % 64 := by omega
    simp only [List.map_cons, List.map_nil, List.cons_append, List.nil_append, List.getD_cons_zero, List.getD_cons_succ, List.length_cons, List.length_nil, e0, e1, e2]
    rw [byte_num (224 + n / 4096) (by omega), byte_num (128 + n / 64 % 64) (by omega), byte_num (128 + n % 64) (by omega)]
    unfold decodeN
    rw [if_neg (by omega), if_neg (by omega), if_pos (by omega), if_pos (by omega)]
    refine Prod.ext ?_ rfl
    show _ = n
    omega
  · rw [encodeRuneZ_four (by omega) (by omega)]
    have e0 : (240 + (n : Int) / 262144).toNat = 240 + n / 262144 := by omega
    have e1 : (128 + (n : Int) / 4096 % 64).toNat = 128 + n / 4096 % 64 := by omega
    have e2 : (128 + (n : Int) / 64 % 64).toNat = 128 + n / 64 % 64 := by omega
    have e3 : (128 + (n : Int) % 64).toNat = 128 + n % 64 := by omega
    simp only [List.map_cons, List.map_nil, List.cons_append, List.nil_append, List.getD_cons_zero, List.getD_cons_succ, List.length_cons, List.length_nil, e0, e1, e2, e3]
    rw [byte_num (240 + n / 262144) (by omega), byte_num (128 + n / 4096 % 64) (by omega), byte_num (128 + n / 64 % 64) (by omega), byte_num (128 + n % 64) (by omega)]
    unfold decodeN
    rw [if_neg (by omega), if_neg (by omega), if_neg (by omega), if_pos (by omega), if_pos (by omega)]
    refine Prod.ext ?_ rfl
    show _ = n
    omega
theorem encLen (r : Int) : 1 ≤ (encodeRune r).length ∧ (encodeRune r).length ≤ 4 := by
  unfold encodeRune
  rw [List.length_map]
  exact encodeRuneZ_length r
theorem decode_encode (r : Int) (h : goodB r = true) (t : List UInt8) : decodeL (encodeRune r ++ t) = (r.toNat, (encodeRune r).length) := by
  have h := of_decide_eq_true h
  obtain ⟨n, rfl⟩ : ∃ n : Nat, r = n := ⟨r.toNat, by omega⟩
  rw [decode_encodeN n (by omega) t]
  rfl
theorem enc_long (r : Int) (h : (encodeRune r).length = 1) : 0 ≤ r ∧ r ≤ 127 := by
  unfold encodeRune encodeRuneZ at h
  repeat' split at h
  all_goals first | assumption | simp at h
theorem enc_ne (r : Int) : encodeRune r ≠ [] := by
  intro h
  have := (encLen r).1
  rw [h] at this
  simp at this
theorem enc_cons (x : Int) (l : List Int) : enc (x :: l) = encodeRune (gd x) ++ enc l := rfl
theorem valid_enc : ∀ l : List Int, validD (enc l) = true
  | [] => rfl
  | x :: l => by
    have hg := gd_range x
    rw [validD_step _ (by rw [enc_cons]; intro h; exact enc_ne _ (List.append_eq_nil_iff.1 h).1), enc_cons, decode_encode _ (goodB_gd x)]
    rw [if_neg (by
      rintro ⟨h1, h2⟩
      have := enc_long _ h2
      simp only at h1
      omega)]
    simp only [List.drop_left]
    exact valid_enc l
end Go.Abs.Txt
set_option maxRecDepth 100000
namespace Go.Abs.Txt
open Go.RowKit Go.Proofs Go.Abs.Utf
/-- Go's UTF-8 tables lie in the world. -/
def UT (w : World) : Prop := Lib.Utf8Tabs (Tryd.lays196_ren.g 3) (Tryd.lays196_ren.g 4) w
def SWhole : Sp := ⟨ByteArray, fun s => s.size ≤ 9223372036854775807, fun s => [.str s], fun s => .st (.sb (Lib.validD s.data.toList))⟩
theorem validS : SpOKT UT Tryd.prog 17 SWhole := fun (s : ByteArray) hs => by
  refine ⟨⟨_, Tryd.func17, by decide +kernel, rfl⟩, fun w S vs hT hlt hv => ?_⟩
  obtain ⟨hvl, hv⟩ := hv
  match vs, hvl, hv with
  | [u1], _, hv =>
    have g1 := hv 0 _ _ rfl rfl
    cases g1
    refine (Tryd.utf8_ValidString s w hs (hT w (Below.refl _ _))).mono ?_
    rintro e w' ⟨he, hb⟩
    exact ⟨_, S, he, .sb _, fun b h => h, fun b h => ⟨Nat.lt_of_lt_of_le (hlt b h) hb.size, .inl h⟩, hb⟩
theorem whole : SpOKT UT Tryd.prog 9 SWhole := fun (s : ByteArray) hs => by
  have hC : COKT Tryd.prog UT (cfg [(17, SWhole)]) := Ty.ty.cfgT ⟨validS, trivial⟩
  refine FnT.ofF hC Tryd.func9 Tryd.ntmps9 rfl rfl rfl ?_
  (repeat' first | (with_reducible exact trivial) | (with_reducible rfl) | (refine And.intro ?_ ?_) | (refine Need.mk ?_) | exact True.intro | (first | (refine ⟨_, Told.refl _, ?_, ?_⟩) | (refine ⟨⟨_, _⟩, Told.refl _, ?_, ?_⟩) | (refine ⟨⟨_, _, _⟩, Told.refl _, ?_, ?_⟩) | (refine ⟨⟨_, _, _, _⟩, Told.refl _, ?_, ?_⟩) | (refine ⟨⟨_, _, _, _, _⟩, Told.refl _, ?_, ?_⟩) | (refine ⟨(), Told.refl _, ?_, ?_⟩)) | (with_reducible intro _) | (refine fun (_ : Bool) => ?_))
  exact hs
end Go.Abs.Txt
set_option maxRecDepth 100000
namespace Go.Abs.Rn
open Go.RowKit Go.Proofs Go.Abs.Txt Go.Lib
attribute [local go_sem] Oper.semAt_some
structure AsideR (p : Prop) : Prop where mk :: (out : p)
def runesG (s : ByteArray) : Nat → Nat → List Int
  | 0, _ => []
  | n + 1, pos => if pos < s.size then ((Utf8.decode s pos).1 : Int) :: runesG s n (pos + (Utf8.decode s pos).2) else []
def runes (s : ByteArray) : List Int := runesG s s.size 0
theorem width_pos (s : ByteArray) (pos : Nat) (h : pos < s.size) : 1 ≤ (Utf8.decode s pos).2 := by
  by_cases ha : (s[pos]'h).toNat < 128
  · rw [decode_ascii s pos h ha]
    exact Nat.le_refl _
  · exact (decode_high s pos h (by omega)).2
theorem runesG_end (s : ByteArray) (n pos : Nat) (h : ¬ pos < s.size) : runesG s n pos = [] := by
  cases n with
  | zero => rfl
  | succ f => simp [runesG, h]
theorem runesG_len (s : ByteArray) : ∀ n pos, (runesG s n pos).length ≤ n
  | 0, _ => Nat.le_refl _
  | n + 1, pos => by
    unfold runesG
    split
    · have := runesG_len s n (pos + (Utf8.decode s pos).2)
      rw [List.length_cons]
      omega
    · exact Nat.zero_le _
abbrev iv (l : List Int) : List Value := l.map fun x => .int .i64 x
theorem newsR {w : World} {B : Nat} {ys : List Value} {t : TypeId} (hb : w.heap[B]? = some (.cells ys.toArray t (0, 0))) : ∀ j u, ys[j]? = some u → w.cell? ((⟨B, 0, none⟩ : Addr).add j) = some u := fun j u hu => by
  have h : w.cell? ⟨B, j, none⟩ = ys.toArray[j]? := by simp [World.cell?, hb]
  have e : (⟨B, 0, none⟩ : Addr).add j = ⟨B, j, none⟩ := by
    unfold Addr.add
    split
    · rename_i h; subst h; rfl
    · simp
  rw [e, h]
  simpa using hu
section
variable {P : Program} {ops : Array Oper} {rest : List Oper} {o : Oper} {a : Act} {Q : Exit → Act → World → Prop}
theorem appR {w0 W : World} (base low : Nat) (hlo : low ≤ base) (hgd : o.guard = none) (s x : Operand) (t e : TypeId) (z : Value) (size bytes : Nat)
    (ho : o.op = .call { callee := .builtin .append, args := #[s, x], argTypes := #[t, t] })
    (ht : P.underlying t = some (.slice e)) (hinfo : (P.info? e).map (fun i => (i.zero, i.size, i.bytes)) = some (some z, size, bytes)) (hz : z.cells.size = size) (hs0 : 0 < size) (hb0 : 0 < bytes)
    (v : Value) (n : Nat) (xs ys : List Value) (hs : a.eval s = v) (hx : a.eval x = .slice (some ⟨W.heap.size, 0, none⟩) 1 1) (hys : ys.length = size) (h1 : ∀ u ∈ ys, u.oneCell' = true)
    (HO : W.ownsRow base e size v n xs) (HB : Below low w0 W) (hbase : base ≤ W.heap.size) (hl : (n + 1) * bytes ≤ 140737488355328)
    (h : ∀ v1 w1, w1.ownsRow base e size v1 (n + 1) (xs ++ ys) → Below low w0 w1 → W.grownBy w1 v.ownBlock → (∀ k, v.ownBlock = some k → base ≤ k) → wpList P ops Q rest (a.put o.dst v1) w1) :
    wpList P ops Q (o :: rest) a (W.alloc (.cells ys.toArray e)) := by
  obtain ⟨i0, hi, hzz⟩ := Option.map_eq_some_iff.1 hinfo
  simp only [Prod.mk.injEq] at hzz
  obtain ⟨hz0, hz1, hz2⟩ := hzz
  have hlen : n + 1 ≤ 140737488355328 := Nat.le_trans (Nat.le_mul_of_pos_right _ hb0) hl
  have HOa : (W.alloc (.cells ys.toArray e)).ownsRow base e size v n xs := HO.kept (row := none) (World.grownBy_alloc W _ none) (by cases v.ownBlock <;> simp)
  refine wpList_append_own_at (W.alloc (.cells ys.toArray e)) hgd s x t ho base e i0 z size bytes ht hi hz0 hz1 hz2 hz hs0 v n xs hs HOa ⟨W.heap.size, 0, none⟩ 1 1 ys hx (by rw [hys]; simp)
    (newsR (heap_alloc_new W (.cells ys.toArray e))) h1 (by simp only [maxLen]; omega) hl (by simp; omega) ?_
  intro v1 w1 hown hg _ hat
  exact h v1 w1 hown ((HB.alloc (Nat.le_trans hlo hbase) _).grown hg (by simp; omega) (fun k hk => Nat.le_trans hlo (HO.lt k hk).1)) (World.grownBy.trans (World.grownBy_alloc W _ _) hg) (fun k hk => (HO.lt k hk).1)
end
theorem infoI : (Tryd.prog.info? 3).map (fun i => (i.zero, i.size, i.bytes)) = some (some (Value.int .i64 0), 1, 8) := by kernel_rfl
set_option maxHeartbeats 8000000 in
theorem runesC (a0 : ByteArray) (w : World) (hl : a0.size < 17592186044416) :
    Calls Tryd.prog 11 #[.string a0] w fun e w' => ∃ v, e = .returned v ∧ w'.ownsRow (w.heap.size + 1) 3 1 v (runes a0).length (iv (runes a0)) ∧ Below w.heap.size w w' := by
  have HL := AsideR.mk hl
  clear hl
  go_enter Tryd.func11, Tryd.ntmps11
  go_wp2
  go_loopg [3] (a0.size + 1) (fun kq v3 w' => ∃ (pos fuel : Nat) (acc : List Int), AsideR (a0.size + 1 ≤ kq + pos ∧ a0.size ≤ pos + fuel ∧ acc.length ≤ pos) ∧ AsideR (acc ++ runesG a0 fuel pos = runesG a0 a0.size 0) ∧ w'.heap[w.heap.size]? = some (.stringIter a0 pos) ∧ AsideR (w'.ownsRow (w.heap.size + 1) 3 1 v3 acc.length (iv acc)) ∧ AsideR (Below w.heap.size w w'))
  case atStart => exact ⟨0, a0.size, [], ⟨by simp⟩, ⟨rfl⟩, by simpa using World.iter_heap w a0 0, ⟨World.ownsRow_nil _ _ _ _⟩, ⟨(Below.refl _ w).alloc (Nat.le_refl _) _⟩⟩
  case round =>
    obtain ⟨pos, fuel, acc, HI, HA, hit, HO, HB⟩ := hrel
    have hsz : w.heap.size < wr.heap.size := (Array.getElem?_eq_some_iff.1 hit).1
    by_cases hp : pos < a0.size
    · cases gk with
      | zero => have := HI.out; omega
      | succ k1 =>
        have hnx : ∀ ty, (Instr.next (.pointer (some ⟨w.heap.size, 0, none⟩)) true ty).run Tryd.prog wr = _ := fun ty => Lib.run_next_any_at wr w.heap.size a0 pos ty hit hp
        have hwd := width_pos a0 pos hp
        have hd1 := decode_le a0 pos
        have hit2 := Lib.iterAt_heap wr w.heap.size a0 pos (pos + (Utf8.decode a0 pos).2) hit
        have hbw2 := Lib.below_iterAt HB.out (k := w.heap.size) (by omega) a0 (pos + (Utf8.decode a0 pos).2)
        have ho2 : (wr.iterAt w.heap.size a0 (pos + (Utf8.decode a0 pos).2)).ownsRow (w.heap.size + 1) 3 1 u3 acc.length (iv acc) := by
          refine HO.out.kept (row := some w.heap.size) ⟨rfl, rfl, rfl, by rw [Lib.iterAt_size]; exact Nat.le_refl _, fun k _ hk => (Lib.iterAt_other wr w.heap.size k a0 _ (fun e => hk (by rw [e])))⟩ (Or.inr fun e => ?_)
          have := (HO.out.lt w.heap.size e).1
          omega
        have HIT2 := AsideR.mk hit2
        have HB2 := AsideR.mk hbw2
        have HO2 := AsideR.mk ho2
        have HS2 := AsideR.mk (show w.heap.size < (wr.iterAt w.heap.size a0 (pos + (Utf8.decode a0 pos).2)).heap.size by rw [Lib.iterAt_size]; exact hsz)
        have HP := AsideR.mk hp
        have HW := AsideR.mk hwd
        clear hit2 hbw2 ho2 hp hwd
        obtain ⟨f, rfl⟩ : ∃ f, fuel = f + 1 := ⟨fuel - 1, by have := HI.out; have := HP.out; omega⟩
        have HD := AsideR.mk hd1
        go_wp2_with (at_builtin; refine appR (w0 := w) (w.heap.size + 1) w.heap.size (Nat.le_succ _) rfl (.tmp 11) (.tmp 14) 40 3 (.int .i64 0) 1 8 rfl Tryd.underlying40 infoI rfl (by decide) (by decide) u3 acc.length (iv acc) [.int .i64 ((Utf8.decode a0 pos).1 : Int)] rfl rfl rfl ?aP HO2.out HB2.out HS2.out ?aL ?_; (case aP => intro u hu; obtain rfl := List.mem_singleton.1 hu; rfl); (case aL => have := HL.out; have := HI.out; have := HP.out; omega); intro v1 w9 ho hb hg hob; have q1 := AsideR.mk ho; have q2 := AsideR.mk hb; have q3 := AsideR.mk ((hg.block w.heap.size HS2.out (fun e => absurd (hob _ e.symm) (by omega))).trans HIT2.out); clear ho hb hg hob)
        go_roundg k1
        case measure => have := HI.out; have := HW.out; omega
        case rel =>
          refine ⟨pos + (Utf8.decode a0 pos).2, f, acc ++ [((Utf8.decode a0 pos).1 : Int)], ⟨by have := HI.out; have := HW.out; simp; omega⟩, ⟨?_⟩, q3.out, ⟨?_⟩, q2⟩
          · rw [← HA.out]
            simp [runesG, HP.out]
          · have e : iv (acc ++ [((Utf8.decode a0 pos).1 : Int)]) = iv acc ++ [.int .i64 ((Utf8.decode a0 pos).1 : Int)] := by simp [iv]
            rw [e, List.length_append]
            exact q1.out
    · have hnx : ∀ ty, (Instr.next (.pointer (some ⟨w.heap.size, 0, none⟩)) true ty).run Tryd.prog wr = _ := fun ty => Lib.run_next_end_at wr w.heap.size a0 pos ty hit hp
      go_wp2
      go_ret
      have ha := HA.out
      rw [runesG_end a0 fuel pos hp, List.append_nil] at ha
      subst ha
      exact ⟨_, rfl, HO.out, HB.out⟩
theorem own_low {w : World} {a b : Nat} {e : TypeId} {size n : Nat} {v : Value} {xs : List Value} (h : w.ownsRow b e size v n xs) (hab : a ≤ b) : w.ownsRow a e size v n xs := by
  obtain ⟨h1, h2⟩ := h
  refine ⟨h1, ?_⟩
  rcases h2 with h2 | ⟨g, cap, cur, hv, hg, hr⟩
  · exact .inl h2
  · exact .inr ⟨g, cap, cur, hv, Nat.le_trans hab hg, hr⟩
def SRunes : Sp := ⟨ByteArray, fun s => s.size < 17592186044416, fun s => [.str s], fun s => .row 3 1 (runes s).length (els ci (runes s))⟩
theorem runesOK : SpOK Tryd.prog 11 SRunes := fun (s : ByteArray) hs => by
  refine ⟨⟨_, Tryd.func11, by decide +kernel, rfl⟩, fun w S vs hlt hv => ?_⟩
  obtain ⟨hvl, hv⟩ := hv
  match vs, hvl, hv with
  | [u1], _, hv =>
    have g1 := hv 0 _ _ rfl rfl
    cases g1
    refine (runesC s w hs).mono ?_
    rintro e w' ⟨v, he, ho, hb⟩
    refine ⟨v, S, he, ⟨⟨iv (runes s), own_low ho (Nat.le_succ _), fun i hi => ⟨rfl, rfl, fun j a h => ?_⟩⟩, fun b hb' hS => ?_⟩, fun b h => h, fun b h => ⟨Nat.lt_of_lt_of_le (hlt b h) hb.size, .inl h⟩, hb⟩
    · have hj : j < 1 := (List.getElem?_eq_some_iff.1 h).1
      obtain rfl : j = 0 := by omega
      obtain rfl := Option.some.inj h
      refine ⟨.int .i64 ((runes s).getD i default), ?_, .int _ _⟩
      simp [iv, List.getD, hi]
    · have h1 := (ho.lt b hb').1
      have h2 := hlt b hS
      omega
end Go.Abs.Rn
set_option maxRecDepth 100000
namespace Go.Abs.Dest
open Go.RowKit Go.Proofs
abbrev wfI (n : Int) : Prop := (Lit.int .i64 n).wf = true
def wfIs (l : List Int) : Prop := l.length ≤ maxLen ∧ ∀ x ∈ l, wfI x
def wfB (b : Bf) : Prop := wfI b.n ∧ wfI b.lo ∧ wfI b.hi ∧ wfIs b.to
theorem opInt : OpA Tryd.prog 3 (fun n : Int => [.int .i64 n]) wfI := OpA.int Tryd.underlying3
theorem opInts : OpA Tryd.prog 40 (fun l : List Int => [aI l]) wfIs := OpA.slice Tryd.underlying40 (by kernel_rfl) ci_emb opInt
theorem opBf : OpA Tryd.prog 50 cBf wfB :=
  OpA.iso (OpA.struct (n := 1 + (1 + (1 + 1))) Tryd.underlying50 (OpAF.cons opInt rfl (by kernel_rfl) (OpAF.cons opInt rfl (by kernel_rfl) (OpAF.cons opInt rfl (by kernel_rfl) (OpAF.one opInts rfl (by kernel_rfl))))) (by kernel_rfl)) (fun a => ⟨a.1, a.2.1, a.2.2.1, a.2.2.2⟩) (fun _ => rfl) (fun _ h => h)
theorem opBfs : OpA Tryd.prog 24 (fun l : List Bf => [aB l]) (fun l => l.length ≤ maxLen ∧ ∀ x ∈ l, wfB x) := OpA.slice Tryd.underlying24 (by kernel_rfl) cBf_emb opBf
theorem opCode : OpA Tryd.prog 37 (fun x : Int × Int => [.int .i64 x.1, .int .i64 x.2]) (fun x => wfI x.1 ∧ wfI x.2) :=
  OpA.iso (OpA.struct (n := 1 + 1) Tryd.underlying37 (OpAF.cons opInt rfl (by kernel_rfl) (OpAF.one opInt rfl (by kernel_rfl))) (by kernel_rfl)) (fun a => a) (fun _ => rfl) (fun _ h => h)
end Go.Abs.Dest
set_option maxRecDepth 100000
namespace Go.Abs.Coll
open Go.RowKit Go.Proofs Go.Abs.Dest Go.Abs.Span
theorem wfI_rng {n : Int} (h : wfI n) : -9223372036854775808 ≤ n ∧ n ≤ 9223372036854775807 := by
  have h : (decide (IntKind.i64.min ≤ n) && decide (n ≤ IntKind.i64.max)) = true := h
  rw [Bool.and_eq_true, decide_eq_true_eq, decide_eq_true_eq] at h
  exact h
def wfR (r : Rct) : Prop := wfI r.n ∧ wfI r.lo ∧ wfI r.hi
def wfS (s : Spn) : Prop := wfI s.n ∧ wfI s.lo ∧ wfI s.hi ∧ wfI s.to
def wfT (t : Tbl) : Prop := t.name.size ≤ maxLen ∧ wfI t.wmode ∧ (t.spaces.length ≤ maxLen ∧ ∀ x ∈ t.spaces, wfR x) ∧ (t.cids.length ≤ maxLen ∧ ∀ x ∈ t.cids, wfS x) ∧ (t.nots.length ≤ maxLen ∧ ∀ x ∈ t.nots, wfS x) ∧ (t.bfs.length ≤ maxLen ∧ ∀ x ∈ t.bfs, wfB x)
theorem opStr : OpA Tryd.prog 9 (fun s : ByteArray => [.str s]) (fun s => s.size ≤ maxLen) := OpA.string Tryd.underlying9
theorem opRct : OpA Tryd.prog 48 cR wfR :=
  OpA.iso (OpA.struct (n := 1 + (1 + 1)) Tryd.underlying48 (OpAF.cons opInt rfl (by kernel_rfl) (OpAF.cons opInt rfl (by kernel_rfl) (OpAF.one opInt rfl (by kernel_rfl)))) (by kernel_rfl)) (fun a => ⟨a.1, a.2.1, a.2.2⟩) (fun _ => rfl) (fun _ h => h)
theorem opSpn : OpA Tryd.prog 52 cSp wfS :=
  OpA.iso (OpA.struct (n := 1 + (1 + (1 + 1))) Tryd.underlying52 (OpAF.cons opInt rfl (by kernel_rfl) (OpAF.cons opInt rfl (by kernel_rfl) (OpAF.cons opInt rfl (by kernel_rfl) (OpAF.one opInt rfl (by kernel_rfl))))) (by kernel_rfl)) (fun a => ⟨a.1, a.2.1, a.2.2.1, a.2.2.2⟩) (fun _ => rfl) (fun _ h => h)
theorem opRcts : OpA Tryd.prog 22 (fun l : List Rct => [aR l]) (fun l => l.length ≤ maxLen ∧ ∀ x ∈ l, wfR x) := OpA.slice Tryd.underlying22 (by kernel_rfl) cR_emb opRct
theorem opSpns : OpA Tryd.prog 23 (fun l : List Spn => [aS l]) (fun l => l.length ≤ maxLen ∧ ∀ x ∈ l, wfS x) := OpA.slice Tryd.underlying23 (by kernel_rfl) cSp_emb opSpn
theorem opTbl : OpA Tryd.prog 26 cT wfT :=
  OpA.iso (OpA.struct (n := 1 + (1 + (1 + (1 + (1 + 1))))) Tryd.underlying26 (OpAF.cons opStr rfl (by kernel_rfl) (OpAF.cons opInt rfl (by kernel_rfl) (OpAF.cons opRcts rfl (by kernel_rfl) (OpAF.cons opSpns rfl (by kernel_rfl) (OpAF.cons opSpns rfl (by kernel_rfl) (OpAF.one opBfs rfl (by kernel_rfl))))))) (by kernel_rfl)) (fun a => ⟨a.1, a.2.1, a.2.2.1, a.2.2.2.1, a.2.2.2.2.1, a.2.2.2.2.2⟩) (fun _ => rfl) (fun _ h => h)
end Go.Abs.Coll
set_option maxRecDepth 100000
namespace Go.Abs.Hx
open Go.RowKit Go.Proofs
abbrev wf8 (n : Int) : Prop := (Lit.int .u8 n).wf = true
theorem wf8_rng {n : Int} (h : wf8 n) : 0 ≤ n ∧ n ≤ 255 := by
  have h : (decide (IntKind.u8.min ≤ n) && decide (n ≤ IntKind.u8.max)) = true := h
  rw [Bool.and_eq_true, decide_eq_true_eq, decide_eq_true_eq] at h
  exact h
theorem opB8 : OpA Tryd.prog 27 (fun l : List Int => [a8 l]) (fun l => l.length ≤ maxLen ∧ ∀ x ∈ l, wf8 x) := OpA.slice Tryd.underlying27 (by kernel_rfl) c8_emb (OpA.int Tryd.underlying5)
end Go.Abs.Hx
set_option maxRecDepth 100000
namespace Go.Abs.Coll
open Go.RowKit Go.Proofs Go.Abs.Tab Go.Abs.Dest Go.Abs.Span
def SSrc1 : Sp := ⟨Tbl × Int × Int, fun (t, n, v) => t.cids.length < 4611686018427387904, fun (t, n, v) => [aCode n v, .rptr (cT t)], fun (t, n, v) => rI ((ES true).find t.cids n v)⟩
def SSrc2 : Sp := ⟨Tbl × Int × Int, fun (t, n, v) => t.nots.length < 4611686018427387904, fun (t, n, v) => [aCode n v, .rptr (cT t)], fun (t, n, v) => rI ((ES false).find t.nots n v)⟩
set_option maxHeartbeats 4000000 in
theorem src1 : SpOK Tryd.prog 35 SSrc1 := fun ⟨t, n, v⟩ hl => by
  have hC : COK Tryd.prog (cfg [(36, SFindS)]) := Ty.ty.cfg ⟨Span.find, trivial⟩
  ((refine Fn.ofF hC Tryd.func35 Tryd.ntmps35 rfl rfl rfl ?_); (repeat' first | (with_reducible exact trivial) | (with_reducible rfl) | (refine And.intro ?_ ?_) | (refine Need.mk ?_) | exact True.intro | (first | (refine ⟨_, Told.refl _, ?_, ?_⟩) | (refine ⟨⟨_, _⟩, Told.refl _, ?_, ?_⟩) | (refine ⟨⟨_, _, _⟩, Told.refl _, ?_, ?_⟩) | (refine ⟨⟨_, _, _, _⟩, Told.refl _, ?_, ?_⟩) | (refine ⟨⟨_, _, _, _, _⟩, Told.refl _, ?_, ?_⟩) | (refine ⟨(), Told.refl _, ?_, ?_⟩)) | (with_reducible intro _) | (refine fun (_ : Bool) => ?_)))
  exact hl
set_option maxHeartbeats 4000000 in
theorem src2 : SpOK Tryd.prog 37 SSrc2 := fun ⟨t, n, v⟩ hl => by
  have hC : COK Tryd.prog (cfg [(36, SFindS)]) := Ty.ty.cfg ⟨Span.find, trivial⟩
  ((refine Fn.ofF hC Tryd.func37 Tryd.ntmps37 rfl rfl rfl ?_); (repeat' first | (with_reducible exact trivial) | (with_reducible rfl) | (refine And.intro ?_ ?_) | (refine Need.mk ?_) | exact True.intro | (first | (refine ⟨_, Told.refl _, ?_, ?_⟩) | (refine ⟨⟨_, _⟩, Told.refl _, ?_, ?_⟩) | (refine ⟨⟨_, _, _⟩, Told.refl _, ?_, ?_⟩) | (refine ⟨⟨_, _, _, _⟩, Told.refl _, ?_, ?_⟩) | (refine ⟨⟨_, _, _, _, _⟩, Told.refl _, ?_, ?_⟩) | (refine ⟨(), Told.refl _, ?_, ?_⟩)) | (with_reducible intro _) | (refine fun (_ : Bool) => ?_)))
  exact hl
theorem cT_emb : Emb cT 6 := fun x => ⟨rfl, ⟨⟨rfl⟩, ⟨rfl⟩, ⟨⟨rfl⟩, fun _ _ => (cR_emb _).2.1⟩, ⟨⟨rfl⟩, fun _ _ => (cSp_emb _).2.1⟩, ⟨⟨rfl⟩, fun _ _ => (cSp_emb _).2.1⟩, ⟨⟨rfl⟩, fun _ _ => (cBf_emb _).2.1⟩, trivial⟩, rfl⟩
theorem srcEls (t : Tbl) : ∀ i, i < 2 → cond (ones (elt [[.int .i64 1, .fn 35 [.rptr (cT t)]], [.int .i64 2, .fn 37 [.rptr (cT t)]]] i)) (subs0 (elt [[.int .i64 1, .fn 35 [.rptr (cT t)]], [.int .i64 2, .fn 37 [.rptr (cT t)]]] i) (elt [[.int .i64 1, .fn 35 [.rptr (cT t)]], [.int .i64 2, .fn 37 [.rptr (cT t)]]] i)) False := fun i hi => by
  have hc : i = 0 ∨ i = 1 := by omega
  rcases hc with rfl | rfl
  · exact ⟨⟨rfl⟩, ⟨(cT_emb t).2.1, trivial⟩, trivial⟩
  · exact ⟨⟨rfl⟩, ⟨(cT_emb t).2.1, trivial⟩, trivial⟩
def SSrcs : Sp := ⟨Tbl, fun _ => True, fun t => [.agg (cT t)], fun t => .row 76 2 2 (elt [[.int .i64 1, .fn 35 [.rptr (cT t)]], [.int .i64 2, .fn 37 [.rptr (cT t)]]])⟩
set_option maxHeartbeats 4000000 in
theorem srcs : SpOK Tryd.prog 22 SSrcs := fun (t : Tbl) _ => by
  have hC := base
  ((refine Fn.ofF hC Tryd.func22 Tryd.ntmps22 rfl rfl rfl ?_); (repeat' first | (with_reducible exact trivial) | (with_reducible rfl) | (refine And.intro ?_ ?_) | (refine Need.mk ?_) | exact True.intro | (first | (refine ⟨_, Told.refl _, ?_, ?_⟩) | (refine ⟨⟨_, _⟩, Told.refl _, ?_, ?_⟩) | (refine ⟨⟨_, _, _⟩, Told.refl _, ?_, ?_⟩) | (refine ⟨⟨_, _, _, _⟩, Told.refl _, ?_, ?_⟩) | (refine ⟨⟨_, _, _, _, _⟩, Told.refl _, ?_, ?_⟩) | (refine ⟨(), Told.refl _, ?_, ?_⟩)) | (with_reducible intro _) | (refine fun (_ : Bool) => ?_)))
  rename_i i hi
  have hi : i < 2 := hi
  have hc : i = 0 ∨ i = 1 := by omega
  rcases hc with rfl | rfl
  · exact srcEls t 0 (by decide)
  · exact srcEls t 1 (by decide)
/-- A code's number, and where it is from. -/
def numT (t : Tbl) (n v : Int) : Int × Int := match (ES true).find t.cids n v with
  | some x => (x, 1)
  | none => match (ES false).find t.nots n v with
    | some x => (x, 2)
    | none => (0, 0)
def SNum : Sp := ⟨Tbl × Int × Int, fun (t, n, v) => t.cids.length < 4611686018427387904 ∧ t.nots.length < 4611686018427387904, fun (t, n, v) => [.agg (cT t), aCode n v], fun (t, n, v) => .st (.tup [.int .i64 (numT t n v).1, .int .i64 (numT t n v).2])⟩
set_option maxHeartbeats 16000000 in
theorem num : SpOK Tryd.prog 13 SNum := fun ⟨t, n, v⟩ ⟨h1, h2⟩ => by
  have hC : COK Tryd.prog (cfg [(22, SSrcs), (35, SSrc1), (37, SSrc2)]) := Ty.ty.cfg ⟨srcs, src1, src2, trivial⟩
  ((refine Fn.ofF hC Tryd.func13 Tryd.ntmps13 rfl rfl rfl ?_); (repeat' first | (with_reducible exact trivial) | (with_reducible rfl) | (refine And.intro ?_ ?_) | (refine Need.mk ?_) | exact True.intro | (first | (refine ⟨_, Told.refl _, ?_, ?_⟩) | (refine ⟨⟨_, _⟩, Told.refl _, ?_, ?_⟩) | (refine ⟨⟨_, _, _⟩, Told.refl _, ?_, ?_⟩) | (refine ⟨⟨_, _, _, _⟩, Told.refl _, ?_, ?_⟩) | (refine ⟨⟨_, _, _, _, _⟩, Told.refl _, ?_, ?_⟩) | (refine ⟨(), Told.refl _, ?_, ?_⟩)) | (with_reducible intro _) | (refine fun (_ : Bool) => ?_)))
  refine AW.loop (I := fun k : Nat => ⟨29, [(3, .ptr 0 0), (11, .own 1), (12, .int .i64 2), (13, .int .i64 k)], [.box 37 [.int .i64 n, .int .i64 v], .row 76 2 2 (elt [[.int .i64 1, .fn 35 [.rptr (cT t)]], [.int .i64 2, .fn 37 [.rptr (cT t)]]])]⟩) (fun k => k ≤ 2 ∧ (0 < k → (ES true).find t.cids n v = none) ∧ (1 < k → (ES false).find t.nots n v = none)) (fun k => 2 - k) 0 ⟨Nat.zero_le _, fun h => by omega, fun h => by omega⟩ ?_ ?_
  · (repeat' first | (with_reducible exact trivial) | (with_reducible rfl) | (refine And.intro ?_ ?_) | (refine Need.mk ?_) | exact True.intro | (first | (refine ⟨_, Told.refl _, ?_, ?_⟩) | (refine ⟨⟨_, _⟩, Told.refl _, ?_, ?_⟩) | (refine ⟨⟨_, _, _⟩, Told.refl _, ?_, ?_⟩) | (refine ⟨⟨_, _, _, _⟩, Told.refl _, ?_, ?_⟩) | (refine ⟨⟨_, _, _, _, _⟩, Told.refl _, ?_, ?_⟩) | (refine ⟨(), Told.refl _, ?_, ?_⟩)) | (with_reducible intro _) | (refine fun (_ : Bool) => ?_))
    all_goals first | rfl | exact srcEls t _ ‹_›
  · intro k ⟨hk, g1, g2⟩
    have hc : k = 0 ∨ k = 1 ∨ k = 2 := by omega
    rcases hc with rfl | rfl | rfl
    · cases hf : (ES true).find t.cids n v with
      | some x =>
        have hn : numT t n v = (x, 1) := by unfold numT; rw [hf]
        ((refine AW.byF ‹_› ?_); (repeat' first | (with_reducible exact trivial) | (with_reducible rfl) | (refine And.intro ?_ ?_) | (refine Need.mk ?_) | exact True.intro | (first | (refine ⟨_, Told.refl _, ?_, ?_⟩) | (refine ⟨⟨_, _⟩, Told.refl _, ?_, ?_⟩) | (refine ⟨⟨_, _, _⟩, Told.refl _, ?_, ?_⟩) | (refine ⟨⟨_, _, _, _⟩, Told.refl _, ?_, ?_⟩) | (refine ⟨⟨_, _, _, _, _⟩, Told.refl _, ?_, ?_⟩) | (refine ⟨(), Told.refl _, ?_, ?_⟩)) | (with_reducible intro _) | (refine fun (_ : Bool) => ?_)))
        all_goals first | omega | exact h1 | decide | skip
        all_goals first | (exact absurd ‹((ES true).find t.cids n v).isSome = false› (by rw [hf]; simp)) | (exact absurd ‹decide (((0 : Nat) : Int) < 2) = false› (by decide)) | skip
        all_goals (rw [hn]; try first | rfl | (rw [hf]; rfl))
      | none =>
        ((refine AW.byF ‹_› ?_); (repeat' first | (with_reducible exact trivial) | (with_reducible rfl) | (refine And.intro ?_ ?_) | (refine Need.mk ?_) | exact True.intro | (first | (refine ⟨_, Told.refl _, ?_, ?_⟩) | (refine ⟨⟨_, _⟩, Told.refl _, ?_, ?_⟩) | (refine ⟨⟨_, _, _⟩, Told.refl _, ?_, ?_⟩) | (refine ⟨⟨_, _, _, _⟩, Told.refl _, ?_, ?_⟩) | (refine ⟨⟨_, _, _, _, _⟩, Told.refl _, ?_, ?_⟩) | (refine ⟨(), Told.refl _, ?_, ?_⟩)) | (with_reducible intro _) | (refine fun (_ : Bool) => ?_)))
        all_goals first | omega | exact h1 | decide | skip
        all_goals first | (exact absurd ‹((ES true).find t.cids n v).isSome = true› (by rw [hf]; decide)) | (exact absurd ‹decide (((0 : Nat) : Int) < 2) = false› (by decide)) | skip
        any_goals (refine Exists.intro (1) (And.intro ?_ (And.intro ?_ ?_)); all_goals (repeat' first | (with_reducible exact trivial) | (with_reducible rfl) | (refine And.intro ?_ ?_) | (refine Need.mk ?_) | exact True.intro | (first | (refine ⟨_, Told.refl _, ?_, ?_⟩) | (refine ⟨⟨_, _⟩, Told.refl _, ?_, ?_⟩) | (refine ⟨⟨_, _, _⟩, Told.refl _, ?_, ?_⟩) | (refine ⟨⟨_, _, _, _⟩, Told.refl _, ?_, ?_⟩) | (refine ⟨⟨_, _, _, _, _⟩, Told.refl _, ?_, ?_⟩) | (refine ⟨(), Told.refl _, ?_, ?_⟩)) | (with_reducible intro _) | (refine fun (_ : Bool) => ?_)))
        all_goals first
          | rfl
          | exact srcEls t _ ‹_›
          | decide
          | exact fun _ => hf
          | exact fun h => absurd h (by decide)
          | omega
    · have g1 := g1 (by decide)
      cases hf : (ES false).find t.nots n v with
      | some x =>
        have hn : numT t n v = (x, 2) := by unfold numT; rw [g1, hf]
        ((refine AW.byF ‹_› ?_); (repeat' first | (with_reducible exact trivial) | (with_reducible rfl) | (refine And.intro ?_ ?_) | (refine Need.mk ?_) | exact True.intro | (first | (refine ⟨_, Told.refl _, ?_, ?_⟩) | (refine ⟨⟨_, _⟩, Told.refl _, ?_, ?_⟩) | (refine ⟨⟨_, _, _⟩, Told.refl _, ?_, ?_⟩) | (refine ⟨⟨_, _, _, _⟩, Told.refl _, ?_, ?_⟩) | (refine ⟨⟨_, _, _, _, _⟩, Told.refl _, ?_, ?_⟩) | (refine ⟨(), Told.refl _, ?_, ?_⟩)) | (with_reducible intro _) | (refine fun (_ : Bool) => ?_)))
        all_goals first | omega | exact h2 | decide | skip
        all_goals first | (exact absurd ‹((ES false).find t.nots n v).isSome = false› (by rw [hf]; simp)) | (exact absurd ‹decide (((1 : Nat) : Int) < 2) = false› (by decide)) | skip
        all_goals (rw [hn]; try first | rfl | (rw [hf]; rfl))
      | none =>
        ((refine AW.byF ‹_› ?_); (repeat' first | (with_reducible exact trivial) | (with_reducible rfl) | (refine And.intro ?_ ?_) | (refine Need.mk ?_) | exact True.intro | (first | (refine ⟨_, Told.refl _, ?_, ?_⟩) | (refine ⟨⟨_, _⟩, Told.refl _, ?_, ?_⟩) | (refine ⟨⟨_, _, _⟩, Told.refl _, ?_, ?_⟩) | (refine ⟨⟨_, _, _, _⟩, Told.refl _, ?_, ?_⟩) | (refine ⟨⟨_, _, _, _, _⟩, Told.refl _, ?_, ?_⟩) | (refine ⟨(), Told.refl _, ?_, ?_⟩)) | (with_reducible intro _) | (refine fun (_ : Bool) => ?_)))
        all_goals first | omega | exact h2 | decide | skip
        all_goals first | (exact absurd ‹((ES false).find t.nots n v).isSome = true› (by rw [hf]; decide)) | (exact absurd ‹decide (((1 : Nat) : Int) < 2) = false› (by decide)) | skip
        any_goals (refine Exists.intro (2) (And.intro ?_ (And.intro ?_ ?_)); all_goals (repeat' first | (with_reducible exact trivial) | (with_reducible rfl) | (refine And.intro ?_ ?_) | (refine Need.mk ?_) | exact True.intro | (first | (refine ⟨_, Told.refl _, ?_, ?_⟩) | (refine ⟨⟨_, _⟩, Told.refl _, ?_, ?_⟩) | (refine ⟨⟨_, _, _⟩, Told.refl _, ?_, ?_⟩) | (refine ⟨⟨_, _, _, _⟩, Told.refl _, ?_, ?_⟩) | (refine ⟨⟨_, _, _, _, _⟩, Told.refl _, ?_, ?_⟩) | (refine ⟨(), Told.refl _, ?_, ?_⟩)) | (with_reducible intro _) | (refine fun (_ : Bool) => ?_)))
        all_goals first
          | rfl
          | exact srcEls t _ ‹_›
          | decide
          | exact fun _ => hf
          | exact fun _ => g1
          | omega
    · have hn : numT t n v = (0, 0) := by unfold numT; rw [g1 (by decide), g2 (by decide)]
      ((refine AW.byF ‹_› ?_); (repeat' first | (with_reducible exact trivial) | (with_reducible rfl) | (refine And.intro ?_ ?_) | (refine Need.mk ?_) | exact True.intro | (first | (refine ⟨_, Told.refl _, ?_, ?_⟩) | (refine ⟨⟨_, _⟩, Told.refl _, ?_, ?_⟩) | (refine ⟨⟨_, _, _⟩, Told.refl _, ?_, ?_⟩) | (refine ⟨⟨_, _, _, _⟩, Told.refl _, ?_, ?_⟩) | (refine ⟨⟨_, _, _, _, _⟩, Told.refl _, ?_, ?_⟩) | (refine ⟨(), Told.refl _, ?_, ?_⟩)) | (with_reducible intro _) | (refine fun (_ : Bool) => ?_)))
      all_goals first | omega | decide | skip
      all_goals first | (exact absurd ‹decide (((2 : Nat) : Int) < 2) = true› (by decide)) | skip
      all_goals (rw [hn])
end Go.Abs.Coll
set_option maxRecDepth 100000
namespace Go.Abs.Lk
open Go.RowKit Go.Proofs Go.Abs.Tab Go.Abs.Dest Go.Abs.Span Go.Abs.Coll Go.Abs.Hx Go.Abs.Mt
def SUniL : Sp := ⟨Tbl × Int × Int, fun (t, n, v) => t.bfs.length < 4611686018427387904, fun (t, n, v) => [.agg (cT t), aCode n v], fun (t, n, v) => rO (EB.find t.bfs n v)⟩
theorem uniL : SpOK Tryd.prog 14 SUniL := fun ⟨t, n, v⟩ ht => by
  have hC : COK Tryd.prog (cfg [(23, SFind)]) := Ty.ty.cfg ⟨Dest.find, trivial⟩
  ((refine Fn.ofF hC Tryd.func14 Tryd.ntmps14 rfl rfl rfl ?_); (repeat' first | (with_reducible exact trivial) | (with_reducible rfl) | (refine And.intro ?_ ?_) | (refine Need.mk ?_) | exact True.intro | (first | (refine ⟨_, Told.refl _, ?_, ?_⟩) | (refine ⟨⟨_, _⟩, Told.refl _, ?_, ?_⟩) | (refine ⟨⟨_, _, _⟩, Told.refl _, ?_, ?_⟩) | (refine ⟨⟨_, _, _, _⟩, Told.refl _, ?_, ?_⟩) | (refine ⟨⟨_, _, _, _, _⟩, Told.refl _, ?_, ?_⟩) | (refine ⟨(), Told.refl _, ?_, ?_⟩)) | (with_reducible intro _) | (refine fun (_ : Bool) => ?_)))
  exact ht
structure Sg where
  p : Pc
  kind : Int
  cid : Int
  u : List Int
  has : Bool
instance : Inhabited Sg := ⟨⟨default, 0, 0, [], false⟩⟩
def cG (s : Sg) : List AV := [.int .i64 s.p.at_, .int .i64 s.p.n, .sb s.p.full, .int .i64 s.p.cn, .int .i64 s.p.cv, .int .i64 s.kind, .int .i64 s.cid, aI s.u, .sb s.has]
theorem cG_emb : Emb cG 9 := fun x => ⟨rfl, ⟨⟨rfl⟩, ⟨rfl⟩, ⟨rfl⟩, ⟨rfl⟩, ⟨rfl⟩, ⟨rfl⟩, ⟨rfl⟩, ⟨⟨rfl⟩, els_of ci_emb (n := 0) (fun _ _ => rfl)⟩, ⟨rfl⟩, trivial⟩, rfl⟩
abbrev aG (l : List Sg) : AV := aL cG 9 l
def sgOf (t : Tbl) (p : Pc) : Sg := if p.full = true then ⟨p, (numT t p.cn p.cv).2, (numT t p.cn p.cv).1, (EB.find t.bfs p.cn p.cv).getD [], (EB.find t.bfs p.cn p.cv).isSome⟩ else ⟨p, 0, 0, [], false⟩
def sgs (t : Tbl) (s : List Int) : List Sg := (allAt t.spaces s 0).map (sgOf t)
def smallT (t : Tbl) : Prop := t.spaces.length < 1000000000 ∧ t.cids.length < 1000000000 ∧ t.nots.length < 1000000000 ∧ t.bfs.length < 1000000000
def SLook : Sp := ⟨Tbl × List Int, fun (t, s) => smallT t ∧ s.length < 1000000000 ∧ B8 s, fun (t, s) => [.agg (cT t), a8 s], fun (t, s) => .row 42 9 (sgs t s).length (els cG (sgs t s))⟩
theorem getP {l : List Pc} {i : Nat} (h : i < l.length) : l.getD i default = l[i] := by simp [List.getD, h]
theorem map_next {t : Tbl} {L : List Pc} {k : Nat} (hk : k < L.length) : (L.take (k + 1)).map (sgOf t) = (L.take k).map (sgOf t) ++ [sgOf t (L.getD k default)] := by
  rw [List.take_succ_eq_append_getElem hk, List.map_append, getP hk]
  rfl
set_option maxHeartbeats 16000000 in
theorem look : SpOK Tryd.prog 6 SLook := fun ⟨t, s⟩ ⟨ht, hs, h8⟩ => by
  have hC : COK Tryd.prog (cfg [(8, SAll), (13, SNum), (14, SUniL)]) := Ty.ty.cfg ⟨all, num, uniL, trivial⟩
  obtain ⟨t1, t2, t3, t4⟩ := ht
  have hlen := allAt_len (l := t.spaces) (s := s) (s.length - 0) 0 rfl
  have t4' : t.bfs.length < 4611686018427387904 := by omega
  obtain ⟨L, hL⟩ : ∃ L, L = allAt t.spaces s 0 := ⟨_, rfl⟩
  rw [← hL] at hlen
  ((refine Fn.ofF hC Tryd.func6 Tryd.ntmps6 rfl rfl rfl ?_); (repeat' first | (with_reducible exact trivial) | (with_reducible rfl) | (refine And.intro ?_ ?_) | (refine Need.mk ?_) | exact True.intro | (first | (refine ⟨_, Told.refl _, ?_, ?_⟩) | (refine ⟨⟨_, _⟩, Told.refl _, ?_, ?_⟩) | (refine ⟨⟨_, _, _⟩, Told.refl _, ?_, ?_⟩) | (refine ⟨⟨_, _, _, _⟩, Told.refl _, ?_, ?_⟩) | (refine ⟨⟨_, _, _, _, _⟩, Told.refl _, ?_, ?_⟩) | (refine ⟨(), Told.refl _, ?_, ?_⟩)) | (with_reducible intro _) | (refine fun (_ : Bool) => ?_)))
  any_goals first | exact t1 | exact hs | exact h8
  refine AW.loop (I := fun k : Nat => ⟨46, [(2, .ptr 0 0), (5, .own 2), (12, .own 1), (13, .int .i64 L.length), (14, .int .i64 k)], [.box 32 (cT t), .row 39 5 L.length (els cP L), .row 42 9 ((L.take k).map (sgOf t)).length (els cG ((L.take k).map (sgOf t)))]⟩) (fun k => k ≤ L.length) (fun k => L.length - k) 0 (Nat.zero_le _) ?_ ?_
  · clear hlen
    subst hL
    (repeat' first | (with_reducible exact trivial) | (with_reducible rfl) | (refine And.intro ?_ ?_) | (refine Need.mk ?_) | exact True.intro | (first | (refine ⟨_, Told.refl _, ?_, ?_⟩) | (refine ⟨⟨_, _⟩, Told.refl _, ?_, ?_⟩) | (refine ⟨⟨_, _, _⟩, Told.refl _, ?_, ?_⟩) | (refine ⟨⟨_, _, _, _⟩, Told.refl _, ?_, ?_⟩) | (refine ⟨⟨_, _, _, _, _⟩, Told.refl _, ?_, ?_⟩) | (refine ⟨(), Told.refl _, ?_, ?_⟩)) | (with_reducible intro _) | (refine fun (_ : Bool) => ?_))
    all_goals first | rfl
  · intro k hk
    rcases Nat.lt_or_ge k L.length with hlt | hge
    · have hd : decide ((k : Int) < (L.length : Int)) = true := decide_eq_true (by omega)
      have hw := iw (n := (k : Int) + 1) (by omega) (by omega)
      have hnx := map_next (t := t) hlt
      have hml : ((L.take k).map (sgOf t)).length ≤ L.length := by rw [List.length_map, List.length_take]; omega
      ((refine AW.byF ‹_› ?_); (repeat' first | (with_reducible exact trivial) | (with_reducible rfl) | (refine And.intro ?_ ?_) | (refine Need.mk ?_) | exact True.intro | (first | (refine ⟨_, Told.refl _, ?_, ?_⟩) | (refine ⟨⟨_, _⟩, Told.refl _, ?_, ?_⟩) | (refine ⟨⟨_, _, _⟩, Told.refl _, ?_, ?_⟩) | (refine ⟨⟨_, _, _, _⟩, Told.refl _, ?_, ?_⟩) | (refine ⟨⟨_, _, _, _, _⟩, Told.refl _, ?_, ?_⟩) | (refine ⟨(), Told.refl _, ?_, ?_⟩)) | (with_reducible intro _) | (refine fun (_ : Bool) => ?_)))
      all_goals first | (exact absurd ‹decide ((k : Int) < (L.length : Int)) = false› (by rw [hd]; decide)) | skip
      any_goals (refine Exists.intro (k + 1) (And.intro ?_ (And.intro ?_ ?_)); all_goals (repeat' first | (with_reducible exact trivial) | (with_reducible rfl) | (refine And.intro ?_ ?_) | (refine Need.mk ?_) | exact True.intro | (first | (refine ⟨_, Told.refl _, ?_, ?_⟩) | (refine ⟨⟨_, _⟩, Told.refl _, ?_, ?_⟩) | (refine ⟨⟨_, _, _⟩, Told.refl _, ?_, ?_⟩) | (refine ⟨⟨_, _, _, _⟩, Told.refl _, ?_, ?_⟩) | (refine ⟨⟨_, _, _, _, _⟩, Told.refl _, ?_, ?_⟩) | (refine ⟨(), Told.refl _, ?_, ?_⟩)) | (with_reducible intro _) | (refine fun (_ : Bool) => ?_)))
      all_goals try simp only [Int.toNat_natCast] at *
      all_goals first
        | omega
        | exact t4'
        | (show (((L.take k).map (sgOf t)).length + 1) * 88 ≤ _; omega)
        | (rw [hw]; rfl)
        | (rw [hnx, List.length_append]; rfl)
        | (have q := ‹(L.getD k default).full = true›
           have hp : sgOf t (L.getD k default) = ⟨L.getD k default, (numT t (L.getD k default).cn (L.getD k default).cv).2, (numT t (L.getD k default).cn (L.getD k default).cv).1, (EB.find t.bfs (L.getD k default).cn (L.getD k default).cv).getD [], (EB.find t.bfs (L.getD k default).cn (L.getD k default).cv).isSome⟩ := if_pos q
           rename_i z hz
           rw [hnx, hp] at hz ⊢
           refine snoc_sub cG_emb rfl ?_ z hz
           refine ⟨⟨rfl⟩, ⟨rfl⟩, ⟨rfl⟩, ⟨rfl⟩, ⟨rfl⟩, ⟨rfl⟩, ⟨rfl⟩, ?_, ⟨rfl⟩, trivial⟩
           exact ⟨⟨rfl⟩, els_of ci_emb (n := 0) (fun _ _ => rfl)⟩)
        | (have q := ‹(L.getD k default).full = false›
           have hp : sgOf t (L.getD k default) = ⟨L.getD k default, 0, 0, [], false⟩ := if_neg (by rw [q]; decide)
           rename_i z hz
           rw [hnx, hp] at hz ⊢
           refine snoc_sub cG_emb rfl ?_ z hz
           exact ⟨⟨rfl⟩, ⟨rfl⟩, ⟨rfl⟩, ⟨rfl⟩, ⟨rfl⟩, ⟨rfl⟩, ⟨rfl⟩, ⟨rfl⟩, ⟨rfl⟩, trivial⟩)

    · obtain rfl : k = L.length := by omega
      have hd : decide ((L.length : Int) < (L.length : Int)) = false := decide_eq_false (by omega)
      have hr : (L.take L.length).map (sgOf t) = sgs t s := by rw [List.take_length, hL]; rfl
      ((refine AW.byF ‹_› ?_); (repeat' first | (with_reducible exact trivial) | (with_reducible rfl) | (refine And.intro ?_ ?_) | (refine Need.mk ?_) | exact True.intro | (first | (refine ⟨_, Told.refl _, ?_, ?_⟩) | (refine ⟨⟨_, _⟩, Told.refl _, ?_, ?_⟩) | (refine ⟨⟨_, _, _⟩, Told.refl _, ?_, ?_⟩) | (refine ⟨⟨_, _, _, _⟩, Told.refl _, ?_, ?_⟩) | (refine ⟨⟨_, _, _, _, _⟩, Told.refl _, ?_, ?_⟩) | (refine ⟨(), Told.refl _, ?_, ?_⟩)) | (with_reducible intro _) | (refine fun (_ : Bool) => ?_)))
      all_goals first | (exact absurd ‹decide ((L.length : Int) < (L.length : Int)) = true› (by rw [hd]; decide)) | skip
      all_goals rw [hr]
end Go.Abs.Lk
set_option maxRecDepth 100000
namespace Go.Abs.Lk
open Go.RowKit Go.Proofs Go.Abs.Tab Go.Abs.Dest Go.Abs.Span Go.Abs.Coll Go.Abs.Hx Go.Abs.Mt Go.Abs.Utf Go.Abs.Txt
attribute [local go_sem] Oper.semAt_some
theorem decC {u : List Int} {v : Value} {S : Nat → Prop} {w : World} (hu : u.length ≤ 1000000000) (hS : ∀ b, S b → b < w.heap.size) (h : RV0 w S (aI u) v) : Calls Tryd.prog 18 #[v] w fun e w' => ∃ x S2, e = .returned x ∧ RV0 w' S2 (aI (decU u)) x ∧ (∀ b, S2 b → b < w'.heap.size) ∧ Below w.heap.size w w' := by
  refine ((dec16 u hu).2 w S [v] hS ⟨rfl, fun i a x h1 h2 => ?_⟩).mono ?_
  · match i, h1, h2 with
    | 0, h1, h2 =>
      obtain rfl := Option.some.inj h1
      obtain rfl := Option.some.inj h2
      exact h
  · rintro e w' ⟨x, S', rfl, hr, _, hs', hb⟩
    refine ⟨x, fun b => S' b ∨ x.ownBlock = some b, rfl, row_sl (ρ := []) hr (fun b q => .inl q) (fun b q => .inr q), fun b q => ?_, hb⟩
    rcases q with q | q
    · exact (hs' b q).1
    · obtain ⟨⟨inner, hown, _⟩, _⟩ := hr
      rcases hown.2 with ⟨rfl, _⟩ | ⟨g, cap, cur, rfl, hbg, hg, _⟩
      · cases q
      · simp [Value.ownBlock] at q
        subst q
        exact (Array.getElem?_eq_some_iff.1 hg).1
theorem txtC {u : List Int} {v : Value} {S : Nat → Prop} {w : World} (hu : u.length < 4398046511104) (hS : ∀ b, S b → b < w.heap.size) (h : RV0 w S (aI u) v) : Calls Tryd.prog 20 #[v] w fun e w' => e = .returned (.string (encB u)) ∧ Below w.heap.size w w' := by
  refine ((text u hu).2 w S [v] hS ⟨rfl, fun i a x h1 h2 => ?_⟩).mono ?_
  · match i, h1, h2 with
    | 0, h1, h2 =>
      obtain rfl := Option.some.inj h1
      obtain rfl := Option.some.inj h2
      exact h
  · rintro e w' ⟨x, S', rfl, hr, _, _, hb⟩
    cases hr
    exact ⟨rfl, hb⟩
def oneS (rp : Int) (s : Sg) : List Int := if s.has = true then decU s.u else [rp]
def encS (rp : Int) (l : List Sg) : List UInt8 := l.flatMap fun s => enc (oneS rp s)
def txtS (rp : Int) (l : List Sg) : ByteArray := ⟨(encS rp l).toArray⟩
theorem encS_len (rp : Int) : ∀ (l : List Sg), (∀ s ∈ l, s.u.length ≤ 1000000) → (encS rp l).length ≤ 4000004 * l.length
  | [], _ => by simp [encS]
  | s :: l, h => by
    have ih := encS_len rp l (fun x hx => h x (List.mem_cons_of_mem _ hx))
    have h1 := enc_len (oneS rp s)
    have h2 : (oneS rp s).length ≤ 1000001 := by
      unfold oneS
      have := decU_len s.u
      have := h s List.mem_cons_self
      split
      · omega
      · simp
    unfold encS at ih ⊢
    rw [List.flatMap_cons, List.length_append, List.length_cons]
    omega
theorem sgCells {w : World} {S : Nat → Prop} {l : List Sg} {v : Value} (h : RV0 w S (aG l) v) : ∃ A c, v = .slice A l.length c ∧ l.length ≤ c ∧ ∀ i, i < l.length → ∃ ad uv, A = some ad ∧ S ad.block ∧ RV0 w S (aI (l.getD i default).u) uv ∧ ∀ j x, ([.int .i64 (l.getD i default).p.at_, .int .i64 (l.getD i default).p.n, .bool (l.getD i default).p.full, .int .i64 (l.getD i default).p.cn, .int .i64 (l.getD i default).p.cv, .int .i64 (l.getD i default).kind, .int .i64 (l.getD i default).cid, uv, .bool (l.getD i default).has] : List Value)[j]? = some x → w.cell? (ad.add (i * 9 + j)) = some x := by
  generalize ha : aG l = a at h
  cases h with
  | sl sz n el A cap g hcap hmax hl hm hr =>
    unfold aG at ha
    injection ha with h1 h2 h3
    subst h1 h2 h3
    refine ⟨A, cap, rfl, hcap, fun i hi => ?_⟩
    obtain ⟨ad, e1, e2, _⟩ := hm i 0 hi (by omega)
    have hc : ∀ j, j < 9 → w.cell? (ad.add (i * 9 + j)) = some (g i j) := fun j hj => by
      obtain ⟨ad', q1, _, q3⟩ := hm i j hi hj
      rw [e1] at q1
      cases q1
      exact q3
    have r0 := hr i 0 _ hi rfl
    have r1 := hr i 1 _ hi rfl
    have r2 := hr i 2 _ hi rfl
    have r3 := hr i 3 _ hi rfl
    have r4 := hr i 4 _ hi rfl
    have r5 := hr i 5 _ hi rfl
    have r6 := hr i 6 _ hi rfl
    have r7 := hr i 7 _ hi rfl
    have r8 := hr i 8 _ hi rfl
    refine ⟨ad, g i 7, e1, e2, r7, fun j x hx => ?_⟩
    have hj : j < 9 := (List.getElem?_eq_some_iff.1 hx).1
    rw [hc j hj]
    have hj' : j = 0 ∨ j = 1 ∨ j = 2 ∨ j = 3 ∨ j = 4 ∨ j = 5 ∨ j = 6 ∨ j = 7 ∨ j = 8 := by omega
    clear hm hc hr
    rcases hj' with rfl | rfl | rfl | rfl | rfl | rfl | rfl | rfl | rfl
    all_goals obtain rfl := Option.some.inj hx
    · generalize g i 0 = y at r0; cases r0; rfl
    · generalize g i 1 = y at r1; cases r1; rfl
    · generalize g i 2 = y at r2; cases r2; rfl
    · generalize g i 3 = y at r3; cases r3; rfl
    · generalize g i 4 = y at r4; cases r4; rfl
    · generalize g i 5 = y at r5; cases r5; rfl
    · generalize g i 6 = y at r6; cases r6; rfl
    · rfl
    · generalize g i 8 = y at r8; cases r8; rfl
  | _ => exact absurd ha (by unfold aG; intro h; cases h)
theorem intRow1 {w : World} {b : Nat} {c : Nat} {x : Int} (hc : 1 ≤ c) (hm : c ≤ maxLen) (h : w.cell? ⟨b, 0, none⟩ = some (.int .i64 x)) : RV0 w (fun k => k = b) (aI [x]) (.slice (some ⟨b, 0, none⟩) 1 c) := by
  refine .sl 1 1 _ _ c (fun _ _ => .int .i64 x) hc hm (fun i hi => ⟨rfl, rfl⟩) (fun i j hi hj => ?_) (fun i j a hi h1 => ?_)
  · obtain rfl : i = 0 := by omega
    obtain rfl : j = 0 := by omega
    exact ⟨_, rfl, rfl, h⟩
  · obtain rfl : i = 0 := by omega
    cases j with
    | zero =>
      obtain rfl := Option.some.inj h1
      exact .int _ _
    | succ j => simp [els, ci] at h1
theorem b_alloc {B : Nat} {a w : World} (h : Below B a w) (hB : B ≤ a.heap.size) (o : Obj) : Below B a (w.alloc o) := h.alloc (Nat.le_trans hB h.size) o
theorem enc_one (rp : Int) (s : Sg) (h : s.u.length ≤ 1000000) : (encB (oneS rp s)).size ≤ 4000004 := by
  have h1 := enc_len (oneS rp s)
  have h2 : (oneS rp s).length ≤ 1000001 := by
    unfold oneS
    have := decU_len s.u
    split
    · omega
    · simp
  show (enc (oneS rp s)).toArray.size ≤ _
  rw [List.size_toArray]
  omega
theorem strCells_enc (l : List Int) : Lib.strCells (encB l) = Lib.byteCells (enc l) := rfl
theorem txtNew (rp : Int) (wr : World) (o1 : Obj) : Calls Tryd.prog 20 #[.slice (some ⟨wr.heap.size + 1, 0, none⟩) 1 1] ((wr.alloc o1).alloc (.cells #[.int .i64 rp] 3)) fun e w' => e = .returned (.string (encB [rp])) ∧ Below ((wr.alloc o1).alloc (.cells #[.int .i64 rp] 3)).heap.size ((wr.alloc o1).alloc (.cells #[.int .i64 rp] 3)) w' := by
  have hsz : (wr.alloc o1).heap.size = wr.heap.size + 1 := Array.size_push ..
  have hsz2 : ((wr.alloc o1).alloc (.cells #[.int .i64 rp] 3)).heap.size = wr.heap.size + 2 := (Array.size_push ..).trans (congrArg (· + 1) hsz)
  have hnew := heap_alloc_new (wr.alloc o1) (.cells #[.int .i64 rp] 3)
  rw [hsz] at hnew
  refine txtC (u := [rp]) (S := fun k => k = wr.heap.size + 1) (by show 1 < 4398046511104; omega) (fun b q => by rw [hsz2]; omega) (intRow1 (Nat.le_refl _) (by decide) ?_)
  unfold World.cell?
  rw [hnew]
  rfl
set_option maxHeartbeats 8000000 in
theorem lookTextC (A0 : Option Addr) (c0 : Nat) (rp : Int) (l0 : List Sg) (S : Nat → Prop) (w : World) (hS : ∀ b, S b → b < w.heap.size) (hv : RV0 w S (aG l0) (.slice A0 l0.length c0)) (hl : l0.length ≤ 1000000) (hu : ∀ s ∈ l0, s.u.length ≤ 1000000) :
    Calls Tryd.prog 10 #[.slice A0 l0.length c0, .int .i64 rp] w fun e w' => e = .returned (.string (txtS rp l0)) ∧ Below w.heap.size w w' := by
  obtain ⟨A1, c1, e, hc, hcell⟩ := sgCells hv
  injection e with e1 e2 e3
  subst e1 e3
  have HL := Aside0.mk hl
  have HC := Aside0.mk hcell
  have HU := Aside0.mk hu
  have HS := Aside0.mk hS
  clear hl hcell hc hu hS hv
  go_enter Tryd.func10, Tryd.ntmps10
  go_wp2
  go_loopg [11] (l0.length + 1) (fun kq v8 w' => ∃ (i : Nat), v8 = .int .i64 (i : Nat) ∧ Aside0 (i ≤ l0.length ∧ l0.length + 1 ≤ kq + i) ∧ Aside0 (Lib.IsBuilderF 64 5 w.heap.size w.heap.size (Lib.byteCells (encS rp (l0.take i))) w') ∧ Aside0 (Below w.heap.size w w'))
  case atStart => exact ⟨0, rfl, ⟨by omega⟩, ⟨Lib.IsBuilderF.of (Lib.fresh_isBuilder 64 5 w)⟩, ⟨(Below.refl _ w).alloc (Nat.le_refl _) _⟩⟩
  case round =>
    obtain ⟨i, rfl, HI, HO, HB⟩ := hrel
    cases gk with
    | zero => have := HI.out; omega
    | succ k1 =>
      by_cases hi : i < l0.length
      · obtain ⟨ad, uv, ead, hsb, hru, hcl⟩ := HC.out i hi
        subst ead
        have hw : ∀ p : Addr, p.block = ad.block → wr.cell? p = w.cell? p := fun p hp => World.cell?_of_block (by rw [hp]; exact HB.out.block _ (HS.out _ hsb))
        obtain ⟨sg, hsg⟩ : ∃ sg, sg = l0.getD i default := ⟨_, rfl⟩
        rw [← hsg] at hru hcl
        have hab : ∀ n, (ad.add n).block = ad.block := fun n => by unfold Addr.add; split <;> rfl
        have hao : (ad.add (i * 9)).off = ad.off + i * 9 := by unfold Addr.add; split <;> first | rfl | (rename_i h; omega)
        have hadd : ∀ j, 0 < j → (⟨(ad.add (i * 9)).block, (ad.add (i * 9)).off + j, none⟩ : Addr) = ad.add (i * 9 + j) := fun j hj => by
          rw [hab, hao]
          unfold Addr.add
          rw [if_neg (by omega), Nat.add_assoc]
        have hx0 : wr.cell? (ad.add (i * 9)) = some (.int .i64 sg.p.at_) := (hw _ (hab _)).trans (hcl 0 _ rfl)
        have hx1 : wr.cell? ⟨(ad.add (i * 9)).block, (ad.add (i * 9)).off + 1, none⟩ = some (.int .i64 sg.p.n) := by rw [hadd 1 (by omega)]; exact (hw _ (hab _)).trans (hcl 1 _ rfl)
        have hx2 : wr.cell? ⟨(ad.add (i * 9)).block, (ad.add (i * 9)).off + 2, none⟩ = some (.bool sg.p.full) := by rw [hadd 2 (by omega)]; exact (hw _ (hab _)).trans (hcl 2 _ rfl)
        have hx3 : wr.cell? ⟨(ad.add (i * 9)).block, (ad.add (i * 9)).off + 3, none⟩ = some (.int .i64 sg.p.cn) := by rw [hadd 3 (by omega)]; exact (hw _ (hab _)).trans (hcl 3 _ rfl)
        have hx4 : wr.cell? ⟨(ad.add (i * 9)).block, (ad.add (i * 9)).off + 4, none⟩ = some (.int .i64 sg.p.cv) := by rw [hadd 4 (by omega)]; exact (hw _ (hab _)).trans (hcl 4 _ rfl)
        have hx5 : wr.cell? ⟨(ad.add (i * 9)).block, (ad.add (i * 9)).off + 5, none⟩ = some (.int .i64 sg.kind) := by rw [hadd 5 (by omega)]; exact (hw _ (hab _)).trans (hcl 5 _ rfl)
        have hx6 : wr.cell? ⟨(ad.add (i * 9)).block, (ad.add (i * 9)).off + 6, none⟩ = some (.int .i64 sg.cid) := by rw [hadd 6 (by omega)]; exact (hw _ (hab _)).trans (hcl 6 _ rfl)
        have hx7 : wr.cell? ⟨(ad.add (i * 9)).block, (ad.add (i * 9)).off + 7, none⟩ = some uv := by rw [hadd 7 (by omega)]; exact (hw _ (hab _)).trans (hcl 7 _ rfl)
        have hx8 : wr.cell? ⟨(ad.add (i * 9)).block, (ad.add (i * 9)).off + 8, none⟩ = some (.bool sg.has) := by rw [hadd 8 (by omega)]; exact (hw _ (hab _)).trans (hcl 8 _ rfl)
        have htk : encS rp (l0.take (i + 1)) = encS rp (l0.take i) ++ enc (oneS rp sg) := by
          rw [List.take_succ_eq_append_getElem hi, hsg]
          unfold encS
          rw [List.flatMap_append]
          simp [List.getD, hi]
        have hsu : sg.u.length ≤ 1000000 := by
          rw [hsg]
          have : l0.getD i default = l0[i] := by simp [List.getD, hi]
          rw [this]
          exact HU.out _ (List.getElem_mem hi)
        obtain ⟨Au, cu, rfl, _⟩ := intCells hru
        have p0 : (0 ≤ (i : Int)) = True := eq_true (by omega)
        have p1 : ((i : Int) < (l0.length : Int)) = True := eq_true (by omega)
        have HTK := Aside0.mk htk
        have HLi := Aside0.mk hi
        have HSU := Aside0.mk hsu
        have HRU := Aside0.mk hru
        clear htk hsu hsg hcl hru hw hadd hab hao hsb
        have hln := encS_len rp (l0.take i) (fun x hx => HU.out x (List.mem_of_mem_take hx))
        rw [List.length_take] at hln
        have HLN := Aside0.mk (show (encS rp (l0.take i)).length ≤ 4000004 * i by omega)
        have HEN := Aside0.mk (enc_one rp sg HSU.out)
        clear hln
        have HBA := Aside0.mk (show ∀ o1 o2, Below w.heap.size w ((wr.alloc o1).alloc o2) from fun o1 o2 => b_alloc (b_alloc HB.out (Nat.le_refl _) o1) (Nat.le_refl _) o2)
        have HOA := Aside0.mk (show ∀ o1 o2, Lib.IsBuilderF 64 5 w.heap.size w.heap.size (Lib.byteCells (encS rp (l0.take i))) ((wr.alloc o1).alloc o2) from fun o1 o2 => (HO.out.alloc o1).alloc o2)
        cases hb : sg.has with
        | true =>
          rw [hb] at hx8
          have ho1 : oneS rp sg = decU sg.u := if_pos hb
          have HO1 := Aside0.mk ho1
          clear ho1
          go_wp2_with (first | (go_at_call 18; refine (decC (u := sg.u) (S := S) (by have := HSU.out; omega) (fun b q => Nat.lt_of_lt_of_le (HS.out b q) (HBA.out _ _).size) (HRU.out.mono (fun _ q => q) (fun b q => (HBA.out _ _).block b (HS.out b q)))).mono ?_; rintro e w1 ⟨x, S2, rfl, hx, hs2, hb1⟩; have HX := Aside0.mk hx; have HS2 := Aside0.mk hs2; have HB1 := Aside0.mk hb1; clear hx hs2 hb1) | (go_at_call 20; refine (txtC (u := decU sg.u) (S := S2) (by have := HSU.out; have := decU_len sg.u; omega) HS2.out HX.out).mono ?_; rw [← HO1.out]; rintro e w2 ⟨rfl, hb2⟩; have HB2 := Aside0.mk hb2; have HBM := Aside0.mk ((HBA.out _ _).trans (HB1.out.mono (HBA.out _ _).size)); have HBN := Aside0.mk (HBM.out.trans (HB2.out.mono HBM.out.size)); have HOB := Aside0.mk (isB_below (isB_below (HOA.out _ _) HB1.out) HB2.out); clear hb2) | (go_at_call 19; refine (Tryd.Builder_WriteString_k w.heap.size w.heap.size (Lib.byteCells (encS rp (l0.take i))) (encB (oneS rp sg)) _ HOB.out (by rw [Lib.byteCells_length]; have := HL.out; have := HLN.out; have := HEN.out; omega) HBN.out.size).mono ?_; rintro e W1 ⟨rfl, h1, b1, _⟩))
          go_roundg k1
          case measure => have := HI.out; omega
          case rel => exact ⟨i + 1, (by first | rfl | (have := HL.out; have := HLi.out; congr 1; unfold wrap64; omega) | (have := HL.out; have := HLi.out; simp [wrap64]; omega)), ⟨by have := HI.out; omega⟩, ⟨by rw [HTK.out, Lib.byteCells_append, ← strCells_enc]; exact Or.inr h1⟩, ⟨HBN.out.trans b1⟩⟩
        | false =>
          rw [hb] at hx8
          have ho1 : oneS rp sg = [rp] := if_neg (by rw [hb]; decide)
          have HO1 := Aside0.mk ho1
          clear ho1
          go_wp2_with (first | (go_at_call 20; refine (txtNew rp wr _).mono ?_; rw [← HO1.out]; rintro e w2 ⟨rfl, hb2⟩; have HB2 := Aside0.mk hb2; have HBN := Aside0.mk ((HBA.out _ _).trans (HB2.out.mono (HBA.out _ _).size)); have HOB := Aside0.mk (isB_below (HOA.out _ _) HB2.out); clear hb2) | (go_at_call 19; refine (Tryd.Builder_WriteString_k w.heap.size w.heap.size (Lib.byteCells (encS rp (l0.take i))) (encB (oneS rp sg)) _ HOB.out (by rw [Lib.byteCells_length]; have := HL.out; have := HLN.out; have := HEN.out; omega) HBN.out.size).mono ?_; rintro e W1 ⟨rfl, h1, b1, _⟩))
          go_roundg k1
          case measure => have := HI.out; omega
          case rel => exact ⟨i + 1, (by first | rfl | (have := HL.out; have := HLi.out; congr 1; unfold wrap64; omega) | (have := HL.out; have := HLi.out; simp [wrap64]; omega)), ⟨by have := HI.out; omega⟩, ⟨by rw [HTK.out, Lib.byteCells_append, ← strCells_enc]; exact Or.inr h1⟩, ⟨HBN.out.trans b1⟩⟩
      · obtain rfl : i = l0.length := by have := HI.out; omega
        have ho := HO.out
        rw [List.take_length] at ho
        clear HO
        have HO := Aside0.mk ho
        clear ho
        go_wp2_with (go_at_call 21; refine (Tryd.Builder_String_any_k w.heap.size w.heap.size (encS rp l0) _ HO.out (HB.out.size)).mono ?_; rintro e W1 ⟨rfl, _, b1, _⟩)
        go_ret
        exact ⟨rfl, HB.out.trans b1⟩
def STxtS : Sp := ⟨List Sg × Int, fun (l, rp) => l.length ≤ 1000000 ∧ ∀ s ∈ l, s.u.length ≤ 1000000, fun (l, rp) => [aG l, .int .i64 rp], fun (l, rp) => .st (.str (txtS rp l))⟩
theorem lookText : SpOK Tryd.prog 10 STxtS := fun ⟨l, rp⟩ ⟨hl, hu⟩ => by
  refine ⟨⟨_, Tryd.func10, rfl, rfl⟩, fun w S vs hS hv => ?_⟩
  obtain ⟨hl1, hv2⟩ := hv
  match vs, hl1, hv2 with
  | [v, u], hl1, hv2 =>
    have h0 := hv2 0 _ _ rfl rfl
    have h1 := hv2 1 _ _ rfl rfl
    cases h1
    obtain ⟨A, c, rfl, _, _⟩ := sgCells h0
    refine (lookTextC A c rp l S w hS h0 hl hu).mono ?_
    rintro e w' ⟨rfl, hb⟩
    exact ⟨_, S, rfl, .str _, fun _ q => q, fun b q => ⟨Nat.lt_of_lt_of_le (hS b q) hb.size, .inl q⟩, hb⟩
end Go.Abs.Lk
set_option maxRecDepth 100000
namespace Go.Abs.Lk
open Go.RowKit Go.Proofs Go.Abs.Tab Go.Abs.Dest Go.Abs.Span Go.Abs.Coll Go.Abs.Hx Go.Abs.Mt Go.Abs.Utf Go.Abs.Txt
theorem aL_refl {α : Type} [Inhabited α] {f : α → List AV} {sz : Nat} (hf : Emb f sz) (l : List α) : sub0 (aL f sz l) (aL f sz l) := by
  show cond (Nat.beq sz sz) _ False
  rw [Nat.beq_refl]
  exact ⟨⟨rfl⟩, els_of hf (n := 0) (fun _ _ => rfl)⟩
theorem aL_lit {α : Type} [Inhabited α] {f : α → List AV} {sz : Nat} (hf : Emb f sz) (l : List α) : sub0 (aL f sz l) (.sl sz l.length (elt (l.map f))) := (lit_sub hf l).1
set_option maxHeartbeats 4000000 in
theorem table12 : SpOK Tryd.prog 7 STab := fun (t : Tbl) _ => by
  have hC := base
  ((refine Fn.ofF hC Tryd.func7 Tryd.ntmps7 rfl rfl rfl ?_); (repeat' first | (with_reducible exact trivial) | (with_reducible rfl) | (refine And.intro ?_ ?_) | (refine Need.mk ?_) | exact True.intro | (first | (refine ⟨_, Told.refl _, ?_, ?_⟩) | (refine ⟨⟨_, _⟩, Told.refl _, ?_, ?_⟩) | (refine ⟨⟨_, _, _⟩, Told.refl _, ?_, ?_⟩) | (refine ⟨⟨_, _, _, _⟩, Told.refl _, ?_, ?_⟩) | (refine ⟨⟨_, _, _, _, _⟩, Told.refl _, ?_, ?_⟩) | (refine ⟨(), Told.refl _, ?_, ?_⟩)) | (with_reducible intro _) | (refine fun (_ : Bool) => ?_)))
def SAwakeL : Sp := ⟨Unit, fun _ => True, fun _ => [], fun _ => .st (.lit true)⟩
def tL : Tbl := ⟨ByteArray.empty, 0, [⟨1, 0, 255⟩], [⟨1, 65, 66, 7⟩], [], [⟨1, 65, 65, [913]⟩]⟩
def SLookA (L : List Sg) : Sp := ⟨Unit, fun _ => True, fun _ => [.agg (cT tL), a8 [65, 66]], fun _ => .row 42 9 L.length (els cG L)⟩
set_option maxHeartbeats 16000000 in
theorem awake12 : SpOK Tryd.prog 4 SAwakeL := fun _ _ => by
  obtain ⟨L, hL⟩ : ∃ L, L = sgs tL [65, 66] := ⟨_, rfl⟩
  have hA : SpOK Tryd.prog 6 (SLookA L) := fun _ _ => by
    have := look (tL, [65, 66]) ⟨⟨by decide, by decide, by decide, by decide⟩, by decide, fun x hx => by
      simp only [List.mem_cons, List.not_mem_nil, or_false] at hx
      rcases hx with rfl | rfl <;> decide⟩
    rw [hL]
    exact this
  have hC : COK Tryd.prog (cfg [(6, SLookA L), (10, STxtS)]) := Ty.ty.cfg ⟨hA, lookText, trivial⟩
  have h0 : (sgs tL [65, 66]).length = 2 := by decide +kernel
  have h1 : ((sgs tL [65, 66]).getD 0 default).has = true := by decide +kernel
  have h2 : ((sgs tL [65, 66]).getD 0 default).cid = 7 := by decide +kernel
  have h3 : ((sgs tL [65, 66]).getD 0 default).kind = 1 := by decide +kernel
  have h4 : ((sgs tL [65, 66]).getD 1 default).has = false := by decide +kernel
  have h5 : ((sgs tL [65, 66]).getD 1 default).cid = 8 := by decide +kernel
  have h6 : (txtS 63 (sgs tL [65, 66]) == (⟨#[206, 145, 63]⟩ : ByteArray)) = true := by decide +kernel
  have h7 : ∀ s ∈ sgs tL [65, 66], s.u.length ≤ 1000000 := by decide +kernel
  rw [beq_toListBytes] at h6
  rw [← hL] at h0 h1 h2 h3 h4 h5 h6 h7
  ((refine Fn.ofF hC Tryd.func4 Tryd.ntmps4 rfl rfl rfl ?_); (repeat' first | (with_reducible exact trivial) | (with_reducible rfl) | (refine And.intro ?_ ?_) | (refine Need.mk ?_) | exact True.intro | (first | (refine ⟨_, Told.refl _, ?_, ?_⟩) | (refine ⟨⟨_, _⟩, Told.refl _, ?_, ?_⟩) | (refine ⟨⟨_, _, _⟩, Told.refl _, ?_, ?_⟩) | (refine ⟨⟨_, _, _, _⟩, Told.refl _, ?_, ?_⟩) | (refine ⟨⟨_, _, _, _, _⟩, Told.refl _, ?_, ?_⟩) | (refine ⟨(), Told.refl _, ?_, ?_⟩)) | (with_reducible intro _) | (refine fun (_ : Bool) => ?_)))
  refine Exists.intro () (And.intro (Told.of ?_) (And.intro ?_ ?_))
  · refine ⟨⟨⟨rfl⟩, ⟨rfl⟩, aL_lit cR_emb [⟨1, 0, 255⟩], aL_lit cSp_emb [⟨1, 65, 66, 7⟩], ⟨rfl⟩, ⟨⟨rfl⟩, fun i hi => ?_⟩, trivial⟩, aL_lit c8_emb [65, 66], trivial⟩
    have hi : i < 1 := hi
    obtain rfl : i = 0 := by omega
    exact ⟨⟨rfl⟩, ⟨rfl⟩, ⟨rfl⟩, aL_lit ci_emb [913], trivial⟩
  · trivial
  (repeat' first | (with_reducible exact trivial) | (with_reducible rfl) | (refine And.intro ?_ ?_) | (refine Need.mk ?_) | exact True.intro | (first | (refine ⟨_, Told.refl _, ?_, ?_⟩) | (refine ⟨⟨_, _⟩, Told.refl _, ?_, ?_⟩) | (refine ⟨⟨_, _, _⟩, Told.refl _, ?_, ?_⟩) | (refine ⟨⟨_, _, _, _⟩, Told.refl _, ?_, ?_⟩) | (refine ⟨⟨_, _, _, _, _⟩, Told.refl _, ?_, ?_⟩) | (refine ⟨(), Told.refl _, ?_, ?_⟩)) | (with_reducible intro _) | (refine fun (_ : Bool) => ?_))
  all_goals first
    | omega
    | exact h7 _ ‹_›
    | exact h6
    | (exact absurd ‹((L.length : Int) == 2) = false› (by rw [h0]; decide))
    | (exact absurd ‹(L.getD (Int.toNat 0) default).has = false› (by rw [show (L.getD (Int.toNat 0) default).has = true from h1]; decide))
    | (exact absurd ‹((L.getD (Int.toNat 0) default).cid == 7) = false› (by rw [show (L.getD (Int.toNat 0) default).cid = 7 from h2]; decide))
    | (exact absurd ‹((L.getD (Int.toNat 0) default).kind == 1) = false› (by rw [show (L.getD (Int.toNat 0) default).kind = 1 from h3]; decide))
    | (exact absurd ‹(!(L.getD (Int.toNat 1) default).has) = false› (by rw [show (L.getD (Int.toNat 1) default).has = false from h4]; decide))
    | (exact absurd ‹((L.getD (Int.toNat 1) default).cid == 8) = false› (by rw [show (L.getD (Int.toNat 1) default).cid = 8 from h5]; decide))
theorem findS_nil (st : Bool) (n v : Int) : (ES st).find [] n v = none := by
  unfold En.find
  split <;> rfl
def SKinds : Sp := ⟨Tbl × Int × Int, fun _ => True, fun (t, n, v) => [.agg (cT t), aCode n v], fun _ => .st (.lit true)⟩
end Go.Abs.Lk
set_option maxRecDepth 100000
namespace Go.Abs.Lk
open Go.RowKit Go.Proofs Go.Abs.Tab Go.Abs.Dest Go.Abs.Span Go.Abs.Coll Go.Abs.Hx Go.Abs.Mt Go.Abs.Utf Go.Abs.Txt
theorem getG {l : List Sg} {i : Nat} (h : i < l.length) : l.getD i default = l[i] := by simp [List.getD, h]
theorem find_short {l : List Bf} {n v : Int} {a : List Int} (h : EB.find l n v = some a) : a.length ≤ 64 := by
  have hc : EB.canon l = true := by
    unfold En.find at h
    split at h
    · assumption
    · cases h
  have htab := (EB.canon_iff l).1 hc
  rw [EB.find_tab htab] at h
  obtain ⟨b, hb, ⟨h1, h2, h3⟩, rfl⟩ := Tb.get_mem _ h
  have r := rngB (htab.1 b hb)
  show (fur b.to (v - b.lo)).length ≤ 64
  rw [fur_len]
  omega
theorem sg_short (t : Tbl) (s : List Int) : ∀ x ∈ sgs t s, x.u.length ≤ 64 := by
  intro x hx
  obtain ⟨p, _, rfl⟩ := List.mem_map.1 hx
  unfold sgOf
  split
  · show ((EB.find t.bfs p.cn p.cv).getD []).length ≤ 64
    cases h : EB.find t.bfs p.cn p.cv with
    | none => exact Nat.zero_le _
    | some a => exact find_short h
  · exact Nat.zero_le _
theorem sgs_len (t : Tbl) (s : List Int) : (sgs t s).length ≤ s.length := by
  unfold sgs
  rw [List.length_map]
  exact allAt_len _ 0 rfl
theorem few_small {t : Tbl} (h : (!fewT t) = false) : smallT t := by
  have := (fewT_iff t).1 (by simpa using h)
  exact ⟨by omega, by omega, by omega, by omega⟩
theorem sgs_mode (t : Tbl) (name : ByteArray) (mode : Int) (s : List Int) : sgs ⟨name, mode, t.spaces, t.cids, t.nots, t.bfs⟩ s = sgs t s := rfl
def SModes : Sp := ⟨Tbl × List Int × ByteArray × Int, fun (t, s, nm, md) => B8 s, fun (t, s, nm, md) => [.agg (cT t), a8 s, .str nm, .int .i64 md], fun _ => .st (.lit true)⟩
end Go.Abs.Lk
set_option maxRecDepth 100000
namespace Go.Abs.Rn
open Go.RowKit Go.Proofs Go.Abs.Utf Go.Abs.Txt
open Go.Lib (decodeL decodeL_width decodeL_N decodeN decodeN_ascii decodeN_cont decodeN_shape decodeL_drop encodeRune validD validD_step encode_decode)
def rnsG : Nat → List UInt8 → List Int
  | 0, _ => []
  | n + 1, l => if l = [] then [] else ((decodeL l).1 : Int) :: rnsG n (l.drop (decodeL l).2)
def rns (l : List UInt8) : List Int := rnsG l.length l
theorem rnsG_nil : ∀ n, rnsG n [] = []
  | 0 => rfl
  | _ + 1 => by simp [rnsG]
theorem rnsG_fuel : ∀ (n m : Nat) (l : List UInt8), l.length ≤ n → l.length ≤ m → rnsG n l = rnsG m l
  | 0, m, l, hn, _ => by
    have : l = [] := List.eq_nil_of_length_eq_zero (by omega)
    subst this
    rw [rnsG_nil, rnsG_nil]
  | n + 1, 0, l, _, hm => by
    have : l = [] := List.eq_nil_of_length_eq_zero (by omega)
    subst this
    rw [rnsG_nil, rnsG_nil]
  | n + 1, m + 1, l, hn, hm => by
    unfold rnsG
    by_cases hne : l = []
    · simp [hne]
    · have hw := decodeL_width l
      have hl : 0 < l.length := List.length_pos_iff.2 hne
      rw [if_neg hne, if_neg hne, rnsG_fuel n m (l.drop (decodeL l).2) (by rw [List.length_drop]; omega) (by rw [List.length_drop]; omega)]
theorem rns_nil : rns [] = [] := rfl
theorem rns_step (l : List UInt8) (hne : l ≠ []) : rns l = ((decodeL l).1 : Int) :: rns (l.drop (decodeL l).2) := by
  have hl : 0 < l.length := List.length_pos_iff.2 hne
  have hw := decodeL_width l
  obtain ⟨n, hn⟩ : ∃ n, l.length = n + 1 := ⟨l.length - 1, by omega⟩
  unfold rns
  rw [hn]
  show (if l = [] then [] else _) = _
  rw [if_neg hne, rnsG_fuel n (l.drop (decodeL l).2).length _ (by rw [List.length_drop]; omega) (Nat.le_refl _)]
theorem rns_enc : ∀ l : List Int, rns (enc l) = l.map gd
  | [] => rfl
  | x :: l => by
    have hg := gd_range x
    rw [rns_step _ (by rw [enc_cons]; intro h; exact enc_ne _ (List.append_eq_nil_iff.1 h).1), enc_cons, decode_encode _ (goodB_gd x)]
    simp only [List.drop_left, List.map_cons]
    rw [rns_enc l]
    congr 1
    omega
theorem go_is (s : ByteArray) : ∀ n pos, runesG s n pos = rnsG n (s.data.toList.drop pos)
  | 0, _ => rfl
  | n + 1, pos => by
    unfold runesG rnsG
    have hsz : s.data.toList.length = s.size := Array.length_toList
    by_cases h : pos < s.size
    · have hne : s.data.toList.drop pos ≠ [] := by
        intro e
        have := congrArg List.length e
        rw [List.length_drop, hsz] at this
        simp at this
        omega
      rw [if_pos h, if_neg hne, go_is s n, decodeL_drop, List.drop_drop]
    · rw [if_neg h, if_pos (List.drop_of_length_le (by omega))]
theorem runes_enc {b : ByteArray} {r : List Int} (h : b.data.toList = enc r) : (runes b).length = r.length := by
  have e : runes b = rns (enc r) := by
    unfold runes
    rw [go_is, List.drop_zero, h]
    unfold rns
    have hs : b.size = (enc r).length := by rw [← h]; exact Array.length_toList.symm
    rw [hs]
  rw [e, rns_enc, List.length_map]
end Go.Abs.Rn
namespace Go.Abs.Lk
open Go.RowKit Go.Proofs Go.Abs.Tab Go.Abs.Dest Go.Abs.Span Go.Abs.Coll Go.Abs.Hx Go.Abs.Mt Go.Abs.Utf Go.Abs.Txt Go.Abs.Rn
theorem decU_neW {l : List Int} (h : 1 ≤ l.length) : decU l ≠ [] := by
  match l, h with
  | [a], _ => simp [decU]
  | a :: b :: r, _ =>
    rw [decU]
    split <;> simp
theorem find_neW {l : List Bf} {n v : Int} {a : List Int} (h : EB.find l n v = some a) : 1 ≤ a.length := by
  have hc : EB.canon l = true := by
    unfold En.find at h
    split at h
    · assumption
    · cases h
  have htab := (EB.canon_iff l).1 hc
  rw [EB.find_tab htab] at h
  obtain ⟨b, hb, ⟨h1, h2, h3⟩, rfl⟩ := Tb.get_mem _ h
  have r := rngB (htab.1 b hb)
  show 1 ≤ (fur b.to (v - b.lo)).length
  rw [fur_len]
  omega
theorem one_pos (t : Tbl) (p : Pc) (rp : Int) : 1 ≤ (oneS rp (sgOf t p)).length := by
  unfold oneS
  split
  · rename_i h
    unfold sgOf at h ⊢
    split
    · rename_i hf
      rw [if_pos hf] at h
      cases hq : EB.find t.bfs p.cn p.cv with
      | none => rw [hq] at h; cases h
      | some a =>
        have := decU_neW (find_neW hq)
        exact Nat.pos_of_ne_zero (fun e => this (List.eq_nil_of_length_eq_zero e))
    · rename_i hf
      rw [if_neg hf] at h
      cases h
  · exact Nat.le_refl _
theorem encS_enc (rp : Int) : ∀ l : List Sg, encS rp l = enc (l.flatMap (oneS rp))
  | [] => rfl
  | x :: l => by
    have h := encS_enc rp l
    rw [List.flatMap_cons]
    unfold enc
    rw [List.flatMap_append]
    unfold encS at h ⊢
    rw [List.flatMap_cons, h]
    rfl
theorem flat_pos (t : Tbl) (rp : Int) : ∀ l : List Pc, l.length ≤ ((l.map (sgOf t)).flatMap (oneS rp)).length
  | [] => Nat.le_refl _
  | p :: l => by
    have := flat_pos t rp l
    have := one_pos t p rp
    rw [List.map_cons, List.flatMap_cons, List.length_append, List.length_cons]
    omega
theorem txtS_list (rp : Int) (l : List Sg) : (txtS rp l).data.toList = enc (l.flatMap (oneS rp)) := by
  rw [← encS_enc]
  simp [txtS]
theorem sgs_at {t : Tbl} {s : List Int} {i : Nat} (hi : i < (sgs t s).length) : (sgs t s).getD i default = sgOf t ((allAt t.spaces s 0).getD i default) := by
  have hj : i < (allAt t.spaces s 0).length := by
    unfold sgs at hi
    rwa [List.length_map] at hi
  rw [getG hi]
  show ((allAt t.spaces s 0).map (sgOf t))[i]'(by rw [List.length_map]; exact hj) = _
  rw [List.getElem_map]
  simp [List.getD, hj]
theorem sg_p (t : Tbl) (p : Pc) : (sgOf t p).p = p := by unfold sgOf; split <;> rfl
theorem sg_part (t : Tbl) (p : Pc) (h : p.full = false) : (sgOf t p).kind = 0 ∧ (sgOf t p).cid = 0 ∧ (sgOf t p).u = [] ∧ (sgOf t p).has = false := by
  unfold sgOf
  rw [if_neg (by rw [h]; decide)]
  exact ⟨rfl, rfl, rfl, rfl⟩
def SLookWh : Sp := ⟨Tbl × List Int × Int, fun (t, s, rp) => B8 s, fun (t, s, rp) => [.agg (cT t), a8 s, .int .i64 rp], fun _ => .st (.lit true)⟩
set_option maxHeartbeats 32000000 in
theorem lookWhole : SpOKT UT Tryd.prog 3 SLookWh := fun ⟨t, s, rp⟩ h8 => by
  have hC : COKT Tryd.prog UT (cfg [(4, SAwakeL), (5, SFewT), (7, STab), (6, SLook), (8, SAll), (10, STxtS), (9, SWhole), (11, SRunes)]) := Ty.ty.cfgT ⟨awake12.t, rfewT.t, table12.t, Lk.look.t, Mt.all.t, lookText.t, whole, runesOK.t, trivial⟩
  have h8 : B8 s := h8
  have hsh := sg_short t s
  have hln := sgs_len t s
  refine FnT.ofF hC Tryd.func3 Tryd.ntmps3 rfl rfl rfl ?_
  (repeat' first | (with_reducible exact trivial) | (with_reducible rfl) | (refine And.intro ?_ ?_) | (refine Need.mk ?_) | exact True.intro | (first | (refine ⟨_, Told.refl _, ?_, ?_⟩) | (refine ⟨⟨_, _⟩, Told.refl _, ?_, ?_⟩) | (refine ⟨⟨_, _, _⟩, Told.refl _, ?_, ?_⟩) | (refine ⟨⟨_, _, _, _⟩, Told.refl _, ?_, ?_⟩) | (refine ⟨⟨_, _, _, _, _⟩, Told.refl _, ?_, ?_⟩) | (refine ⟨(), Told.refl _, ?_, ?_⟩)) | (with_reducible intro _) | (refine fun (_ : Bool) => ?_))
  all_goals obtain ⟨t1, t2, t3, t4⟩ := few_small ‹(!fewT t) = false›
  all_goals have hsl := of_decide_eq_false ‹decide ((s.length : Int) > 200) = false›
  all_goals first | omega | exact h8 | skip
  all_goals have hcl : (sgs t s).length = (allAt t.spaces s 0).length := by unfold sgs; rw [List.length_map]
  all_goals first
    | (exfalso; have q := ‹(((sgs t s).length : Int) != ((allAt t.spaces s 0).length : Int)) = true›; rw [hcl] at q; simp at q; done)
    | skip
  have htl := txtS_list rp (sgs t s)
  have hva : Lib.validD (txtS rp (sgs t s)).data.toList = true := by rw [htl]; exact valid_enc _
  have hrn := runes_enc htl
  have hfp := flat_pos t rp (allAt t.spaces s 0)
  rw [show (allAt t.spaces s 0).map (sgOf t) = sgs t s from rfl, ← hcl, ← hrn] at hfp
  have hsz : (txtS rp (sgs t s)).size ≤ 4000004 * (sgs t s).length := by
    have h1 := encS_len rp (sgs t s) (fun x hx => by have := hsh x hx; omega)
    show (encS rp (sgs t s)).toArray.size ≤ _
    rw [List.size_toArray]
    exact h1
  refine AW.loop (I := fun k : Nat => ⟨108, [(1, a8 s), (2, .int .i64 rp), (3, .ptr 0 0), (7, .lit true), (8, .own 1), (9, .own 2), (10, .int .i64 k)], [.box 26 (cT t), .row 42 9 (sgs t s).length (els cG (sgs t s)), .row 39 5 (allAt t.spaces s 0).length (els cP (allAt t.spaces s 0))]⟩) (fun k => k ≤ (sgs t s).length) (fun k => (sgs t s).length - k) 0 (Nat.zero_le _) ?_ ?_
  · (repeat' first | (with_reducible exact trivial) | (with_reducible rfl) | (refine And.intro ?_ ?_) | (refine Need.mk ?_) | exact True.intro | (first | (refine ⟨_, Told.refl _, ?_, ?_⟩) | (refine ⟨⟨_, _⟩, Told.refl _, ?_, ?_⟩) | (refine ⟨⟨_, _, _⟩, Told.refl _, ?_, ?_⟩) | (refine ⟨⟨_, _, _, _⟩, Told.refl _, ?_, ?_⟩) | (refine ⟨⟨_, _, _, _, _⟩, Told.refl _, ?_, ?_⟩) | (refine ⟨(), Told.refl _, ?_, ?_⟩)) | (with_reducible intro _) | (refine fun (_ : Bool) => ?_))
    all_goals first
      | rfl
      | skip
  · intro k hk
    rcases Nat.lt_or_ge k (sgs t s).length with hlt | hge
    · have hd : decide ((k : Int) < ((sgs t s).length : Int)) = true := decide_eq_true (by omega)
      have hw := iw (n := (k : Int) + 1) (by omega) (by omega)
      have hx := sgs_at hlt
      have f1 : ((sgs t s).getD k default).p = (allAt t.spaces s 0).getD k default := by rw [hx]; exact sg_p t _
      have f8 : ((sgs t s).getD k default).p.full = false → ((sgs t s).getD k default).kind = 0 ∧ ((sgs t s).getD k default).cid = 0 ∧ ((sgs t s).getD k default).u = [] ∧ ((sgs t s).getD k default).has = false := fun h => by
        rw [f1] at h
        rw [hx]
        exact sg_part t _ h
      ((refine AW.byF ‹_› ?_); (repeat' first | (with_reducible exact trivial) | (with_reducible rfl) | (refine And.intro ?_ ?_) | (refine Need.mk ?_) | exact True.intro | (first | (refine ⟨_, Told.refl _, ?_, ?_⟩) | (refine ⟨⟨_, _⟩, Told.refl _, ?_, ?_⟩) | (refine ⟨⟨_, _, _⟩, Told.refl _, ?_, ?_⟩) | (refine ⟨⟨_, _, _, _⟩, Told.refl _, ?_, ?_⟩) | (refine ⟨⟨_, _, _, _, _⟩, Told.refl _, ?_, ?_⟩) | (refine ⟨(), Told.refl _, ?_, ?_⟩)) | (with_reducible intro _) | (refine fun (_ : Bool) => ?_)))
      all_goals first | (exact absurd ‹decide ((k : Int) < ((sgs t s).length : Int)) = false› (by rw [hd]; decide)) | skip
      any_goals (first | (refine Exists.intro ((k + 1 : Nat)) (And.intro ?_ (And.intro ?_ ?_)); all_goals (repeat' first | (with_reducible exact trivial) | (with_reducible rfl) | (refine And.intro ?_ ?_) | (refine Need.mk ?_) | exact True.intro | (first | (refine ⟨_, Told.refl _, ?_, ?_⟩) | (refine ⟨⟨_, _⟩, Told.refl _, ?_, ?_⟩) | (refine ⟨⟨_, _, _⟩, Told.refl _, ?_, ?_⟩) | (refine ⟨⟨_, _, _, _⟩, Told.refl _, ?_, ?_⟩) | (refine ⟨⟨_, _, _, _, _⟩, Told.refl _, ?_, ?_⟩) | (refine ⟨(), Told.refl _, ?_, ?_⟩)) | (with_reducible intro _) | (refine fun (_ : Bool) => ?_))) | fail)
      all_goals try simp only [Int.toNat_natCast] at *
      all_goals first
        | omega
        | (rw [hw]; rfl)
        | (exfalso
           clear hC hx
           rw [← f1] at *
           simp_all [eqA, bval]
           done)
        | skip
    · obtain rfl : k = (sgs t s).length := by omega
      have hd : decide (((sgs t s).length : Int) < ((sgs t s).length : Int)) = false := decide_eq_false (by omega)
      ((refine AW.byF ‹_› ?_); (repeat' first | (with_reducible exact trivial) | (with_reducible rfl) | (refine And.intro ?_ ?_) | (refine Need.mk ?_) | exact True.intro | (first | (refine ⟨_, Told.refl _, ?_, ?_⟩) | (refine ⟨⟨_, _⟩, Told.refl _, ?_, ?_⟩) | (refine ⟨⟨_, _, _⟩, Told.refl _, ?_, ?_⟩) | (refine ⟨⟨_, _, _, _⟩, Told.refl _, ?_, ?_⟩) | (refine ⟨⟨_, _, _, _, _⟩, Told.refl _, ?_, ?_⟩) | (refine ⟨(), Told.refl _, ?_, ?_⟩)) | (with_reducible intro _) | (refine fun (_ : Bool) => ?_)))
      all_goals first | (exact absurd ‹decide (((sgs t s).length : Int) < ((sgs t s).length : Int)) = true› (by rw [hd]; decide)) | skip
      all_goals first
        | omega
        | (show (sgs t s).length ≤ 1000000; omega)
        | (have := hsh _ ‹_›; omega)
        | (show (txtS rp (sgs t s)).size ≤ 9223372036854775807; omega)
        | (show (txtS rp (sgs t s)).size < 17592186044416; omega)
        | exact hva
        | (exact decide_eq_true (by omega))
        | (exfalso; have q := ‹Lib.validD (txtS rp (sgs t s)).data.toList = false›; rw [hva] at q; cases q)
        | skip
end Go.Abs.Lk
