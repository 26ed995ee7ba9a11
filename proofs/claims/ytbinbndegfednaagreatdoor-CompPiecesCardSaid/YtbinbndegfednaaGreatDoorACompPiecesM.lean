/- CompPieces by the engine (merged). -/
import Derived.Test.YtbinbndegfednaaGreatDoorAbsSpec
import Derived.WalkKit
import Derived.OpenShut
import Derived.ChangeArms
import Derived.DataReads
import Derived.DataElems
import Derived.Test.YtbinbndegfednaaGreatDoorAbsCodes
import Derived.Shelf.Strings.Builder1
import Derived.Shelf.Strings.BuilderF
import Derived.Shelf.Strings.BuilderK
import Derived.Shelf.Strings.BuilderRune
import Derived.Test.YtbinbndegfednaaGreatDoorProg
import Derived.Shelf.Abstract
import Derived.Shelf.RegionOpen
import Derived.LoopN
import Derived.Deep.LoopGhost
import Derived.Lib.ValidLaws
import Derived.Test.YtbinbndegfednaaGreatDoorShelfV
import Derived.Test.YtbinbndegfednaaGreatDoorATbl
import Derived.Test.YtbinbndegfednaaGreatDoorADestA
import Derived.Test.YtbinbndegfednaaGreatDoorAHx
import Derived.Test.YtbinbndegfednaaGreatDoorAMatch
import Derived.Test.YtbinbndegfednaaGreatDoorARectC
import Derived.OwnWalk
import Derived.Maps.AppendAt
set_option linter.all false
namespace Go.Abs
open Go.RowKit
section
variable {P : Program} {t e : TypeId} {α β : Type} {f : α → List AV} {f' : β → List AV} {wf : α → Prop} {wf' : β → Prop} {sz sz' : Nat}
/-- The blocks there are. -/
def Sall (w : World) (b : Nat) : Prop := b < w.heap.size
/-- Whatever reads as data at the type t is told by f, and meets wf. -/
def OpA (P : Program) (t : TypeId) {α : Type} (f : α → List AV) (wf : α → Prop) : Prop :=
  ∀ {H : Type} (enc : TypeId × Value → H) (w : World) (base : Nat) (spare : Nat → Bool) (held : Bool) (fuel : Nat) (cs : List Value) (x : DataW H × List MemPlace),
    DataW.trod enc P w base spare held fuel t cs = some x → ∃ a : α, RVs0 w (Sall w) (f a) cs ∧ wf a
theorem rvs1 {w : World} {S : Nat → Prop} {a : AV} {v : Value} (h : RV0 w S a v) : RVs0 w S [a] [v] := ⟨rfl, fun i x u h1 h2 => by
  cases i with
  | zero => simp at h1 h2; subst h1; subst h2; exact h
  | succ i => simp at h1⟩
theorem OpA.int {k : IntKind} (ht : P.underlying t = some (.int k)) : OpA P t (fun n : Int => [.int k n]) (fun n => (Lit.int k n).wf = true) := by
  intro H enc w base spare held fuel cs x h
  obtain ⟨n, rfl, _, hw⟩ := DataW.trod_int ht h
  exact ⟨n, rvs1 (.int _ _), hw⟩
theorem OpA.bool (ht : P.underlying t = some .bool) : OpA P t (fun b : Bool => [.sb b]) (fun _ => True) := by
  intro H enc w base spare held fuel cs x h
  obtain ⟨n, rfl, _⟩ := DataW.trod_bool ht h
  exact ⟨n, rvs1 (.sb _), trivial⟩
theorem OpA.string (ht : P.underlying t = some .string) : OpA P t (fun s : ByteArray => [.str s]) (fun s => s.size ≤ maxLen) := by
  intro H enc w base spare held fuel cs x h
  obtain ⟨n, rfl, _, hw⟩ := DataW.trod_string ht h
  exact ⟨n, rvs1 (.str _), hw⟩
theorem OpA.mono {wf2 : α → Prop} (h : OpA P t f wf) (hm : ∀ a, wf a → wf2 a) : OpA P t f wf2 := by
  intro H enc w base spare held fuel cs x hx
  obtain ⟨a, hk, hw⟩ := h enc w base spare held fuel cs x hx
  exact ⟨a, hk, hm a hw⟩
theorem list_of {n : Nat} {Q : Nat → α → Prop} (h : ∀ i, i < n → ∃ a, Q i a) : ∃ l : List α, l.length = n ∧ ∀ i a, l[i]? = some a → Q i a := by
  induction n with
  | zero => exact ⟨[], rfl, fun i a hi => by simp at hi⟩
  | succ n ih =>
    obtain ⟨l, hl, hq⟩ := ih (fun i hi => h i (by omega))
    obtain ⟨a, ha⟩ := h n (by omega)
    refine ⟨l ++ [a], by simp [hl], fun i b hi => ?_⟩
    by_cases hin : i < n
    · rw [List.getElem?_append_left (by omega)] at hi
      exact hq i b hi
    · have hlt : i < (l ++ [a]).length := (List.getElem?_eq_some_iff.1 hi).1
      obtain rfl : i = n := by simp [hl] at hlt; omega
      rw [List.getElem?_append_right (by omega), hl, Nat.sub_self] at hi
      obtain rfl := Option.some.inj hi
      exact ha
theorem OpA.slice [Inhabited α] (ht : P.underlying t = some (.slice e)) (hc : P.cellsOf e = sz) (hf : Emb f sz) (he : OpA P e f wf) :
    OpA P t (fun l : List α => [aL f sz l]) (fun l => l.length ≤ maxLen ∧ ∀ x ∈ l, wf x) := by
  intro H enc w base spare held fuel cs x h
  rcases DataW.trod_slice ht h with ⟨rfl, _⟩ | ⟨a, len, cap, elems, rest, n, _, rfl, _, hb, hl, hm, hlen, hel, _, _⟩
  · exact ⟨[], rvs1 (.sl _ _ _ none 0 (fun _ _ => undef) (Nat.le_refl _) (Nat.zero_le _) (fun i hi => by simp at hi) (fun i j hi => by simp at hi) (fun i j a hi => by simp at hi)), Nat.zero_le _, fun x hx => by simp at hx⟩
  · have hex : ∀ i, i < len → ∃ b : α, wf b ∧ ∃ c, c.length = sz ∧ RVs0 w (Sall w) (f b) c ∧ ∀ j u, c[j]? = some u → w.cell? (a.add (i * sz + j)) = some u := by
      intro i hi
      have h1 := hel i hi
      rw [List.getElem?_eq_getElem (by omega)] at h1
      obtain ⟨c, hcs, htr⟩ := Option.bind_eq_some_iff.mp h1
      obtain ⟨_, hcl, hat⟩ := World.cells?_some hcs
      obtain ⟨b, hK, hw⟩ := he enc w base spare held n c _ htr
      refine ⟨b, hw, c, by rw [hcl, hc], hK, fun j u hj => ?_⟩
      have hjl : j < c.length := (List.getElem?_eq_some_iff.1 hj).1
      have := hat j (by omega)
      rw [hj, hc] at this
      rw [← this, Addr.add_add]
    obtain ⟨l, hll, hq⟩ := list_of hex
    have hget : ∀ i, i < l.length → l[i]? = some (l.getD i default) := fun i hi => by simp [List.getD, hi]
    refine ⟨l, rvs1 ?_, by omega, fun x hx => ?_⟩
    · subst hll
      refine .sl _ _ _ (some a) cap (fun i j => (w.cell? (a.add (i * sz + j))).getD undef) (by omega) (by omega) (fun i hi => ⟨(hf _).2.2, (hf _).1⟩) (fun i j hi hj => ?_) (fun i j x hi hx => ?_)
      · obtain ⟨_, c, hcl, hK, hcell⟩ := hq i _ (hget i hi)
        have h1 := hcell j c[j] (List.getElem?_eq_getElem (by omega))
        refine ⟨a, rfl, ?_, by rw [h1]; rfl⟩
        have h2 := World.block_lt_of_cell? _ _ h1
        have h3 : (a.add (i * sz + j)).block = a.block := by unfold Addr.add; split <;> rfl
        exact h3 ▸ h2
      · obtain ⟨_, c, hcl, hK, hcell⟩ := hq i _ (hget i hi)
        have hj : j < sz := by rw [← (hf (l.getD i default)).2.2]; exact (List.getElem?_eq_some_iff.1 hx).1
        have h1 := hcell j c[j] (List.getElem?_eq_getElem (by omega))
        rw [h1]
        exact hK.2 j x _ hx (List.getElem?_eq_getElem (by omega))
    · obtain ⟨i, hi, rfl⟩ := List.getElem_of_mem hx
      exact (hq i _ (List.getElem?_eq_getElem hi)).1
/-- A run of a struct's fields, from a cell on. -/
def OpAF (P : Program) (fs : List Field) (off n : Nat) {α : Type} (f : α → List AV) (wf : α → Prop) : Prop :=
  ∀ {H : Type} (enc : TypeId × Value → H) (w : World) (base : Nat) (spare : Nat → Bool) (held : Bool) (fuel : Nat) (cs : List Value),
    (∀ (j : Nat) (fl : Field), fs[j]? = some fl → ∃ y, DataW.trod enc P w base spare held fuel fl.type ((cs.drop fl.offset).take (P.cellsOf fl.type)) = some y) →
    cs.length = off + n → ∃ a : α, RVs0 w (Sall w) (f a) (cs.drop off) ∧ wf a
theorem OpAF.one {fl : Field} {off n : Nat} (hf : OpA P fl.type f wf) (ho : fl.offset = off) (hc : P.cellsOf fl.type = n) : OpAF P [fl] off n f wf := by
  intro H enc w base spare held fuel cs hx hl
  obtain ⟨y, hy⟩ := hx 0 fl rfl
  obtain ⟨a, hK, hw⟩ := hf enc w base spare held fuel _ y hy
  rw [ho, hc, List.take_of_length_le (by rw [List.length_drop]; omega)] at hK
  exact ⟨a, hK, hw⟩
theorem RVs0.append {w : World} {S : Nat → Prop} {xs1 bs : List AV} {us vs : List Value} (h : RVs0 w S xs1 us) (k : RVs0 w S bs vs) : RVs0 w S (xs1 ++ bs) (us ++ vs) := by
  refine ⟨by rw [List.length_append, List.length_append, h.1, k.1], fun i a v h1 h2 => ?_⟩
  by_cases hi : i < xs1.length
  · rw [List.getElem?_append_left hi] at h1
    rw [List.getElem?_append_left (by rw [h.1]; exact hi)] at h2
    exact h.2 i a v h1 h2
  · rw [List.getElem?_append_right (by omega)] at h1
    rw [List.getElem?_append_right (by rw [h.1]; omega), h.1] at h2
    exact k.2 _ a v h1 h2
theorem OpAF.cons {fl : Field} {fs : List Field} {off n m : Nat} (hf : OpA P fl.type f wf) (ho : fl.offset = off) (hc : P.cellsOf fl.type = n) (hr : OpAF P fs (off + n) m f' wf') :
    OpAF P (fl :: fs) off (n + m) (fun x : α × β => f x.1 ++ f' x.2) (fun x => wf x.1 ∧ wf' x.2) := by
  intro H enc w base spare held fuel cs hx hl
  obtain ⟨y, hy⟩ := hx 0 fl rfl
  obtain ⟨a, hK, hw⟩ := hf enc w base spare held fuel _ y hy
  obtain ⟨b, hK2, hw2⟩ := hr enc w base spare held fuel cs (fun j g hg => hx (j + 1) g hg) (by omega)
  rw [ho, hc] at hK
  refine ⟨(a, b), ?_, hw, hw2⟩
  have := RVs0.append hK hK2
  rwa [← List.drop_drop, List.take_append_drop] at this
theorem OpA.struct {fs : Array Field} {n : Nat} (ht : P.underlying t = some (.struct fs)) (hf : OpAF P fs.toList 0 n f wf) (hc : P.cellsOf t = n) : OpA P t f wf := by
  intro H enc w base spare held fuel cs x h
  obtain ⟨xs, m, rfl, _, hlen, hxl, hget⟩ := DataW.trod_struct ht h
  obtain ⟨a, hK, hw⟩ := hf enc w base spare held m cs (fun j fl hj => by
    have hj' : fs[j]? = some fl := by simpa using hj
    have hjl : j < fs.size := (Array.getElem?_eq_some_iff.1 hj').1
    exact ⟨_, (hget j fl hj').trans (List.getElem?_eq_getElem (by omega))⟩) (by omega)
  exact ⟨a, by simpa using hK, hw⟩
theorem OpA.iso {g : β → List AV} (h : OpA P t f wf) (tob : α → β) (hg : ∀ a, g (tob a) = f a) (hw : ∀ a, wf a → wf' (tob a)) : OpA P t g wf' := by
  intro H enc w base spare held fuel cs x hx
  obtain ⟨a, hk, hwf⟩ := h enc w base spare held fuel cs x hx
  exact ⟨tob a, by rw [hg]; exact hk, hw a hwf⟩
end
end Go.Abs
set_option maxRecDepth 100000
namespace Go.Abs.Utf
open Go.RowKit Go.Proofs
def goodB (x : Int) : Bool := decide (0 ≤ x ∧ x ≤ 1114111 ∧ (x < 55296 ∨ 57343 < x))
def gd (x : Int) : Int := if goodB x = true then x else 65533
def highB (x : Int) : Bool := decide (55296 ≤ x ∧ x ≤ 56319)
def lowB (x : Int) : Bool := decide (56320 ≤ x ∧ x ≤ 57343)
def oneU (x : Int) : Int := if x > 65535 then 65533 else gd x
def decU : List Int → List Int
  | [] => []
  | [a] => [oneU a]
  | a :: b :: r => if highB a = true ∧ lowB b = true then (65536 + (a - 55296) * 1024 + b - 56320) :: decU r else oneU a :: decU (b :: r)
theorem decU_pair {a b : Int} {r : List Int} (h1 : highB a = true) (h2 : lowB b = true) : decU (a :: b :: r) = (65536 + (a - 55296) * 1024 + b - 56320) :: decU r := by
  rw [decU, if_pos ⟨h1, h2⟩]
theorem decU_one {a : Int} {r : List Int} (h : ∀ b r', r = b :: r' → ¬ (highB a = true ∧ lowB b = true)) : decU (a :: r) = oneU a :: decU r := by
  cases r with
  | nil => simp [decU]
  | cons b r => rw [decU, if_neg (h b r rfl)]
theorem decU_len : ∀ l : List Int, (decU l).length ≤ l.length
  | [] => Nat.le_refl _
  | [a] => Nat.le_refl _
  | a :: b :: r => by
    have h1 := decU_len r
    have h2 := decU_len (b :: r)
    rw [decU]
    split
    · simp only [List.length_cons]
      omega
    · simp only [List.length_cons] at *
      omega
def SGood : Sp := ⟨Int, fun _ => True, fun n => [.int .i64 n], fun n => .st (.sb (goodB n))⟩
def SGd : Sp := ⟨Int, fun _ => True, fun n => [.int .i64 n], fun n => .st (.int .i64 (gd n))⟩
def SHigh : Sp := ⟨Int, fun _ => True, fun n => [.int .i64 n], fun n => .st (.sb (highB n))⟩
def SLow : Sp := ⟨Int, fun _ => True, fun n => [.int .i64 n], fun n => .st (.sb (lowB n))⟩
def SOneU : Sp := ⟨Int, fun _ => True, fun n => [.int .i64 n], fun n => .st (.int .i64 (oneU n))⟩
theorem good : SpOK Tryz.prog 129 SGood := fun (n : Int) _ => by
  have hC := base
  ((refine Fn.ofF hC Tryz.func129 Tryz.ntmps129 rfl rfl rfl ?_); (repeat' first | (with_reducible exact trivial) | (with_reducible rfl) | (refine And.intro ?_ ?_) | (refine Need.mk ?_) | exact True.intro | (first | (refine ⟨_, Told.refl _, ?_, ?_⟩) | (refine ⟨⟨_, _⟩, Told.refl _, ?_, ?_⟩) | (refine ⟨⟨_, _, _⟩, Told.refl _, ?_, ?_⟩) | (refine ⟨⟨_, _, _, _⟩, Told.refl _, ?_, ?_⟩) | (refine ⟨⟨_, _, _, _, _⟩, Told.refl _, ?_, ?_⟩) | (refine ⟨(), Told.refl _, ?_, ?_⟩)) | (with_reducible intro _) | (refine fun (_ : Bool) => ?_)))
  all_goals
    unfold goodB
    ((try dsimp only at *); (try simp only [decide_eq_true_eq, decide_eq_false_iff_not, beq_iff_eq, bne_iff_ne, beq_eq_false_iff_ne, bne_eq_false_iff_eq, ne_eq, Decidable.not_not, ge_iff_le, gt_iff_lt, Bool.not_eq_true', Bool.not_eq_false', Int.not_lt, Int.not_le, Nat.not_lt, Nat.not_le] at *))
    first
      | (rw [decide_eq_true (by omega)]; exact decide_eq_true (by omega))
      | (symm; rw [decide_eq_false_iff_not]; omega)
      | (rw [Bool.eq_iff_iff, decide_eq_true_eq, decide_eq_true_eq]; omega)
      | (symm; rw [decide_eq_true_eq]; omega)
theorem gdf : SpOK Tryz.prog 124 SGd := fun (n : Int) _ => by
  have hC : COK Tryz.prog (cfg [(129, SGood)]) := Ty.ty.cfg ⟨good, trivial⟩
  ((refine Fn.ofF hC Tryz.func124 Tryz.ntmps124 rfl rfl rfl ?_); (repeat' first | (with_reducible exact trivial) | (with_reducible rfl) | (refine And.intro ?_ ?_) | (refine Need.mk ?_) | exact True.intro | (first | (refine ⟨_, Told.refl _, ?_, ?_⟩) | (refine ⟨⟨_, _⟩, Told.refl _, ?_, ?_⟩) | (refine ⟨⟨_, _, _⟩, Told.refl _, ?_, ?_⟩) | (refine ⟨⟨_, _, _, _⟩, Told.refl _, ?_, ?_⟩) | (refine ⟨⟨_, _, _, _, _⟩, Told.refl _, ?_, ?_⟩) | (refine ⟨(), Told.refl _, ?_, ?_⟩)) | (with_reducible intro _) | (refine fun (_ : Bool) => ?_)))
  all_goals
    unfold gd
    first
      | (rw [if_pos ‹_›]; done)
      | (rw [if_neg (by simp [‹goodB n = false›])]; done)
theorem high : SpOK Tryz.prog 125 SHigh := fun (n : Int) _ => by
  have hC := base
  ((refine Fn.ofF hC Tryz.func125 Tryz.ntmps125 rfl rfl rfl ?_); (repeat' first | (with_reducible exact trivial) | (with_reducible rfl) | (refine And.intro ?_ ?_) | (refine Need.mk ?_) | exact True.intro | (first | (refine ⟨_, Told.refl _, ?_, ?_⟩) | (refine ⟨⟨_, _⟩, Told.refl _, ?_, ?_⟩) | (refine ⟨⟨_, _, _⟩, Told.refl _, ?_, ?_⟩) | (refine ⟨⟨_, _, _, _⟩, Told.refl _, ?_, ?_⟩) | (refine ⟨⟨_, _, _, _, _⟩, Told.refl _, ?_, ?_⟩) | (refine ⟨(), Told.refl _, ?_, ?_⟩)) | (with_reducible intro _) | (refine fun (_ : Bool) => ?_)))
  all_goals
    unfold highB
    ((try dsimp only at *); (try simp only [decide_eq_true_eq, decide_eq_false_iff_not, beq_iff_eq, bne_iff_ne, beq_eq_false_iff_ne, bne_eq_false_iff_eq, ne_eq, Decidable.not_not, ge_iff_le, gt_iff_lt, Bool.not_eq_true', Bool.not_eq_false', Int.not_lt, Int.not_le, Nat.not_lt, Nat.not_le] at *))
    first
      | (symm; rw [decide_eq_false_iff_not]; omega)
      | (rw [Bool.eq_iff_iff, decide_eq_true_eq, decide_eq_true_eq]; omega)
theorem low : SpOK Tryz.prog 126 SLow := fun (n : Int) _ => by
  have hC := base
  ((refine Fn.ofF hC Tryz.func126 Tryz.ntmps126 rfl rfl rfl ?_); (repeat' first | (with_reducible exact trivial) | (with_reducible rfl) | (refine And.intro ?_ ?_) | (refine Need.mk ?_) | exact True.intro | (first | (refine ⟨_, Told.refl _, ?_, ?_⟩) | (refine ⟨⟨_, _⟩, Told.refl _, ?_, ?_⟩) | (refine ⟨⟨_, _, _⟩, Told.refl _, ?_, ?_⟩) | (refine ⟨⟨_, _, _, _⟩, Told.refl _, ?_, ?_⟩) | (refine ⟨⟨_, _, _, _, _⟩, Told.refl _, ?_, ?_⟩) | (refine ⟨(), Told.refl _, ?_, ?_⟩)) | (with_reducible intro _) | (refine fun (_ : Bool) => ?_)))
  all_goals
    unfold lowB
    ((try dsimp only at *); (try simp only [decide_eq_true_eq, decide_eq_false_iff_not, beq_iff_eq, bne_iff_ne, beq_eq_false_iff_ne, bne_eq_false_iff_eq, ne_eq, Decidable.not_not, ge_iff_le, gt_iff_lt, Bool.not_eq_true', Bool.not_eq_false', Int.not_lt, Int.not_le, Nat.not_lt, Nat.not_le] at *))
    first
      | (symm; rw [decide_eq_false_iff_not]; omega)
      | (rw [Bool.eq_iff_iff, decide_eq_true_eq, decide_eq_true_eq]; omega)
theorem oneF : SpOK Tryz.prog 127 SOneU := fun (n : Int) _ => by
  have hC : COK Tryz.prog (cfg [(124, SGd)]) := Ty.ty.cfg ⟨gdf, trivial⟩
  ((refine Fn.ofF hC Tryz.func127 Tryz.ntmps127 rfl rfl rfl ?_); (repeat' first | (with_reducible exact trivial) | (with_reducible rfl) | (refine And.intro ?_ ?_) | (refine Need.mk ?_) | exact True.intro | (first | (refine ⟨_, Told.refl _, ?_, ?_⟩) | (refine ⟨⟨_, _⟩, Told.refl _, ?_, ?_⟩) | (refine ⟨⟨_, _, _⟩, Told.refl _, ?_, ?_⟩) | (refine ⟨⟨_, _, _, _⟩, Told.refl _, ?_, ?_⟩) | (refine ⟨⟨_, _, _, _, _⟩, Told.refl _, ?_, ?_⟩) | (refine ⟨(), Told.refl _, ?_, ?_⟩)) | (with_reducible intro _) | (refine fun (_ : Bool) => ?_)))
  all_goals
    unfold oneU
    ((try dsimp only at *); (try simp only [decide_eq_true_eq, decide_eq_false_iff_not, beq_iff_eq, bne_iff_ne, beq_eq_false_iff_ne, bne_eq_false_iff_eq, ne_eq, Decidable.not_not, ge_iff_le, gt_iff_lt, Bool.not_eq_true', Bool.not_eq_false', Int.not_lt, Int.not_le, Nat.not_lt, Nat.not_le] at *))
    first
      | (rw [if_pos (by omega)]; done)
      | (rw [if_neg (by omega)]; done)
def SDec : Sp := ⟨List Int, fun l => l.length ≤ 1000000000, fun l => [aI l], fun l => .row 3 1 (decU l).length (els ci (decU l))⟩
theorem getD_drop (l : List Int) (k i : Nat) : (l.drop k).getD i default = l.getD (k + i) default := by
  simp [List.getD, List.getElem?_drop]
def pairX (a b : Int) : Int := IntKind.i64.wrap (IntKind.i64.wrap (IntKind.i64.wrap (65536 + IntKind.i64.wrap (IntKind.i64.wrap (a - 55296) * 2 ^ min (Int.toNat 10) IntKind.i64.bits)) + b) - 56320)
theorem pairW {a b : Int} (h1 : highB a = true) (h2 : lowB b = true) : pairX a b = 65536 + (a - 55296) * 1024 + b - 56320 := by
  unfold pairX
  unfold highB at h1
  unfold lowB at h2
  rw [decide_eq_true_eq] at h1 h2
  rw [show (2 : Int) ^ min (Int.toNat 10) IntKind.i64.bits = 1024 from rfl]
  simp only [IntKind.wrap_i64]
  omega
set_option maxHeartbeats 4000000 in
theorem dec16 : SpOK Tryz.prog 122 SDec := fun (l : List Int) hl => by
  have hC : COK Tryz.prog (cfg [(125, SHigh), (126, SLow), (127, SOneU)]) := Ty.ty.cfg ⟨high, low, oneF, trivial⟩
  have hl : l.length ≤ 1000000000 := hl
  ((refine Fn.ofF hC Tryz.func122 Tryz.ntmps122 rfl rfl rfl ?_); (repeat' first | (with_reducible exact trivial) | (with_reducible rfl) | (refine And.intro ?_ ?_) | (refine Need.mk ?_) | exact True.intro | (first | (refine ⟨_, Told.refl _, ?_, ?_⟩) | (refine ⟨⟨_, _⟩, Told.refl _, ?_, ?_⟩) | (refine ⟨⟨_, _, _⟩, Told.refl _, ?_, ?_⟩) | (refine ⟨⟨_, _, _, _⟩, Told.refl _, ?_, ?_⟩) | (refine ⟨⟨_, _, _, _, _⟩, Told.refl _, ?_, ?_⟩) | (refine ⟨(), Told.refl _, ?_, ?_⟩)) | (with_reducible intro _) | (refine fun (_ : Bool) => ?_)))
  refine AW.loop (I := fun x : List Int × List Int => ⟨48, [(0, aI x.1), (3, .own 0)], [.row 3 1 x.2.length (els ci x.2)]⟩) (fun x => x.1.length + x.2.length ≤ l.length ∧ decU l = x.2 ++ decU x.1) (fun x => x.1.length) (l, []) ⟨Nat.le_refl _, rfl⟩ ?_ ?_
  · (repeat' first | (with_reducible exact trivial) | (with_reducible rfl) | (refine And.intro ?_ ?_) | (refine Need.mk ?_) | exact True.intro | (first | (refine ⟨_, Told.refl _, ?_, ?_⟩) | (refine ⟨⟨_, _⟩, Told.refl _, ?_, ?_⟩) | (refine ⟨⟨_, _, _⟩, Told.refl _, ?_, ?_⟩) | (refine ⟨⟨_, _, _, _⟩, Told.refl _, ?_, ?_⟩) | (refine ⟨⟨_, _, _, _, _⟩, Told.refl _, ?_, ?_⟩) | (refine ⟨(), Told.refl _, ?_, ?_⟩)) | (with_reducible intro _) | (refine fun (_ : Bool) => ?_))
    all_goals rfl
  · rintro ⟨u, out⟩ ⟨h1, h2⟩
    dsimp only at h1 h2 ⊢
    rcases u with _ | ⟨a, u⟩
    · have h3 : decU l = out := by rw [h2]; simp [decU]
      ((refine AW.byF ‹_› ?_); (repeat' first | (with_reducible exact trivial) | (with_reducible rfl) | (refine And.intro ?_ ?_) | (refine Need.mk ?_) | exact True.intro | (first | (refine ⟨_, Told.refl _, ?_, ?_⟩) | (refine ⟨⟨_, _⟩, Told.refl _, ?_, ?_⟩) | (refine ⟨⟨_, _, _⟩, Told.refl _, ?_, ?_⟩) | (refine ⟨⟨_, _, _, _⟩, Told.refl _, ?_, ?_⟩) | (refine ⟨⟨_, _, _, _, _⟩, Told.refl _, ?_, ?_⟩) | (refine ⟨(), Told.refl _, ?_, ?_⟩)) | (with_reducible intro _) | (refine fun (_ : Bool) => ?_)))
      all_goals first | (exact absurd ‹decide ((([] : List Int).length : Int) > 0) = true› (by decide)) | skip
      all_goals rw [h3]
    · have hdl := decU_len (a :: u)
      have hd : decide (((a :: u).length : Int) > 0) = true := by simp
      have hd2 : ∀ i : Nat, (a :: u).getD (1 + i) default = u.getD i default := fun i => by rw [Nat.add_comm]; rfl
      rcases u with _ | ⟨b, u⟩
      · have h5 : decU l = (out ++ [oneU a]) ++ decU [] := by rw [h2]; simp [decU]
        ((refine AW.byF ‹_› ?_); (repeat' first | (with_reducible exact trivial) | (with_reducible rfl) | (refine And.intro ?_ ?_) | (refine Need.mk ?_) | exact True.intro | (first | (refine ⟨_, Told.refl _, ?_, ?_⟩) | (refine ⟨⟨_, _⟩, Told.refl _, ?_, ?_⟩) | (refine ⟨⟨_, _, _⟩, Told.refl _, ?_, ?_⟩) | (refine ⟨⟨_, _, _, _⟩, Told.refl _, ?_, ?_⟩) | (refine ⟨⟨_, _, _, _, _⟩, Told.refl _, ?_, ?_⟩) | (refine ⟨(), Told.refl _, ?_, ?_⟩)) | (with_reducible intro _) | (refine fun (_ : Bool) => ?_)))
        all_goals first | (exact absurd ‹decide ((([a] : List Int).length : Int) > 1) = true› (by simp)) | (exact absurd ‹decide ((([a] : List Int).length : Int) > 0) = false› (by rw [hd]; decide)) | skip
        any_goals (refine Exists.intro (([], out ++ [oneU a]) : List Int × List Int) (And.intro ?_ (And.intro ?_ ?_)); all_goals (repeat' first | (with_reducible exact trivial) | (with_reducible rfl) | (refine And.intro ?_ ?_) | (refine Need.mk ?_) | exact True.intro | (first | (refine ⟨_, Told.refl _, ?_, ?_⟩) | (refine ⟨⟨_, _⟩, Told.refl _, ?_, ?_⟩) | (refine ⟨⟨_, _, _⟩, Told.refl _, ?_, ?_⟩) | (refine ⟨⟨_, _, _, _⟩, Told.refl _, ?_, ?_⟩) | (refine ⟨⟨_, _, _, _, _⟩, Told.refl _, ?_, ?_⟩) | (refine ⟨(), Told.refl _, ?_, ?_⟩)) | (with_reducible intro _) | (refine fun (_ : Bool) => ?_)))
        all_goals first
          | (exact h5)
          | (rename_i i hi; exact els_of ci_emb (n := 0) (cat_snoc rfl) i hi)
          | (rw [List.length_append]; rfl)
          | (rename_i i hi; exact absurd hi (Nat.not_lt_zero _))
          | omega | (simp only [List.length_cons, List.length_nil, List.length_append] at h1 ⊢; omega) | (simp only [List.length_cons, List.length_nil, List.length_append]; omega) | (simp only [List.length_cons, List.length_nil, List.length_append] at h1 hl hdl ⊢; dsimp only [] at *; omega)
      · have hd3 : decide (((a :: b :: u).length : Int) > 1) = true := by
          rw [decide_eq_true_eq]
          simp only [List.length_cons]
          omega
        by_cases hp : highB a = true ∧ lowB b = true
        · have h5 : decU l = (out ++ [pairX a b]) ++ decU u := by
            rw [h2, decU_pair hp.1 hp.2, pairW hp.1 hp.2, List.append_assoc]
            rfl
          ((refine AW.byF ‹_› ?_); (repeat' first | (with_reducible exact trivial) | (with_reducible rfl) | (refine And.intro ?_ ?_) | (refine Need.mk ?_) | exact True.intro | (first | (refine ⟨_, Told.refl _, ?_, ?_⟩) | (refine ⟨⟨_, _⟩, Told.refl _, ?_, ?_⟩) | (refine ⟨⟨_, _, _⟩, Told.refl _, ?_, ?_⟩) | (refine ⟨⟨_, _, _, _⟩, Told.refl _, ?_, ?_⟩) | (refine ⟨⟨_, _, _, _, _⟩, Told.refl _, ?_, ?_⟩) | (refine ⟨(), Told.refl _, ?_, ?_⟩)) | (with_reducible intro _) | (refine fun (_ : Bool) => ?_)))
          all_goals first | (exact absurd ‹decide (((a :: b :: u).length : Int) > 1) = false› (by rw [hd3]; decide)) | (exact absurd ‹decide (((a :: b :: u).length : Int) > 0) = false› (by rw [hd]; decide)) | skip
          all_goals first | (exact absurd ‹highB ((a :: b :: u).getD (Int.toNat 0) default) = false› (by rw [show (a :: b :: u).getD (Int.toNat 0) default = a from rfl, hp.1]; decide)) | (exact absurd ‹lowB ((a :: b :: u).getD (Int.toNat 1) default) = false› (by rw [show (a :: b :: u).getD (Int.toNat 1) default = b from rfl, hp.2]; decide)) | skip
          any_goals (refine Exists.intro ((u, out ++ [pairX a b]) : List Int × List Int) (And.intro ?_ (And.intro ?_ ?_)); all_goals (repeat' first | (with_reducible exact trivial) | (with_reducible rfl) | (refine And.intro ?_ ?_) | (refine Need.mk ?_) | exact True.intro | (first | (refine ⟨_, Told.refl _, ?_, ?_⟩) | (refine ⟨⟨_, _⟩, Told.refl _, ?_, ?_⟩) | (refine ⟨⟨_, _, _⟩, Told.refl _, ?_, ?_⟩) | (refine ⟨⟨_, _, _, _⟩, Told.refl _, ?_, ?_⟩) | (refine ⟨⟨_, _, _, _, _⟩, Told.refl _, ?_, ?_⟩) | (refine ⟨(), Told.refl _, ?_, ?_⟩)) | (with_reducible intro _) | (refine fun (_ : Bool) => ?_)))
          all_goals first
            | (exact h5)
            | (rename_i i hi; exact els_of ci_emb (n := 0) (cat_snoc rfl) i hi)
            | (rw [List.length_append]; rfl)
            | (rw [show Int.toNat 1 + _ = _ + 1 from Nat.add_comm _ _]; rfl)
            | (rw [show Int.toNat 2 + _ = _ + 1 + 1 from Nat.add_comm _ _]; rfl)
            | omega | (simp only [List.length_cons, List.length_nil, List.length_append] at h1 ⊢; omega) | (simp only [List.length_cons, List.length_nil, List.length_append]; omega) | (simp only [List.length_cons, List.length_nil, List.length_append] at h1 hl hdl ⊢; dsimp only [] at *; omega)
        · have h5 : decU l = (out ++ [oneU a]) ++ decU (b :: u) := by
            rw [h2, decU_one (fun b' r' e hh => by
              injection e with e1 e2
              subst e1
              exact hp hh), List.append_assoc]
            rfl
          ((refine AW.byF ‹_› ?_); (repeat' first | (with_reducible exact trivial) | (with_reducible rfl) | (refine And.intro ?_ ?_) | (refine Need.mk ?_) | exact True.intro | (first | (refine ⟨_, Told.refl _, ?_, ?_⟩) | (refine ⟨⟨_, _⟩, Told.refl _, ?_, ?_⟩) | (refine ⟨⟨_, _, _⟩, Told.refl _, ?_, ?_⟩) | (refine ⟨⟨_, _, _, _⟩, Told.refl _, ?_, ?_⟩) | (refine ⟨⟨_, _, _, _, _⟩, Told.refl _, ?_, ?_⟩) | (refine ⟨(), Told.refl _, ?_, ?_⟩)) | (with_reducible intro _) | (refine fun (_ : Bool) => ?_)))
          all_goals first | (exact absurd ‹decide (((a :: b :: u).length : Int) > 1) = false› (by rw [hd3]; decide)) | (exact absurd ‹decide (((a :: b :: u).length : Int) > 0) = false› (by rw [hd]; decide)) | skip
          all_goals first | (exact absurd (And.intro ‹highB ((a :: b :: u).getD (Int.toNat 0) default) = true› ‹lowB ((a :: b :: u).getD (Int.toNat 1) default) = true›) hp) | skip
          any_goals (refine Exists.intro ((b :: u, out ++ [oneU a]) : List Int × List Int) (And.intro ?_ (And.intro ?_ ?_)); all_goals (repeat' first | (with_reducible exact trivial) | (with_reducible rfl) | (refine And.intro ?_ ?_) | (refine Need.mk ?_) | exact True.intro | (first | (refine ⟨_, Told.refl _, ?_, ?_⟩) | (refine ⟨⟨_, _⟩, Told.refl _, ?_, ?_⟩) | (refine ⟨⟨_, _, _⟩, Told.refl _, ?_, ?_⟩) | (refine ⟨⟨_, _, _, _⟩, Told.refl _, ?_, ?_⟩) | (refine ⟨⟨_, _, _, _, _⟩, Told.refl _, ?_, ?_⟩) | (refine ⟨(), Told.refl _, ?_, ?_⟩)) | (with_reducible intro _) | (refine fun (_ : Bool) => ?_)))
          all_goals first
            | (exact h5)
            | (rename_i i hi; exact els_of ci_emb (n := 0) (cat_snoc rfl) i hi)
            | (rw [List.length_append]; rfl)
            | (rw [show Int.toNat 1 + _ = _ + 1 from Nat.add_comm _ _]; rfl)
            | (rw [show Int.toNat 2 + _ = _ + 1 + 1 from Nat.add_comm _ _]; rfl)
            | omega | (simp only [List.length_cons, List.length_nil, List.length_append] at h1 ⊢; omega) | (simp only [List.length_cons, List.length_nil, List.length_append]; omega) | (simp only [List.length_cons, List.length_nil, List.length_append] at h1 hl hdl ⊢; dsimp only [] at *; omega)
end Go.Abs.Utf
set_option maxRecDepth 100000
namespace Go.Proofs
open Go.Shelf Go.RowKit
def Tryz.lays169_ren : Go.Shelf.Ren := ⟨fun | 169 => 25 | n => n, fun | 0 => 0 | 3 => 3 | 9 => 9 | 37 => 29 | 70 => 70 | 72 => 72 | 127 => 114 | 5 => 5 | n => n, fun | n => n⟩
theorem Tryz.lays169 : Go.Proofs.Lays.n169 Tryz.prog Tryz.lays169_ren := {
  mixed := by kernel_rfl
  f169 := Tryz.func25.trans (congrArg some (by kernel_rfl))
  t0 := Tryz.underlying0
  a0 := Tryz.isAgg0
  z0 := Tryz.sizeOf0
  v0 := Tryz.zeroValue0
  t3 := Tryz.underlying3
  a3 := Tryz.isAgg3
  z3 := Tryz.sizeOf3
  v3 := Tryz.zeroValue3
  t9 := Tryz.underlying9
  a9 := Tryz.isAgg9
  z9 := Tryz.sizeOf9
  v9 := Tryz.zeroValue9
  t37 := Tryz.underlying29
  a37 := Tryz.isAgg29
  z37 := Tryz.sizeOf29
  v37 := Tryz.zeroValue29
  t70 := Tryz.underlying70
  a70 := Tryz.isAgg70
  z70 := Tryz.sizeOf70
  v70 := Tryz.zeroValue70
  t72 := Tryz.underlying72
  a72 := Tryz.isAgg72
  z72 := Tryz.sizeOf72
  v72 := Tryz.zeroValue72
  t127 := Tryz.underlying114
  a127 := Tryz.isAgg114
  z127 := Tryz.sizeOf114
  v127 := Tryz.zeroValue114 }
theorem Tryz.Builder_Extra_169 : Builder.Extra Tryz.prog Tryz.lays169_ren := {
  sizeBuilder := by kernel_rfl
  liesBuilder := by kernel_rfl
  t5 := Tryz.underlying5
  a5 := Tryz.isAgg5
  z5 := Tryz.sizeOf5
  v5 := Tryz.zeroValue5
  infoByte := by kernel_rfl
  cellsByte := by kernel_rfl
  sizeByte := by kernel_rfl
  neB5 := by decide }
theorem Tryz.Builder_String_any_k (B b : Nat) (l : List UInt8) (w : World) (h : Lib.IsBuilderF 72 5 B b (Lib.byteCells l) w) (hBw : B ≤ w.heap.size) :
    Calls Tryz.prog 25 #[.pointer (some ⟨b, 0, none⟩)] w fun e w' => e = .returned (.string ⟨l.toArray⟩) ∧ (Lib.IsBuilderF 72 5 B b (Lib.byteCells l) w' ∧ Below B w w' ∧ Lib.OthersKept 5 (some b) w w') := Any.Builder_String_any_k Tryz.lays169 Tryz.Builder_Extra_169 B b l w h hBw
def Tryz.lays168_ren : Go.Shelf.Ren := ⟨fun | 168 => 123 | 240 => 38 | 242 => 128 | 276 => 61 | 278 => 130 | n => n, fun | 0 => 0 | 3 => 3 | 4 => 4 | 5 => 5 | 9 => 9 | 20 => 20 | 21 => 21 | 37 => 29 | 46 => 108 | 51 => 168 | 70 => 70 | 72 => 72 | 75 => 74 | 164 => 140 | 80 => 77 | n => n, fun | n => n⟩
theorem Tryz.lays168 : Go.Proofs.Lays.n168 Tryz.prog Tryz.lays168_ren := {
  mixed := by kernel_rfl
  f168 := Tryz.func123.trans (congrArg some (by kernel_rfl))
  f240 := Tryz.func38.trans (congrArg some (by kernel_rfl))
  f242 := Tryz.func128.trans (congrArg some (by kernel_rfl))
  f276 := Tryz.func61.trans (congrArg some (by kernel_rfl))
  f278 := Tryz.func130.trans (congrArg some (by kernel_rfl))
  t0 := Tryz.underlying0
  a0 := Tryz.isAgg0
  z0 := Tryz.sizeOf0
  v0 := Tryz.zeroValue0
  t3 := Tryz.underlying3
  a3 := Tryz.isAgg3
  z3 := Tryz.sizeOf3
  v3 := Tryz.zeroValue3
  t4 := Tryz.underlying4
  a4 := Tryz.isAgg4
  z4 := Tryz.sizeOf4
  v4 := Tryz.zeroValue4
  t5 := Tryz.underlying5
  a5 := Tryz.isAgg5
  z5 := Tryz.sizeOf5
  v5 := Tryz.zeroValue5
  t9 := Tryz.underlying9
  a9 := Tryz.isAgg9
  z9 := Tryz.sizeOf9
  v9 := Tryz.zeroValue9
  t20 := Tryz.underlying20
  a20 := Tryz.isAgg20
  z20 := Tryz.sizeOf20
  v20 := Tryz.zeroValue20
  t21 := Tryz.underlying21
  a21 := Tryz.isAgg21
  z21 := Tryz.sizeOf21
  v21 := Tryz.zeroValue21
  t37 := Tryz.underlying29
  a37 := Tryz.isAgg29
  z37 := Tryz.sizeOf29
  v37 := Tryz.zeroValue29
  t46 := Tryz.underlying108
  a46 := Tryz.isAgg108
  z46 := Tryz.sizeOf108
  v46 := Tryz.zeroValue108
  t51 := Tryz.underlying168
  a51 := Tryz.isAgg168
  z51 := Tryz.sizeOf168
  v51 := Tryz.zeroValue168
  t70 := Tryz.underlying70
  a70 := Tryz.isAgg70
  z70 := Tryz.sizeOf70
  v70 := Tryz.zeroValue70
  t72 := Tryz.underlying72
  a72 := Tryz.isAgg72
  z72 := Tryz.sizeOf72
  v72 := Tryz.zeroValue72
  t75 := Tryz.underlying74
  a75 := Tryz.isAgg74
  z75 := Tryz.sizeOf74
  v75 := Tryz.zeroValue74
  t164 := Tryz.underlying140
  a164 := Tryz.isAgg140
  z164 := Tryz.sizeOf140
  v164 := Tryz.zeroValue140 }
theorem Tryz.Builder_Extra_168 : Builder.Extra Tryz.prog Tryz.lays168_ren := {
  sizeBuilder := by kernel_rfl
  liesBuilder := by kernel_rfl
  t5 := Tryz.underlying5
  a5 := Tryz.isAgg5
  z5 := Tryz.sizeOf5
  v5 := Tryz.zeroValue5
  infoByte := by kernel_rfl
  cellsByte := by kernel_rfl
  sizeByte := by kernel_rfl
  neB5 := by decide }
theorem Tryz.Builder_WriteRune_k (B b : Nat) (bs : List Value) (r : Int) (hr0 : -2147483648 ≤ r) (hr1 : r ≤ 2147483647) (w : World) (h : Lib.IsBuilderF 72 5 B b bs w) (hlen : bs.length + 4 ≤ 140737488355328) (hBw : B ≤ w.heap.size) :
    Calls Tryz.prog 123 #[.pointer (some ⟨b, 0, none⟩), .int .i32 r] w fun e w' => e = .returned (.tuple #[.int .i64 (Lib.runeCells r).length, .nilIface]) ∧ (Lib.BuilderAtF 72 5 B b (.pointer (some ⟨b, 0, none⟩)) (bs ++ Lib.runeCells r) w' ∧ Below B w w' ∧ Lib.OthersKept 5 (some b) w w') := Any.Builder_WriteRune_k Tryz.lays168 Tryz.Builder_Extra_168 B b bs r hr0 hr1 w h hlen hBw
def Tryz.lays166_ren : Go.Shelf.Ren := ⟨fun | 166 => 24 | 240 => 38 | 276 => 61 | n => n, fun | 0 => 0 | 3 => 3 | 4 => 4 | 9 => 9 | 20 => 20 | 37 => 29 | 70 => 70 | 72 => 72 | 75 => 74 | 164 => 140 | 80 => 77 | 5 => 5 | n => n, fun | n => n⟩
theorem Tryz.lays166 : Go.Proofs.Lays.n166 Tryz.prog Tryz.lays166_ren := {
  mixed := by kernel_rfl
  f166 := Tryz.func24.trans (congrArg some (by kernel_rfl))
  f240 := Tryz.func38.trans (congrArg some (by kernel_rfl))
  f276 := Tryz.func61.trans (congrArg some (by kernel_rfl))
  t0 := Tryz.underlying0
  a0 := Tryz.isAgg0
  z0 := Tryz.sizeOf0
  v0 := Tryz.zeroValue0
  t3 := Tryz.underlying3
  a3 := Tryz.isAgg3
  z3 := Tryz.sizeOf3
  v3 := Tryz.zeroValue3
  t4 := Tryz.underlying4
  a4 := Tryz.isAgg4
  z4 := Tryz.sizeOf4
  v4 := Tryz.zeroValue4
  t9 := Tryz.underlying9
  a9 := Tryz.isAgg9
  z9 := Tryz.sizeOf9
  v9 := Tryz.zeroValue9
  t20 := Tryz.underlying20
  a20 := Tryz.isAgg20
  z20 := Tryz.sizeOf20
  v20 := Tryz.zeroValue20
  t37 := Tryz.underlying29
  a37 := Tryz.isAgg29
  z37 := Tryz.sizeOf29
  v37 := Tryz.zeroValue29
  t70 := Tryz.underlying70
  a70 := Tryz.isAgg70
  z70 := Tryz.sizeOf70
  v70 := Tryz.zeroValue70
  t72 := Tryz.underlying72
  a72 := Tryz.isAgg72
  z72 := Tryz.sizeOf72
  v72 := Tryz.zeroValue72
  t75 := Tryz.underlying74
  a75 := Tryz.isAgg74
  z75 := Tryz.sizeOf74
  v75 := Tryz.zeroValue74
  t164 := Tryz.underlying140
  a164 := Tryz.isAgg140
  z164 := Tryz.sizeOf140
  v164 := Tryz.zeroValue140 }
theorem Tryz.Builder_Extra_166 : Builder.Extra Tryz.prog Tryz.lays166_ren := {
  sizeBuilder := by kernel_rfl
  liesBuilder := by kernel_rfl
  t5 := Tryz.underlying5
  a5 := Tryz.isAgg5
  z5 := Tryz.sizeOf5
  v5 := Tryz.zeroValue5
  infoByte := by kernel_rfl
  cellsByte := by kernel_rfl
  sizeByte := by kernel_rfl
  neB5 := by decide }
theorem Tryz.Builder_WriteString_k (B b : Nat) (bs : List Value) (s : ByteArray) (w : World) (h : Lib.IsBuilderF 72 5 B b bs w) (hlen : bs.length + s.size ≤ 140737488355328) (hBw : B ≤ w.heap.size) :
    Calls Tryz.prog 24 #[.pointer (some ⟨b, 0, none⟩), .string s] w fun e w' => e = .returned (.tuple #[.int .i64 s.size, .nilIface]) ∧ (Lib.BuilderAtF 72 5 B b (.pointer (some ⟨b, 0, none⟩)) (bs ++ Lib.strCells s) w' ∧ Below B w w' ∧ Lib.OthersKept 5 (some b) w w') := Any.Builder_WriteString_k Tryz.lays166 Tryz.Builder_Extra_166 B b bs s w h hlen hBw
end Go.Proofs
set_option maxRecDepth 100000
namespace Go.Abs.Txt
open Go.RowKit Go.Proofs Go.Abs.Utf
attribute [local go_sem] Oper.semAt_some
structure Aside0 (p : Prop) : Prop where mk :: (out : p)
theorem isB_below {T e : TypeId} {B b : Nat} {bs : List Value} {w w' : World} (h : Lib.IsBuilderF T e B b bs w) (hb : Below w.heap.size w w') : Lib.IsBuilderF T e B b bs w' := by
  have key : ∀ p, Lib.BuilderAtF T e B b p bs w → Lib.BuilderAtF T e B b p bs w' := fun p h => by
    have hlt := h.lt
    obtain ⟨hB, v, hbk, hown, hne⟩ := h
    exact ⟨hB, v, (hb.block b hlt).trans hbk, hown.kept (row := none) ⟨hb.os, hb.tape, hb.output, hb.size, fun k hk _ => hb.block k hk⟩ (by cases hv : v.ownBlock <;> simp), hne⟩
  exact h.elim (fun h => .inl (key _ h)) (fun h => .inr (key _ h))
theorem gd_range (x : Int) : 0 ≤ gd x ∧ gd x ≤ 1114111 := by
  unfold gd goodB
  split
  · rename_i h
    rw [decide_eq_true_eq] at h
    omega
  · omega
def enc (l : List Int) : List UInt8 := l.flatMap fun x => Lib.encodeRune (gd x)
def encB (l : List Int) : ByteArray := ⟨(enc l).toArray⟩
theorem enc_len : ∀ l : List Int, (enc l).length ≤ 4 * l.length
  | [] => by simp [enc]
  | x :: l => by
    have h := enc_len l
    have h2 := Lib.runeCells_le (gd x)
    rw [Lib.runeCells_length] at h2
    unfold enc at h ⊢
    rw [List.flatMap_cons, List.length_append, List.length_cons]
    omega
theorem goodC (x : Int) (w : World) : Calls Tryz.prog 124 #[.int .i64 x] w fun e w' => e = .returned (.int .i64 (gd x)) ∧ Below w.heap.size w w' := by
  refine ((gdf x trivial).2 w (fun _ => False) [.int .i64 x] (fun _ h => h.elim) ⟨rfl, fun i a v h1 h2 => ?_⟩).mono ?_
  · match i, h1, h2 with
    | 0, h1, h2 =>
      obtain rfl := Option.some.inj h1
      obtain rfl := Option.some.inj h2
      exact .int _ _
  · rintro e w' ⟨v, S', rfl, hr, _, _, hb⟩
    cases hr
    exact ⟨rfl, hb⟩
/-- The cells of a row of numbers. -/
theorem intCells {w : World} {S : Nat → Prop} {l : List Int} {v : Value} (h : RV0 w S (aI l) v) : ∃ A c, v = .slice A l.length c ∧ l.length ≤ c ∧ c ≤ maxLen ∧ ∀ i, i < l.length → ∃ ad, A = some ad ∧ S ad.block ∧ w.cell? (ad.add i) = some (.int .i64 (l.getD i default)) := by
  generalize ha : aI l = a at h
  cases h with
  | sl sz n el A cap g hcap hmax hl hm hr =>
    unfold aI at ha
    injection ha with h1 h2 h3
    subst h1 h2 h3
    refine ⟨A, cap, rfl, hcap, hmax, fun i hi => ?_⟩
    obtain ⟨ad, e1, e2, e3⟩ := hm i 0 hi (by omega)
    have e4 := hr i 0 (.int .i64 (l.getD i default)) hi rfl
    generalize hg : g i 0 = u at e3 e4
    cases e4
    refine ⟨ad, e1, e2, ?_⟩
    rw [← e3]
    simp
  | _ => exact absurd ha (by unfold aI; intro h; cases h)
def SText : Sp := ⟨List Int, fun l => l.length < 4398046511104, fun l => [aI l], fun l => .st (.str (encB l))⟩
set_option maxHeartbeats 4000000 in
theorem textC (A0 : Option Addr) (c0 : Nat) (l0 : List Int) (S : Nat → Prop) (w : World) (hS : ∀ b, S b → b < w.heap.size) (hr0 : ∀ i, i < l0.length → ∃ ad, A0 = some ad ∧ S ad.block ∧ w.cell? (ad.add i) = some (.int .i64 (l0.getD i default))) (hc0 : l0.length ≤ c0) (hl : l0.length < 4398046511104) :
    Calls Tryz.prog 121 #[.slice A0 l0.length c0] w fun e w' => e = .returned (.string (encB l0)) ∧ Below w.heap.size w w' := by
  have HL := Aside0.mk hl
  have HR0 := Aside0.mk hr0
  have HC0 := Aside0.mk hc0
  have HS := Aside0.mk hS
  clear hl hr0 hc0 hS
  go_enter Tryz.func121, Tryz.ntmps121
  go_wp2
  go_loopg [8] (l0.length + 1) (fun kq v8 w' => ∃ (i : Nat), v8 = .int .i64 (i : Nat) ∧ Aside0 (i ≤ l0.length ∧ l0.length + 1 ≤ kq + i) ∧ Aside0 (Lib.IsBuilderF 72 5 w.heap.size w.heap.size (Lib.byteCells (enc (l0.take i))) w') ∧ Aside0 (Below w.heap.size w w'))
  case atStart => exact ⟨0, rfl, ⟨by omega⟩, ⟨Lib.IsBuilderF.of (Lib.fresh_isBuilder 72 5 w)⟩, ⟨(Below.refl _ w).alloc (Nat.le_refl _) _⟩⟩
  case round =>
    obtain ⟨i, rfl, HI, HO, HB⟩ := hrel
    cases gk with
    | zero => have := HI.out; omega
    | succ k1 =>
      by_cases hi : i < l0.length
      · obtain ⟨ad, ead, hsb, hcell0⟩ := HR0.out i hi
        have hcell : wr.cell? (ad.add i) = some (.int .i64 l0[i]) := by
          rw [World.cell?_of_block (w := w) (by
            have : (ad.add i).block = ad.block := by unfold Addr.add; split <;> rfl
            rw [this]
            exact HB.out.block _ (HS.out _ hsb)), hcell0]
          simp [List.getD, hi]
        clear hcell0
        subst ead
        have htk : enc (l0.take (i + 1)) = enc (l0.take i) ++ Lib.encodeRune (gd l0[i]) := by rw [List.take_succ_eq_append_getElem hi]; unfold enc; rw [List.flatMap_append]; simp
        have hln := enc_len (l0.take i)
        have hl2 : (enc (l0.take i)).length ≤ 4 * i := by rw [List.length_take] at hln; omega
        have hg := gd_range l0[i]
        have p0 : (0 ≤ (i : Int)) = True := eq_true (by omega)
        have p1 : ((i : Int) < (l0.length : Int)) = True := eq_true (by omega)
        have HTK := Aside0.mk htk
        have HL2 := Aside0.mk hl2
        have HLi := Aside0.mk hi
        have hgd := goodC l0[i]
        clear htk hln hl2
        generalize gd l0[i] = y at *
        generalize l0[i] = x at *
        have hg0 := hg.1
        have hg1 := hg.2
        have HG := Aside0.mk hg
        have HGD := Aside0.mk hgd
        clear hg hgd
        go_wp2_with (first | (go_at_call 124; refine (HGD.out _).mono ?_; rintro e w1 ⟨rfl, hb1⟩; have HB1 := Aside0.mk hb1; clear hb1) | (go_at_call 123; have hbn := Aside0.mk (HB.out.trans (HB1.out.mono HB.out.size)); refine (Tryz.Builder_WriteRune_k w.heap.size w.heap.size (Lib.byteCells (enc (l0.take i))) y (by have := HG.out; omega) (by have := HG.out; omega) _ (isB_below HO.out HB1.out) (by rw [Lib.byteCells_length]; have := HL.out; have := HL2.out; have := HLi.out; omega) hbn.out.size).mono ?_; rintro e W1 ⟨rfl, h1, b1, _⟩))
        go_roundg k1
        case measure => have := HI.out; omega
        case rel => exact ⟨i + 1, (by first | rfl | (have := HL.out; have := HLi.out; congr 1; unfold wrap64; omega) | (have := HL.out; have := HLi.out; simp [wrap64]; omega)), ⟨by have := HI.out; omega⟩, ⟨by rw [HTK.out, Lib.byteCells_append, Lib.byteCells_encodeRune]; exact Or.inr h1⟩, ⟨hbn.out.trans b1⟩⟩
      · obtain rfl : i = l0.length := by have := HI.out; omega
        have ho := HO.out
        rw [List.take_length] at ho
        clear HO
        have HO := Aside0.mk ho
        clear ho
        go_wp2_with (go_at_call 25; refine (Tryz.Builder_String_any_k w.heap.size w.heap.size (enc l0) _ HO.out (HB.out.size)).mono ?_; rintro e W1 ⟨rfl, _, b1, _⟩)
        go_ret
        exact ⟨rfl, HB.out.trans b1⟩
theorem text : SpOK Tryz.prog 121 SText := fun (l : List Int) hl => by
  refine ⟨⟨_, Tryz.func121, rfl, rfl⟩, fun w S vs hS hv => ?_⟩
  obtain ⟨hl1, hv2⟩ := hv
  match vs, hl1, hv2 with
  | [v], hl1, hv2 =>
    obtain ⟨A, c, rfl, h1, h2, h3⟩ := intCells (hv2 0 _ _ rfl rfl)
    refine (textC A c l S w hS h3 h1 hl).mono ?_
    rintro e w' ⟨rfl, hb⟩
    exact ⟨_, S, rfl, .str _, fun _ q => q, fun b q => ⟨Nat.lt_of_lt_of_le (hS b q) hb.size, .inl q⟩, hb⟩
end Go.Abs.Txt
set_option maxRecDepth 100000
namespace Go.Abs.Txt
open Go.RowKit Go.Proofs Go.Abs.Utf
open Go.Lib (decodeL decodeL_width decodeL_N decodeN decodeN_ascii decodeN_cont decodeN_shape decodeL_drop encodeRune encodeRuneZ encodeRuneZ_one encodeRuneZ_two encodeRuneZ_three encodeRuneZ_four encodeRuneZ_length validD validD_step encode_decode)
theorem goodB_gd (x : Int) : goodB (gd x) = true := by
  unfold gd
  split
  · assumption
  · decide
theorem byte_num (n : Nat) (h : n < 256) : (n.toUInt8).toNat = n := by
  simp [Nat.toUInt8, UInt8.toNat_ofNat']
  omega
set_option maxRecDepth 100000 in
set_option maxHeartbeats 4000000 in
theorem decode_encodeN (n : Nat) (h : n ≤ 1114111 ∧ (n < 55296 ∨ 57343 < n)) (t : List UInt8) : decodeL (encodeRune (n : Int) ++ t) = (n, (encodeRune (n : Int)).length) := by
  rw [decodeL_N]
  unfold encodeRune
  by_cases h1 : n ≤ 127
  · rw [encodeRuneZ_one (by omega) (by omega)]
    simp only [List.map_cons, List.map_nil, List.cons_append, List.nil_append, List.getD_cons_zero, List.length_cons, List.length_nil, Int.toNat_natCast]
    rw [byte_num n (by omega), decodeN_ascii _ _ _ _ _ (by omega)]
  by_cases h2 : n ≤ 2047
  · rw [encodeRuneZ_two (by omega) (by omega)]
    have e0 : (192 + (n : Int) / 64).toNat = 192 + n / 64 := by omega
    have e1 : (128 + (n : Int) % 64).toNat = 128 + n % 64 := by omega
    simp only [List.map_cons, List.map_nil, List.cons_append, List.nil_append, List.getD_cons_zero, List.getD_cons_succ, List.length_cons, List.length_nil, e0, e1]
    rw [byte_num (192 + n / 64) (by omega), byte_num (128 + n % 64) (by omega)]
    unfold decodeN
    rw [if_neg (by omega), if_pos (by omega), if_pos (by omega)]
    refine Prod.ext ?_ rfl
    show _ = n
    omega
  by_cases h3 : n ≤ 65535
  · rw [encodeRuneZ_three (by omega)]
    have e0 : (224 + (n : Int) / 4096).toNat = 224 + n / 4096 := by omega
    have e1 : (128 + (n : Int) / 64 % 64).toNat = 128 + n / 64 % 64 := by omega
    have e2 : (128 + (n : Int) % 64).toNat = 128 + n % 64 := by omega
    simp only [List.map_cons, List.map_nil, List.cons_append, List.nil_append, List.getD_cons_zero, List.getD_cons_succ, List.length_cons, List.length_nil, e0, e1, e2]
    rw [byte_num (224 + n / 4096) (by omega), byte_num (128 + n / 64 % 64) (by omega), byte_num (128 + n % 64) (by omega)]
    unfold decodeN
    rw [if_neg (by omega), if_neg (by omega), if_pos (by omega), if_pos (by omega)]
    refine Prod.ext ?_ rfl
    show _ = n
    omega
  · rw [encodeRuneZ_four (by omega) (by omega)]
    have e0 : (240 + (n : Int) / 262144).toNat = 240 + n / 262144 := by omega
    have e1 : (128 + (n : Int) / 4096 % 64).toNat = 128 + n / 4096 % 64 := by omega
    have e2 : (128 + (n : Int) / 64 % 64).toNat = 128 + n / 64 % 64 := by omega
    have e3 : (128 + (n : Int) % 64).toNat = 128 + n % 64 := by omega
    simp only [List.map_cons, List.map_nil, List.cons_append, List.nil_append, List.getD_cons_zero, List.getD_cons_succ, List.length_cons, List.length_nil, e0, e1, e2, e3]
    rw [byte_num (240 + n / 262144) (by omega), byte_num (128 + n / 4096 % 64) (by omega), byte_num (128 + n / 64 % 64) (by omega), byte_num (128 + n % 64) (by omega)]
    unfold decodeN
    rw [if_neg (by omega), if_neg (by omega), if_neg (by omega), if_pos (by omega), if_pos (by omega)]
    refine Prod.ext ?_ rfl
    show _ = n
    omega
theorem encLen (r : Int) : 1 ≤ (encodeRune r).length ∧ (encodeRune r).length ≤ 4 := by
  unfold encodeRune
  rw [List.length_map]
  exact encodeRuneZ_length r
theorem decode_encode (r : Int) (h : goodB r = true) (t : List UInt8) : decodeL (encodeRune r ++ t) = (r.toNat, (encodeRune r).length) := by
  have h := of_decide_eq_true h
  obtain ⟨n, rfl⟩ : ∃ n : Nat, r = n := ⟨r.toNat, by omega⟩
  rw [decode_encodeN n (by omega) t]
  rfl
theorem enc_long (r : Int) (h : (encodeRune r).length = 1) : 0 ≤ r ∧ r ≤ 127 := by
  unfold encodeRune encodeRuneZ at h
  repeat' split at h
  all_goals first | assumption | simp at h
theorem enc_ne (r : Int) : encodeRune r ≠ [] := by
  intro h
  have := (encLen r).1
  rw [h] at this
  simp at this
theorem enc_cons (x : Int) (l : List Int) : enc (x :: l) = encodeRune (gd x) ++ enc l := rfl
theorem valid_enc : ∀ l : List Int, validD (enc l) = true
  | [] => rfl
  | x :: l => by
    have hg := gd_range x
    rw [validD_step _ (by rw [enc_cons]; intro h; exact enc_ne _ (List.append_eq_nil_iff.1 h).1), enc_cons, decode_encode _ (goodB_gd x)]
    rw [if_neg (by
      rintro ⟨h1, h2⟩
      have := enc_long _ h2
      simp only at h1
      omega)]
    simp only [List.drop_left]
    exact valid_enc l
end Go.Abs.Txt
set_option maxRecDepth 100000
namespace Go.Abs.Txt
open Go.RowKit Go.Proofs Go.Abs.Utf
/-- Go's UTF-8 tables lie in the world. -/
def UT (w : World) : Prop := Lib.Utf8Tabs (Tryz.lays196_ren.g 3) (Tryz.lays196_ren.g 4) w
def SWhole : Sp := ⟨ByteArray, fun s => s.size ≤ 9223372036854775807, fun s => [.str s], fun s => .st (.sb (Lib.validD s.data.toList))⟩
theorem validS : SpOKT UT Tryz.prog 23 SWhole := fun (s : ByteArray) hs => by
  refine ⟨⟨_, Tryz.func23, by decide +kernel, rfl⟩, fun w S vs hT hlt hv => ?_⟩
  obtain ⟨hvl, hv⟩ := hv
  match vs, hvl, hv with
  | [u1], _, hv =>
    have g1 := hv 0 _ _ rfl rfl
    cases g1
    refine (Tryz.utf8_ValidString s w hs (hT w (Below.refl _ _))).mono ?_
    rintro e w' ⟨he, hb⟩
    exact ⟨_, S, he, .sb _, fun b h => h, fun b h => ⟨Nat.lt_of_lt_of_le (hlt b h) hb.size, .inl h⟩, hb⟩
theorem whole : SpOKT UT Tryz.prog 11 SWhole := fun (s : ByteArray) hs => by
  have hC : COKT Tryz.prog UT (cfg [(23, SWhole)]) := Ty.ty.cfgT ⟨validS, trivial⟩
  refine FnT.ofF hC Tryz.func11 Tryz.ntmps11 rfl rfl rfl ?_
  (repeat' first | (with_reducible exact trivial) | (with_reducible rfl) | (refine And.intro ?_ ?_) | (refine Need.mk ?_) | exact True.intro | (first | (refine ⟨_, Told.refl _, ?_, ?_⟩) | (refine ⟨⟨_, _⟩, Told.refl _, ?_, ?_⟩) | (refine ⟨⟨_, _, _⟩, Told.refl _, ?_, ?_⟩) | (refine ⟨⟨_, _, _, _⟩, Told.refl _, ?_, ?_⟩) | (refine ⟨⟨_, _, _, _, _⟩, Told.refl _, ?_, ?_⟩) | (refine ⟨(), Told.refl _, ?_, ?_⟩)) | (with_reducible intro _) | (refine fun (_ : Bool) => ?_))
  exact hs
end Go.Abs.Txt
set_option maxRecDepth 100000
namespace Go.Abs.Coll
open Go.RowKit Go.Proofs Go.Abs.Tab Go.Abs.Dest Go.Abs.Span
/-- Those of numbers. -/
def two (l : List Bf) : List Bf := l.filter fun b => b.n == 2
def ents (l : List Bf) : List Bf := if EB.canon l = true then two l else []
theorem two_next {l : List Bf} {k : Nat} (hk : k < l.length) : two (l.take (k + 1)) = if (l.getD k default).n = 2 then two (l.take k) ++ [l.getD k default] else two (l.take k) := by
  unfold two
  rw [List.take_succ_eq_append_getElem hk, List.filter_append, getB hk]
  by_cases h : l[k].n = 2
  · rw [if_pos h]
    simp [List.filter_cons, h]
  · rw [if_neg h]
    simp [List.filter_cons, h]
theorem two_len (l : List Bf) : (two l).length ≤ l.length := List.length_filter_le _ _
def SEnts : Sp := ⟨Tbl, fun t => t.bfs.length ≤ 1000000, fun t => [.agg (cT t)], fun t => .row 55 4 (ents t.bfs).length (els cBf (ents t.bfs))⟩
/-- How many codes there are. -/
def cnt : List Bf → Int
  | [] => 0
  | b :: l => (b.hi - b.lo + 1) + cnt l
theorem cnt_snoc (l : List Bf) (b : Bf) : cnt (l ++ [b]) = cnt l + (b.hi - b.lo + 1) := by
  induction l with
  | nil => simp [cnt]
  | cons x l ih => simp only [List.cons_append, cnt, ih]; omega
theorem ents_sane {l : List Bf} : ∀ x ∈ ents l, sane x = true ∧ x.n = 2 ∧ x ∈ l := by
  intro x hx
  unfold ents at hx
  split at hx
  · rename_i hc
    obtain ⟨h1, h2⟩ := List.mem_filter.1 hx
    exact ⟨((EB.canon_iff l).1 hc).1 x h1, by simpa using h2, h1⟩
  · cases hx
theorem ents_len (l : List Bf) : (ents l).length ≤ l.length := by
  unfold ents
  split
  · exact two_len l
  · exact Nat.zero_le _
theorem cnt_rng {l : List Bf} (h : ∀ x ∈ l, sane x = true) : 0 ≤ cnt l ∧ cnt l ≤ 65536 * l.length := by
  induction l with
  | nil => exact ⟨Int.le_refl _, Int.le_refl _⟩
  | cons x l ih =>
    have i := ih (fun y hy => h y (List.mem_cons_of_mem _ hy))
    have r := rngB (h x List.mem_cons_self)
    simp only [cnt, List.length_cons]
    omega
def SCnt : Sp := ⟨Tbl, fun t => t.bfs.length ≤ 1000000, fun t => [.agg (cT t)], fun t => .st (.int .i64 (cnt (ents t.bfs)))⟩
/-- The table by which codes are their numbers. -/
def modeT (w : Int) : Int := if (if 1 < w then 1 else w) > 0 then (if 1 < w then 1 else w) else 0
def nameH : ByteArray := ⟨#[73, 100, 101, 110, 116, 105, 116, 121, 45, 72]⟩
def nameV : ByteArray := ⟨#[73, 100, 101, 110, 116, 105, 116, 121, 45, 86]⟩
def identT (w : Int) : Tbl := ⟨if modeT w = 0 then nameH else nameV, modeT w, [⟨2, 0, 65535⟩], [⟨2, 0, 65535, 0⟩], [], []⟩
theorem modeT_rng (w : Int) : modeT w = 0 ∨ modeT w = 1 := by
  unfold modeT
  repeat' split
  all_goals omega
def SIdent : Sp := ⟨Int, fun _ => True, fun w => [.int .i64 w], fun w => .st (.agg (cT (identT w)))⟩
set_option maxHeartbeats 4000000 in
theorem ident : SpOK Tryz.prog 14 SIdent := fun (w : Int) _ => by
  have hC := base
  have e1 : IntKind.i64.wrap (((2 : Nat) : Int) - 1) = 1 := by decide
  have hraw : (if (if IntKind.i64.wrap (((2 : Nat) : Int) - 1) < w then IntKind.i64.wrap (((2 : Nat) : Int) - 1) else w) > 0 then (if IntKind.i64.wrap (((2 : Nat) : Int) - 1) < w then IntKind.i64.wrap (((2 : Nat) : Int) - 1) else w) else 0) = modeT w := by rw [e1]; rfl
  have hr := modeT_rng w
  ((refine Fn.ofF hC Tryz.func14 Tryz.ntmps14 rfl rfl rfl ?_); (repeat' first | (with_reducible exact trivial) | (with_reducible rfl) | (refine And.intro ?_ ?_) | (refine Need.mk ?_) | exact True.intro | (first | (refine ⟨_, Told.refl _, ?_, ?_⟩) | (refine ⟨⟨_, _⟩, Told.refl _, ?_, ?_⟩) | (refine ⟨⟨_, _, _⟩, Told.refl _, ?_, ?_⟩) | (refine ⟨⟨_, _, _, _⟩, Told.refl _, ?_, ?_⟩) | (refine ⟨⟨_, _, _, _, _⟩, Told.refl _, ?_, ?_⟩) | (refine ⟨(), Told.refl _, ?_, ?_⟩)) | (with_reducible intro _) | (refine fun (_ : Bool) => ?_)))
  · rw [hraw]
    omega
  · rw [hraw]
    omega
  · simp only [hraw]
    have hi : identT w = ⟨if modeT w = 0 then nameH else nameV, modeT w, [⟨2, 0, 65535⟩], [⟨2, 0, 65535, 0⟩], [], []⟩ := rfl
    rcases hr with h | h
    · rw [h] at hi ⊢
      (repeat' first | (with_reducible exact trivial) | (with_reducible rfl) | (refine And.intro ?_ ?_) | (refine Need.mk ?_) | exact True.intro | (first | (refine ⟨_, Told.refl _, ?_, ?_⟩) | (refine ⟨⟨_, _⟩, Told.refl _, ?_, ?_⟩) | (refine ⟨⟨_, _, _⟩, Told.refl _, ?_, ?_⟩) | (refine ⟨⟨_, _, _, _⟩, Told.refl _, ?_, ?_⟩) | (refine ⟨⟨_, _, _, _, _⟩, Told.refl _, ?_, ?_⟩) | (refine ⟨(), Told.refl _, ?_, ?_⟩)) | (with_reducible intro _) | (refine fun (_ : Bool) => ?_))
      all_goals rw [hi]
      all_goals first
        | rfl
        | exact els_of cR_emb (n := 0) (elt_list [(⟨2, 0, 65535⟩ : Rct)]) _ ‹_›
        | exact els_of cSp_emb (n := 0) (elt_list [(⟨2, 0, 65535, 0⟩ : Spn)]) _ ‹_›
    · rw [h] at hi ⊢
      (repeat' first | (with_reducible exact trivial) | (with_reducible rfl) | (refine And.intro ?_ ?_) | (refine Need.mk ?_) | exact True.intro | (first | (refine ⟨_, Told.refl _, ?_, ?_⟩) | (refine ⟨⟨_, _⟩, Told.refl _, ?_, ?_⟩) | (refine ⟨⟨_, _, _⟩, Told.refl _, ?_, ?_⟩) | (refine ⟨⟨_, _, _, _⟩, Told.refl _, ?_, ?_⟩) | (refine ⟨⟨_, _, _, _, _⟩, Told.refl _, ?_, ?_⟩) | (refine ⟨(), Told.refl _, ?_, ?_⟩)) | (with_reducible intro _) | (refine fun (_ : Bool) => ?_))
      all_goals rw [hi]
      all_goals first
        | rfl
        | exact els_of cR_emb (n := 0) (elt_list [(⟨2, 0, 65535⟩ : Rct)]) _ ‹_›
        | exact els_of cSp_emb (n := 0) (elt_list [(⟨2, 0, 65535, 0⟩ : Spn)]) _ ‹_›
/-- Does one lead to some units? -/
def hit (u : List Int) (b : Bf) : Bool := decide (b.to.length = u.length ∧ (∀ j, j < u.length - 1 → b.to.getD j default = u.getD j default) ∧ lastI b.to ≤ lastI u ∧ lastI u - lastI b.to ≤ b.hi - b.lo)
theorem hit_iff (u : List Int) (b : Bf) : hit u b = true ↔ (b.to.length = u.length ∧ (∀ j, j < u.length - 1 → b.to.getD j default = u.getD j default) ∧ lastI b.to ≤ lastI u ∧ lastI u - lastI b.to ≤ b.hi - b.lo) := decide_eq_true_iff
def backE (l : List Bf) (u : List Int) : Option Int := (l.find? (hit u)).map fun b => b.lo + (lastI u - lastI b.to)
theorem backE_none {l : List Bf} {u : List Int} (h : ∀ j, j < l.length → hit u (l.getD j default) = false) : backE l u = none := by
  unfold backE
  rw [List.find?_eq_none.2]
  · rfl
  · intro x hx
    obtain ⟨j, hj, rfl⟩ := List.getElem_of_mem hx
    have := h j hj
    rw [getB hj] at this
    rw [this]
    decide
theorem backE_some {l : List Bf} {u : List Int} {k : Nat} (hk : k < l.length) (h : ∀ j, j < k → hit u (l.getD j default) = false) (hh : hit u (l.getD k default) = true) : backE l u = some ((l.getD k default).lo + (lastI u - lastI (l.getD k default).to)) := by
  unfold backE
  have : l.find? (hit u) = some (l.getD k default) := by
    rw [List.find?_eq_some_iff_append]
    refine ⟨hh, l.take k, l.drop (k + 1), ?_, fun x hx => ?_⟩
    · rw [getB hk, List.getElem_cons_drop, List.take_append_drop]
    · obtain ⟨j, hj, rfl⟩ := List.getElem_of_mem hx
      rw [List.length_take] at hj
      have := h j (by omega)
      rw [getB (by omega)] at this
      rw [List.getElem_take, this]
      rfl
  rw [this]
  rfl
def SBack : Sp := ⟨Tbl × List Int, fun (t, u) => t.bfs.length ≤ 1000000 ∧ u.length < 4611686018427387904 ∧ ∀ x ∈ u, -9223372036854775808 ≤ x ∧ x ≤ 9223372036854775807, fun (t, u) => [.agg (cT t), aI u], fun (t, u) => rI (backE (ents t.bfs) u)⟩
end Go.Abs.Coll
set_option maxRecDepth 100000
namespace Go.Abs.Coll
open Go.RowKit Go.Proofs Go.Abs.Tab Go.Abs.Dest Go.Abs.Span
def SSrc1 : Sp := ⟨Tbl × Int × Int, fun (t, n, v) => t.cids.length < 4611686018427387904, fun (t, n, v) => [aCode n v, .rptr (cT t)], fun (t, n, v) => rI ((ES true).find t.cids n v)⟩
def SSrc2 : Sp := ⟨Tbl × Int × Int, fun (t, n, v) => t.nots.length < 4611686018427387904, fun (t, n, v) => [aCode n v, .rptr (cT t)], fun (t, n, v) => rI ((ES false).find t.nots n v)⟩
set_option maxHeartbeats 4000000 in
theorem src1 : SpOK Tryz.prog 76 SSrc1 := fun ⟨t, n, v⟩ hl => by
  have hC : COK Tryz.prog (cfg [(77, SFindS)]) := Ty.ty.cfg ⟨Span.find, trivial⟩
  ((refine Fn.ofF hC Tryz.func76 Tryz.ntmps76 rfl rfl rfl ?_); (repeat' first | (with_reducible exact trivial) | (with_reducible rfl) | (refine And.intro ?_ ?_) | (refine Need.mk ?_) | exact True.intro | (first | (refine ⟨_, Told.refl _, ?_, ?_⟩) | (refine ⟨⟨_, _⟩, Told.refl _, ?_, ?_⟩) | (refine ⟨⟨_, _, _⟩, Told.refl _, ?_, ?_⟩) | (refine ⟨⟨_, _, _, _⟩, Told.refl _, ?_, ?_⟩) | (refine ⟨⟨_, _, _, _, _⟩, Told.refl _, ?_, ?_⟩) | (refine ⟨(), Told.refl _, ?_, ?_⟩)) | (with_reducible intro _) | (refine fun (_ : Bool) => ?_)))
  exact hl
set_option maxHeartbeats 4000000 in
theorem src2 : SpOK Tryz.prog 78 SSrc2 := fun ⟨t, n, v⟩ hl => by
  have hC : COK Tryz.prog (cfg [(77, SFindS)]) := Ty.ty.cfg ⟨Span.find, trivial⟩
  ((refine Fn.ofF hC Tryz.func78 Tryz.ntmps78 rfl rfl rfl ?_); (repeat' first | (with_reducible exact trivial) | (with_reducible rfl) | (refine And.intro ?_ ?_) | (refine Need.mk ?_) | exact True.intro | (first | (refine ⟨_, Told.refl _, ?_, ?_⟩) | (refine ⟨⟨_, _⟩, Told.refl _, ?_, ?_⟩) | (refine ⟨⟨_, _, _⟩, Told.refl _, ?_, ?_⟩) | (refine ⟨⟨_, _, _, _⟩, Told.refl _, ?_, ?_⟩) | (refine ⟨⟨_, _, _, _, _⟩, Told.refl _, ?_, ?_⟩) | (refine ⟨(), Told.refl _, ?_, ?_⟩)) | (with_reducible intro _) | (refine fun (_ : Bool) => ?_)))
  exact hl
theorem cT_emb : Emb cT 6 := fun x => ⟨rfl, ⟨⟨rfl⟩, ⟨rfl⟩, ⟨⟨rfl⟩, fun _ _ => (cR_emb _).2.1⟩, ⟨⟨rfl⟩, fun _ _ => (cSp_emb _).2.1⟩, ⟨⟨rfl⟩, fun _ _ => (cSp_emb _).2.1⟩, ⟨⟨rfl⟩, fun _ _ => (cBf_emb _).2.1⟩, trivial⟩, rfl⟩
theorem srcEls (t : Tbl) : ∀ i, i < 2 → cond (ones (elt [[.int .i64 1, .fn 76 [.rptr (cT t)]], [.int .i64 2, .fn 78 [.rptr (cT t)]]] i)) (subs0 (elt [[.int .i64 1, .fn 76 [.rptr (cT t)]], [.int .i64 2, .fn 78 [.rptr (cT t)]]] i) (elt [[.int .i64 1, .fn 76 [.rptr (cT t)]], [.int .i64 2, .fn 78 [.rptr (cT t)]]] i)) False := fun i hi => by
  have hc : i = 0 ∨ i = 1 := by omega
  rcases hc with rfl | rfl
  · exact ⟨⟨rfl⟩, ⟨(cT_emb t).2.1, trivial⟩, trivial⟩
  · exact ⟨⟨rfl⟩, ⟨(cT_emb t).2.1, trivial⟩, trivial⟩
def SSrcs : Sp := ⟨Tbl, fun _ => True, fun t => [.agg (cT t)], fun t => .row 130 2 2 (elt [[.int .i64 1, .fn 76 [.rptr (cT t)]], [.int .i64 2, .fn 78 [.rptr (cT t)]]])⟩
set_option maxHeartbeats 4000000 in
theorem srcs : SpOK Tryz.prog 54 SSrcs := fun (t : Tbl) _ => by
  have hC := base
  ((refine Fn.ofF hC Tryz.func54 Tryz.ntmps54 rfl rfl rfl ?_); (repeat' first | (with_reducible exact trivial) | (with_reducible rfl) | (refine And.intro ?_ ?_) | (refine Need.mk ?_) | exact True.intro | (first | (refine ⟨_, Told.refl _, ?_, ?_⟩) | (refine ⟨⟨_, _⟩, Told.refl _, ?_, ?_⟩) | (refine ⟨⟨_, _, _⟩, Told.refl _, ?_, ?_⟩) | (refine ⟨⟨_, _, _, _⟩, Told.refl _, ?_, ?_⟩) | (refine ⟨⟨_, _, _, _, _⟩, Told.refl _, ?_, ?_⟩) | (refine ⟨(), Told.refl _, ?_, ?_⟩)) | (with_reducible intro _) | (refine fun (_ : Bool) => ?_)))
  rename_i i hi
  have hi : i < 2 := hi
  have hc : i = 0 ∨ i = 1 := by omega
  rcases hc with rfl | rfl
  · exact srcEls t 0 (by decide)
  · exact srcEls t 1 (by decide)
/-- A code's number, and where it is from. -/
def numT (t : Tbl) (n v : Int) : Int × Int := match (ES true).find t.cids n v with
  | some x => (x, 1)
  | none => match (ES false).find t.nots n v with
    | some x => (x, 2)
    | none => (0, 0)
def SNum : Sp := ⟨Tbl × Int × Int, fun (t, n, v) => t.cids.length < 4611686018427387904 ∧ t.nots.length < 4611686018427387904, fun (t, n, v) => [.agg (cT t), aCode n v], fun (t, n, v) => .st (.tup [.int .i64 (numT t n v).1, .int .i64 (numT t n v).2])⟩
set_option maxHeartbeats 16000000 in
theorem num : SpOK Tryz.prog 31 SNum := fun ⟨t, n, v⟩ ⟨h1, h2⟩ => by
  have hC : COK Tryz.prog (cfg [(54, SSrcs), (76, SSrc1), (78, SSrc2)]) := Ty.ty.cfg ⟨srcs, src1, src2, trivial⟩
  ((refine Fn.ofF hC Tryz.func31 Tryz.ntmps31 rfl rfl rfl ?_); (repeat' first | (with_reducible exact trivial) | (with_reducible rfl) | (refine And.intro ?_ ?_) | (refine Need.mk ?_) | exact True.intro | (first | (refine ⟨_, Told.refl _, ?_, ?_⟩) | (refine ⟨⟨_, _⟩, Told.refl _, ?_, ?_⟩) | (refine ⟨⟨_, _, _⟩, Told.refl _, ?_, ?_⟩) | (refine ⟨⟨_, _, _, _⟩, Told.refl _, ?_, ?_⟩) | (refine ⟨⟨_, _, _, _, _⟩, Told.refl _, ?_, ?_⟩) | (refine ⟨(), Told.refl _, ?_, ?_⟩)) | (with_reducible intro _) | (refine fun (_ : Bool) => ?_)))
  refine AW.loop (I := fun k : Nat => ⟨29, [(3, .ptr 0 0), (11, .own 1), (12, .int .i64 2), (13, .int .i64 k)], [.box 44 [.int .i64 n, .int .i64 v], .row 130 2 2 (elt [[.int .i64 1, .fn 76 [.rptr (cT t)]], [.int .i64 2, .fn 78 [.rptr (cT t)]]])]⟩) (fun k => k ≤ 2 ∧ (0 < k → (ES true).find t.cids n v = none) ∧ (1 < k → (ES false).find t.nots n v = none)) (fun k => 2 - k) 0 ⟨Nat.zero_le _, fun h => by omega, fun h => by omega⟩ ?_ ?_
  · (repeat' first | (with_reducible exact trivial) | (with_reducible rfl) | (refine And.intro ?_ ?_) | (refine Need.mk ?_) | exact True.intro | (first | (refine ⟨_, Told.refl _, ?_, ?_⟩) | (refine ⟨⟨_, _⟩, Told.refl _, ?_, ?_⟩) | (refine ⟨⟨_, _, _⟩, Told.refl _, ?_, ?_⟩) | (refine ⟨⟨_, _, _, _⟩, Told.refl _, ?_, ?_⟩) | (refine ⟨⟨_, _, _, _, _⟩, Told.refl _, ?_, ?_⟩) | (refine ⟨(), Told.refl _, ?_, ?_⟩)) | (with_reducible intro _) | (refine fun (_ : Bool) => ?_))
    all_goals first | rfl | exact srcEls t _ ‹_›
  · intro k ⟨hk, g1, g2⟩
    have hc : k = 0 ∨ k = 1 ∨ k = 2 := by omega
    rcases hc with rfl | rfl | rfl
    · cases hf : (ES true).find t.cids n v with
      | some x =>
        have hn : numT t n v = (x, 1) := by unfold numT; rw [hf]
        ((refine AW.byF ‹_› ?_); (repeat' first | (with_reducible exact trivial) | (with_reducible rfl) | (refine And.intro ?_ ?_) | (refine Need.mk ?_) | exact True.intro | (first | (refine ⟨_, Told.refl _, ?_, ?_⟩) | (refine ⟨⟨_, _⟩, Told.refl _, ?_, ?_⟩) | (refine ⟨⟨_, _, _⟩, Told.refl _, ?_, ?_⟩) | (refine ⟨⟨_, _, _, _⟩, Told.refl _, ?_, ?_⟩) | (refine ⟨⟨_, _, _, _, _⟩, Told.refl _, ?_, ?_⟩) | (refine ⟨(), Told.refl _, ?_, ?_⟩)) | (with_reducible intro _) | (refine fun (_ : Bool) => ?_)))
        all_goals first | omega | exact h1 | decide | skip
        all_goals first | (exact absurd ‹((ES true).find t.cids n v).isSome = false› (by rw [hf]; simp)) | (exact absurd ‹decide (((0 : Nat) : Int) < 2) = false› (by decide)) | skip
        all_goals (rw [hn]; try first | rfl | (rw [hf]; rfl))
      | none =>
        ((refine AW.byF ‹_› ?_); (repeat' first | (with_reducible exact trivial) | (with_reducible rfl) | (refine And.intro ?_ ?_) | (refine Need.mk ?_) | exact True.intro | (first | (refine ⟨_, Told.refl _, ?_, ?_⟩) | (refine ⟨⟨_, _⟩, Told.refl _, ?_, ?_⟩) | (refine ⟨⟨_, _, _⟩, Told.refl _, ?_, ?_⟩) | (refine ⟨⟨_, _, _, _⟩, Told.refl _, ?_, ?_⟩) | (refine ⟨⟨_, _, _, _, _⟩, Told.refl _, ?_, ?_⟩) | (refine ⟨(), Told.refl _, ?_, ?_⟩)) | (with_reducible intro _) | (refine fun (_ : Bool) => ?_)))
        all_goals first | omega | exact h1 | decide | skip
        all_goals first | (exact absurd ‹((ES true).find t.cids n v).isSome = true› (by rw [hf]; decide)) | (exact absurd ‹decide (((0 : Nat) : Int) < 2) = false› (by decide)) | skip
        any_goals (refine Exists.intro (1) (And.intro ?_ (And.intro ?_ ?_)); all_goals (repeat' first | (with_reducible exact trivial) | (with_reducible rfl) | (refine And.intro ?_ ?_) | (refine Need.mk ?_) | exact True.intro | (first | (refine ⟨_, Told.refl _, ?_, ?_⟩) | (refine ⟨⟨_, _⟩, Told.refl _, ?_, ?_⟩) | (refine ⟨⟨_, _, _⟩, Told.refl _, ?_, ?_⟩) | (refine ⟨⟨_, _, _, _⟩, Told.refl _, ?_, ?_⟩) | (refine ⟨⟨_, _, _, _, _⟩, Told.refl _, ?_, ?_⟩) | (refine ⟨(), Told.refl _, ?_, ?_⟩)) | (with_reducible intro _) | (refine fun (_ : Bool) => ?_)))
        all_goals first
          | rfl
          | exact srcEls t _ ‹_›
          | decide
          | exact fun _ => hf
          | exact fun h => absurd h (by decide)
          | omega
    · have g1 := g1 (by decide)
      cases hf : (ES false).find t.nots n v with
      | some x =>
        have hn : numT t n v = (x, 2) := by unfold numT; rw [g1, hf]
        ((refine AW.byF ‹_› ?_); (repeat' first | (with_reducible exact trivial) | (with_reducible rfl) | (refine And.intro ?_ ?_) | (refine Need.mk ?_) | exact True.intro | (first | (refine ⟨_, Told.refl _, ?_, ?_⟩) | (refine ⟨⟨_, _⟩, Told.refl _, ?_, ?_⟩) | (refine ⟨⟨_, _, _⟩, Told.refl _, ?_, ?_⟩) | (refine ⟨⟨_, _, _, _⟩, Told.refl _, ?_, ?_⟩) | (refine ⟨⟨_, _, _, _, _⟩, Told.refl _, ?_, ?_⟩) | (refine ⟨(), Told.refl _, ?_, ?_⟩)) | (with_reducible intro _) | (refine fun (_ : Bool) => ?_)))
        all_goals first | omega | exact h2 | decide | skip
        all_goals first | (exact absurd ‹((ES false).find t.nots n v).isSome = false› (by rw [hf]; simp)) | (exact absurd ‹decide (((1 : Nat) : Int) < 2) = false› (by decide)) | skip
        all_goals (rw [hn]; try first | rfl | (rw [hf]; rfl))
      | none =>
        ((refine AW.byF ‹_› ?_); (repeat' first | (with_reducible exact trivial) | (with_reducible rfl) | (refine And.intro ?_ ?_) | (refine Need.mk ?_) | exact True.intro | (first | (refine ⟨_, Told.refl _, ?_, ?_⟩) | (refine ⟨⟨_, _⟩, Told.refl _, ?_, ?_⟩) | (refine ⟨⟨_, _, _⟩, Told.refl _, ?_, ?_⟩) | (refine ⟨⟨_, _, _, _⟩, Told.refl _, ?_, ?_⟩) | (refine ⟨⟨_, _, _, _, _⟩, Told.refl _, ?_, ?_⟩) | (refine ⟨(), Told.refl _, ?_, ?_⟩)) | (with_reducible intro _) | (refine fun (_ : Bool) => ?_)))
        all_goals first | omega | exact h2 | decide | skip
        all_goals first | (exact absurd ‹((ES false).find t.nots n v).isSome = true› (by rw [hf]; decide)) | (exact absurd ‹decide (((1 : Nat) : Int) < 2) = false› (by decide)) | skip
        any_goals (refine Exists.intro (2) (And.intro ?_ (And.intro ?_ ?_)); all_goals (repeat' first | (with_reducible exact trivial) | (with_reducible rfl) | (refine And.intro ?_ ?_) | (refine Need.mk ?_) | exact True.intro | (first | (refine ⟨_, Told.refl _, ?_, ?_⟩) | (refine ⟨⟨_, _⟩, Told.refl _, ?_, ?_⟩) | (refine ⟨⟨_, _, _⟩, Told.refl _, ?_, ?_⟩) | (refine ⟨⟨_, _, _, _⟩, Told.refl _, ?_, ?_⟩) | (refine ⟨⟨_, _, _, _, _⟩, Told.refl _, ?_, ?_⟩) | (refine ⟨(), Told.refl _, ?_, ?_⟩)) | (with_reducible intro _) | (refine fun (_ : Bool) => ?_)))
        all_goals first
          | rfl
          | exact srcEls t _ ‹_›
          | decide
          | exact fun _ => hf
          | exact fun _ => g1
          | omega
    · have hn : numT t n v = (0, 0) := by unfold numT; rw [g1 (by decide), g2 (by decide)]
      ((refine AW.byF ‹_› ?_); (repeat' first | (with_reducible exact trivial) | (with_reducible rfl) | (refine And.intro ?_ ?_) | (refine Need.mk ?_) | exact True.intro | (first | (refine ⟨_, Told.refl _, ?_, ?_⟩) | (refine ⟨⟨_, _⟩, Told.refl _, ?_, ?_⟩) | (refine ⟨⟨_, _, _⟩, Told.refl _, ?_, ?_⟩) | (refine ⟨⟨_, _, _, _⟩, Told.refl _, ?_, ?_⟩) | (refine ⟨⟨_, _, _, _, _⟩, Told.refl _, ?_, ?_⟩) | (refine ⟨(), Told.refl _, ?_, ?_⟩)) | (with_reducible intro _) | (refine fun (_ : Bool) => ?_)))
      all_goals first | omega | decide | skip
      all_goals first | (exact absurd ‹decide (((2 : Nat) : Int) < 2) = true› (by decide)) | skip
      all_goals (rw [hn])
end Go.Abs.Coll
set_option maxRecDepth 100000
namespace Go.Abs.Coll
open Go.RowKit Go.Proofs Go.Abs.Tab Go.Abs.Dest Go.Abs.Span
def SAwakeC : Sp := ⟨Unit, fun _ => True, fun _ => [], fun _ => .st (.lit true)⟩
def tA : Tbl := ⟨ByteArray.empty, 0, [], [], [], [⟨2, 5, 9, [65]⟩]⟩
theorem OD_filter {l : List Bf} (p : Bf → Bool) : EB.OD l → EB.OD (l.filter p) := by
  induction l with
  | nil => exact fun _ => trivial
  | cons x l ih =>
    intro h
    rw [List.filter_cons]
    split
    · exact ⟨h.1, fun y hy => h.2.1 y (List.mem_filter.1 hy).1, ih h.2.2⟩
    · exact ih h.2.2
theorem fur_of_hit {u : List Int} {b : Bf} (h : hit u b = true) (hb : 1 ≤ b.to.length) : u = fur b.to (lastI u - lastI b.to) := by
  obtain ⟨h1, h2, h3, h4⟩ := (hit_iff u b).1 h
  refine List.ext_getElem (by rw [fur_len]; omega) fun i hi hi2 => ?_
  have hs : (fur b.to (lastI u - lastI b.to))[i]'hi2 = if b.to.length - 1 = i then lastI b.to + (lastI u - lastI b.to) else b.to[i]'(by omega) := List.getElem_set ..
  rw [hs]
  split
  · rename_i e
    have hx : lastI u = u[i] := by
      unfold lastI
      rw [getD_at (by omega)]
      congr 1
      omega
    rw [← hx]
    omega
  · rename_i e
    have h5 := h2 i (by omega)
    rw [getD_at hi, getD_at (by omega)] at h5
    exact h5.symm
theorem hit_fur {b : Bf} (hb : 1 ≤ b.to.length) {d : Int} (h0 : 0 ≤ d) (h1 : d ≤ b.hi - b.lo) : hit (fur b.to d) b = true := by
  have hl := lastI_fur hb d
  refine (hit_iff _ _).2 ⟨(fur_len _ _).symm, fun j hj => ?_, by omega, by omega⟩
  rw [fur_len] at hj
  unfold fur
  rw [getD_at (by omega), getD_at (by rw [List.length_set]; omega), List.getElem_set, if_neg (by omega)]
theorem ents_canon {l : List Bf} (h : EB.canon l = true) : ents l = two l := if_pos h
theorem back_find {l : List Bf} {u : List Int} {k : Int} (h : backE (ents l) u = some k) : EB.find l 2 k = some u := by
  unfold backE at h
  obtain ⟨b, hb, rfl⟩ := Option.map_eq_some_iff.1 h
  have hm := List.mem_of_find?_eq_some hb
  have hh : hit u b = true := by have := List.find?_some hb; simpa using this
  obtain ⟨h1, h2, h3⟩ := ents_sane b hm
  have r := rngB h1
  obtain ⟨q1, q2, q3, q4⟩ := (hit_iff u b).1 hh
  have hc : EB.canon l = true := by
    unfold ents at hm
    split at hm
    · assumption
    · cases hm
  have htab := (EB.canon_iff l).1 hc
  rw [EB.find_tab htab]
  have hget := Tb.get_of_mem EB.toTb htab.2.1 h3 (n := 2) (c := b.lo + (lastI u - lastI b.to)) ⟨h2, (by show b.lo ≤ b.lo + (lastI u - lastI b.to); omega), (by show b.lo + (lastI u - lastI b.to) ≤ b.hi; omega)⟩
  refine hget.trans (congrArg some ?_)
  show fur b.to (b.lo + (lastI u - lastI b.to) - b.lo) = u
  rw [show b.lo + (lastI u - lastI b.to) - b.lo = lastI u - lastI b.to by omega]
  exact (fur_of_hit hh r.2.2.1.1).symm
theorem find_back {l : List Bf} {a : List Int} {c : Int} (h : EB.find l 2 c = some a) : ∃ k, backE (ents l) a = some k ∧ k ≤ c := by
  have hc : EB.canon l = true := by
    unfold En.find at h
    split at h
    · assumption
    · cases h
  have htab := (EB.canon_iff l).1 hc
  rw [EB.find_tab htab] at h
  obtain ⟨b, hb, ⟨h1, h2, h3⟩, rfl⟩ := Tb.get_mem _ h
  have h1 : b.n = 2 := h1
  have h2 : b.lo ≤ c := h2
  have h3 : c ≤ b.hi := h3
  have r := rngB (htab.1 b hb)
  have hval : EB.val b c = fur b.to (c - b.lo) := rfl
  rw [hval]
  have hbe : b ∈ ents l := by rw [ents_canon hc]; exact List.mem_filter.2 ⟨hb, by simp [h1]⟩
  have hbh := hit_fur (b := b) r.2.2.1.1 (d := c - b.lo) (by omega) (by omega)
  cases hf : (ents l).find? (hit (fur b.to (c - b.lo))) with
  | none =>
    have := List.find?_eq_none.1 hf b hbe
    exact absurd hbh (by simpa using this)
  | some b' =>
    refine ⟨b'.lo + (lastI (fur b.to (c - b.lo)) - lastI b'.to), by unfold backE; rw [hf]; rfl, ?_⟩
    obtain ⟨hh, l1, l2, he, hno⟩ := List.find?_eq_some_iff_append.1 hf
    have hll := lastI_fur r.2.2.1.1 (c - b.lo)
    obtain ⟨q1, q2, q3, q4⟩ := (hit_iff _ _).1 hh
    have hod : EB.OD (ents l) := by rw [ents_canon hc]; exact OD_filter _ htab.2.1
    rw [he] at hbe hod
    rcases List.mem_append.1 hbe with q | q
    · have := hno b q
      rw [hbh] at this
      cases this
    · rcases List.mem_cons.1 q with rfl | q
      · omega
      · have hb' := (Tb.OD_append EB.toTb).1 hod
        have hbef := hb'.2.1.2.1 b q
        have hn' : b'.n = 2 := (ents_sane b' (by rw [he]; simp)).2.1
        have hbef : b'.n < b.n ∨ (b'.n = b.n ∧ b'.hi < b.lo) := hbef
        omega
theorem find_rng {l : List Bf} {n v : Int} {a : List Int} (h : EB.find l n v = some a) : a.length ≤ 64 ∧ ∀ x ∈ a, 0 ≤ x ∧ x ≤ 65535 := by
  have hc : EB.canon l = true := by
    unfold En.find at h
    split at h
    · assumption
    · cases h
  have htab := (EB.canon_iff l).1 hc
  rw [EB.find_tab htab] at h
  obtain ⟨b, hb, ⟨h1, h2, h3⟩, rfl⟩ := Tb.get_mem _ h
  have h2 : b.lo ≤ v := h2
  have h3 : v ≤ b.hi := h3
  have r := rngB (htab.1 b hb)
  show (fur b.to (v - b.lo)).length ≤ 64 ∧ ∀ x ∈ fur b.to (v - b.lo), _
  refine ⟨by rw [fur_len]; omega, fun x hx => ?_⟩
  rcases mem_fur hx with q | q
  · exact r.2.2.2.1 x q
  · omega
def SCollBack : Sp := ⟨Tbl × Int × List Int, fun (t, c, u) => ∀ x ∈ u, -9223372036854775808 ≤ x ∧ x ≤ 9223372036854775807, fun (t, c, u) => [.agg (cT t), .int .i64 c, aI u], fun _ => .st (.lit true)⟩
end Go.Abs.Coll
set_option maxRecDepth 100000
namespace Go.Abs.Coll
open Go.RowKit Go.Proofs Go.Abs.Tab Go.Abs.Dest Go.Abs.Span Go.Abs.Utf Go.Abs.Txt
def txtO : Option (List Int) → ByteArray
  | none => ByteArray.empty
  | some u => encB (decU u)
def SCText : Sp := ⟨Tbl × Int, fun (t, c) => t.bfs.length < 4611686018427387904, fun (t, c) => [.agg (cT t), .int .i64 c], fun (t, c) => .st (.tup [.str (txtO (EB.find t.bfs 2 c)), .sb (EB.find t.bfs 2 c).isSome])⟩
theorem ctext : SpOK Tryz.prog 133 SCText := fun ⟨t, c⟩ ht => by
  have hC : COK Tryz.prog (cfg [(134, SUni), (122, SDec), (121, SText)]) := Ty.ty.cfg ⟨uni, dec16, text, trivial⟩
  have ht : t.bfs.length < 4611686018427387904 := ht
  ((refine Fn.ofF hC Tryz.func133 Tryz.ntmps133 rfl rfl rfl ?_); (repeat' first | (with_reducible exact trivial) | (with_reducible rfl) | (refine And.intro ?_ ?_) | (refine Need.mk ?_) | exact True.intro | (first | (refine ⟨_, Told.refl _, ?_, ?_⟩) | (refine ⟨⟨_, _⟩, Told.refl _, ?_, ?_⟩) | (refine ⟨⟨_, _, _⟩, Told.refl _, ?_, ?_⟩) | (refine ⟨⟨_, _, _, _⟩, Told.refl _, ?_, ?_⟩) | (refine ⟨⟨_, _, _, _, _⟩, Told.refl _, ?_, ?_⟩) | (refine ⟨(), Told.refl _, ?_, ?_⟩)) | (with_reducible intro _) | (refine fun (_ : Bool) => ?_)))
  · exact ht
  all_goals
    cases hF : EB.find t.bfs 2 c with
    | none =>
      (simp only [hF, Option.isSome_none, Bool.not_false] at *) <;> first
        | rfl
        | (simp at *; done)
    | some a =>
      have hr := find_rng hF
      have hd := decU_len a
      (simp only [hF, Option.isSome_some, Option.getD_some] at *) <;> first
        | rfl
        | (show a.length ≤ 1000000000; omega)
        | (show (decU a).length < 4398046511104; omega)
        | (simp at *; done)
/-! How many codes have units. -/
theorem count_iv (lo hi : Nat) : ∀ n, ((List.range n).countP fun v => decide (lo ≤ v ∧ v ≤ hi)) = min n (hi + 1) - lo
  | 0 => by simp
  | n + 1 => by
    rw [List.range_succ, List.countP_append, count_iv lo hi n, List.countP_singleton]
    by_cases h : lo ≤ n ∧ n ≤ hi
    · rw [decide_eq_true h, if_pos rfl]
      omega
    · rw [decide_eq_false h, if_neg (by decide)]
      omega
theorem count_split (p q : Nat → Bool) (l : List Nat) (h : ∀ v ∈ l, ¬ (p v = true ∧ q v = true)) : (l.countP fun v => p v || q v) = l.countP p + l.countP q := by
  induction l with
  | nil => rfl
  | cons x l ih =>
    have hx := h x List.mem_cons_self
    rw [List.countP_cons, List.countP_cons, List.countP_cons, ih (fun v hv => h v (List.mem_cons_of_mem _ hv))]
    cases hp : p x <;> cases hq : q x <;> simp <;> first | omega | exact (hx ⟨hp, hq⟩).elim
theorem count_off {p q : Nat → Bool} {k : Nat} (hk : q k = true) (h : ∀ v, v ≠ k → q v = p v) : ∀ n, (List.range n).countP q = (List.range n).countP p + cond (decide (k < n) && !p k) 1 0
  | 0 => by simp
  | n + 1 => by
    rw [List.range_succ, List.countP_append, List.countP_append, count_off hk h n, List.countP_singleton, List.countP_singleton]
    by_cases e : n = k
    · subst e
      rw [hk, decide_eq_false (show ¬ n < n by omega), decide_eq_true (show n < n + 1 by omega)]
      cases hp : p n <;> simp
    · rw [h n e]
      by_cases h2 : k < n
      · rw [decide_eq_true h2, decide_eq_true (show k < n + 1 by omega)]
        omega
      · rw [decide_eq_false h2, decide_eq_false (show ¬ k < n + 1 by omega)]
        omega
def has2 (l : List Bf) (v : Nat) : Bool := (EB.get l 2 (v : Int)).isSome
theorem cnt_has : ∀ (l : List Bf), EB.OD l → (∀ x ∈ l, sane x = true) → cnt (two l) = ((List.range 65536).countP (has2 l) : Nat)
  | [], _, _ => by
    have : (has2 []) = fun _ => false := rfl
    rw [this]
    simp [two, cnt]
  | x :: l, ho, hs => by
    have ih := cnt_has l ho.2.2 (fun y hy => hs y (List.mem_cons_of_mem _ hy))
    have r := rngB (hs x List.mem_cons_self)
    have hg : ∀ v : Nat, EB.get (x :: l) 2 (v : Int) = if EB.has x 2 (v : Int) then some (EB.val x (v : Int)) else EB.get l 2 (v : Int) := fun v => rfl
    by_cases h2 : x.n = 2
    · have hsc := ((sane_iff x).1 (hs x List.mem_cons_self)).2.1
      rw [saneC_iff] at hsc
      have e1 : (has2 (x :: l)) = fun v => decide (x.lo.toNat ≤ v ∧ v ≤ x.hi.toNat) || has2 l v := by
        funext v
        unfold has2
        rw [hg]
        by_cases hh : EB.has x 2 (v : Int)
        · rw [if_pos hh]
          obtain ⟨_, q2, q3⟩ := hh
          have q2 : x.lo ≤ (v : Int) := q2
          have q3 : (v : Int) ≤ x.hi := q3
          rw [decide_eq_true (by omega)]
          rfl
        · rw [if_neg hh, decide_eq_false, Bool.false_or]
          intro q
          exact hh ⟨h2, (by show x.lo ≤ (v : Int); omega), (by show (v : Int) ≤ x.hi; omega)⟩
      rw [e1, count_split]
      · rw [count_iv, Int.natCast_add, ← ih]
        have e2 : two (x :: l) = x :: two l := by unfold two; rw [List.filter_cons, if_pos (by simp [h2])]
        rw [e2]
        simp only [cnt]
        omega
      · intro v _ ⟨q1, q2⟩
        have q1 := of_decide_eq_true q1
        unfold has2 at q2
        cases hf : EB.get l 2 (v : Int) with
        | none => rw [hf] at q2; cases q2
        | some w =>
          obtain ⟨y, hy, ⟨k1, k2, k3⟩, _⟩ := Tb.get_mem _ hf
          have hb := ho.2.1 y hy
          have hb : x.n < y.n ∨ (x.n = y.n ∧ x.hi < y.lo) := hb
          have k1 : y.n = 2 := k1
          have k2 : y.lo ≤ (v : Int) := k2
          omega
    · have e1 : (has2 (x :: l)) = has2 l := by
        funext v
        unfold has2
        rw [hg, if_neg]
        intro q
        exact h2 q.1
      have e2 : two (x :: l) = two l := by unfold two; rw [List.filter_cons, if_neg (by simp [h2])]
      rw [e1, e2, ih]
theorem cnt_tab {l : List Bf} (h : EB.Tab l) : cnt (ents l) = ((List.range 65536).countP (has2 l) : Nat) := by
  rw [ents_canon ((EB.canon_iff l).2 h)]
  exact cnt_has l h.2.1 h.1
theorem counts_law {t : List Bf} (ht : EB.canon t = true) {k x : Int} (hk : 0 ≤ k ∧ k < 65536) (hx : 0 ≤ x ∧ x < 65536) :
    EB.find (EB.build (t ++ [⟨2, k, k, [x]⟩])) 2 k = some [x] ∧ cnt (ents (EB.build (t ++ [⟨2, k, k, [x]⟩]))) = cnt (ents t) + if (EB.find t 2 k).isSome = true then 0 else 1 := by
  have htab := (EB.canon_iff t).1 ht
  have hb := EB.build_ok (t ++ [⟨2, k, k, [x]⟩])
  have hs : sane ⟨2, k, k, [x]⟩ = true := by
    rw [sane_iff]
    have hc : saneC 2 k = true := (saneC_iff 2 k).2 (by omega)
    refine ⟨hc, hc, Int.le_refl _, by simp, by simp, fun y hy => ?_, ?_⟩
    · obtain rfl := List.mem_singleton.1 hy
      omega
    · show x ≤ 65535 - (k - k)
      omega
  have hg := EB.get_put htab ⟨2, k, k, [x]⟩
  have hv : EB.val ⟨2, k, k, [x]⟩ k = [x] := by
    show fur [x] (k - k) = [x]
    rw [Int.sub_self, fur_zero]
  have h1 : EB.get (EB.build (t ++ [⟨2, k, k, [x]⟩])) 2 k = some [x] := by
    rw [hg, if_pos ⟨hs, rfl, Int.le_refl _, Int.le_refl _⟩, hv]
  refine ⟨by rw [EB.find_tab hb.1]; exact h1, ?_⟩
  rw [cnt_tab hb.1, cnt_tab htab, EB.find_tab htab]
  have hoff := count_off (p := has2 t) (q := has2 (EB.build (t ++ [⟨2, k, k, [x]⟩]))) (k := k.toNat) (by
      unfold has2
      rw [Int.toNat_of_nonneg hk.1, h1]
      rfl) (fun v hv => by
      unfold has2
      rw [hg, if_neg]
      intro q
      obtain ⟨_, _, q2, q3⟩ := q
      have q2 : k ≤ (v : Int) := q2
      have q3 : (v : Int) ≤ k := q3
      omega) 65536
  rw [hoff]
  have hp : has2 t k.toNat = (EB.get t 2 k).isSome := by
    unfold has2
    rw [Int.toNat_of_nonneg hk.1]
  rw [hp]
  rw [decide_eq_true (show k.toNat < 65536 by omega)]
  cases hf : (EB.get t 2 k).isSome
  · simp
  · simp
def low (c : Int) : Int := IntKind.i64.wrap ((BitVec.ofInt IntKind.i64.bits c &&& BitVec.ofInt IntKind.i64.bits 65535).toNat : Int)
theorem low_rng (c : Int) : 0 ≤ low c ∧ low c < 65536 := by
  have hm : low c = c % 65536 := and_low 16 (by decide) c
  omega
def SCounts : Sp := ⟨Tbl × Int × Int, fun _ => True, fun (t, c, u) => [.agg (cT t), .int .i64 c, .int .i64 u], fun _ => .st (.lit true)⟩
end Go.Abs.Coll
set_option maxRecDepth 100000
namespace Go.Abs.Dest
open Go.RowKit Go.Proofs
abbrev wfI (n : Int) : Prop := (Lit.int .i64 n).wf = true
def wfIs (l : List Int) : Prop := l.length ≤ maxLen ∧ ∀ x ∈ l, wfI x
def wfB (b : Bf) : Prop := wfI b.n ∧ wfI b.lo ∧ wfI b.hi ∧ wfIs b.to
theorem opInt : OpA Tryz.prog 3 (fun n : Int => [.int .i64 n]) wfI := OpA.int Tryz.underlying3
theorem opInts : OpA Tryz.prog 41 (fun l : List Int => [aI l]) wfIs := OpA.slice Tryz.underlying41 (by kernel_rfl) ci_emb opInt
theorem opBf : OpA Tryz.prog 55 cBf wfB :=
  OpA.iso (OpA.struct (n := 1 + (1 + (1 + 1))) Tryz.underlying55 (OpAF.cons opInt rfl (by kernel_rfl) (OpAF.cons opInt rfl (by kernel_rfl) (OpAF.cons opInt rfl (by kernel_rfl) (OpAF.one opInts rfl (by kernel_rfl))))) (by kernel_rfl)) (fun a => ⟨a.1, a.2.1, a.2.2.1, a.2.2.2⟩) (fun _ => rfl) (fun _ h => h)
theorem opBfs : OpA Tryz.prog 24 (fun l : List Bf => [aB l]) (fun l => l.length ≤ maxLen ∧ ∀ x ∈ l, wfB x) := OpA.slice Tryz.underlying24 (by kernel_rfl) cBf_emb opBf
theorem opCode : OpA Tryz.prog 44 (fun x : Int × Int => [.int .i64 x.1, .int .i64 x.2]) (fun x => wfI x.1 ∧ wfI x.2) :=
  OpA.iso (OpA.struct (n := 1 + 1) Tryz.underlying44 (OpAF.cons opInt rfl (by kernel_rfl) (OpAF.one opInt rfl (by kernel_rfl))) (by kernel_rfl)) (fun a => a) (fun _ => rfl) (fun _ h => h)
end Go.Abs.Dest
set_option maxRecDepth 100000
namespace Go.Abs.Coll
open Go.RowKit Go.Proofs Go.Abs.Dest Go.Abs.Span
theorem wfI_rng {n : Int} (h : wfI n) : -9223372036854775808 ≤ n ∧ n ≤ 9223372036854775807 := by
  have h : (decide (IntKind.i64.min ≤ n) && decide (n ≤ IntKind.i64.max)) = true := h
  rw [Bool.and_eq_true, decide_eq_true_eq, decide_eq_true_eq] at h
  exact h
def wfR (r : Rct) : Prop := wfI r.n ∧ wfI r.lo ∧ wfI r.hi
def wfS (s : Spn) : Prop := wfI s.n ∧ wfI s.lo ∧ wfI s.hi ∧ wfI s.to
def wfT (t : Tbl) : Prop := t.name.size ≤ maxLen ∧ wfI t.wmode ∧ (t.spaces.length ≤ maxLen ∧ ∀ x ∈ t.spaces, wfR x) ∧ (t.cids.length ≤ maxLen ∧ ∀ x ∈ t.cids, wfS x) ∧ (t.nots.length ≤ maxLen ∧ ∀ x ∈ t.nots, wfS x) ∧ (t.bfs.length ≤ maxLen ∧ ∀ x ∈ t.bfs, wfB x)
theorem opStr : OpA Tryz.prog 9 (fun s : ByteArray => [.str s]) (fun s => s.size ≤ maxLen) := OpA.string Tryz.underlying9
theorem opRct : OpA Tryz.prog 80 cR wfR :=
  OpA.iso (OpA.struct (n := 1 + (1 + 1)) Tryz.underlying80 (OpAF.cons opInt rfl (by kernel_rfl) (OpAF.cons opInt rfl (by kernel_rfl) (OpAF.one opInt rfl (by kernel_rfl)))) (by kernel_rfl)) (fun a => ⟨a.1, a.2.1, a.2.2⟩) (fun _ => rfl) (fun _ h => h)
theorem opSpn : OpA Tryz.prog 82 cSp wfS :=
  OpA.iso (OpA.struct (n := 1 + (1 + (1 + 1))) Tryz.underlying82 (OpAF.cons opInt rfl (by kernel_rfl) (OpAF.cons opInt rfl (by kernel_rfl) (OpAF.cons opInt rfl (by kernel_rfl) (OpAF.one opInt rfl (by kernel_rfl))))) (by kernel_rfl)) (fun a => ⟨a.1, a.2.1, a.2.2.1, a.2.2.2⟩) (fun _ => rfl) (fun _ h => h)
theorem opRcts : OpA Tryz.prog 22 (fun l : List Rct => [aR l]) (fun l => l.length ≤ maxLen ∧ ∀ x ∈ l, wfR x) := OpA.slice Tryz.underlying22 (by kernel_rfl) cR_emb opRct
theorem opSpns : OpA Tryz.prog 23 (fun l : List Spn => [aS l]) (fun l => l.length ≤ maxLen ∧ ∀ x ∈ l, wfS x) := OpA.slice Tryz.underlying23 (by kernel_rfl) cSp_emb opSpn
theorem opTbl : OpA Tryz.prog 26 cT wfT :=
  OpA.iso (OpA.struct (n := 1 + (1 + (1 + (1 + (1 + 1))))) Tryz.underlying26 (OpAF.cons opStr rfl (by kernel_rfl) (OpAF.cons opInt rfl (by kernel_rfl) (OpAF.cons opRcts rfl (by kernel_rfl) (OpAF.cons opSpns rfl (by kernel_rfl) (OpAF.cons opSpns rfl (by kernel_rfl) (OpAF.one opBfs rfl (by kernel_rfl))))))) (by kernel_rfl)) (fun a => ⟨a.1, a.2.1, a.2.2.1, a.2.2.2.1, a.2.2.2.2.1, a.2.2.2.2.2⟩) (fun _ => rfl) (fun _ h => h)
end Go.Abs.Coll
set_option maxRecDepth 100000
namespace Go.Abs.Hx
open Go.RowKit Go.Proofs
abbrev wf8 (n : Int) : Prop := (Lit.int .u8 n).wf = true
theorem wf8_rng {n : Int} (h : wf8 n) : 0 ≤ n ∧ n ≤ 255 := by
  have h : (decide (IntKind.u8.min ≤ n) && decide (n ≤ IntKind.u8.max)) = true := h
  rw [Bool.and_eq_true, decide_eq_true_eq, decide_eq_true_eq] at h
  exact h
theorem opB8 : OpA Tryz.prog 29 (fun l : List Int => [a8 l]) (fun l => l.length ≤ maxLen ∧ ∀ x ∈ l, wf8 x) := OpA.slice Tryz.underlying29 (by kernel_rfl) c8_emb (OpA.int Tryz.underlying5)
end Go.Abs.Hx
set_option maxRecDepth 100000
namespace Go.Abs.Lk
open Go.RowKit Go.Proofs Go.Abs.Tab Go.Abs.Dest Go.Abs.Span Go.Abs.Coll Go.Abs.Hx Go.Abs.Mt
def SUniL : Sp := ⟨Tbl × Int × Int, fun (t, n, v) => t.bfs.length < 4611686018427387904, fun (t, n, v) => [.agg (cT t), aCode n v], fun (t, n, v) => rO (EB.find t.bfs n v)⟩
theorem uniL : SpOK Tryz.prog 32 SUniL := fun ⟨t, n, v⟩ ht => by
  have hC : COK Tryz.prog (cfg [(55, SFind)]) := Ty.ty.cfg ⟨Dest.find, trivial⟩
  ((refine Fn.ofF hC Tryz.func32 Tryz.ntmps32 rfl rfl rfl ?_); (repeat' first | (with_reducible exact trivial) | (with_reducible rfl) | (refine And.intro ?_ ?_) | (refine Need.mk ?_) | exact True.intro | (first | (refine ⟨_, Told.refl _, ?_, ?_⟩) | (refine ⟨⟨_, _⟩, Told.refl _, ?_, ?_⟩) | (refine ⟨⟨_, _, _⟩, Told.refl _, ?_, ?_⟩) | (refine ⟨⟨_, _, _, _⟩, Told.refl _, ?_, ?_⟩) | (refine ⟨⟨_, _, _, _, _⟩, Told.refl _, ?_, ?_⟩) | (refine ⟨(), Told.refl _, ?_, ?_⟩)) | (with_reducible intro _) | (refine fun (_ : Bool) => ?_)))
  exact ht
structure Sg where
  p : Pc
  kind : Int
  cid : Int
  u : List Int
  has : Bool
instance : Inhabited Sg := ⟨⟨default, 0, 0, [], false⟩⟩
def cG (s : Sg) : List AV := [.int .i64 s.p.at_, .int .i64 s.p.n, .sb s.p.full, .int .i64 s.p.cn, .int .i64 s.p.cv, .int .i64 s.kind, .int .i64 s.cid, aI s.u, .sb s.has]
theorem cG_emb : Emb cG 9 := fun x => ⟨rfl, ⟨⟨rfl⟩, ⟨rfl⟩, ⟨rfl⟩, ⟨rfl⟩, ⟨rfl⟩, ⟨rfl⟩, ⟨rfl⟩, ⟨⟨rfl⟩, els_of ci_emb (n := 0) (fun _ _ => rfl)⟩, ⟨rfl⟩, trivial⟩, rfl⟩
abbrev aG (l : List Sg) : AV := aL cG 9 l
def sgOf (t : Tbl) (p : Pc) : Sg := if p.full = true then ⟨p, (numT t p.cn p.cv).2, (numT t p.cn p.cv).1, (EB.find t.bfs p.cn p.cv).getD [], (EB.find t.bfs p.cn p.cv).isSome⟩ else ⟨p, 0, 0, [], false⟩
def sgs (t : Tbl) (s : List Int) : List Sg := (allAt t.spaces s 0).map (sgOf t)
def smallT (t : Tbl) : Prop := t.spaces.length < 1000000000 ∧ t.cids.length < 1000000000 ∧ t.nots.length < 1000000000 ∧ t.bfs.length < 1000000000
def SLook : Sp := ⟨Tbl × List Int, fun (t, s) => smallT t ∧ s.length < 1000000000 ∧ B8 s, fun (t, s) => [.agg (cT t), a8 s], fun (t, s) => .row 64 9 (sgs t s).length (els cG (sgs t s))⟩
theorem getP {l : List Pc} {i : Nat} (h : i < l.length) : l.getD i default = l[i] := by simp [List.getD, h]
theorem map_next {t : Tbl} {L : List Pc} {k : Nat} (hk : k < L.length) : (L.take (k + 1)).map (sgOf t) = (L.take k).map (sgOf t) ++ [sgOf t (L.getD k default)] := by
  rw [List.take_succ_eq_append_getElem hk, List.map_append, getP hk]
  rfl
set_option maxHeartbeats 16000000 in
theorem look : SpOK Tryz.prog 19 SLook := fun ⟨t, s⟩ ⟨ht, hs, h8⟩ => by
  have hC : COK Tryz.prog (cfg [(9, SAll), (31, SNum), (32, SUniL)]) := Ty.ty.cfg ⟨all, num, uniL, trivial⟩
  obtain ⟨t1, t2, t3, t4⟩ := ht
  have hlen := allAt_len (l := t.spaces) (s := s) (s.length - 0) 0 rfl
  have t4' : t.bfs.length < 4611686018427387904 := by omega
  obtain ⟨L, hL⟩ : ∃ L, L = allAt t.spaces s 0 := ⟨_, rfl⟩
  rw [← hL] at hlen
  ((refine Fn.ofF hC Tryz.func19 Tryz.ntmps19 rfl rfl rfl ?_); (repeat' first | (with_reducible exact trivial) | (with_reducible rfl) | (refine And.intro ?_ ?_) | (refine Need.mk ?_) | exact True.intro | (first | (refine ⟨_, Told.refl _, ?_, ?_⟩) | (refine ⟨⟨_, _⟩, Told.refl _, ?_, ?_⟩) | (refine ⟨⟨_, _, _⟩, Told.refl _, ?_, ?_⟩) | (refine ⟨⟨_, _, _, _⟩, Told.refl _, ?_, ?_⟩) | (refine ⟨⟨_, _, _, _, _⟩, Told.refl _, ?_, ?_⟩) | (refine ⟨(), Told.refl _, ?_, ?_⟩)) | (with_reducible intro _) | (refine fun (_ : Bool) => ?_)))
  any_goals first | exact t1 | exact hs | exact h8
  refine AW.loop (I := fun k : Nat => ⟨46, [(2, .ptr 0 0), (5, .own 2), (12, .own 1), (13, .int .i64 L.length), (14, .int .i64 k)], [.box 33 (cT t), .row 46 5 L.length (els cP L), .row 64 9 ((L.take k).map (sgOf t)).length (els cG ((L.take k).map (sgOf t)))]⟩) (fun k => k ≤ L.length) (fun k => L.length - k) 0 (Nat.zero_le _) ?_ ?_
  · clear hlen
    subst hL
    (repeat' first | (with_reducible exact trivial) | (with_reducible rfl) | (refine And.intro ?_ ?_) | (refine Need.mk ?_) | exact True.intro | (first | (refine ⟨_, Told.refl _, ?_, ?_⟩) | (refine ⟨⟨_, _⟩, Told.refl _, ?_, ?_⟩) | (refine ⟨⟨_, _, _⟩, Told.refl _, ?_, ?_⟩) | (refine ⟨⟨_, _, _, _⟩, Told.refl _, ?_, ?_⟩) | (refine ⟨⟨_, _, _, _, _⟩, Told.refl _, ?_, ?_⟩) | (refine ⟨(), Told.refl _, ?_, ?_⟩)) | (with_reducible intro _) | (refine fun (_ : Bool) => ?_))
    all_goals first | rfl
  · intro k hk
    rcases Nat.lt_or_ge k L.length with hlt | hge
    · have hd : decide ((k : Int) < (L.length : Int)) = true := decide_eq_true (by omega)
      have hw := iw (n := (k : Int) + 1) (by omega) (by omega)
      have hnx := map_next (t := t) hlt
      have hml : ((L.take k).map (sgOf t)).length ≤ L.length := by rw [List.length_map, List.length_take]; omega
      ((refine AW.byF ‹_› ?_); (repeat' first | (with_reducible exact trivial) | (with_reducible rfl) | (refine And.intro ?_ ?_) | (refine Need.mk ?_) | exact True.intro | (first | (refine ⟨_, Told.refl _, ?_, ?_⟩) | (refine ⟨⟨_, _⟩, Told.refl _, ?_, ?_⟩) | (refine ⟨⟨_, _, _⟩, Told.refl _, ?_, ?_⟩) | (refine ⟨⟨_, _, _, _⟩, Told.refl _, ?_, ?_⟩) | (refine ⟨⟨_, _, _, _, _⟩, Told.refl _, ?_, ?_⟩) | (refine ⟨(), Told.refl _, ?_, ?_⟩)) | (with_reducible intro _) | (refine fun (_ : Bool) => ?_)))
      all_goals first | (exact absurd ‹decide ((k : Int) < (L.length : Int)) = false› (by rw [hd]; decide)) | skip
      any_goals (refine Exists.intro (k + 1) (And.intro ?_ (And.intro ?_ ?_)); all_goals (repeat' first | (with_reducible exact trivial) | (with_reducible rfl) | (refine And.intro ?_ ?_) | (refine Need.mk ?_) | exact True.intro | (first | (refine ⟨_, Told.refl _, ?_, ?_⟩) | (refine ⟨⟨_, _⟩, Told.refl _, ?_, ?_⟩) | (refine ⟨⟨_, _, _⟩, Told.refl _, ?_, ?_⟩) | (refine ⟨⟨_, _, _, _⟩, Told.refl _, ?_, ?_⟩) | (refine ⟨⟨_, _, _, _, _⟩, Told.refl _, ?_, ?_⟩) | (refine ⟨(), Told.refl _, ?_, ?_⟩)) | (with_reducible intro _) | (refine fun (_ : Bool) => ?_)))
      all_goals try simp only [Int.toNat_natCast] at *
      all_goals first
        | omega
        | exact t4'
        | (show (((L.take k).map (sgOf t)).length + 1) * 88 ≤ _; omega)
        | (rw [hw]; rfl)
        | (rw [hnx, List.length_append]; rfl)
        | (have q := ‹(L.getD k default).full = true›
           have hp : sgOf t (L.getD k default) = ⟨L.getD k default, (numT t (L.getD k default).cn (L.getD k default).cv).2, (numT t (L.getD k default).cn (L.getD k default).cv).1, (EB.find t.bfs (L.getD k default).cn (L.getD k default).cv).getD [], (EB.find t.bfs (L.getD k default).cn (L.getD k default).cv).isSome⟩ := if_pos q
           rename_i z hz
           rw [hnx, hp] at hz ⊢
           refine snoc_sub cG_emb rfl ?_ z hz
           refine ⟨⟨rfl⟩, ⟨rfl⟩, ⟨rfl⟩, ⟨rfl⟩, ⟨rfl⟩, ⟨rfl⟩, ⟨rfl⟩, ?_, ⟨rfl⟩, trivial⟩
           exact ⟨⟨rfl⟩, els_of ci_emb (n := 0) (fun _ _ => rfl)⟩)
        | (have q := ‹(L.getD k default).full = false›
           have hp : sgOf t (L.getD k default) = ⟨L.getD k default, 0, 0, [], false⟩ := if_neg (by rw [q]; decide)
           rename_i z hz
           rw [hnx, hp] at hz ⊢
           refine snoc_sub cG_emb rfl ?_ z hz
           exact ⟨⟨rfl⟩, ⟨rfl⟩, ⟨rfl⟩, ⟨rfl⟩, ⟨rfl⟩, ⟨rfl⟩, ⟨rfl⟩, ⟨rfl⟩, ⟨rfl⟩, trivial⟩)

    · obtain rfl : k = L.length := by omega
      have hd : decide ((L.length : Int) < (L.length : Int)) = false := decide_eq_false (by omega)
      have hr : (L.take L.length).map (sgOf t) = sgs t s := by rw [List.take_length, hL]; rfl
      ((refine AW.byF ‹_› ?_); (repeat' first | (with_reducible exact trivial) | (with_reducible rfl) | (refine And.intro ?_ ?_) | (refine Need.mk ?_) | exact True.intro | (first | (refine ⟨_, Told.refl _, ?_, ?_⟩) | (refine ⟨⟨_, _⟩, Told.refl _, ?_, ?_⟩) | (refine ⟨⟨_, _, _⟩, Told.refl _, ?_, ?_⟩) | (refine ⟨⟨_, _, _, _⟩, Told.refl _, ?_, ?_⟩) | (refine ⟨⟨_, _, _, _, _⟩, Told.refl _, ?_, ?_⟩) | (refine ⟨(), Told.refl _, ?_, ?_⟩)) | (with_reducible intro _) | (refine fun (_ : Bool) => ?_)))
      all_goals first | (exact absurd ‹decide ((L.length : Int) < (L.length : Int)) = true› (by rw [hd]; decide)) | skip
      all_goals rw [hr]
end Go.Abs.Lk
set_option maxRecDepth 100000
namespace Go.Abs.Lk
open Go.RowKit Go.Proofs Go.Abs.Tab Go.Abs.Dest Go.Abs.Span Go.Abs.Coll Go.Abs.Hx Go.Abs.Mt Go.Abs.Utf Go.Abs.Txt
attribute [local go_sem] Oper.semAt_some
theorem decC {u : List Int} {v : Value} {S : Nat → Prop} {w : World} (hu : u.length ≤ 1000000000) (hS : ∀ b, S b → b < w.heap.size) (h : RV0 w S (aI u) v) : Calls Tryz.prog 122 #[v] w fun e w' => ∃ x S2, e = .returned x ∧ RV0 w' S2 (aI (decU u)) x ∧ (∀ b, S2 b → b < w'.heap.size) ∧ Below w.heap.size w w' := by
  refine ((dec16 u hu).2 w S [v] hS ⟨rfl, fun i a x h1 h2 => ?_⟩).mono ?_
  · match i, h1, h2 with
    | 0, h1, h2 =>
      obtain rfl := Option.some.inj h1
      obtain rfl := Option.some.inj h2
      exact h
  · rintro e w' ⟨x, S', rfl, hr, _, hs', hb⟩
    refine ⟨x, fun b => S' b ∨ x.ownBlock = some b, rfl, row_sl (ρ := []) hr (fun b q => .inl q) (fun b q => .inr q), fun b q => ?_, hb⟩
    rcases q with q | q
    · exact (hs' b q).1
    · obtain ⟨⟨inner, hown, _⟩, _⟩ := hr
      rcases hown.2 with ⟨rfl, _⟩ | ⟨g, cap, cur, rfl, hbg, hg, _⟩
      · cases q
      · simp [Value.ownBlock] at q
        subst q
        exact (Array.getElem?_eq_some_iff.1 hg).1
theorem txtC {u : List Int} {v : Value} {S : Nat → Prop} {w : World} (hu : u.length < 4398046511104) (hS : ∀ b, S b → b < w.heap.size) (h : RV0 w S (aI u) v) : Calls Tryz.prog 121 #[v] w fun e w' => e = .returned (.string (encB u)) ∧ Below w.heap.size w w' := by
  refine ((text u hu).2 w S [v] hS ⟨rfl, fun i a x h1 h2 => ?_⟩).mono ?_
  · match i, h1, h2 with
    | 0, h1, h2 =>
      obtain rfl := Option.some.inj h1
      obtain rfl := Option.some.inj h2
      exact h
  · rintro e w' ⟨x, S', rfl, hr, _, _, hb⟩
    cases hr
    exact ⟨rfl, hb⟩
def oneS (rp : Int) (s : Sg) : List Int := if s.has = true then decU s.u else [rp]
def encS (rp : Int) (l : List Sg) : List UInt8 := l.flatMap fun s => enc (oneS rp s)
def txtS (rp : Int) (l : List Sg) : ByteArray := ⟨(encS rp l).toArray⟩
theorem encS_len (rp : Int) : ∀ (l : List Sg), (∀ s ∈ l, s.u.length ≤ 1000000) → (encS rp l).length ≤ 4000004 * l.length
  | [], _ => by simp [encS]
  | s :: l, h => by
    have ih := encS_len rp l (fun x hx => h x (List.mem_cons_of_mem _ hx))
    have h1 := enc_len (oneS rp s)
    have h2 : (oneS rp s).length ≤ 1000001 := by
      unfold oneS
      have := decU_len s.u
      have := h s List.mem_cons_self
      split
      · omega
      · simp
    unfold encS at ih ⊢
    rw [List.flatMap_cons, List.length_append, List.length_cons]
    omega
theorem sgCells {w : World} {S : Nat → Prop} {l : List Sg} {v : Value} (h : RV0 w S (aG l) v) : ∃ A c, v = .slice A l.length c ∧ l.length ≤ c ∧ ∀ i, i < l.length → ∃ ad uv, A = some ad ∧ S ad.block ∧ RV0 w S (aI (l.getD i default).u) uv ∧ ∀ j x, ([.int .i64 (l.getD i default).p.at_, .int .i64 (l.getD i default).p.n, .bool (l.getD i default).p.full, .int .i64 (l.getD i default).p.cn, .int .i64 (l.getD i default).p.cv, .int .i64 (l.getD i default).kind, .int .i64 (l.getD i default).cid, uv, .bool (l.getD i default).has] : List Value)[j]? = some x → w.cell? (ad.add (i * 9 + j)) = some x := by
  generalize ha : aG l = a at h
  cases h with
  | sl sz n el A cap g hcap hmax hl hm hr =>
    unfold aG at ha
    injection ha with h1 h2 h3
    subst h1 h2 h3
    refine ⟨A, cap, rfl, hcap, fun i hi => ?_⟩
    obtain ⟨ad, e1, e2, _⟩ := hm i 0 hi (by omega)
    have hc : ∀ j, j < 9 → w.cell? (ad.add (i * 9 + j)) = some (g i j) := fun j hj => by
      obtain ⟨ad', q1, _, q3⟩ := hm i j hi hj
      rw [e1] at q1
      cases q1
      exact q3
    have r0 := hr i 0 _ hi rfl
    have r1 := hr i 1 _ hi rfl
    have r2 := hr i 2 _ hi rfl
    have r3 := hr i 3 _ hi rfl
    have r4 := hr i 4 _ hi rfl
    have r5 := hr i 5 _ hi rfl
    have r6 := hr i 6 _ hi rfl
    have r7 := hr i 7 _ hi rfl
    have r8 := hr i 8 _ hi rfl
    refine ⟨ad, g i 7, e1, e2, r7, fun j x hx => ?_⟩
    have hj : j < 9 := (List.getElem?_eq_some_iff.1 hx).1
    rw [hc j hj]
    have hj' : j = 0 ∨ j = 1 ∨ j = 2 ∨ j = 3 ∨ j = 4 ∨ j = 5 ∨ j = 6 ∨ j = 7 ∨ j = 8 := by omega
    clear hm hc hr
    rcases hj' with rfl | rfl | rfl | rfl | rfl | rfl | rfl | rfl | rfl
    all_goals obtain rfl := Option.some.inj hx
    · generalize g i 0 = y at r0; cases r0; rfl
    · generalize g i 1 = y at r1; cases r1; rfl
    · generalize g i 2 = y at r2; cases r2; rfl
    · generalize g i 3 = y at r3; cases r3; rfl
    · generalize g i 4 = y at r4; cases r4; rfl
    · generalize g i 5 = y at r5; cases r5; rfl
    · generalize g i 6 = y at r6; cases r6; rfl
    · rfl
    · generalize g i 8 = y at r8; cases r8; rfl
  | _ => exact absurd ha (by unfold aG; intro h; cases h)
theorem intRow1 {w : World} {b : Nat} {c : Nat} {x : Int} (hc : 1 ≤ c) (hm : c ≤ maxLen) (h : w.cell? ⟨b, 0, none⟩ = some (.int .i64 x)) : RV0 w (fun k => k = b) (aI [x]) (.slice (some ⟨b, 0, none⟩) 1 c) := by
  refine .sl 1 1 _ _ c (fun _ _ => .int .i64 x) hc hm (fun i hi => ⟨rfl, rfl⟩) (fun i j hi hj => ?_) (fun i j a hi h1 => ?_)
  · obtain rfl : i = 0 := by omega
    obtain rfl : j = 0 := by omega
    exact ⟨_, rfl, rfl, h⟩
  · obtain rfl : i = 0 := by omega
    cases j with
    | zero =>
      obtain rfl := Option.some.inj h1
      exact .int _ _
    | succ j => simp [els, ci] at h1
theorem b_alloc {B : Nat} {a w : World} (h : Below B a w) (hB : B ≤ a.heap.size) (o : Obj) : Below B a (w.alloc o) := h.alloc (Nat.le_trans hB h.size) o
theorem enc_one (rp : Int) (s : Sg) (h : s.u.length ≤ 1000000) : (encB (oneS rp s)).size ≤ 4000004 := by
  have h1 := enc_len (oneS rp s)
  have h2 : (oneS rp s).length ≤ 1000001 := by
    unfold oneS
    have := decU_len s.u
    split
    · omega
    · simp
  show (enc (oneS rp s)).toArray.size ≤ _
  rw [List.size_toArray]
  omega
theorem strCells_enc (l : List Int) : Lib.strCells (encB l) = Lib.byteCells (enc l) := rfl
theorem txtNew (rp : Int) (wr : World) (o1 : Obj) : Calls Tryz.prog 121 #[.slice (some ⟨wr.heap.size + 1, 0, none⟩) 1 1] ((wr.alloc o1).alloc (.cells #[.int .i64 rp] 3)) fun e w' => e = .returned (.string (encB [rp])) ∧ Below ((wr.alloc o1).alloc (.cells #[.int .i64 rp] 3)).heap.size ((wr.alloc o1).alloc (.cells #[.int .i64 rp] 3)) w' := by
  have hsz : (wr.alloc o1).heap.size = wr.heap.size + 1 := Array.size_push ..
  have hsz2 : ((wr.alloc o1).alloc (.cells #[.int .i64 rp] 3)).heap.size = wr.heap.size + 2 := (Array.size_push ..).trans (congrArg (· + 1) hsz)
  have hnew := heap_alloc_new (wr.alloc o1) (.cells #[.int .i64 rp] 3)
  rw [hsz] at hnew
  refine txtC (u := [rp]) (S := fun k => k = wr.heap.size + 1) (by show 1 < 4398046511104; omega) (fun b q => by rw [hsz2]; omega) (intRow1 (Nat.le_refl _) (by decide) ?_)
  unfold World.cell?
  rw [hnew]
  rfl
def STxtS : Sp := ⟨List Sg × Int, fun (l, rp) => l.length ≤ 1000000 ∧ ∀ s ∈ l, s.u.length ≤ 1000000, fun (l, rp) => [aG l, .int .i64 rp], fun (l, rp) => .st (.str (txtS rp l))⟩
end Go.Abs.Lk
set_option maxRecDepth 100000
namespace Go.Abs.Lk
open Go.RowKit Go.Proofs Go.Abs.Tab Go.Abs.Dest Go.Abs.Span Go.Abs.Coll Go.Abs.Hx Go.Abs.Mt Go.Abs.Utf Go.Abs.Txt
theorem aL_refl {α : Type} [Inhabited α] {f : α → List AV} {sz : Nat} (hf : Emb f sz) (l : List α) : sub0 (aL f sz l) (aL f sz l) := by
  show cond (Nat.beq sz sz) _ False
  rw [Nat.beq_refl]
  exact ⟨⟨rfl⟩, els_of hf (n := 0) (fun _ _ => rfl)⟩
theorem aL_lit {α : Type} [Inhabited α] {f : α → List AV} {sz : Nat} (hf : Emb f sz) (l : List α) : sub0 (aL f sz l) (.sl sz l.length (elt (l.map f))) := (lit_sub hf l).1
def SAwakeL : Sp := ⟨Unit, fun _ => True, fun _ => [], fun _ => .st (.lit true)⟩
def tL : Tbl := ⟨ByteArray.empty, 0, [⟨1, 0, 255⟩], [⟨1, 65, 66, 7⟩], [], [⟨1, 65, 65, [913]⟩]⟩
def SLookA (L : List Sg) : Sp := ⟨Unit, fun _ => True, fun _ => [.agg (cT tL), a8 [65, 66]], fun _ => .row 64 9 L.length (els cG L)⟩
theorem findS_nil (st : Bool) (n v : Int) : (ES st).find [] n v = none := by
  unfold En.find
  split <;> rfl
def SKinds : Sp := ⟨Tbl × Int × Int, fun _ => True, fun (t, n, v) => [.agg (cT t), aCode n v], fun _ => .st (.lit true)⟩
end Go.Abs.Lk
set_option maxRecDepth 100000
namespace Go.Abs.Lk
open Go.RowKit Go.Proofs Go.Abs.Tab Go.Abs.Dest Go.Abs.Span Go.Abs.Coll Go.Abs.Hx Go.Abs.Mt Go.Abs.Utf Go.Abs.Txt
theorem getG {l : List Sg} {i : Nat} (h : i < l.length) : l.getD i default = l[i] := by simp [List.getD, h]
theorem find_short {l : List Bf} {n v : Int} {a : List Int} (h : EB.find l n v = some a) : a.length ≤ 64 := by
  have hc : EB.canon l = true := by
    unfold En.find at h
    split at h
    · assumption
    · cases h
  have htab := (EB.canon_iff l).1 hc
  rw [EB.find_tab htab] at h
  obtain ⟨b, hb, ⟨h1, h2, h3⟩, rfl⟩ := Tb.get_mem _ h
  have r := rngB (htab.1 b hb)
  show (fur b.to (v - b.lo)).length ≤ 64
  rw [fur_len]
  omega
theorem sg_short (t : Tbl) (s : List Int) : ∀ x ∈ sgs t s, x.u.length ≤ 64 := by
  intro x hx
  obtain ⟨p, _, rfl⟩ := List.mem_map.1 hx
  unfold sgOf
  split
  · show ((EB.find t.bfs p.cn p.cv).getD []).length ≤ 64
    cases h : EB.find t.bfs p.cn p.cv with
    | none => exact Nat.zero_le _
    | some a => exact find_short h
  · exact Nat.zero_le _
theorem sgs_len (t : Tbl) (s : List Int) : (sgs t s).length ≤ s.length := by
  unfold sgs
  rw [List.length_map]
  exact allAt_len _ 0 rfl
theorem few_small {t : Tbl} (h : (!fewT t) = false) : smallT t := by
  have := (fewT_iff t).1 (by simpa using h)
  exact ⟨by omega, by omega, by omega, by omega⟩
theorem sgs_mode (t : Tbl) (name : ByteArray) (mode : Int) (s : List Int) : sgs ⟨name, mode, t.spaces, t.cids, t.nots, t.bfs⟩ s = sgs t s := rfl
def SModes : Sp := ⟨Tbl × List Int × ByteArray × Int, fun (t, s, nm, md) => B8 s, fun (t, s, nm, md) => [.agg (cT t), a8 s, .str nm, .int .i64 md], fun _ => .st (.lit true)⟩
end Go.Abs.Lk
set_option maxRecDepth 100000
namespace Go.Abs.Rc
open Go.RowKit Go.Proofs Go.Abs.Tab Go.Abs.Coll Go.Abs.Hx Go.Abs.Mt
attribute [local go_sem] Oper.semAt_some
def canR (l : List Rct) : List Rct := (cptR (sortR (l.filter okR))).filter fun x => !held (cptR (sortR (l.filter okR))) x
theorem rectCells {w : World} {S : Nat → Prop} {l : List Rct} {v : Value} (h : RV0 w S (aR l) v) : ∃ A c, v = .slice A l.length c ∧ l.length ≤ c ∧ ∀ i, i < l.length → ∃ ad, A = some ad ∧ S ad.block ∧ ∀ j x, (encR (l.getD i default))[j]? = some x → w.cell? (ad.add (i * 3 + j)) = some x := by
  generalize ha : aR l = a at h
  cases h with
  | sl sz n el A cap g hcap hmax hl hm hr =>
    unfold aR at ha
    injection ha with h1 h2 h3
    subst h1 h2 h3
    refine ⟨A, cap, rfl, hcap, fun i hi => ?_⟩
    obtain ⟨ad, e1, e2, _⟩ := hm i 0 hi (by omega)
    have hc : ∀ j, j < 3 → w.cell? (ad.add (i * 3 + j)) = some (g i j) := fun j hj => by
      obtain ⟨ad', q1, _, q3⟩ := hm i j hi hj
      rw [e1] at q1
      cases q1
      exact q3
    have r0 := hr i 0 _ hi rfl
    have r1 := hr i 1 _ hi rfl
    have r2 := hr i 2 _ hi rfl
    refine ⟨ad, e1, e2, fun j x hx => ?_⟩
    have hj : j < 3 := (List.getElem?_eq_some_iff.1 hx).1
    rw [hc j hj]
    have hj' : j = 0 ∨ j = 1 ∨ j = 2 := by omega
    clear hm hc hr
    rcases hj' with rfl | rfl | rfl
    all_goals obtain rfl := Option.some.inj hx
    · generalize g i 0 = y at r0; cases r0; rfl
    · generalize g i 1 = y at r1; cases r1; rfl
    · generalize g i 2 = y at r2; cases r2; rfl
  | _ => exact absurd ha (by unfold aR; intro h; cases h)
theorem saneC' (y : Rct) (w : World) : Calls Tryz.prog 34 #[.agg #[.int .i64 y.n, .int .i64 y.lo, .int .i64 y.hi]] w fun e w' => e = .returned (.bool (okR y)) ∧ Below w.heap.size w w' := by
  refine ((rectSane y trivial).2 w (fun _ => False) [.agg #[.int .i64 y.n, .int .i64 y.lo, .int .i64 y.hi]] (fun _ h => h.elim) ⟨rfl, fun i a v q1 q2 => ?_⟩).mono ?_
  · match i, q1, q2 with
    | 0, q1, q2 =>
      obtain rfl := Option.some.inj q1
      obtain rfl := Option.some.inj q2
      refine .agg (cR y) [.int .i64 y.n, .int .i64 y.lo, .int .i64 y.hi] rfl fun j a v p1 p2 => ?_
      have hj : j < 3 := (List.getElem?_eq_some_iff.1 p1).1
      have hc : j = 0 ∨ j = 1 ∨ j = 2 := by omega
      rcases hc with rfl | rfl | rfl
      all_goals
        obtain rfl := Option.some.inj p1
        obtain rfl := Option.some.inj p2
        exact .int _ _
  · rintro e w' ⟨v, S', rfl, hr, _, _, hb⟩
    cases hr
    exact ⟨rfl, hb⟩
theorem below_set {B : Nat} {a w : World} (h : Below B a w) {p : Addr} (hp : B ≤ p.block) (v : Value) : Below B a (w.setCell p v) := h.setCell hp v
theorem RO.below {w w' : World} {base : Nat} {v : Value} {l : List Rct} (h : RO w base v l) (hb : Below w.heap.size w w') : RO w' base v l :=
  h.kept (row := none) ⟨hb.os, hb.tape, hb.output, hb.size, fun k hk _ => hb.block k hk⟩ (by cases v.ownBlock <;> simp)
theorem newsB {w : World} {B : Nat} {ys : List Value} {t : TypeId} (hb : w.heap[B]? = some (.cells ys.toArray t (0, 0))) : ∀ j u, ys[j]? = some u → w.cell? ((⟨B, 0, none⟩ : Addr).add j) = some u := fun j u hu => by
  have h : w.cell? ⟨B, j, none⟩ = ys.toArray[j]? := blk_cell hb j
  have e : (⟨B, 0, none⟩ : Addr).add j = ⟨B, j, none⟩ := by
    unfold Addr.add
    split
    · rename_i h; subst h; rfl
    · simp
  rw [e, h]
  simpa using hu
section
variable {P : Program} {ops : Array Oper} {rest : List Oper} {o : Oper} {a : Act} {Q : Exit → Act → World → Prop}
theorem appCells {w0 W : World} (base : Nat) (hgd : o.guard = none) (s x : Operand) (t e : TypeId) (z : Value) (size bytes : Nat)
    (ho : o.op = .call { callee := .builtin .append, args := #[s, x], argTypes := #[t, t] })
    (ht : P.underlying t = some (.slice e)) (hinfo : (P.info? e).map (fun i => (i.zero, i.size, i.bytes)) = some (some z, size, bytes)) (hz : z.cells.size = size) (hs0 : 0 < size) (hb0 : 0 < bytes)
    (v : Value) (n : Nat) (xs ys : List Value) (hs : a.eval s = v) (hx : a.eval x = .slice (some ⟨W.heap.size, 0, none⟩) 1 1) (hys : ys.length = size) (h1 : ∀ u ∈ ys, u.oneCell' = true)
    (HO : W.ownsRow base e size v n xs) (HB : Below base w0 W) (hbase : base ≤ W.heap.size) (hl : (n + 1) * bytes ≤ 140737488355328)
    (h : ∀ v1 w1, w1.ownsRow base e size v1 (n + 1) (xs ++ ys) → Below base w0 w1 → W.grownBy w1 v.ownBlock → wpList P ops Q rest (a.put o.dst v1) w1) :
    wpList P ops Q (o :: rest) a (W.alloc (.cells ys.toArray e)) := by
  obtain ⟨i0, hi, hzz⟩ := Option.map_eq_some_iff.1 hinfo
  simp only [Prod.mk.injEq] at hzz
  obtain ⟨hz0, hz1, hz2⟩ := hzz
  have hlen : n + 1 ≤ 140737488355328 := Nat.le_trans (Nat.le_mul_of_pos_right _ hb0) hl
  have HOa : (W.alloc (.cells ys.toArray e)).ownsRow base e size v n xs := HO.kept (row := none) (World.grownBy_alloc W _ none) (by cases v.ownBlock <;> simp)
  refine wpList_append_own_at (W.alloc (.cells ys.toArray e)) hgd s x t ho base e i0 z size bytes ht hi hz0 hz1 hz2 hz hs0 v n xs hs HOa ⟨W.heap.size, 0, none⟩ 1 1 ys hx (by rw [hys]; simp)
    (newsB (heap_alloc_new W (.cells ys.toArray e))) h1 (by simp only [maxLen]; omega) hl (by simp; omega) ?_
  intro v1 w1 hown hg _ hat
  exact h v1 w1 hown ((HB.alloc hbase _).grown hg (by simp; omega) (fun k hk => (HO.lt k hk).1)) (World.grownBy.trans (World.grownBy_alloc W _ _) hg)
end
theorem own_ne {w : World} {base : Nat} {e t : TypeId} {size n g : Nat} {v : Value} {xs : List Value} {cs : Array Value} (h : w.ownsRow base e size v n xs) (hg : w.heap[g]? = some (.cells cs t (0, 0))) (hne : e ≠ t) : some g ≠ v.ownBlock := by
  rcases h.2 with ⟨rfl, _⟩ | ⟨g', cap, cur, rfl, _, hh, _⟩
  · simp [Value.ownBlock]
  · intro he
    have : g = g' := by simpa [Value.ownBlock] using he
    subst this
    rw [hg] at hh
    injection hh with hh
    injection hh with _ ht
    exact hne ht.symm
theorem RO.far {w : World} {base : Nat} {v : Value} {l : List Rct} {g : Nat} {cs : Array Value} (h : RO w base v l) (hg : w.heap[g]? = some (.cells cs 22 (0, 0))) (u : Value) : RO (w.setCell ⟨g, 0, none⟩ u) base v l := by
  have hne := own_ne h hg (by decide)
  exact h.kept (row := some g) ⟨rfl, rfl, rfl, by simp [World.setCell], fun k _ hk => Below.heap_setCell _ _ _ _ (fun e => hk (by simp [e]))⟩ (Or.inr (fun e => hne e.symm))
theorem RO.slice {w : World} {base : Nat} {v : Value} {l : List Rct} (h : RO w base v l) : ∃ A c, v = .slice A l.length c := by
  rcases R_row h with ⟨rfl, rfl⟩ | ⟨g, cap, rest, rfl, _⟩
  · exact ⟨none, 0, rfl⟩
  · exact ⟨_, cap, rfl⟩
theorem RowB.far {w : World} {g k : Nat} {l : List Rct} {rest : List Value} (h : RowB w g l rest) (hn : g ≠ k) (o : Value) : RowB (w.setCell ⟨k, 0, none⟩ o) g l rest := blk_far (p := ⟨k, 0, none⟩) h hn o
theorem below_KB {base g : Nat} {w a b : World} (h : Below base w a) (k : KB g a b) (hb : base ≤ g) (hs : base ≤ w.heap.size) : Below base w b :=
  ⟨k.os.trans h.os, k.tape.trans h.tape, k.output.trans h.output, Nat.le_trans h.size k.size, fun i hi => (k.block i (Nat.lt_of_lt_of_le hi (Nat.le_trans hs h.size)) (by omega)).trans (h.block i hi)⟩
theorem below_step {B : Nat} {a b c : World} (h : Below B a b) (k : Below b.heap.size b c) (hB : B ≤ a.heap.size := by first | exact Nat.le_refl _ | omega) : Below B a c := h.trans (k.mono (Nat.le_trans hB h.size))
theorem ok_good {r : Rct} (h : okR r = true) : goodR r = true := by
  have h1 := ok_len h
  have h2 := (of_decide_eq_true h).1
  unfold lo at h2
  rw [bytesC_len] at h2
  split at h2
  · rename_i h3
    have := (saneC_iff _ _).1 h3
    unfold goodR
    simp only [Bool.and_eq_true, decide_eq_true_eq]
    omega
  · omega
theorem filter_next {l : List Rct} {i : Nat} (h : i < l.length) : (l.take (i + 1)).filter okR = if okR l[i] = true then (l.take i).filter okR ++ [l[i]] else (l.take i).filter okR := by
  rw [filter_take_succ _ _ _ h]
  split <;> simp [*]
set_option maxHeartbeats 4000000 in
theorem delNil (g : Nat) (w : World) (hg : w.cell? ⟨g, 0, none⟩ = some (.slice none 0 0)) :
    Calls Tryz.prog 42 #[.slice none 0 0, .func (.func 44) #[] #[.pointer (some ⟨g, 0, none⟩)]] w fun e w' => e = .returned (.slice none 0 0) ∧ Below w.heap.size w w' := by
  have hlt := World.block_lt_of_cell? w _ hg
  have hidx : Calls Tryz.prog 68 #[.slice none 0 0, .func (.func 44) #[] #[.pointer (some ⟨g, 0, none⟩)]] w fun e w' => e = .returned (.int .i64 (-1)) ∧ Below w.heap.size w w' := by
    refine ((indexC ([], []) ⟨by show 0 < 4611686018427387904; omega, by show 0 < 4611686018427387904; omega⟩).2 w (fun k => k = g) [.slice none 0 0, .func (.func 44) #[] #[.pointer (some ⟨g, 0, none⟩)]] (fun b hb => by subst hb; exact hlt) ⟨rfl, fun i a v q1 q2 => ?_⟩).mono ?_
    · match i, q1, q2 with
      | 0, q1, q2 =>
        obtain rfl := Option.some.inj q1
        obtain rfl := Option.some.inj q2
        exact .sl 3 0 _ none 0 (fun _ _ => .bool false) (Nat.le_refl _) (Nat.zero_le _) (fun i hi => absurd hi (Nat.not_lt_zero _)) (fun i j hi => absurd hi (Nat.not_lt_zero _)) (fun i j a hi => absurd hi (Nat.not_lt_zero _))
      | 1, q1, q2 =>
        obtain rfl := Option.some.inj q1
        obtain rfl := Option.some.inj q2
        refine .fn _ [.rptr [aR []]] [.pointer (some ⟨g, 0, none⟩)] rfl fun j a v p1 p2 => ?_
        have hj : j < 1 := (List.getElem?_eq_some_iff.1 p1).1
        obtain rfl : j = 0 := by omega
        obtain rfl := Option.some.inj p1
        obtain rfl := Option.some.inj p2
        refine .rptr _ _ (fun _ => .slice none 0 0) rfl (fun j hj => ?_) (fun j a h1 => ?_)
        · obtain rfl : j = 0 := by simpa using hj
          exact ⟨rfl, hg⟩
        · have hj : j < 1 := (List.getElem?_eq_some_iff.1 h1).1
          obtain rfl : j = 0 := by omega
          obtain rfl := Option.some.inj h1
          exact .sl 3 0 _ none 0 (fun _ _ => .bool false) (Nat.le_refl _) (Nat.zero_le _) (fun i hi => absurd hi (Nat.not_lt_zero _)) (fun i j hi => absurd hi (Nat.not_lt_zero _)) (fun i j a hi => absurd hi (Nat.not_lt_zero _))
    · rintro e w' ⟨v, S', rfl, hr, _, _, hb⟩
      cases hr
      exact ⟨rfl, hb⟩
  have HI := Aside0.mk hidx
  clear hg hidx
  go_enter Tryz.func42, Tryz.ntmps42
  go_wp2_with (go_at_call 68; refine HI.out.mono ?_; rintro e w1 ⟨rfl, hb⟩; have HB := Aside0.mk hb; clear hb)
  go_ret
  exact ⟨rfl, HB.out⟩
set_option maxHeartbeats 8000000 in
theorem canonC (A0 : Option Addr) (c0 : Nat) (l0 : List Rct) (S : Nat → Prop) (w : World) (hS : ∀ b, S b → b < w.heap.size) (hv : RV0 w S (aR l0) (.slice A0 l0.length c0)) (hl : l0.length ≤ 1000000) :
    Calls Tryz.prog 28 #[.slice A0 l0.length c0] w fun e w' => ∃ v, e = .returned v ∧ RO w' w.heap.size v (canR l0) ∧ Below w.heap.size w w' := by
  have hu1 := Tryz.underlying22
  have hu2 := Tryz.underlying80
  have hmf : ∀ (fn : Go.Fn) (first cap : Array Value) (w : World), (Instr.makeFunc fn first cap).run Tryz.prog w = .ok (.func fn first cap) w := fun _ _ _ _ => rfl
  obtain ⟨A1, c1, e, hc, hcell⟩ := rectCells hv
  injection e with e1 e2 e3
  subst e1 e3
  have HL := Aside0.mk hl
  have HC := Aside0.mk hcell
  have HS := Aside0.mk hS
  clear hl hcell hc hS hv
  go_enter Tryz.func28, Tryz.ntmps28
  go_wp2
  go_loopg [8] (l0.length + 1) (fun kq v8 w' => ∃ (i : Nat) (v : Value), v8 = .int .i64 (i : Nat) ∧ Aside0 (i ≤ l0.length ∧ l0.length + 1 ≤ kq + i) ∧ Aside0 (w'.heap[w.heap.size]? = some (.cells #[v] 22 (0, 0))) ∧ Aside0 (RO w' w.heap.size v ((l0.take i).filter okR)) ∧ Aside0 (Below w.heap.size w w'))
  case atStart => exact ⟨0, .slice none 0 0, rfl, ⟨by omega⟩, ⟨heap_alloc_new _ _⟩, ⟨World.ownsRow_nil _ _ _ _⟩, ⟨below_alloc (Below.refl _ _) _⟩⟩
  case round =>
    obtain ⟨i, v, rfl, HI, BK, HO, HB⟩ := hrel
    cases gk with
    | zero => have := HI.out; omega
    | succ k1 =>
      by_cases hi : i < l0.length
      · obtain ⟨ad, ead, hsb, hcl⟩ := HC.out i hi
        subst ead
        have hw : ∀ p : Addr, p.block = ad.block → wr.cell? p = w.cell? p := fun p hp => World.cell?_of_block (by rw [hp]; exact HB.out.block _ (HS.out _ hsb))
        have hab : ∀ n, (ad.add n).block = ad.block := fun n => by unfold Addr.add; split <;> rfl
        have hao : (ad.add (i * 3)).off = ad.off + i * 3 := by unfold Addr.add; split <;> first | rfl | (rename_i h; omega)
        have hadd : ∀ j, 0 < j → (⟨(ad.add (i * 3)).block, (ad.add (i * 3)).off + j, none⟩ : Addr) = ad.add (i * 3 + j) := fun j hj => by
          rw [hab, hao]
          unfold Addr.add
          rw [if_neg (by omega), Nat.add_assoc]
        obtain ⟨y, hy⟩ : ∃ y, y = l0[i] := ⟨_, rfl⟩
        rw [getR hi, ← hy] at hcl
        have hx0 : wr.cell? (ad.add (i * 3)) = some (.int .i64 y.n) := (hw _ (hab _)).trans (hcl 0 _ rfl)
        have hx1 : wr.cell? ⟨(ad.add (i * 3)).block, (ad.add (i * 3)).off + 1, none⟩ = some (.int .i64 y.lo) := by rw [hadd 1 (by omega)]; exact (hw _ (hab _)).trans (hcl 1 _ rfl)
        have hx2 : wr.cell? ⟨(ad.add (i * 3)).block, (ad.add (i * 3)).off + 2, none⟩ = some (.int .i64 y.hi) := by rw [hadd 2 (by omega)]; exact (hw _ (hab _)).trans (hcl 2 _ rfl)
        have p0 : (0 ≤ (i : Int)) = True := eq_true (by omega)
        have p1 : ((i : Int) < (l0.length : Int)) = True := eq_true (by omega)
        have HLi := Aside0.mk hi
        have hnx := filter_next hi
        rw [← hy] at hnx
        have HNX := Aside0.mk hnx
        have hlf : ((l0.take i).filter okR).length ≤ i := by
          have := List.length_filter_le okR (l0.take i)
          rw [List.length_take] at this
          omega
        have HLF := Aside0.mk hlf
        clear hy hcl hw hadd hab hao hsb hnx hlf
        have HBN : Aside0 ((wr.alloc (.cells #[.int .i64 y.n, .int .i64 y.lo, .int .i64 y.hi] 80)).heap[wr.heap.size]? = some (.cells #[.int .i64 y.n, .int .i64 y.lo, .int .i64 y.hi] 80 (0, 0))) := ⟨heap_alloc_new _ _⟩
        have hsn := saneC' y
        cases ht : okR y with
        | true =>
          rw [ht] at hsn HNX
          have HSN := Aside0.mk hsn
          clear hsn
          go_wp2_with (first | (go_at_call 34; refine (HSN.out _).mono ?_; rintro e w1 ⟨rfl, hb⟩; have hbx := blk_below HBN.out hb; have b0 : w1.cell? ⟨wr.heap.size, 0, none⟩ = some (.int .i64 y.n) := (blk_cell hbx 0).trans rfl; have b1 : w1.cell? ⟨wr.heap.size, 1, none⟩ = some (.int .i64 y.lo) := (blk_cell hbx 1).trans rfl; have b2 : w1.cell? ⟨wr.heap.size, 2, none⟩ = some (.int .i64 y.hi) := (blk_cell hbx 2).trans rfl; have hgl := blk_below (blk_alloc BK.out _) hb; have g0 : w1.cell? ⟨w.heap.size, 0, none⟩ = some v := (blk_cell hgl 0).trans rfl; have BK1 := Aside0.mk hgl; have HO1 := Aside0.mk (RO.below (RO.below HO.out (below_alloc (Below.refl _ _) _)) hb); have HB1 := Aside0.mk (below_step (below_alloc HB.out _) hb); clear hb hbx hgl) | (at_builtin; refine appCells (w0 := w) w.heap.size rfl (.tmp 14) (.tmp 16) 22 80 (.agg #[(.int .i64 0), (.int .i64 0), (.int .i64 0)]) 3 24 rfl Tryz.underlying22 infoR rfl (by decide) (by decide) v ((l0.take i).filter okR).length (cellsR ((l0.take i).filter okR)) [.int .i64 y.n, .int .i64 y.lo, .int .i64 y.hi] rfl rfl rfl ?aP HO1.out HB1.out HB1.out.size ?aL ?_; (case aP => intro u hu; simp at hu; rcases hu with rfl | rfl | rfl <;> rfl); (case aL => have := HLF.out; have := HLi.out; have := HL.out; omega); intro v1 w9 ho hb hg; have ho' : RO w9 w.heap.size v1 ((l0.take i).filter okR ++ [y]) := (by unfold RO; rw [List.length_append, cellsR_app]; exact ho); obtain ⟨Aw, cw, ev1⟩ := RO.slice ho'; rw [List.length_append, List.length_singleton] at ev1; subst ev1; have hgl := (hg.block w.heap.size (blk_lt BK1.out) (own_ne HO1.out BK1.out (by decide))).trans BK1.out; have g0 : w9.cell? ⟨w.heap.size, 0, none⟩ = some v := (blk_cell hgl 0).trans rfl; have gf := blk_frozen hgl 0; have BK2 := Aside0.mk hgl; have HB2 := Aside0.mk hb; have HO2 := Aside0.mk ho'; clear hgl hb ho ho' hg))
          go_roundg k1
          case measure => have := HI.out; omega
          case rel => exact ⟨i + 1, _, (by first | rfl | (have := HL.out; have := HLi.out; congr 1; unfold wrap64; omega) | (have := HL.out; have := HLi.out; simp [wrap64]; omega)), ⟨by have := HI.out; have := HLi.out; omega⟩, ⟨blk_put BK2.out 0 _ rfl⟩, ⟨by rw [HNX.out, if_pos (by trivial)]; exact RO.far HO2.out BK2.out _⟩, ⟨below_set HB2.out (Nat.le_refl _) _⟩⟩
        | false =>
          rw [ht] at hsn HNX
          have HSN := Aside0.mk hsn
          clear hsn
          go_wp2_with (go_at_call 34; refine (HSN.out _).mono ?_; rintro e w1 ⟨rfl, hb⟩; have hbx := blk_below HBN.out hb; have b0 : w1.cell? ⟨wr.heap.size, 0, none⟩ = some (.int .i64 y.n) := (blk_cell hbx 0).trans rfl; have b1 : w1.cell? ⟨wr.heap.size, 1, none⟩ = some (.int .i64 y.lo) := (blk_cell hbx 1).trans rfl; have b2 : w1.cell? ⟨wr.heap.size, 2, none⟩ = some (.int .i64 y.hi) := (blk_cell hbx 2).trans rfl; have hgl := blk_below (blk_alloc BK.out _) hb; have g0 : w1.cell? ⟨w.heap.size, 0, none⟩ = some v := (blk_cell hgl 0).trans rfl; have BK1 := Aside0.mk hgl; have HO1 := Aside0.mk (RO.below (RO.below HO.out (below_alloc (Below.refl _ _) _)) hb); have HB1 := Aside0.mk (below_step (below_alloc HB.out _) hb); clear hb hbx hgl)
          go_roundg k1
          case measure => have := HI.out; omega
          case rel => exact ⟨i + 1, v, (by first | rfl | (have := HL.out; have := HLi.out; congr 1; unfold wrap64; omega) | (have := HL.out; have := HLi.out; simp [wrap64]; omega)), ⟨by have := HI.out; have := HLi.out; omega⟩, BK1, ⟨by rw [HNX.out, if_neg (by decide)]; exact HO1.out⟩, HB1⟩
      · obtain rfl : i = l0.length := by have := HI.out; omega
        have ho := HO.out
        rw [List.take_length] at ho
        clear HO
        have hgd : ∀ r ∈ l0.filter okR, goodR r = true := fun r hr => ok_good (List.mem_filter.1 hr).2
        have hfl : (l0.filter okR).length ≤ 1000000 := by
          have := List.length_filter_le okR l0
          have := HL.out
          omega
        have hcan : canR l0 = (cptR (sortR (l0.filter okR))).filter fun x => !held (cptR (sortR (l0.filter okR))) x := rfl
        generalize l0.filter okR = acc at *
        have HCAN := Aside0.mk hcan
        clear hcan
        rcases R_row ho with ⟨rfl, hn⟩ | ⟨g, cap, rest, rfl, hbg, hrow, hcap, hmax, hlen⟩
        · subst hn
          have hg0 : wr.cell? ⟨w.heap.size, 0, none⟩ = some (.slice none 0 0) := (blk_cell BK.out 0).trans rfl
          have hgf := blk_frozen BK.out 0
          have HR0 : Aside0 (canR l0 = []) := ⟨by
            rw [HCAN.out]
            have e : cptR (sortR []) = [] := by unfold sortR; rw [List.mergeSort_nil]; rfl
            rw [e]
            rfl⟩
          clear HCAN
          have HB3 : Aside0 (Below w.heap.size w wr) := HB
          have hS : ∀ W, Calls Tryz.prog 39 #[.slice none 0 0, .func (.func 40) #[] #[]] W fun e w' => e = .returned (.tuple #[]) ∧ w' = W := fun W => Go.Proofs.AnyF.slices_SortFunc_none Tryz.sortR none 0 _ W
          have hP : ∀ W, Calls Tryz.prog 41 #[.slice none 0 0] W fun e w' => e = .returned (.slice none 0 0) ∧ Below W.heap.size W w' := fun W => cpt0 none 0 0 (by decide) W
          have hQ : ∀ W, Calls Tryz.prog 43 #[.slice none 0 0] W fun e w' => e = .returned (.slice none 0 0) ∧ w' = W := fun W => Go.Proofs.AnyE.slices_Clone_nil Tryz.cloneR 0 0 W
          have hD : ∀ W, W.cell? ⟨w.heap.size, 0, none⟩ = some (.slice none 0 0) → Calls Tryz.prog 42 #[.slice none 0 0, .func (.func 44) #[] #[.pointer (some ⟨w.heap.size, 0, none⟩)]] W fun e w' => e = .returned (.slice none 0 0) ∧ Below W.heap.size W w' := fun W hW => delNil w.heap.size W hW
          have HSS := Aside0.mk hS
          have HP := Aside0.mk hP
          have HQ := Aside0.mk hQ
          have HD := Aside0.mk hD
          clear hS hP hQ hD ho hgd hfl
          go_wp2_with (first | (go_at_call 39; refine (HSS.out _).mono ?_; rintro e w1 ⟨rfl, rfl⟩) | (go_at_call 41; refine (HP.out _).mono ?_; rintro e w2 ⟨rfl, hb2⟩; have hbk := blk_below BK.out hb2; have hz0 : w2.cell? ⟨w.heap.size, 0, none⟩ = some (.slice none 0 0) := (blk_cell hbk 0).trans rfl; have hzf := blk_frozen hbk 0; have BK2 := Aside0.mk hbk; have HB2 := Aside0.mk (below_step HB3.out hb2); clear hbk hb2) | (go_at_call 43; refine (HQ.out _).mono ?_; rintro e w3 ⟨rfl, rfl⟩) | (go_at_call 42; refine (HD.out _ ((blk_cell (blk_put BK2.out 0 (.slice none 0 0) rfl) 0).trans rfl)).mono ?_; rintro e w4 ⟨rfl, hb4⟩; have HB4 := Aside0.mk (below_step (below_set HB2.out (Nat.le_refl _) (p := ⟨w.heap.size, 0, none⟩) (.slice none 0 0)) hb4); clear hb4))
          go_ret
          refine ⟨_, rfl, ?_, HB4.out⟩
          rw [HR0.out]
          exact World.ownsRow_nil _ _ _ _
        · have hsl : (sortR acc).length = acc.length := List.length_mergeSort acc
          have hcl : (cptR (sortR acc)).length ≤ acc.length := Nat.le_trans (cuR_len (sortR acc) (sortR acc).length) (Nat.le_of_eq hsl)
          have hcp : 2 ≤ 2 := Nat.le_refl _
          have hrl := cellsR_len acc
          obtain ⟨s, hs⟩ : ∃ s, cptR (sortR acc) = s := ⟨_, rfl⟩
          have hcan := HCAN.out
          rw [hs] at hcl hcan
          have hS := sortC g cap acc rest wr hrow hgd (by omega)
          have hP := fun W (hW : RowB W g (sortR acc) rest) => cptA g cap (sortR acc) rest W hW (by omega) (by omega)
          rw [hs, hsl] at hP
          have hgn : g ≠ w.heap.size := fun e => by
            have h1 := BK.out
            rw [← e, show wr.heap[g]? = _ from hrow] at h1
            injection h1 with h1
            injection h1 with _ h1
            exact absurd h1 (by decide)
          have HSS := Aside0.mk hS
          have HP := Aside0.mk hP
          have HNE := Aside0.mk hgn
          have HBG := Aside0.mk hbg
          have HLEN := Aside0.mk (show s.length ≤ cap ∧ s.length ≤ 1000000 ∧ cap ≤ maxLen by omega)
          have HCN := Aside0.mk hcan
          have hg0 : ∀ W, KB g wr W → W.cell? ⟨w.heap.size, 0, none⟩ = some (.slice (some ⟨g, 0, none⟩) acc.length cap) := fun W hW => (blk_cell (hW.blk BK.out (fun e => HNE.out e.symm)) 0).trans rfl
          have hg1 := hg0 wr (KB.refl g wr)
          have HG0 := Aside0.mk hg0
          have HB3 : Aside0 (Below w.heap.size w wr) := HB
          clear hS hP hgd hsl hcl hs hrow hgn hbg hg0 hcap hmax hlen HCAN hfl hcan ho hcp hrl
          go_wp2_with (first | (go_at_call 39; refine (HSS.out).mono ?_; rintro e w1 ⟨rfl, hrow1, hkb1⟩; have hg1 := HG0.out _ hkb1; have HRW1 := Aside0.mk hrow1; have HKB1 := Aside0.mk hkb1; clear hrow1 hkb1) | (go_at_call 41; refine (HP.out _ HRW1.out).mono ?_; rintro e w2 ⟨rfl, ⟨rest2, hrow2, hlen2⟩, hkb2⟩; have hbk := (HKB1.out.trans hkb2).blk BK.out (fun e => HNE.out e.symm); have hz0 : w2.cell? ⟨w.heap.size, 0, none⟩ = some (.slice (some ⟨g, 0, none⟩) acc.length cap) := (blk_cell hbk 0).trans rfl; have hzf := blk_frozen hbk 0; have BK2 := Aside0.mk hbk; have HRW2 := Aside0.mk hrow2; have HB2 := Aside0.mk (below_KB HB3.out (HKB1.out.trans hkb2) HBG.out (Nat.le_refl _)); clear hbk hrow2 hlen2 hkb2) | (go_at_call 43; refine (cloneA g cap s rest2 _ (RowB.far HRW2.out HNE.out _) (by have := HLEN.out; omega)).mono ?_; rintro e w4 ⟨gd, capd, rest4, rfl, hgd, hrow4, hl4, hm4, hn4, hb4⟩; have HRW4 := Aside0.mk hrow4; have HL4 := Aside0.mk (And.intro hl4 (And.intro hm4 hn4)); have HGD : Aside0 (w.heap.size ≤ gd ∧ g ≠ gd ∧ w.heap.size ≠ gd) := ⟨by have h1 := blk_lt (RowB.far HRW2.out HNE.out (.slice (some ⟨g, 0, none⟩) s.length cap)); have h2 := blk_lt (blk_put BK2.out 0 (.slice (some ⟨g, 0, none⟩) s.length cap) rfl); omega⟩; have BK4 := Aside0.mk (blk_below (blk_put BK2.out 0 (.slice (some ⟨g, 0, none⟩) s.length cap) rfl) hb4); have HRA4 := Aside0.mk (Below.row hb4 (RowB.far HRW2.out HNE.out (.slice (some ⟨g, 0, none⟩) s.length cap))); have HB4 := Aside0.mk (below_step (below_set HB2.out (Nat.le_refl _) (p := ⟨w.heap.size, 0, none⟩) (.slice (some ⟨g, 0, none⟩) s.length cap)) hb4); clear hgd hrow4 hl4 hm4 hn4 hb4) | (go_at_call 42; refine (delA g cap s rest2 w.heap.size gd capd s rest4 (held s) w4 HRA4.out HLEN.out.1 ⟨by have := HLEN.out; omega, HLEN.out.2.2⟩ ((blk_cell BK4.out 0).trans rfl) HRW4.out ⟨HL4.out.1, HL4.out.2.1⟩ (by have := HLEN.out; omega) HGD.out.2.1 HGD.out.2.2 (fun _ => rfl)).mono ?_; rintro e w5 ⟨rfl, ⟨rest5, hrow5, hlen5⟩, hkb5⟩; have HRW5 := Aside0.mk hrow5; have HLEN5 := Aside0.mk hlen5; have HB5 := Aside0.mk (below_KB HB4.out hkb5 HGD.out.1 (Nat.le_refl _)); clear hrow5 hlen5 hkb5))
          go_ret
          refine ⟨_, rfl, ?_, HB5.out⟩
          rw [HCN.out]
          refine row_R HRW5.out HGD.out.1 (Nat.le_trans (List.length_filter_le _ _) HL4.out.1) HL4.out.2.1 ?_
          have e1 := HL4.out.2.2
          have e2 := HLEN5.out
          rw [cellsR_len] at e1 ⊢
          omega
def SCanR : Sp := ⟨List Rct, fun l => l.length ≤ 1000000, fun l => [aR l], fun l => .row 80 3 (canR l).length (els cR (canR l))⟩
theorem rectCanon : SpOK Tryz.prog 28 SCanR := fun (l : List Rct) hl => by
  refine ⟨⟨_, Tryz.func28, rfl, rfl⟩, fun w S vs hS hv => ?_⟩
  obtain ⟨hl1, hv2⟩ := hv
  match vs, hl1, hv2 with
  | [v], hl1, hv2 =>
    have h0 := hv2 0 _ _ rfl rfl
    obtain ⟨A, c, rfl, _, _⟩ := rectCells h0
    refine (canonC A c l S w hS h0 hl).mono ?_
    rintro e w' ⟨v, rfl, ho, hb⟩
    refine ⟨v, S, rfl, ⟨⟨_, ho, fun i hi => ⟨rfl, rfl, fun j a hj => ?_⟩⟩, fun b hb2 hSb => ?_⟩, fun _ q => q, fun b q => ⟨Nat.lt_of_lt_of_le (hS b q) hb.size, .inl q⟩, hb⟩
    · obtain ⟨h1, h2, h3⟩ := cellsR_get (canR l) i hi
      have e : els cR (canR l) i = cR (canR l)[i] := by unfold els; rw [getR hi]
      rw [e] at hj
      have hj3 : j < 3 := (List.getElem?_eq_some_iff.1 hj).1
      have hc : j = 0 ∨ j = 1 ∨ j = 2 := by omega
      rcases hc with rfl | rfl | rfl
      · obtain rfl := Option.some.inj hj
        exact ⟨_, h1, .int _ _⟩
      · obtain rfl := Option.some.inj hj
        exact ⟨_, h2, .int _ _⟩
      · obtain rfl := Option.some.inj hj
        exact ⟨_, h3, .int _ _⟩
    · have := (ho.lt b hb2).1
      have := hS b hSb
      omega
end Go.Abs.Rc
set_option maxRecDepth 100000
namespace Go.Abs.Rc
open Go.RowKit Go.Proofs Go.Abs.Tab Go.Abs.Dest Go.Abs.Span Go.Abs.Coll Go.Abs.Hx Go.Abs.Mt
def sameRs (a b : List Rct) : Bool := decide (a.length = b.length) && (List.range a.length).all fun j => eqR (a.getD j default) (b.getD j default)
def SSameR : Sp := ⟨List Rct × List Rct, fun (a, _) => a.length < 9223372036854775807, fun (a, b) => [aR a, aR b], fun (a, b) => .st (.sb (sameRs a b))⟩
theorem sameRs_at (a b : List Rct) : sameRs a b = true ↔ a.length = b.length ∧ ∀ j, j < a.length → a.getD j default = b.getD j default := by
  unfold sameRs
  rw [Bool.and_eq_true, decide_eq_true_iff, List.all_eq_true]
  simp only [List.mem_range, eqR_iff]
theorem sameRs_iff (a b : List Rct) : sameRs a b = true ↔ a = b := by
  rw [sameRs_at]
  constructor
  · rintro ⟨h1, h2⟩
    refine List.ext_getElem h1 fun i hi hj => ?_
    have := h2 i hi
    rwa [getR hi, getR hj] at this
  · rintro rfl
    exact ⟨rfl, fun _ _ => rfl⟩
theorem sameRs_no {a b : List Rct} (h : ¬ (a.length = b.length ∧ ∀ j, j < a.length → a.getD j default = b.getD j default)) : sameRs a b = false := by
  rw [Bool.eq_false_iff, ne_eq, sameRs_at]
  exact h
theorem slEqualR : SpOK Tryz.prog 27 SSameR := fun ⟨a, b⟩ ha => by
  have hC := base
  have ha : a.length < 9223372036854775807 := ha
  ((refine Fn.ofF hC Tryz.func27 Tryz.ntmps27 rfl rfl rfl ?_); (repeat' first | (with_reducible exact trivial) | (with_reducible rfl) | (refine And.intro ?_ ?_) | (refine Need.mk ?_) | exact True.intro | (first | (refine ⟨_, Told.refl _, ?_, ?_⟩) | (refine ⟨⟨_, _⟩, Told.refl _, ?_, ?_⟩) | (refine ⟨⟨_, _, _⟩, Told.refl _, ?_, ?_⟩) | (refine ⟨⟨_, _, _, _⟩, Told.refl _, ?_, ?_⟩) | (refine ⟨⟨_, _, _, _, _⟩, Told.refl _, ?_, ?_⟩) | (refine ⟨(), Told.refl _, ?_, ?_⟩)) | (with_reducible intro _) | (refine fun (_ : Bool) => ?_)))
  · ((try dsimp only at *); (try simp only [decide_eq_true_eq, decide_eq_false_iff_not, beq_iff_eq, bne_iff_ne, beq_eq_false_iff_ne, bne_eq_false_iff_eq, ne_eq, Decidable.not_not, ge_iff_le, gt_iff_lt, Bool.not_eq_true', Bool.not_eq_false', Int.not_lt, Int.not_le, Nat.not_lt, Nat.not_le] at *))
    exact (sameRs_no fun h => by omega).symm
  refine AW.loop (I := fun k : Nat => ⟨26, [(0, aR a), (1, aR b), (12, .int .i64 a.length), (13, .int .i64 k)], []⟩) (fun k => k ≤ a.length ∧ ∀ j, j < k → a.getD j default = b.getD j default) (fun k => a.length - k) 0 ⟨Nat.zero_le _, fun j hj => by omega⟩ ?_ ?_
  · (repeat' first | (with_reducible exact trivial) | (with_reducible rfl) | (refine And.intro ?_ ?_) | (refine Need.mk ?_) | exact True.intro | (first | (refine ⟨_, Told.refl _, ?_, ?_⟩) | (refine ⟨⟨_, _⟩, Told.refl _, ?_, ?_⟩) | (refine ⟨⟨_, _, _⟩, Told.refl _, ?_, ?_⟩) | (refine ⟨⟨_, _, _, _⟩, Told.refl _, ?_, ?_⟩) | (refine ⟨⟨_, _, _, _, _⟩, Told.refl _, ?_, ?_⟩) | (refine ⟨(), Told.refl _, ?_, ?_⟩)) | (with_reducible intro _) | (refine fun (_ : Bool) => ?_)); rfl
  · intro k ⟨hk, he⟩
    ((refine AW.byF ‹_› ?_); (repeat' first | (with_reducible exact trivial) | (with_reducible rfl) | (refine And.intro ?_ ?_) | (refine Need.mk ?_) | exact True.intro | (first | (refine ⟨_, Told.refl _, ?_, ?_⟩) | (refine ⟨⟨_, _⟩, Told.refl _, ?_, ?_⟩) | (refine ⟨⟨_, _, _⟩, Told.refl _, ?_, ?_⟩) | (refine ⟨⟨_, _, _, _⟩, Told.refl _, ?_, ?_⟩) | (refine ⟨⟨_, _, _, _, _⟩, Told.refl _, ?_, ?_⟩) | (refine ⟨(), Told.refl _, ?_, ?_⟩)) | (with_reducible intro _) | (refine fun (_ : Bool) => ?_)))
    any_goals (intros; first | rfl | (((try dsimp only at *); (try simp only [decide_eq_true_eq, decide_eq_false_iff_not, beq_iff_eq, bne_iff_ne, beq_eq_false_iff_ne, bne_eq_false_iff_eq, ne_eq, Decidable.not_not, ge_iff_le, gt_iff_lt, Bool.not_eq_true', Bool.not_eq_false', Int.not_lt, Int.not_le, Nat.not_lt, Nat.not_le] at *)) <;> (try simp only [IntKind.wrap_i64] at *) <;> omega))
    · ((try dsimp only at *); (try simp only [decide_eq_true_eq, decide_eq_false_iff_not, beq_iff_eq, bne_iff_ne, beq_eq_false_iff_ne, bne_eq_false_iff_eq, ne_eq, Decidable.not_not, ge_iff_le, gt_iff_lt, Bool.not_eq_true', Bool.not_eq_false', Int.not_lt, Int.not_le, Nat.not_lt, Nat.not_le] at *))
      refine (sameRs_no fun h => ?_).symm
      have := h.2 k (by omega)
      simp_all [eqA, bval]
    · ((try dsimp only at *); (try simp only [decide_eq_true_eq, decide_eq_false_iff_not, beq_iff_eq, bne_iff_ne, beq_eq_false_iff_ne, bne_eq_false_iff_eq, ne_eq, Decidable.not_not, ge_iff_le, gt_iff_lt, Bool.not_eq_true', Bool.not_eq_false', Int.not_lt, Int.not_le, Nat.not_lt, Nat.not_le] at *))
      refine Exists.intro (k + 1) (And.intro ?_ (And.intro ?_ ?_))
      · refine ⟨by omega, fun j hj => ?_⟩
        by_cases e : j = k
        · subst e
          have : eqR (a.getD j default) (b.getD j default) = true := by simp_all [eqA, bval, eqR]
          exact (eqR_iff _ _).1 this
        · exact he j (by omega)
      · omega
      · (repeat' first | (with_reducible exact trivial) | (with_reducible rfl) | (refine And.intro ?_ ?_) | (refine Need.mk ?_) | exact True.intro | (first | (refine ⟨_, Told.refl _, ?_, ?_⟩) | (refine ⟨⟨_, _⟩, Told.refl _, ?_, ?_⟩) | (refine ⟨⟨_, _, _⟩, Told.refl _, ?_, ?_⟩) | (refine ⟨⟨_, _, _, _⟩, Told.refl _, ?_, ?_⟩) | (refine ⟨⟨_, _, _, _, _⟩, Told.refl _, ?_, ?_⟩) | (refine ⟨(), Told.refl _, ?_, ?_⟩)) | (with_reducible intro _) | (refine fun (_ : Bool) => ?_))
        (intros; first | rfl | (((try dsimp only at *); (try simp only [decide_eq_true_eq, decide_eq_false_iff_not, beq_iff_eq, bne_iff_ne, beq_eq_false_iff_ne, bne_eq_false_iff_eq, ne_eq, Decidable.not_not, ge_iff_le, gt_iff_lt, Bool.not_eq_true', Bool.not_eq_false', Int.not_lt, Int.not_le, Nat.not_lt, Nat.not_le] at *)) <;> (try simp only [IntKind.wrap_i64] at *) <;> omega))
    · ((try dsimp only at *); (try simp only [decide_eq_true_eq, decide_eq_false_iff_not, beq_iff_eq, bne_iff_ne, beq_eq_false_iff_ne, bne_eq_false_iff_eq, ne_eq, Decidable.not_not, ge_iff_le, gt_iff_lt, Bool.not_eq_true', Bool.not_eq_false', Int.not_lt, Int.not_le, Nat.not_lt, Nat.not_le] at *))
      obtain rfl : k = a.length := by omega
      exact ((sameRs_at a b).2 ⟨by omega, he⟩).symm
def saneT (t : Tbl) : Bool := decide (t.wmode = 0 ∨ t.wmode = 1) && (sameRs (canR t.spaces) t.spaces && ((ES true).canon t.cids && ((ES false).canon t.nots && EB.canon t.bfs)))
def SSaneT : Sp := ⟨Tbl, fun t => t.spaces.length ≤ 1000000 ∧ t.cids.length < 9223372036854775807 ∧ t.nots.length < 9223372036854775807 ∧ t.bfs.length < 9223372036854775807, fun t => [.agg (cT t)], fun t => .st (.sb (saneT t))⟩
theorem canR_len (l : List Rct) : (canR l).length ≤ l.length := by
  unfold canR
  refine Nat.le_trans (List.length_filter_le _ _) ?_
  refine Nat.le_trans (cuR_len _ _) ?_
  unfold sortR
  rw [List.length_mergeSort]
  exact List.length_filter_le _ _
set_option maxHeartbeats 4000000 in
theorem saneTC : SpOK Tryz.prog 16 SSaneT := fun (t : Tbl) ⟨h1, h2, h3, h4⟩ => by
  have hC : COK Tryz.prog (cfg [(28, SCanR), (27, SSameR), (29, SCanonS), (30, SCanon)]) := Ty.ty.cfg ⟨rectCanon, slEqualR, canon, canonB, trivial⟩
  have hl := canR_len t.spaces
  ((refine Fn.ofF hC Tryz.func16 Tryz.ntmps16 rfl rfl rfl ?_); (repeat' first | (with_reducible exact trivial) | (with_reducible rfl) | (refine And.intro ?_ ?_) | (refine Need.mk ?_) | exact True.intro | (first | (refine ⟨_, Told.refl _, ?_, ?_⟩) | (refine ⟨⟨_, _⟩, Told.refl _, ?_, ?_⟩) | (refine ⟨⟨_, _, _⟩, Told.refl _, ?_, ?_⟩) | (refine ⟨⟨_, _, _, _⟩, Told.refl _, ?_, ?_⟩) | (refine ⟨⟨_, _, _, _, _⟩, Told.refl _, ?_, ?_⟩) | (refine ⟨(), Told.refl _, ?_, ?_⟩)) | (with_reducible intro _) | (refine fun (_ : Bool) => ?_)))
  any_goals exact h1
  any_goals exact h2
  any_goals exact h3
  any_goals exact h4
  any_goals (show (canR t.spaces).length < 9223372036854775807; omega)
  all_goals unfold saneT
  all_goals simp_all
end Go.Abs.Rc
set_option maxRecDepth 100000
namespace Go.Abs.Cp
open Go.RowKit Go.Proofs Go.Abs.Tab Go.Abs.Dest Go.Abs.Span Go.Abs.Coll Go.Abs.Hx Go.Abs.Mt Go.Abs.Lk Go.Abs.Rc Go.Abs.Utf Go.Abs.Txt
structure Fnt where
  enc : Tbl
  hasUni : Bool
  uni : Tbl
  hasColl : Bool
  coll : Tbl
def cFn (f : Fnt) : List AV := [.str f.enc.name, .int .i64 f.enc.wmode, aR f.enc.spaces, aS f.enc.cids, aS f.enc.nots, aB f.enc.bfs, .sb f.hasUni, .str f.uni.name, .int .i64 f.uni.wmode, aR f.uni.spaces, aS f.uni.cids, aS f.uni.nots, aB f.uni.bfs, .sb f.hasColl, .str f.coll.name, .int .i64 f.coll.wmode, aR f.coll.spaces, aS f.coll.cids, aS f.coll.nots, aB f.coll.bfs]
structure Chr where
  p : Pc
  cid : Int
  from_ : Int
  text : ByteArray
instance : Inhabited Chr := ⟨⟨default, 0, 0, ByteArray.empty⟩⟩
def cH (c : Chr) : List AV := [.int .i64 c.p.at_, .int .i64 c.p.n, .sb c.p.full, .int .i64 c.p.cn, .int .i64 c.p.cv, .int .i64 c.cid, .int .i64 c.from_, .str c.text]
theorem cH_emb : Emb cH 8 := fun x => ⟨rfl, ⟨⟨rfl⟩, ⟨rfl⟩, ⟨rfl⟩, ⟨rfl⟩, ⟨rfl⟩, ⟨rfl⟩, ⟨rfl⟩, ⟨rfl⟩, trivial⟩, rfl⟩
abbrev aH (l : List Chr) : AV := aL cH 8 l
inductive Tl where
  | u (t : Tbl)
  | c (t : Tbl)
  | n
instance : Inhabited Tl := ⟨.n⟩
def cTl : Tl → List AV
  | .u t => [.iface 88 (.agg (cT t))]
  | .c t => [.iface 89 (.agg (cT t))]
  | .n => [.iface 91 (.agg [])]
theorem cTl_emb : Emb cTl 1 := fun x => by
  cases x with
  | u t => exact ⟨rfl, ⟨(cT_emb t).2.1, trivial⟩, rfl⟩
  | c t => exact ⟨rfl, ⟨(cT_emb t).2.1, trivial⟩, rfl⟩
  | n => exact ⟨rfl, ⟨trivial, trivial⟩, rfl⟩
abbrev aTl (l : List Tl) : AV := aL cTl 1 l
/-! Whether a font may be. -/
def small (t : Tbl) : Prop := t.spaces.length ≤ 1000000 ∧ t.cids.length ≤ 1000000 ∧ t.nots.length ≤ 1000000 ∧ t.bfs.length ≤ 1000000
def saneF (f : Fnt) : Bool := saneT f.enc && ((!f.hasUni || saneT f.uni) && (!f.hasColl || saneT f.coll))
def SSaneF : Sp := ⟨Fnt, fun f => small f.enc ∧ small f.uni ∧ small f.coll, fun f => [.agg (cFn f)], fun f => .st (.sb (saneF f))⟩
set_option maxHeartbeats 4000000 in
theorem saneFC : SpOK Tryz.prog 6 SSaneF := fun (f : Fnt) ⟨⟨a1, a2, a3, a4⟩, ⟨b1, b2, b3, b4⟩, ⟨c1, c2, c3, c4⟩⟩ => by
  have hC : COK Tryz.prog (cfg [(16, SSaneT)]) := Ty.ty.cfg ⟨saneTC, trivial⟩
  ((refine Fn.ofF hC Tryz.func6 Tryz.ntmps6 rfl rfl rfl ?_); (repeat' first | (with_reducible exact trivial) | (with_reducible rfl) | (refine And.intro ?_ ?_) | (refine Need.mk ?_) | exact True.intro | (first | (refine ⟨_, Told.refl _, ?_, ?_⟩) | (refine ⟨⟨_, _⟩, Told.refl _, ?_, ?_⟩) | (refine ⟨⟨_, _, _⟩, Told.refl _, ?_, ?_⟩) | (refine ⟨⟨_, _, _, _⟩, Told.refl _, ?_, ?_⟩) | (refine ⟨⟨_, _, _, _, _⟩, Told.refl _, ?_, ?_⟩) | (refine ⟨(), Told.refl _, ?_, ?_⟩)) | (with_reducible intro _) | (refine fun (_ : Bool) => ?_)))
  any_goals omega
  all_goals unfold saneF
  all_goals simp_all
/-! What tells a text. -/
def tellO : Tl → Sg → Option ByteArray
  | .u t, x => (EB.find t.bfs x.p.cn x.p.cv).map fun a => encB (decU a)
  | .c t, x => if x.kind = 0 then none else (EB.find t.bfs 2 x.cid).map fun a => encB (decU a)
  | .n, _ => some (encB [65533])
def tellB (t : Tl) (x : Sg) : ByteArray := (tellO t x).getD ByteArray.empty
def fromT : Tl → Int
  | .u _ => 1
  | .c _ => 2
  | .n => 0
def STellU : Sp := ⟨Tbl × Sg, fun (t, x) => t.bfs.length ≤ 1000000, fun (t, x) => [.agg (cT t), .agg (cG x)], fun (t, x) => .st (.tup [.str (tellB (.u t) x), .sb (tellO (.u t) x).isSome])⟩
def STellC : Sp := ⟨Tbl × Sg, fun (t, x) => t.bfs.length ≤ 1000000, fun (t, x) => [.agg (cT t), .agg (cG x)], fun (t, x) => .st (.tup [.str (tellB (.c t) x), .sb (tellO (.c t) x).isSome])⟩
def STellN : Sp := ⟨Sg, fun _ => True, fun x => [.agg [], .agg (cG x)], fun x => .st (.tup [.str (tellB .n x), .sb (tellO .n x).isSome])⟩
def SFromU : Sp := ⟨Tbl, fun _ => True, fun t => [.agg (cT t)], fun _ => .st (.int .i64 1)⟩
def SFromC : Sp := ⟨Tbl, fun _ => True, fun t => [.agg (cT t)], fun _ => .st (.int .i64 2)⟩
def SFromN : Sp := ⟨Unit, fun _ => True, fun _ => [.agg []], fun _ => .st (.int .i64 0)⟩
theorem decU_nil : decU [] = [] := by decide +kernel
theorem encB_nil : encB [] = ByteArray.empty := rfl
theorem find_opt (l : List Bf) (n v : Int) : ((EB.find l n v).getD []).length ≤ 64 := by
  cases h : EB.find l n v with
  | none => exact Nat.zero_le _
  | some a => exact (find_rng h).1
theorem enc_opt (l : List Bf) (n v : Int) : encB (decU ((EB.find l n v).getD [])) = ((EB.find l n v).map fun a => encB (decU a)).getD ByteArray.empty := by
  cases h : EB.find l n v with
  | none => show encB (decU []) = ByteArray.empty; rw [decU_nil]; rfl
  | some a => rfl
theorem txt_opt (l : List Bf) (n v : Int) : txtO (EB.find l n v) = ((EB.find l n v).map fun a => encB (decU a)).getD ByteArray.empty := by
  cases h : EB.find l n v <;> rfl
theorem tellU : SpOK Tryz.prog 120 STellU := fun ⟨t, x⟩ ht => by
  have hC : COK Tryz.prog (cfg [(32, SUniL), (122, SDec), (121, SText)]) := Ty.ty.cfg ⟨uniL, dec16, text, trivial⟩
  have ht : t.bfs.length ≤ 1000000 := ht
  have hf := find_opt t.bfs x.p.cn x.p.cv
  have hd := decU_len ((EB.find t.bfs x.p.cn x.p.cv).getD [])
  ((refine Fn.ofF hC Tryz.func120 Tryz.ntmps120 rfl rfl rfl ?_); (repeat' first | (with_reducible exact trivial) | (with_reducible rfl) | (refine And.intro ?_ ?_) | (refine Need.mk ?_) | exact True.intro | (first | (refine ⟨_, Told.refl _, ?_, ?_⟩) | (refine ⟨⟨_, _⟩, Told.refl _, ?_, ?_⟩) | (refine ⟨⟨_, _, _⟩, Told.refl _, ?_, ?_⟩) | (refine ⟨⟨_, _, _, _⟩, Told.refl _, ?_, ?_⟩) | (refine ⟨⟨_, _, _, _, _⟩, Told.refl _, ?_, ?_⟩) | (refine ⟨(), Told.refl _, ?_, ?_⟩)) | (with_reducible intro _) | (refine fun (_ : Bool) => ?_)))
  · show t.bfs.length < 4611686018427387904
    omega
  · show ((EB.find t.bfs x.p.cn x.p.cv).getD []).length ≤ 1000000000
    omega
  · show (decU _).length < 4398046511104
    omega
  · exact enc_opt _ _ _
  · show _ = ((EB.find t.bfs x.p.cn x.p.cv).map _).isSome
    rw [Option.isSome_map]
theorem tellC : SpOK Tryz.prog 132 STellC := fun ⟨t, x⟩ ht => by
  have hC : COK Tryz.prog (cfg [(133, SCText)]) := Ty.ty.cfg ⟨ctext, trivial⟩
  have ht : t.bfs.length ≤ 1000000 := ht
  ((refine Fn.ofF hC Tryz.func132 Tryz.ntmps132 rfl rfl rfl ?_); (repeat' first | (with_reducible exact trivial) | (with_reducible rfl) | (refine And.intro ?_ ?_) | (refine Need.mk ?_) | exact True.intro | (first | (refine ⟨_, Told.refl _, ?_, ?_⟩) | (refine ⟨⟨_, _⟩, Told.refl _, ?_, ?_⟩) | (refine ⟨⟨_, _, _⟩, Told.refl _, ?_, ?_⟩) | (refine ⟨⟨_, _, _, _⟩, Told.refl _, ?_, ?_⟩) | (refine ⟨⟨_, _, _, _, _⟩, Told.refl _, ?_, ?_⟩) | (refine ⟨(), Told.refl _, ?_, ?_⟩)) | (with_reducible intro _) | (refine fun (_ : Bool) => ?_)))
  all_goals
    first
      | (have e : tellO (.c t) x = none := if_pos (by simpa using ‹(x.kind == 0) = true›)
         first
           | (unfold tellB; rw [e]; rfl)
           | (rw [e]; rfl))
      | (have e : tellO (.c t) x = (EB.find t.bfs 2 x.cid).map fun a => encB (decU a) := if_neg (by simpa using ‹(x.kind == 0) = false›)
         first
           | (show t.bfs.length < 4611686018427387904; omega)
           | (unfold tellB; rw [e]; exact txt_opt _ _ _)
           | (rw [e, Option.isSome_map]; done))
theorem tellN : SpOK Tryz.prog 136 STellN := fun (x : Sg) _ => by
  have hC : COK Tryz.prog (cfg [(121, SText)]) := Ty.ty.cfg ⟨text, trivial⟩
  ((refine Fn.ofF hC Tryz.func136 Tryz.ntmps136 rfl rfl rfl ?_); (repeat' first | (with_reducible exact trivial) | (with_reducible rfl) | (refine And.intro ?_ ?_) | (refine Need.mk ?_) | exact True.intro | (first | (refine ⟨_, Told.refl _, ?_, ?_⟩) | (refine ⟨⟨_, _⟩, Told.refl _, ?_, ?_⟩) | (refine ⟨⟨_, _, _⟩, Told.refl _, ?_, ?_⟩) | (refine ⟨⟨_, _, _, _⟩, Told.refl _, ?_, ?_⟩) | (refine ⟨⟨_, _, _, _, _⟩, Told.refl _, ?_, ?_⟩) | (refine ⟨(), Told.refl _, ?_, ?_⟩)) | (with_reducible intro _) | (refine fun (_ : Bool) => ?_)))
  refine Exists.intro [65533] (And.intro (Told.of (lit_sub ci_emb _)) (And.intro ?_ ?_))
  · show 1 < 4398046511104
    omega
  · (repeat' first | (with_reducible exact trivial) | (with_reducible rfl) | (refine And.intro ?_ ?_) | (refine Need.mk ?_) | exact True.intro | (first | (refine ⟨_, Told.refl _, ?_, ?_⟩) | (refine ⟨⟨_, _⟩, Told.refl _, ?_, ?_⟩) | (refine ⟨⟨_, _, _⟩, Told.refl _, ?_, ?_⟩) | (refine ⟨⟨_, _, _, _⟩, Told.refl _, ?_, ?_⟩) | (refine ⟨⟨_, _, _, _, _⟩, Told.refl _, ?_, ?_⟩) | (refine ⟨(), Told.refl _, ?_, ?_⟩)) | (with_reducible intro _) | (refine fun (_ : Bool) => ?_))
    all_goals rfl
theorem fromU : SpOK Tryz.prog 119 SFromU := fun t _ => by
  have hC := base
  ((refine Fn.ofF hC Tryz.func119 Tryz.ntmps119 rfl rfl rfl ?_); (repeat' first | (with_reducible exact trivial) | (with_reducible rfl) | (refine And.intro ?_ ?_) | (refine Need.mk ?_) | exact True.intro | (first | (refine ⟨_, Told.refl _, ?_, ?_⟩) | (refine ⟨⟨_, _⟩, Told.refl _, ?_, ?_⟩) | (refine ⟨⟨_, _, _⟩, Told.refl _, ?_, ?_⟩) | (refine ⟨⟨_, _, _, _⟩, Told.refl _, ?_, ?_⟩) | (refine ⟨⟨_, _, _, _, _⟩, Told.refl _, ?_, ?_⟩) | (refine ⟨(), Told.refl _, ?_, ?_⟩)) | (with_reducible intro _) | (refine fun (_ : Bool) => ?_)))
theorem fromC : SpOK Tryz.prog 131 SFromC := fun t _ => by
  have hC := base
  ((refine Fn.ofF hC Tryz.func131 Tryz.ntmps131 rfl rfl rfl ?_); (repeat' first | (with_reducible exact trivial) | (with_reducible rfl) | (refine And.intro ?_ ?_) | (refine Need.mk ?_) | exact True.intro | (first | (refine ⟨_, Told.refl _, ?_, ?_⟩) | (refine ⟨⟨_, _⟩, Told.refl _, ?_, ?_⟩) | (refine ⟨⟨_, _, _⟩, Told.refl _, ?_, ?_⟩) | (refine ⟨⟨_, _, _, _⟩, Told.refl _, ?_, ?_⟩) | (refine ⟨⟨_, _, _, _, _⟩, Told.refl _, ?_, ?_⟩) | (refine ⟨(), Told.refl _, ?_, ?_⟩)) | (with_reducible intro _) | (refine fun (_ : Bool) => ?_)))
theorem fromN : SpOK Tryz.prog 135 SFromN := fun t _ => by
  have hC := base
  ((refine Fn.ofF hC Tryz.func135 Tryz.ntmps135 rfl rfl rfl ?_); (repeat' first | (with_reducible exact trivial) | (with_reducible rfl) | (refine And.intro ?_ ?_) | (refine Need.mk ?_) | exact True.intro | (first | (refine ⟨_, Told.refl _, ?_, ?_⟩) | (refine ⟨⟨_, _⟩, Told.refl _, ?_, ?_⟩) | (refine ⟨⟨_, _, _⟩, Told.refl _, ?_, ?_⟩) | (refine ⟨⟨_, _, _, _⟩, Told.refl _, ?_, ?_⟩) | (refine ⟨⟨_, _, _, _, _⟩, Told.refl _, ?_, ?_⟩) | (refine ⟨(), Told.refl _, ?_, ?_⟩)) | (with_reducible intro _) | (refine fun (_ : Bool) => ?_)))
/-! All that may tell, in order. -/
def tls (f : Fnt) : List Tl := (if f.hasUni = true then [.u f.uni] else []) ++ ((if f.hasColl = true then [.c f.coll] else []) ++ [.n])
def STls : Sp := ⟨Fnt, fun _ => True, fun f => [.agg (cFn f)], fun f => .row 97 1 (tls f).length (els cTl (tls f))⟩
theorem tellers : SpOK Tryz.prog 18 STls := fun (f : Fnt) _ => by
  have hC := base
  have hu : ∀ b c, f.hasUni = b → f.hasColl = c → tls f = (if b = true then [.u f.uni] else []) ++ ((if c = true then [.c f.coll] else []) ++ [.n]) := fun b c e1 e2 => by unfold tls; rw [e1, e2]
  ((refine Fn.ofF hC Tryz.func18 Tryz.ntmps18 rfl rfl rfl ?_); (repeat' first | (with_reducible exact trivial) | (with_reducible rfl) | (refine And.intro ?_ ?_) | (refine Need.mk ?_) | exact True.intro | (first | (refine ⟨_, Told.refl _, ?_, ?_⟩) | (refine ⟨⟨_, _⟩, Told.refl _, ?_, ?_⟩) | (refine ⟨⟨_, _, _⟩, Told.refl _, ?_, ?_⟩) | (refine ⟨⟨_, _, _, _⟩, Told.refl _, ?_, ?_⟩) | (refine ⟨⟨_, _, _, _, _⟩, Told.refl _, ?_, ?_⟩) | (refine ⟨(), Told.refl _, ?_, ?_⟩)) | (with_reducible intro _) | (refine fun (_ : Bool) => ?_)))
  all_goals first | decide | skip
  all_goals
    first
      | (have e := hu _ _ ‹f.hasUni = true› ‹f.hasColl = true›
         first
           | (rw [e]; rfl)
           | (rename_i i hi
              rw [e] at hi ⊢
              have hi : i < 3 := hi
              have q : i = 0 ∨ i = 1 ∨ i = 2 := by omega
              rcases q with rfl | rfl | rfl
              · exact (cTl_emb (.u f.uni)).2.1
              · exact (cTl_emb (.c f.coll)).2.1
              · exact (cTl_emb .n).2.1))
      | (have e := hu _ _ ‹f.hasUni = true› ‹f.hasColl = false›
         first
           | (rw [e]; rfl)
           | (rename_i i hi
              rw [e] at hi ⊢
              have hi : i < 2 := hi
              have q : i = 0 ∨ i = 1 := by omega
              rcases q with rfl | rfl
              · exact (cTl_emb (.u f.uni)).2.1
              · exact (cTl_emb .n).2.1))
      | (have e := hu _ _ ‹f.hasUni = false› ‹f.hasColl = true›
         first
           | (rw [e]; rfl)
           | (rename_i i hi
              rw [e] at hi ⊢
              have hi : i < 2 := hi
              have q : i = 0 ∨ i = 1 := by omega
              rcases q with rfl | rfl
              · exact (cTl_emb (.c f.coll)).2.1
              · exact (cTl_emb .n).2.1))
      | (have e := hu _ _ ‹f.hasUni = false› ‹f.hasColl = false›
         first
           | (rw [e]; rfl)
           | (rename_i i hi
              rw [e] at hi ⊢
              have hi : i < 1 := hi
              obtain rfl : i = 0 := by omega
              exact (cTl_emb .n).2.1))
/-! Methods. -/
def methB (P : Program) (t : TypeId) (m : String) (g : FuncId) : Bool := match P.underlying t with
  | some (.struct _) => match P.info? t with
    | some i => match i.methods.find? (·.name == m) with
      | some mi => mi.path.isEmpty && (match mi.func with
        | some (g', false) => Nat.beq g' g
        | _ => false)
      | none => false
    | none => false
  | _ => false
theorem meth_ofB {P : Program} {t : TypeId} {m : String} {g : FuncId} (h : methB P t m g = true) : MethOK P t m g := by
  unfold methB at h
  split at h
  · rename_i fs hu
    split at h
    · rename_i i hi
      split at h
      · rename_i mi hm
        rw [Bool.and_eq_true] at h
        obtain ⟨h1, h2⟩ := h
        split at h2
        · rename_i g' hf
          obtain rfl := Nat.eq_of_beq_eq_true h2
          exact meth_of hu hi hm (by simpa using h1) hf (by unfold Made.depth; omega)
        · cases h2
      · cases h
    · cases h
  · cases h
def M : List (TypeId × String × FuncId) := [(88, "hornbook/comp.tell", 120), (89, "hornbook/comp.tell", 132), (91, "hornbook/comp.tell", 136), (88, "hornbook/comp.from", 119), (89, "hornbook/comp.from", 131), (91, "hornbook/comp.from", 135)]
theorem methsOK : MethsOK Tryz.prog M := ⟨meth_ofB (by kernel_rfl), meth_ofB (by kernel_rfl), meth_ofB (by kernel_rfl), meth_ofB (by kernel_rfl), meth_ofB (by kernel_rfl), meth_ofB (by kernel_rfl), trivial⟩
def CL : List (FuncId × Sp) := [(120, STellU), (132, STellC), (136, STellN), (119, SFromU), (131, SFromC), (135, SFromN)]
theorem callsOK : OKs Tryz.prog CL := ⟨tellU, tellC, tellN, fromU, fromC, fromN, trivial⟩
def firstT (x : Sg) : List Tl → ByteArray × Int
  | [] => (ByteArray.empty, 0)
  | t :: l => match tellO t x with
    | some b => (b, fromT t)
    | none => firstT x l
def charT (l : List Tl) (x : Sg) : Chr := ⟨x.p, x.cid, (firstT x (if x.p.full = true then l else l.drop (l.length - 1))).2, (firstT x (if x.p.full = true then l else l.drop (l.length - 1))).1⟩
end Go.Abs.Cp
set_option maxRecDepth 100000
namespace Go.Abs.Cp
open Go.RowKit Go.Proofs Go.Abs.Tab Go.Abs.Dest Go.Abs.Span Go.Abs.Coll Go.Abs.Hx Go.Abs.Mt Go.Abs.Lk Go.Abs.Rc Go.Abs.Utf Go.Abs.Txt
theorem lit_self {L : List Tl} : ∀ i, i < L.length → cond (ones (elt (L.map cTl) i)) (subs0 (elt (L.map cTl) i) (elt (L.map cTl) i)) False := fun i hi => by
  rw [elt_list L i hi, (cTl_emb _).1]
  exact (cTl_emb _).2.1

set_option maxHeartbeats 16000000 in
theorem char_ucn (x : Sg) (a b : Tbl) (ha : a.bfs.length ≤ 1000000) (hb : b.bfs.length ≤ 1000000) : Fn Tryz.prog 20 [.agg (cG x), .sl 1 3 (elt [[.iface 88 (.agg (cT a))], [.iface 89 (.agg (cT b))], [.iface 91 (.agg [])]])] (.st (.agg (cH (charT [.u a, .c b, .n] x)))) := by
  have hC : COK Tryz.prog (cfgM M CL) := Ty.ty.cfgM methsOK callsOK
  ((refine Fn.ofF hC Tryz.func20 Tryz.ntmps20 rfl rfl rfl ?_); (repeat' first | (with_reducible exact trivial) | (with_reducible rfl) | (refine And.intro ?_ ?_) | (refine Need.mk ?_) | exact True.intro | (first | (refine ⟨_, Told.refl _, ?_, ?_⟩) | (refine ⟨⟨_, _⟩, Told.refl _, ?_, ?_⟩) | (refine ⟨⟨_, _, _⟩, Told.refl _, ?_, ?_⟩) | (refine ⟨⟨_, _, _, _⟩, Told.refl _, ?_, ?_⟩) | (refine ⟨⟨_, _, _, _, _⟩, Told.refl _, ?_, ?_⟩) | (refine ⟨(), Told.refl _, ?_, ?_⟩)) | (with_reducible intro _) | (refine fun (_ : Bool) => ?_)))
  any_goals decide
  · have hf : x.p.full = false := by simpa using ‹(!x.p.full) = true›
    have hr : charT [.u a, .c b, .n] x = ⟨x.p, x.cid, 0, encB [65533]⟩ := by
      unfold charT
      rw [hf]
      rfl
    rw [hr]
    refine AW.loop (I := fun k : Nat => ⟨44, [(2, .ptr 0 0), (4, .ptr 1 0), (5, .ptr 2 0), (24, .sl 1 1 (elt [[.iface 91 (.agg [])]])), (25, .int .i64 1), (26, .int .i64 k)], [.box 64 (cG x), .box 48 [.int .i64 0, .int .i64 0, .lit false, .int .i64 0, .int .i64 0, .int .i64 0, .int .i64 0, .str ByteArray.empty], .box 48 (cH ⟨x.p, x.cid, 0, ByteArray.empty⟩)]⟩) (fun k => k = 0) (fun k => 1 - k) 0 rfl ?_ ?_
    · (repeat' first | (with_reducible exact trivial) | (with_reducible rfl) | (refine And.intro ?_ ?_) | (refine Need.mk ?_) | exact True.intro | (first | (refine ⟨_, Told.refl _, ?_, ?_⟩) | (refine ⟨⟨_, _⟩, Told.refl _, ?_, ?_⟩) | (refine ⟨⟨_, _, _⟩, Told.refl _, ?_, ?_⟩) | (refine ⟨⟨_, _, _, _⟩, Told.refl _, ?_, ?_⟩) | (refine ⟨⟨_, _, _, _, _⟩, Told.refl _, ?_, ?_⟩) | (refine ⟨(), Told.refl _, ?_, ?_⟩)) | (with_reducible intro _) | (refine fun (_ : Bool) => ?_))
      all_goals first
        | rfl
        | decide
        | (rename_i i hi
           have hi : i < 1 := hi
           have h0 : i = 0 := by omega
           subst h0
           have e9 : (IntKind.i64.wrap (((3 : Nat) : Int) - 1)).toNat = 2 := by decide
           show cond (ones [.iface 91 (.agg [])]) (subs0 [.iface 91 (.agg [])] (elt [[.iface 88 (.agg (cT a))], [.iface 89 (.agg (cT b))], [.iface 91 (.agg [])]] ((IntKind.i64.wrap (((3 : Nat) : Int) - 1)).toNat + 0))) False
           rw [e9]
           exact (cTl_emb .n).2.1)
    · rintro k rfl
      ((refine AW.byF ‹_› ?_); (repeat' first | (with_reducible exact trivial) | (with_reducible rfl) | (refine And.intro ?_ ?_) | (refine Need.mk ?_) | exact True.intro | (first | (refine ⟨_, Told.refl _, ?_, ?_⟩) | (refine ⟨⟨_, _⟩, Told.refl _, ?_, ?_⟩) | (refine ⟨⟨_, _, _⟩, Told.refl _, ?_, ?_⟩) | (refine ⟨⟨_, _, _, _⟩, Told.refl _, ?_, ?_⟩) | (refine ⟨⟨_, _, _, _, _⟩, Told.refl _, ?_, ?_⟩) | (refine ⟨(), Told.refl _, ?_, ?_⟩)) | (with_reducible intro _) | (refine fun (_ : Bool) => ?_)))
      all_goals first | decide | (exact absurd ‹decide (((0 : Nat) : Int) < 1) = false› (by decide)) | rfl

  · have hf : x.p.full = true := by simpa using ‹(!x.p.full) = false›
    have hr : charT [.u a, .c b, .n] x = ⟨x.p, x.cid, (firstT x [.u a, .c b, .n]).2, (firstT x [.u a, .c b, .n]).1⟩ := by
      unfold charT
      rw [if_pos hf]
    rw [hr]
    refine AW.loop (I := fun k : Nat => ⟨44, [(2, .ptr 0 0), (4, .ptr 1 0), (5, .ptr 2 0), (24, .sl 1 3 (elt [[.iface 88 (.agg (cT a))], [.iface 89 (.agg (cT b))], [.iface 91 (.agg [])]])), (25, .int .i64 3), (26, .int .i64 k)], [.box 64 (cG x), .box 48 [.int .i64 0, .int .i64 0, .lit false, .int .i64 0, .int .i64 0, .int .i64 0, .int .i64 0, .str ByteArray.empty], .box 48 (cH ⟨x.p, x.cid, 0, ByteArray.empty⟩)]⟩) (fun k => k < 3 ∧ firstT x [.u a, .c b, .n] = firstT x ([.u a, .c b, .n].drop k)) (fun k => 3 - k) 0 ⟨by decide, rfl⟩ ?_ ?_
    · (repeat' first | (with_reducible exact trivial) | (with_reducible rfl) | (refine And.intro ?_ ?_) | (refine Need.mk ?_) | exact True.intro | (first | (refine ⟨_, Told.refl _, ?_, ?_⟩) | (refine ⟨⟨_, _⟩, Told.refl _, ?_, ?_⟩) | (refine ⟨⟨_, _, _⟩, Told.refl _, ?_, ?_⟩) | (refine ⟨⟨_, _, _, _⟩, Told.refl _, ?_, ?_⟩) | (refine ⟨⟨_, _, _, _, _⟩, Told.refl _, ?_, ?_⟩) | (refine ⟨(), Told.refl _, ?_, ?_⟩)) | (with_reducible intro _) | (refine fun (_ : Bool) => ?_))
      all_goals first
        | rfl
        | decide
        | exact lit_self (L := [.u a, .c b, .n]) _ ‹_›
    · rintro k ⟨hk, hg⟩
      have hc : k = 0 ∨ k = 1 ∨ k = 2 := by omega
      rcases hc with rfl | rfl | rfl
      · -- round 0
        have g : firstT x ([.u a, .c b, .n].drop 0) = match tellO (.u a) x with
          | some b => (b, 1)
          | none => firstT x ([.u a, .c b, .n].drop 1) := rfl
        ((refine AW.byF ‹_› ?_); (repeat' first | (with_reducible exact trivial) | (with_reducible rfl) | (refine And.intro ?_ ?_) | (refine Need.mk ?_) | exact True.intro | (first | (refine ⟨_, Told.refl _, ?_, ?_⟩) | (refine ⟨⟨_, _⟩, Told.refl _, ?_, ?_⟩) | (refine ⟨⟨_, _, _⟩, Told.refl _, ?_, ?_⟩) | (refine ⟨⟨_, _, _, _⟩, Told.refl _, ?_, ?_⟩) | (refine ⟨⟨_, _, _, _, _⟩, Told.refl _, ?_, ?_⟩) | (refine ⟨(), Told.refl _, ?_, ?_⟩)) | (with_reducible intro _) | (refine fun (_ : Bool) => ?_)))
        all_goals first
          | decide
          | assumption
          | (exact absurd ‹decide (((0 : Nat) : Int) < 3) = false› (by decide))
          | skip
        any_goals (refine Exists.intro (1) (And.intro ?_ (And.intro ?_ ?_)); all_goals (repeat' first | (with_reducible exact trivial) | (with_reducible rfl) | (refine And.intro ?_ ?_) | (refine Need.mk ?_) | exact True.intro | (first | (refine ⟨_, Told.refl _, ?_, ?_⟩) | (refine ⟨⟨_, _⟩, Told.refl _, ?_, ?_⟩) | (refine ⟨⟨_, _, _⟩, Told.refl _, ?_, ?_⟩) | (refine ⟨⟨_, _, _, _⟩, Told.refl _, ?_, ?_⟩) | (refine ⟨⟨_, _, _, _, _⟩, Told.refl _, ?_, ?_⟩) | (refine ⟨(), Told.refl _, ?_, ?_⟩)) | (with_reducible intro _) | (refine fun (_ : Bool) => ?_)))
        all_goals first
          | decide
          | exact lit_self (L := [.u a, .c b, .n]) _ ‹_›
          | (have q := ‹(tellO (.u a) x).isSome = true›
             obtain ⟨u, hu⟩ := Option.isSome_iff_exists.1 q
             have e : firstT x [.u a, .c b, .n] = (u, 1) := by rw [hg, g, hu]
             first
               | (show (1 : Int) = (firstT x [.u a, .c b, .n]).2; rw [e]; done)
               | (show tellB (.u a) x = (firstT x [.u a, .c b, .n]).1; rw [e]; unfold tellB; rw [hu]; rfl))
          | (have q : tellO (.u a) x = none := by simpa using ‹(tellO (.u a) x).isSome = false›
             rw [hg, g, q]
             done)
          | (have e : firstT x [.u a, .c b, .n] = (encB [65533], 0) := hg
             first
               | (show (0 : Int) = (firstT x [.u a, .c b, .n]).2; rw [e]; done)
               | (show tellB .n x = (firstT x [.u a, .c b, .n]).1; rw [e]; rfl))
      · -- round 1
        have g : firstT x ([.u a, .c b, .n].drop 1) = match tellO (.c b) x with
          | some b => (b, 2)
          | none => firstT x ([.u a, .c b, .n].drop 2) := rfl
        ((refine AW.byF ‹_› ?_); (repeat' first | (with_reducible exact trivial) | (with_reducible rfl) | (refine And.intro ?_ ?_) | (refine Need.mk ?_) | exact True.intro | (first | (refine ⟨_, Told.refl _, ?_, ?_⟩) | (refine ⟨⟨_, _⟩, Told.refl _, ?_, ?_⟩) | (refine ⟨⟨_, _, _⟩, Told.refl _, ?_, ?_⟩) | (refine ⟨⟨_, _, _, _⟩, Told.refl _, ?_, ?_⟩) | (refine ⟨⟨_, _, _, _, _⟩, Told.refl _, ?_, ?_⟩) | (refine ⟨(), Told.refl _, ?_, ?_⟩)) | (with_reducible intro _) | (refine fun (_ : Bool) => ?_)))
        all_goals first
          | decide
          | assumption
          | (exact absurd ‹decide (((1 : Nat) : Int) < 3) = false› (by decide))
          | skip
        any_goals (refine Exists.intro (2) (And.intro ?_ (And.intro ?_ ?_)); all_goals (repeat' first | (with_reducible exact trivial) | (with_reducible rfl) | (refine And.intro ?_ ?_) | (refine Need.mk ?_) | exact True.intro | (first | (refine ⟨_, Told.refl _, ?_, ?_⟩) | (refine ⟨⟨_, _⟩, Told.refl _, ?_, ?_⟩) | (refine ⟨⟨_, _, _⟩, Told.refl _, ?_, ?_⟩) | (refine ⟨⟨_, _, _, _⟩, Told.refl _, ?_, ?_⟩) | (refine ⟨⟨_, _, _, _, _⟩, Told.refl _, ?_, ?_⟩) | (refine ⟨(), Told.refl _, ?_, ?_⟩)) | (with_reducible intro _) | (refine fun (_ : Bool) => ?_)))
        all_goals first
          | decide
          | exact lit_self (L := [.u a, .c b, .n]) _ ‹_›
          | (have q := ‹(tellO (.c b) x).isSome = true›
             obtain ⟨u, hu⟩ := Option.isSome_iff_exists.1 q
             have e : firstT x [.u a, .c b, .n] = (u, 2) := by rw [hg, g, hu]
             first
               | (show (2 : Int) = (firstT x [.u a, .c b, .n]).2; rw [e]; done)
               | (show tellB (.c b) x = (firstT x [.u a, .c b, .n]).1; rw [e]; unfold tellB; rw [hu]; rfl))
          | (have q : tellO (.c b) x = none := by simpa using ‹(tellO (.c b) x).isSome = false›
             rw [hg, g, q]
             done)
          | (have e : firstT x [.u a, .c b, .n] = (encB [65533], 0) := hg
             first
               | (show (0 : Int) = (firstT x [.u a, .c b, .n]).2; rw [e]; done)
               | (show tellB .n x = (firstT x [.u a, .c b, .n]).1; rw [e]; rfl))
      · -- round 2
        have g : firstT x ([.u a, .c b, .n].drop 2) = match tellO (.n) x with
          | some b => (b, 0)
          | none => firstT x ([.u a, .c b, .n].drop 3) := rfl
        ((refine AW.byF ‹_› ?_); (repeat' first | (with_reducible exact trivial) | (with_reducible rfl) | (refine And.intro ?_ ?_) | (refine Need.mk ?_) | exact True.intro | (first | (refine ⟨_, Told.refl _, ?_, ?_⟩) | (refine ⟨⟨_, _⟩, Told.refl _, ?_, ?_⟩) | (refine ⟨⟨_, _, _⟩, Told.refl _, ?_, ?_⟩) | (refine ⟨⟨_, _, _, _⟩, Told.refl _, ?_, ?_⟩) | (refine ⟨⟨_, _, _, _, _⟩, Told.refl _, ?_, ?_⟩) | (refine ⟨(), Told.refl _, ?_, ?_⟩)) | (with_reducible intro _) | (refine fun (_ : Bool) => ?_)))
        all_goals first
          | decide
          | assumption
          | (exact absurd ‹decide (((2 : Nat) : Int) < 3) = false› (by decide))
          | skip
        all_goals first
          | decide
          | exact lit_self (L := [.u a, .c b, .n]) _ ‹_›
          | (have q := ‹(tellO (.n) x).isSome = true›
             obtain ⟨u, hu⟩ := Option.isSome_iff_exists.1 q
             have e : firstT x [.u a, .c b, .n] = (u, 0) := by rw [hg, g, hu]
             first
               | (show (0 : Int) = (firstT x [.u a, .c b, .n]).2; rw [e]; done)
               | (show tellB (.n) x = (firstT x [.u a, .c b, .n]).1; rw [e]; unfold tellB; rw [hu]; rfl))
          | (have q : tellO (.n) x = none := by simpa using ‹(tellO (.n) x).isSome = false›
             rw [hg, g, q]
             done)
          | (have e : firstT x [.u a, .c b, .n] = (encB [65533], 0) := hg
             first
               | (show (0 : Int) = (firstT x [.u a, .c b, .n]).2; rw [e]; done)
               | (show tellB .n x = (firstT x [.u a, .c b, .n]).1; rw [e]; rfl))


set_option maxHeartbeats 16000000 in
theorem char_un (x : Sg) (a b : Tbl) (ha : a.bfs.length ≤ 1000000) (hb : b.bfs.length ≤ 1000000) : Fn Tryz.prog 20 [.agg (cG x), .sl 1 2 (elt [[.iface 88 (.agg (cT a))], [.iface 91 (.agg [])]])] (.st (.agg (cH (charT [.u a, .n] x)))) := by
  have hC : COK Tryz.prog (cfgM M CL) := Ty.ty.cfgM methsOK callsOK
  ((refine Fn.ofF hC Tryz.func20 Tryz.ntmps20 rfl rfl rfl ?_); (repeat' first | (with_reducible exact trivial) | (with_reducible rfl) | (refine And.intro ?_ ?_) | (refine Need.mk ?_) | exact True.intro | (first | (refine ⟨_, Told.refl _, ?_, ?_⟩) | (refine ⟨⟨_, _⟩, Told.refl _, ?_, ?_⟩) | (refine ⟨⟨_, _, _⟩, Told.refl _, ?_, ?_⟩) | (refine ⟨⟨_, _, _, _⟩, Told.refl _, ?_, ?_⟩) | (refine ⟨⟨_, _, _, _, _⟩, Told.refl _, ?_, ?_⟩) | (refine ⟨(), Told.refl _, ?_, ?_⟩)) | (with_reducible intro _) | (refine fun (_ : Bool) => ?_)))
  any_goals decide
  · have hf : x.p.full = false := by simpa using ‹(!x.p.full) = true›
    have hr : charT [.u a, .n] x = ⟨x.p, x.cid, 0, encB [65533]⟩ := by
      unfold charT
      rw [hf]
      rfl
    rw [hr]
    refine AW.loop (I := fun k : Nat => ⟨44, [(2, .ptr 0 0), (4, .ptr 1 0), (5, .ptr 2 0), (24, .sl 1 1 (elt [[.iface 91 (.agg [])]])), (25, .int .i64 1), (26, .int .i64 k)], [.box 64 (cG x), .box 48 [.int .i64 0, .int .i64 0, .lit false, .int .i64 0, .int .i64 0, .int .i64 0, .int .i64 0, .str ByteArray.empty], .box 48 (cH ⟨x.p, x.cid, 0, ByteArray.empty⟩)]⟩) (fun k => k = 0) (fun k => 1 - k) 0 rfl ?_ ?_
    · (repeat' first | (with_reducible exact trivial) | (with_reducible rfl) | (refine And.intro ?_ ?_) | (refine Need.mk ?_) | exact True.intro | (first | (refine ⟨_, Told.refl _, ?_, ?_⟩) | (refine ⟨⟨_, _⟩, Told.refl _, ?_, ?_⟩) | (refine ⟨⟨_, _, _⟩, Told.refl _, ?_, ?_⟩) | (refine ⟨⟨_, _, _, _⟩, Told.refl _, ?_, ?_⟩) | (refine ⟨⟨_, _, _, _, _⟩, Told.refl _, ?_, ?_⟩) | (refine ⟨(), Told.refl _, ?_, ?_⟩)) | (with_reducible intro _) | (refine fun (_ : Bool) => ?_))
      all_goals first
        | rfl
        | decide
        | (rename_i i hi
           have hi : i < 1 := hi
           have h0 : i = 0 := by omega
           subst h0
           have e9 : (IntKind.i64.wrap (((2 : Nat) : Int) - 1)).toNat = 1 := by decide
           show cond (ones [.iface 91 (.agg [])]) (subs0 [.iface 91 (.agg [])] (elt [[.iface 88 (.agg (cT a))], [.iface 91 (.agg [])]] ((IntKind.i64.wrap (((2 : Nat) : Int) - 1)).toNat + 0))) False
           rw [e9]
           exact (cTl_emb .n).2.1)
    · rintro k rfl
      ((refine AW.byF ‹_› ?_); (repeat' first | (with_reducible exact trivial) | (with_reducible rfl) | (refine And.intro ?_ ?_) | (refine Need.mk ?_) | exact True.intro | (first | (refine ⟨_, Told.refl _, ?_, ?_⟩) | (refine ⟨⟨_, _⟩, Told.refl _, ?_, ?_⟩) | (refine ⟨⟨_, _, _⟩, Told.refl _, ?_, ?_⟩) | (refine ⟨⟨_, _, _, _⟩, Told.refl _, ?_, ?_⟩) | (refine ⟨⟨_, _, _, _, _⟩, Told.refl _, ?_, ?_⟩) | (refine ⟨(), Told.refl _, ?_, ?_⟩)) | (with_reducible intro _) | (refine fun (_ : Bool) => ?_)))
      all_goals first | decide | (exact absurd ‹decide (((0 : Nat) : Int) < 1) = false› (by decide)) | rfl

  · have hf : x.p.full = true := by simpa using ‹(!x.p.full) = false›
    have hr : charT [.u a, .n] x = ⟨x.p, x.cid, (firstT x [.u a, .n]).2, (firstT x [.u a, .n]).1⟩ := by
      unfold charT
      rw [if_pos hf]
    rw [hr]
    refine AW.loop (I := fun k : Nat => ⟨44, [(2, .ptr 0 0), (4, .ptr 1 0), (5, .ptr 2 0), (24, .sl 1 2 (elt [[.iface 88 (.agg (cT a))], [.iface 91 (.agg [])]])), (25, .int .i64 2), (26, .int .i64 k)], [.box 64 (cG x), .box 48 [.int .i64 0, .int .i64 0, .lit false, .int .i64 0, .int .i64 0, .int .i64 0, .int .i64 0, .str ByteArray.empty], .box 48 (cH ⟨x.p, x.cid, 0, ByteArray.empty⟩)]⟩) (fun k => k < 2 ∧ firstT x [.u a, .n] = firstT x ([.u a, .n].drop k)) (fun k => 2 - k) 0 ⟨by decide, rfl⟩ ?_ ?_
    · (repeat' first | (with_reducible exact trivial) | (with_reducible rfl) | (refine And.intro ?_ ?_) | (refine Need.mk ?_) | exact True.intro | (first | (refine ⟨_, Told.refl _, ?_, ?_⟩) | (refine ⟨⟨_, _⟩, Told.refl _, ?_, ?_⟩) | (refine ⟨⟨_, _, _⟩, Told.refl _, ?_, ?_⟩) | (refine ⟨⟨_, _, _, _⟩, Told.refl _, ?_, ?_⟩) | (refine ⟨⟨_, _, _, _, _⟩, Told.refl _, ?_, ?_⟩) | (refine ⟨(), Told.refl _, ?_, ?_⟩)) | (with_reducible intro _) | (refine fun (_ : Bool) => ?_))
      all_goals first
        | rfl
        | decide
        | exact lit_self (L := [.u a, .n]) _ ‹_›
    · rintro k ⟨hk, hg⟩
      have hc : k = 0 ∨ k = 1 := by omega
      rcases hc with rfl | rfl
      · -- round 0
        have g : firstT x ([.u a, .n].drop 0) = match tellO (.u a) x with
          | some b => (b, 1)
          | none => firstT x ([.u a, .n].drop 1) := rfl
        ((refine AW.byF ‹_› ?_); (repeat' first | (with_reducible exact trivial) | (with_reducible rfl) | (refine And.intro ?_ ?_) | (refine Need.mk ?_) | exact True.intro | (first | (refine ⟨_, Told.refl _, ?_, ?_⟩) | (refine ⟨⟨_, _⟩, Told.refl _, ?_, ?_⟩) | (refine ⟨⟨_, _, _⟩, Told.refl _, ?_, ?_⟩) | (refine ⟨⟨_, _, _, _⟩, Told.refl _, ?_, ?_⟩) | (refine ⟨⟨_, _, _, _, _⟩, Told.refl _, ?_, ?_⟩) | (refine ⟨(), Told.refl _, ?_, ?_⟩)) | (with_reducible intro _) | (refine fun (_ : Bool) => ?_)))
        all_goals first
          | decide
          | assumption
          | (exact absurd ‹decide (((0 : Nat) : Int) < 2) = false› (by decide))
          | skip
        any_goals (refine Exists.intro (1) (And.intro ?_ (And.intro ?_ ?_)); all_goals (repeat' first | (with_reducible exact trivial) | (with_reducible rfl) | (refine And.intro ?_ ?_) | (refine Need.mk ?_) | exact True.intro | (first | (refine ⟨_, Told.refl _, ?_, ?_⟩) | (refine ⟨⟨_, _⟩, Told.refl _, ?_, ?_⟩) | (refine ⟨⟨_, _, _⟩, Told.refl _, ?_, ?_⟩) | (refine ⟨⟨_, _, _, _⟩, Told.refl _, ?_, ?_⟩) | (refine ⟨⟨_, _, _, _, _⟩, Told.refl _, ?_, ?_⟩) | (refine ⟨(), Told.refl _, ?_, ?_⟩)) | (with_reducible intro _) | (refine fun (_ : Bool) => ?_)))
        all_goals first
          | decide
          | exact lit_self (L := [.u a, .n]) _ ‹_›
          | (have q := ‹(tellO (.u a) x).isSome = true›
             obtain ⟨u, hu⟩ := Option.isSome_iff_exists.1 q
             have e : firstT x [.u a, .n] = (u, 1) := by rw [hg, g, hu]
             first
               | (show (1 : Int) = (firstT x [.u a, .n]).2; rw [e]; done)
               | (show tellB (.u a) x = (firstT x [.u a, .n]).1; rw [e]; unfold tellB; rw [hu]; rfl))
          | (have q : tellO (.u a) x = none := by simpa using ‹(tellO (.u a) x).isSome = false›
             rw [hg, g, q]
             done)
          | (have e : firstT x [.u a, .n] = (encB [65533], 0) := hg
             first
               | (show (0 : Int) = (firstT x [.u a, .n]).2; rw [e]; done)
               | (show tellB .n x = (firstT x [.u a, .n]).1; rw [e]; rfl))
      · -- round 1
        have g : firstT x ([.u a, .n].drop 1) = match tellO (.n) x with
          | some b => (b, 0)
          | none => firstT x ([.u a, .n].drop 2) := rfl
        ((refine AW.byF ‹_› ?_); (repeat' first | (with_reducible exact trivial) | (with_reducible rfl) | (refine And.intro ?_ ?_) | (refine Need.mk ?_) | exact True.intro | (first | (refine ⟨_, Told.refl _, ?_, ?_⟩) | (refine ⟨⟨_, _⟩, Told.refl _, ?_, ?_⟩) | (refine ⟨⟨_, _, _⟩, Told.refl _, ?_, ?_⟩) | (refine ⟨⟨_, _, _, _⟩, Told.refl _, ?_, ?_⟩) | (refine ⟨⟨_, _, _, _, _⟩, Told.refl _, ?_, ?_⟩) | (refine ⟨(), Told.refl _, ?_, ?_⟩)) | (with_reducible intro _) | (refine fun (_ : Bool) => ?_)))
        all_goals first
          | decide
          | assumption
          | (exact absurd ‹decide (((1 : Nat) : Int) < 2) = false› (by decide))
          | skip
        all_goals first
          | decide
          | exact lit_self (L := [.u a, .n]) _ ‹_›
          | (have q := ‹(tellO (.n) x).isSome = true›
             obtain ⟨u, hu⟩ := Option.isSome_iff_exists.1 q
             have e : firstT x [.u a, .n] = (u, 0) := by rw [hg, g, hu]
             first
               | (show (0 : Int) = (firstT x [.u a, .n]).2; rw [e]; done)
               | (show tellB (.n) x = (firstT x [.u a, .n]).1; rw [e]; unfold tellB; rw [hu]; rfl))
          | (have q : tellO (.n) x = none := by simpa using ‹(tellO (.n) x).isSome = false›
             rw [hg, g, q]
             done)
          | (have e : firstT x [.u a, .n] = (encB [65533], 0) := hg
             first
               | (show (0 : Int) = (firstT x [.u a, .n]).2; rw [e]; done)
               | (show tellB .n x = (firstT x [.u a, .n]).1; rw [e]; rfl))


set_option maxHeartbeats 16000000 in
theorem char_cn (x : Sg) (a b : Tbl) (ha : a.bfs.length ≤ 1000000) (hb : b.bfs.length ≤ 1000000) : Fn Tryz.prog 20 [.agg (cG x), .sl 1 2 (elt [[.iface 89 (.agg (cT b))], [.iface 91 (.agg [])]])] (.st (.agg (cH (charT [.c b, .n] x)))) := by
  have hC : COK Tryz.prog (cfgM M CL) := Ty.ty.cfgM methsOK callsOK
  ((refine Fn.ofF hC Tryz.func20 Tryz.ntmps20 rfl rfl rfl ?_); (repeat' first | (with_reducible exact trivial) | (with_reducible rfl) | (refine And.intro ?_ ?_) | (refine Need.mk ?_) | exact True.intro | (first | (refine ⟨_, Told.refl _, ?_, ?_⟩) | (refine ⟨⟨_, _⟩, Told.refl _, ?_, ?_⟩) | (refine ⟨⟨_, _, _⟩, Told.refl _, ?_, ?_⟩) | (refine ⟨⟨_, _, _, _⟩, Told.refl _, ?_, ?_⟩) | (refine ⟨⟨_, _, _, _, _⟩, Told.refl _, ?_, ?_⟩) | (refine ⟨(), Told.refl _, ?_, ?_⟩)) | (with_reducible intro _) | (refine fun (_ : Bool) => ?_)))
  any_goals decide
  · have hf : x.p.full = false := by simpa using ‹(!x.p.full) = true›
    have hr : charT [.c b, .n] x = ⟨x.p, x.cid, 0, encB [65533]⟩ := by
      unfold charT
      rw [hf]
      rfl
    rw [hr]
    refine AW.loop (I := fun k : Nat => ⟨44, [(2, .ptr 0 0), (4, .ptr 1 0), (5, .ptr 2 0), (24, .sl 1 1 (elt [[.iface 91 (.agg [])]])), (25, .int .i64 1), (26, .int .i64 k)], [.box 64 (cG x), .box 48 [.int .i64 0, .int .i64 0, .lit false, .int .i64 0, .int .i64 0, .int .i64 0, .int .i64 0, .str ByteArray.empty], .box 48 (cH ⟨x.p, x.cid, 0, ByteArray.empty⟩)]⟩) (fun k => k = 0) (fun k => 1 - k) 0 rfl ?_ ?_
    · (repeat' first | (with_reducible exact trivial) | (with_reducible rfl) | (refine And.intro ?_ ?_) | (refine Need.mk ?_) | exact True.intro | (first | (refine ⟨_, Told.refl _, ?_, ?_⟩) | (refine ⟨⟨_, _⟩, Told.refl _, ?_, ?_⟩) | (refine ⟨⟨_, _, _⟩, Told.refl _, ?_, ?_⟩) | (refine ⟨⟨_, _, _, _⟩, Told.refl _, ?_, ?_⟩) | (refine ⟨⟨_, _, _, _, _⟩, Told.refl _, ?_, ?_⟩) | (refine ⟨(), Told.refl _, ?_, ?_⟩)) | (with_reducible intro _) | (refine fun (_ : Bool) => ?_))
      all_goals first
        | rfl
        | decide
        | (rename_i i hi
           have hi : i < 1 := hi
           have h0 : i = 0 := by omega
           subst h0
           have e9 : (IntKind.i64.wrap (((2 : Nat) : Int) - 1)).toNat = 1 := by decide
           show cond (ones [.iface 91 (.agg [])]) (subs0 [.iface 91 (.agg [])] (elt [[.iface 89 (.agg (cT b))], [.iface 91 (.agg [])]] ((IntKind.i64.wrap (((2 : Nat) : Int) - 1)).toNat + 0))) False
           rw [e9]
           exact (cTl_emb .n).2.1)
    · rintro k rfl
      ((refine AW.byF ‹_› ?_); (repeat' first | (with_reducible exact trivial) | (with_reducible rfl) | (refine And.intro ?_ ?_) | (refine Need.mk ?_) | exact True.intro | (first | (refine ⟨_, Told.refl _, ?_, ?_⟩) | (refine ⟨⟨_, _⟩, Told.refl _, ?_, ?_⟩) | (refine ⟨⟨_, _, _⟩, Told.refl _, ?_, ?_⟩) | (refine ⟨⟨_, _, _, _⟩, Told.refl _, ?_, ?_⟩) | (refine ⟨⟨_, _, _, _, _⟩, Told.refl _, ?_, ?_⟩) | (refine ⟨(), Told.refl _, ?_, ?_⟩)) | (with_reducible intro _) | (refine fun (_ : Bool) => ?_)))
      all_goals first | decide | (exact absurd ‹decide (((0 : Nat) : Int) < 1) = false› (by decide)) | rfl

  · have hf : x.p.full = true := by simpa using ‹(!x.p.full) = false›
    have hr : charT [.c b, .n] x = ⟨x.p, x.cid, (firstT x [.c b, .n]).2, (firstT x [.c b, .n]).1⟩ := by
      unfold charT
      rw [if_pos hf]
    rw [hr]
    refine AW.loop (I := fun k : Nat => ⟨44, [(2, .ptr 0 0), (4, .ptr 1 0), (5, .ptr 2 0), (24, .sl 1 2 (elt [[.iface 89 (.agg (cT b))], [.iface 91 (.agg [])]])), (25, .int .i64 2), (26, .int .i64 k)], [.box 64 (cG x), .box 48 [.int .i64 0, .int .i64 0, .lit false, .int .i64 0, .int .i64 0, .int .i64 0, .int .i64 0, .str ByteArray.empty], .box 48 (cH ⟨x.p, x.cid, 0, ByteArray.empty⟩)]⟩) (fun k => k < 2 ∧ firstT x [.c b, .n] = firstT x ([.c b, .n].drop k)) (fun k => 2 - k) 0 ⟨by decide, rfl⟩ ?_ ?_
    · (repeat' first | (with_reducible exact trivial) | (with_reducible rfl) | (refine And.intro ?_ ?_) | (refine Need.mk ?_) | exact True.intro | (first | (refine ⟨_, Told.refl _, ?_, ?_⟩) | (refine ⟨⟨_, _⟩, Told.refl _, ?_, ?_⟩) | (refine ⟨⟨_, _, _⟩, Told.refl _, ?_, ?_⟩) | (refine ⟨⟨_, _, _, _⟩, Told.refl _, ?_, ?_⟩) | (refine ⟨⟨_, _, _, _, _⟩, Told.refl _, ?_, ?_⟩) | (refine ⟨(), Told.refl _, ?_, ?_⟩)) | (with_reducible intro _) | (refine fun (_ : Bool) => ?_))
      all_goals first
        | rfl
        | decide
        | exact lit_self (L := [.c b, .n]) _ ‹_›
    · rintro k ⟨hk, hg⟩
      have hc : k = 0 ∨ k = 1 := by omega
      rcases hc with rfl | rfl
      · -- round 0
        have g : firstT x ([.c b, .n].drop 0) = match tellO (.c b) x with
          | some b => (b, 2)
          | none => firstT x ([.c b, .n].drop 1) := rfl
        ((refine AW.byF ‹_› ?_); (repeat' first | (with_reducible exact trivial) | (with_reducible rfl) | (refine And.intro ?_ ?_) | (refine Need.mk ?_) | exact True.intro | (first | (refine ⟨_, Told.refl _, ?_, ?_⟩) | (refine ⟨⟨_, _⟩, Told.refl _, ?_, ?_⟩) | (refine ⟨⟨_, _, _⟩, Told.refl _, ?_, ?_⟩) | (refine ⟨⟨_, _, _, _⟩, Told.refl _, ?_, ?_⟩) | (refine ⟨⟨_, _, _, _, _⟩, Told.refl _, ?_, ?_⟩) | (refine ⟨(), Told.refl _, ?_, ?_⟩)) | (with_reducible intro _) | (refine fun (_ : Bool) => ?_)))
        all_goals first
          | decide
          | assumption
          | (exact absurd ‹decide (((0 : Nat) : Int) < 2) = false› (by decide))
          | skip
        any_goals (refine Exists.intro (1) (And.intro ?_ (And.intro ?_ ?_)); all_goals (repeat' first | (with_reducible exact trivial) | (with_reducible rfl) | (refine And.intro ?_ ?_) | (refine Need.mk ?_) | exact True.intro | (first | (refine ⟨_, Told.refl _, ?_, ?_⟩) | (refine ⟨⟨_, _⟩, Told.refl _, ?_, ?_⟩) | (refine ⟨⟨_, _, _⟩, Told.refl _, ?_, ?_⟩) | (refine ⟨⟨_, _, _, _⟩, Told.refl _, ?_, ?_⟩) | (refine ⟨⟨_, _, _, _, _⟩, Told.refl _, ?_, ?_⟩) | (refine ⟨(), Told.refl _, ?_, ?_⟩)) | (with_reducible intro _) | (refine fun (_ : Bool) => ?_)))
        all_goals first
          | decide
          | exact lit_self (L := [.c b, .n]) _ ‹_›
          | (have q := ‹(tellO (.c b) x).isSome = true›
             obtain ⟨u, hu⟩ := Option.isSome_iff_exists.1 q
             have e : firstT x [.c b, .n] = (u, 2) := by rw [hg, g, hu]
             first
               | (show (2 : Int) = (firstT x [.c b, .n]).2; rw [e]; done)
               | (show tellB (.c b) x = (firstT x [.c b, .n]).1; rw [e]; unfold tellB; rw [hu]; rfl))
          | (have q : tellO (.c b) x = none := by simpa using ‹(tellO (.c b) x).isSome = false›
             rw [hg, g, q]
             done)
          | (have e : firstT x [.c b, .n] = (encB [65533], 0) := hg
             first
               | (show (0 : Int) = (firstT x [.c b, .n]).2; rw [e]; done)
               | (show tellB .n x = (firstT x [.c b, .n]).1; rw [e]; rfl))
      · -- round 1
        have g : firstT x ([.c b, .n].drop 1) = match tellO (.n) x with
          | some b => (b, 0)
          | none => firstT x ([.c b, .n].drop 2) := rfl
        ((refine AW.byF ‹_› ?_); (repeat' first | (with_reducible exact trivial) | (with_reducible rfl) | (refine And.intro ?_ ?_) | (refine Need.mk ?_) | exact True.intro | (first | (refine ⟨_, Told.refl _, ?_, ?_⟩) | (refine ⟨⟨_, _⟩, Told.refl _, ?_, ?_⟩) | (refine ⟨⟨_, _, _⟩, Told.refl _, ?_, ?_⟩) | (refine ⟨⟨_, _, _, _⟩, Told.refl _, ?_, ?_⟩) | (refine ⟨⟨_, _, _, _, _⟩, Told.refl _, ?_, ?_⟩) | (refine ⟨(), Told.refl _, ?_, ?_⟩)) | (with_reducible intro _) | (refine fun (_ : Bool) => ?_)))
        all_goals first
          | decide
          | assumption
          | (exact absurd ‹decide (((1 : Nat) : Int) < 2) = false› (by decide))
          | skip
        all_goals first
          | decide
          | exact lit_self (L := [.c b, .n]) _ ‹_›
          | (have q := ‹(tellO (.n) x).isSome = true›
             obtain ⟨u, hu⟩ := Option.isSome_iff_exists.1 q
             have e : firstT x [.c b, .n] = (u, 0) := by rw [hg, g, hu]
             first
               | (show (0 : Int) = (firstT x [.c b, .n]).2; rw [e]; done)
               | (show tellB (.n) x = (firstT x [.c b, .n]).1; rw [e]; unfold tellB; rw [hu]; rfl))
          | (have q : tellO (.n) x = none := by simpa using ‹(tellO (.n) x).isSome = false›
             rw [hg, g, q]
             done)
          | (have e : firstT x [.c b, .n] = (encB [65533], 0) := hg
             first
               | (show (0 : Int) = (firstT x [.c b, .n]).2; rw [e]; done)
               | (show tellB .n x = (firstT x [.c b, .n]).1; rw [e]; rfl))


set_option maxHeartbeats 16000000 in
theorem char_n (x : Sg) (a b : Tbl) (ha : a.bfs.length ≤ 1000000) (hb : b.bfs.length ≤ 1000000) : Fn Tryz.prog 20 [.agg (cG x), .sl 1 1 (elt [[.iface 91 (.agg [])]])] (.st (.agg (cH (charT [.n] x)))) := by
  have hC : COK Tryz.prog (cfgM M CL) := Ty.ty.cfgM methsOK callsOK
  ((refine Fn.ofF hC Tryz.func20 Tryz.ntmps20 rfl rfl rfl ?_); (repeat' first | (with_reducible exact trivial) | (with_reducible rfl) | (refine And.intro ?_ ?_) | (refine Need.mk ?_) | exact True.intro | (first | (refine ⟨_, Told.refl _, ?_, ?_⟩) | (refine ⟨⟨_, _⟩, Told.refl _, ?_, ?_⟩) | (refine ⟨⟨_, _, _⟩, Told.refl _, ?_, ?_⟩) | (refine ⟨⟨_, _, _, _⟩, Told.refl _, ?_, ?_⟩) | (refine ⟨⟨_, _, _, _, _⟩, Told.refl _, ?_, ?_⟩) | (refine ⟨(), Told.refl _, ?_, ?_⟩)) | (with_reducible intro _) | (refine fun (_ : Bool) => ?_)))
  any_goals decide
  · have hf : x.p.full = false := by simpa using ‹(!x.p.full) = true›
    have hr : charT [.n] x = ⟨x.p, x.cid, 0, encB [65533]⟩ := by
      unfold charT
      rw [hf]
      rfl
    rw [hr]
    refine AW.loop (I := fun k : Nat => ⟨44, [(2, .ptr 0 0), (4, .ptr 1 0), (5, .ptr 2 0), (24, .sl 1 1 (elt [[.iface 91 (.agg [])]])), (25, .int .i64 1), (26, .int .i64 k)], [.box 64 (cG x), .box 48 [.int .i64 0, .int .i64 0, .lit false, .int .i64 0, .int .i64 0, .int .i64 0, .int .i64 0, .str ByteArray.empty], .box 48 (cH ⟨x.p, x.cid, 0, ByteArray.empty⟩)]⟩) (fun k => k = 0) (fun k => 1 - k) 0 rfl ?_ ?_
    · (repeat' first | (with_reducible exact trivial) | (with_reducible rfl) | (refine And.intro ?_ ?_) | (refine Need.mk ?_) | exact True.intro | (first | (refine ⟨_, Told.refl _, ?_, ?_⟩) | (refine ⟨⟨_, _⟩, Told.refl _, ?_, ?_⟩) | (refine ⟨⟨_, _, _⟩, Told.refl _, ?_, ?_⟩) | (refine ⟨⟨_, _, _, _⟩, Told.refl _, ?_, ?_⟩) | (refine ⟨⟨_, _, _, _, _⟩, Told.refl _, ?_, ?_⟩) | (refine ⟨(), Told.refl _, ?_, ?_⟩)) | (with_reducible intro _) | (refine fun (_ : Bool) => ?_))
      all_goals first
        | rfl
        | decide
        | (rename_i i hi
           have hi : i < 1 := hi
           have h0 : i = 0 := by omega
           subst h0
           have e9 : (IntKind.i64.wrap (((1 : Nat) : Int) - 1)).toNat = 0 := by decide
           show cond (ones [.iface 91 (.agg [])]) (subs0 [.iface 91 (.agg [])] (elt [[.iface 91 (.agg [])]] ((IntKind.i64.wrap (((1 : Nat) : Int) - 1)).toNat + 0))) False
           rw [e9]
           exact (cTl_emb .n).2.1)
    · rintro k rfl
      ((refine AW.byF ‹_› ?_); (repeat' first | (with_reducible exact trivial) | (with_reducible rfl) | (refine And.intro ?_ ?_) | (refine Need.mk ?_) | exact True.intro | (first | (refine ⟨_, Told.refl _, ?_, ?_⟩) | (refine ⟨⟨_, _⟩, Told.refl _, ?_, ?_⟩) | (refine ⟨⟨_, _, _⟩, Told.refl _, ?_, ?_⟩) | (refine ⟨⟨_, _, _, _⟩, Told.refl _, ?_, ?_⟩) | (refine ⟨⟨_, _, _, _, _⟩, Told.refl _, ?_, ?_⟩) | (refine ⟨(), Told.refl _, ?_, ?_⟩)) | (with_reducible intro _) | (refine fun (_ : Bool) => ?_)))
      all_goals first | decide | (exact absurd ‹decide (((0 : Nat) : Int) < 1) = false› (by decide)) | rfl

  · have hf : x.p.full = true := by simpa using ‹(!x.p.full) = false›
    have hr : charT [.n] x = ⟨x.p, x.cid, (firstT x [.n]).2, (firstT x [.n]).1⟩ := by
      unfold charT
      rw [if_pos hf]
    rw [hr]
    refine AW.loop (I := fun k : Nat => ⟨44, [(2, .ptr 0 0), (4, .ptr 1 0), (5, .ptr 2 0), (24, .sl 1 1 (elt [[.iface 91 (.agg [])]])), (25, .int .i64 1), (26, .int .i64 k)], [.box 64 (cG x), .box 48 [.int .i64 0, .int .i64 0, .lit false, .int .i64 0, .int .i64 0, .int .i64 0, .int .i64 0, .str ByteArray.empty], .box 48 (cH ⟨x.p, x.cid, 0, ByteArray.empty⟩)]⟩) (fun k => k < 1 ∧ firstT x [.n] = firstT x ([.n].drop k)) (fun k => 1 - k) 0 ⟨by decide, rfl⟩ ?_ ?_
    · (repeat' first | (with_reducible exact trivial) | (with_reducible rfl) | (refine And.intro ?_ ?_) | (refine Need.mk ?_) | exact True.intro | (first | (refine ⟨_, Told.refl _, ?_, ?_⟩) | (refine ⟨⟨_, _⟩, Told.refl _, ?_, ?_⟩) | (refine ⟨⟨_, _, _⟩, Told.refl _, ?_, ?_⟩) | (refine ⟨⟨_, _, _, _⟩, Told.refl _, ?_, ?_⟩) | (refine ⟨⟨_, _, _, _, _⟩, Told.refl _, ?_, ?_⟩) | (refine ⟨(), Told.refl _, ?_, ?_⟩)) | (with_reducible intro _) | (refine fun (_ : Bool) => ?_))
      all_goals first
        | rfl
        | decide
        | exact lit_self (L := [.n]) _ ‹_›
    · rintro k ⟨hk, hg⟩
      have hc : k = 0 := by omega
      subst hc
      · -- round 0
        have g : firstT x ([.n].drop 0) = match tellO (.n) x with
          | some b => (b, 0)
          | none => firstT x ([.n].drop 1) := rfl
        ((refine AW.byF ‹_› ?_); (repeat' first | (with_reducible exact trivial) | (with_reducible rfl) | (refine And.intro ?_ ?_) | (refine Need.mk ?_) | exact True.intro | (first | (refine ⟨_, Told.refl _, ?_, ?_⟩) | (refine ⟨⟨_, _⟩, Told.refl _, ?_, ?_⟩) | (refine ⟨⟨_, _, _⟩, Told.refl _, ?_, ?_⟩) | (refine ⟨⟨_, _, _, _⟩, Told.refl _, ?_, ?_⟩) | (refine ⟨⟨_, _, _, _, _⟩, Told.refl _, ?_, ?_⟩) | (refine ⟨(), Told.refl _, ?_, ?_⟩)) | (with_reducible intro _) | (refine fun (_ : Bool) => ?_)))
        all_goals first
          | decide
          | assumption
          | (exact absurd ‹decide (((0 : Nat) : Int) < 1) = false› (by decide))
          | skip
        all_goals first
          | decide
          | exact lit_self (L := [.n]) _ ‹_›
          | (have q := ‹(tellO (.n) x).isSome = true›
             obtain ⟨u, hu⟩ := Option.isSome_iff_exists.1 q
             have e : firstT x [.n] = (u, 0) := by rw [hg, g, hu]
             first
               | (show (0 : Int) = (firstT x [.n]).2; rw [e]; done)
               | (show tellB (.n) x = (firstT x [.n]).1; rw [e]; unfold tellB; rw [hu]; rfl))
          | (have q : tellO (.n) x = none := by simpa using ‹(tellO (.n) x).isSome = false›
             rw [hg, g, q]
             done)
          | (have e : firstT x [.n] = (encB [65533], 0) := hg
             first
               | (show (0 : Int) = (firstT x [.n]).2; rw [e]; done)
               | (show tellB .n x = (firstT x [.n]).1; rw [e]; rfl))

end Go.Abs.Cp
set_option maxRecDepth 100000
namespace Go.Abs.Cp
open Go.RowKit Go.Proofs Go.Abs.Tab Go.Abs.Dest Go.Abs.Span Go.Abs.Coll Go.Abs.Hx Go.Abs.Mt Go.Abs.Lk Go.Abs.Rc Go.Abs.Utf Go.Abs.Txt
theorem told_tl {x : Sg} {L : List Tl} {n : Nat} {el : Nat → List AV} (hn : n = L.length) (h : ∀ i, i < n → el i = cTl (L.getD i default)) : Told [.agg (cG x), .sl 1 n el] [.agg (cG x), aTl L] := by
  refine Told.of ⟨(cG_emb x).2.1, ⟨⟨hn.symm⟩, fun i hi => ?_⟩, trivial⟩
  rw [h i hi]
  show cond (ones (cTl (L.getD i default))) (subs0 (cTl (L.getD i default)) (cTl (L.getD i default))) False
  rw [(cTl_emb _).1]
  exact (cTl_emb _).2.1
def SChar : Sp := ⟨Sg × Fnt, fun (x, f) => small f.uni ∧ small f.coll, fun (x, f) => [.agg (cG x), aTl (tls f)], fun (x, f) => .st (.agg (cH (charT (tls f) x)))⟩
theorem charC : SpOK Tryz.prog 20 SChar := fun ⟨x, f⟩ ⟨⟨_, _, _, hu⟩, ⟨_, _, _, hc⟩⟩ => by
  show Fn Tryz.prog 20 [.agg (cG x), aTl (tls f)] (.st (.agg (cH (charT (tls f) x))))
  cases h1 : f.hasUni <;> cases h2 : f.hasColl
  · have e : tls f = [.n] := by unfold tls; rw [h1, h2]; rfl
    rw [e]
    refine (char_n x f.uni f.coll hu hc).told (told_tl rfl fun i hi => ?_)
    obtain rfl : i = 0 := by omega
    rfl
  · have e : tls f = [.c f.coll, .n] := by unfold tls; rw [h1, h2]; rfl
    rw [e]
    refine (char_cn x f.uni f.coll hu hc).told (told_tl rfl fun i hi => ?_)
    have q : i = 0 ∨ i = 1 := by omega
    rcases q with rfl | rfl <;> rfl
  · have e : tls f = [.u f.uni, .n] := by unfold tls; rw [h1, h2]; rfl
    rw [e]
    refine (char_un x f.uni f.coll hu hc).told (told_tl rfl fun i hi => ?_)
    have q : i = 0 ∨ i = 1 := by omega
    rcases q with rfl | rfl <;> rfl
  · have e : tls f = [.u f.uni, .c f.coll, .n] := by unfold tls; rw [h1, h2]; rfl
    rw [e]
    refine (char_ucn x f.uni f.coll hu hc).told (told_tl rfl fun i hi => ?_)
    have q : i = 0 ∨ i = 1 ∨ i = 2 := by omega
    rcases q with rfl | rfl | rfl <;> rfl
def chars (f : Fnt) (s : List Int) : List Chr := if saneF f = true then (sgs f.enc s).map (charT (tls f)) else []
theorem getH {l : List Chr} {i : Nat} (h : i < l.length) : l.getD i default = l[i] := by simp [List.getD, h]
theorem chars_len (f : Fnt) (s : List Int) : (chars f s).length ≤ s.length := by
  unfold chars
  split
  · rw [List.length_map]
    exact sgs_len _ _
  · exact Nat.zero_le _
def SAllF : Sp := ⟨Fnt × List Int, fun (f, s) => (small f.enc ∧ small f.uni ∧ small f.coll) ∧ s.length ≤ 1000000 ∧ B8 s, fun (f, s) => [.agg (cFn f), a8 s], fun (f, s) => .row 48 8 (chars f s).length (els cH (chars f s))⟩
theorem map_nextC {f : Sg → Chr} {L : List Sg} {k : Nat} (hk : k < L.length) : (L.take (k + 1)).map f = (L.take k).map f ++ [f (L.getD k default)] := by
  rw [List.take_succ_eq_append_getElem hk, List.map_append, getG hk]
  rfl
set_option maxHeartbeats 16000000 in
theorem compAll : SpOK Tryz.prog 8 SAllF := fun ⟨f, s⟩ ⟨⟨h1, h2, h3⟩, hl, h8⟩ => by
  have hC : COK Tryz.prog (cfg [(6, SSaneF), (18, STls), (19, SLook), (20, SChar)]) := Ty.ty.cfg ⟨saneFC, tellers, Lk.look, charC, trivial⟩
  obtain ⟨a1, a2, a3, a4⟩ := h1
  obtain ⟨b1, b2, b3, b4⟩ := h2
  obtain ⟨c1, c2, c3, c4⟩ := h3
  have hsm : smallT f.enc := ⟨by omega, by omega, by omega, by omega⟩
  have hsl := sgs_len f.enc s
  have hall : ∀ b, saneF f = b → chars f s = if b = true then (sgs f.enc s).map (charT (tls f)) else [] := fun b e => by unfold chars; rw [e]
  ((refine Fn.ofF hC Tryz.func8 Tryz.ntmps8 rfl rfl rfl ?_); (repeat' first | (with_reducible exact trivial) | (with_reducible rfl) | (refine And.intro ?_ ?_) | (refine Need.mk ?_) | exact True.intro | (first | (refine ⟨_, Told.refl _, ?_, ?_⟩) | (refine ⟨⟨_, _⟩, Told.refl _, ?_, ?_⟩) | (refine ⟨⟨_, _, _⟩, Told.refl _, ?_, ?_⟩) | (refine ⟨⟨_, _, _, _⟩, Told.refl _, ?_, ?_⟩) | (refine ⟨⟨_, _, _, _, _⟩, Told.refl _, ?_, ?_⟩) | (refine ⟨(), Told.refl _, ?_, ?_⟩)) | (with_reducible intro _) | (refine fun (_ : Bool) => ?_)))
  all_goals first | omega | exact hsm | exact h8 | skip
  · have e : chars f s = [] := if_neg (by simpa using ‹(!saneF f) = true›)
    rw [e]
    rfl
  have hs : saneF f = true := by simpa using ‹(!saneF f) = false›
  have e : chars f s = (sgs f.enc s).map (charT (tls f)) := if_pos hs
  refine AW.loop (I := fun k : Nat => ⟨31, [(5, aTl (tls f)), (6, .own 0), (17, .own 1), (18, .int .i64 (sgs f.enc s).length), (19, .int .i64 k)], [.row 48 8 (((sgs f.enc s).take k).map (charT (tls f))).length (els cH (((sgs f.enc s).take k).map (charT (tls f)))), .row 64 9 (sgs f.enc s).length (els cG (sgs f.enc s))]⟩) (fun k => k ≤ (sgs f.enc s).length) (fun k => (sgs f.enc s).length - k) 0 (Nat.zero_le _) ?_ ?_
  · (repeat' first | (with_reducible exact trivial) | (with_reducible rfl) | (refine And.intro ?_ ?_) | (refine Need.mk ?_) | exact True.intro | (first | (refine ⟨_, Told.refl _, ?_, ?_⟩) | (refine ⟨⟨_, _⟩, Told.refl _, ?_, ?_⟩) | (refine ⟨⟨_, _, _⟩, Told.refl _, ?_, ?_⟩) | (refine ⟨⟨_, _, _, _⟩, Told.refl _, ?_, ?_⟩) | (refine ⟨⟨_, _, _, _, _⟩, Told.refl _, ?_, ?_⟩) | (refine ⟨(), Told.refl _, ?_, ?_⟩)) | (with_reducible intro _) | (refine fun (_ : Bool) => ?_))
    all_goals first | rfl | exact els_of cTl_emb (n := 0) (fun _ _ => rfl) _ ‹_›
  · intro k hk
    rcases Nat.lt_or_ge k (sgs f.enc s).length with hlt | hge
    · have hd : decide ((k : Int) < ((sgs f.enc s).length : Int)) = true := decide_eq_true (by omega)
      have hw := iw (n := (k : Int) + 1) (by omega) (by omega)
      have hnx := map_nextC (f := charT (tls f)) hlt
      have hml : (((sgs f.enc s).take k).map (charT (tls f))).length ≤ (sgs f.enc s).length := by rw [List.length_map, List.length_take]; omega
      ((refine AW.byF ‹_› ?_); (repeat' first | (with_reducible exact trivial) | (with_reducible rfl) | (refine And.intro ?_ ?_) | (refine Need.mk ?_) | exact True.intro | (first | (refine ⟨_, Told.refl _, ?_, ?_⟩) | (refine ⟨⟨_, _⟩, Told.refl _, ?_, ?_⟩) | (refine ⟨⟨_, _, _⟩, Told.refl _, ?_, ?_⟩) | (refine ⟨⟨_, _, _, _⟩, Told.refl _, ?_, ?_⟩) | (refine ⟨⟨_, _, _, _, _⟩, Told.refl _, ?_, ?_⟩) | (refine ⟨(), Told.refl _, ?_, ?_⟩)) | (with_reducible intro _) | (refine fun (_ : Bool) => ?_)))
      all_goals first | (exact absurd ‹decide ((k : Int) < ((sgs f.enc s).length : Int)) = false› (by rw [hd]; decide)) | skip
      any_goals (refine Exists.intro (k + 1) (And.intro ?_ (And.intro ?_ ?_)); all_goals (repeat' first | (with_reducible exact trivial) | (with_reducible rfl) | (refine And.intro ?_ ?_) | (refine Need.mk ?_) | exact True.intro | (first | (refine ⟨_, Told.refl _, ?_, ?_⟩) | (refine ⟨⟨_, _⟩, Told.refl _, ?_, ?_⟩) | (refine ⟨⟨_, _, _⟩, Told.refl _, ?_, ?_⟩) | (refine ⟨⟨_, _, _, _⟩, Told.refl _, ?_, ?_⟩) | (refine ⟨⟨_, _, _, _, _⟩, Told.refl _, ?_, ?_⟩) | (refine ⟨(), Told.refl _, ?_, ?_⟩)) | (with_reducible intro _) | (refine fun (_ : Bool) => ?_)))
      all_goals try simp only [Int.toNat_natCast] at *
      all_goals first
        | omega
        | (show ((((sgs f.enc s).take k).map (charT (tls f))).length + 1) * 80 ≤ _; omega)
        | (rw [hw]; rfl)
        | (rw [hnx, List.length_append]; rfl)
        | (rename_i z hz
           rw [hnx] at hz ⊢
           exact els_of cH_emb (n := 0) (cat_snoc rfl) z hz)
        | exact els_of cTl_emb (n := 0) (fun _ _ => rfl) _ ‹_›
    · obtain rfl : k = (sgs f.enc s).length := by omega
      have hd : decide (((sgs f.enc s).length : Int) < ((sgs f.enc s).length : Int)) = false := decide_eq_false (by omega)
      ((refine AW.byF ‹_› ?_); (repeat' first | (with_reducible exact trivial) | (with_reducible rfl) | (refine And.intro ?_ ?_) | (refine Need.mk ?_) | exact True.intro | (first | (refine ⟨_, Told.refl _, ?_, ?_⟩) | (refine ⟨⟨_, _⟩, Told.refl _, ?_, ?_⟩) | (refine ⟨⟨_, _, _⟩, Told.refl _, ?_, ?_⟩) | (refine ⟨⟨_, _, _, _⟩, Told.refl _, ?_, ?_⟩) | (refine ⟨⟨_, _, _, _, _⟩, Told.refl _, ?_, ?_⟩) | (refine ⟨(), Told.refl _, ?_, ?_⟩)) | (with_reducible intro _) | (refine fun (_ : Bool) => ?_)))
      all_goals first | (exact absurd ‹decide (((sgs f.enc s).length : Int) < ((sgs f.enc s).length : Int)) = true› (by rw [hd]; decide)) | skip
      all_goals rw [e, List.take_length]
def SCidsF : Sp := ⟨Fnt × List Int, fun (f, s) => (small f.enc ∧ small f.uni ∧ small f.coll) ∧ s.length ≤ 1000000 ∧ B8 s, fun (f, s) => [.agg (cFn f), a8 s], fun (f, s) => .row 3 1 ((chars f s).map Chr.cid).length (els ci ((chars f s).map Chr.cid))⟩
theorem cid_next {L : List Chr} {k : Nat} (hk : k < L.length) : (L.take (k + 1)).map Chr.cid = (L.take k).map Chr.cid ++ [(L.getD k default).cid] := by
  rw [List.take_succ_eq_append_getElem hk, List.map_append, getH hk]
  rfl
set_option maxHeartbeats 16000000 in
theorem compCids : SpOK Tryz.prog 10 SCidsF := fun ⟨f, s⟩ ⟨⟨⟨a1, a2, a3, a4⟩, ⟨b1, b2, b3, b4⟩, ⟨c1, c2, c3, c4⟩⟩, hl, h8⟩ => by
  have hC : COK Tryz.prog (cfg [(8, SAllF)]) := Ty.ty.cfg ⟨compAll, trivial⟩
  have hcl := chars_len f s
  ((refine Fn.ofF hC Tryz.func10 Tryz.ntmps10 rfl rfl rfl ?_); (repeat' first | (with_reducible exact trivial) | (with_reducible rfl) | (refine And.intro ?_ ?_) | (refine Need.mk ?_) | exact True.intro | (first | (refine ⟨_, Told.refl _, ?_, ?_⟩) | (refine ⟨⟨_, _⟩, Told.refl _, ?_, ?_⟩) | (refine ⟨⟨_, _, _⟩, Told.refl _, ?_, ?_⟩) | (refine ⟨⟨_, _, _, _⟩, Told.refl _, ?_, ?_⟩) | (refine ⟨⟨_, _, _, _, _⟩, Told.refl _, ?_, ?_⟩) | (refine ⟨(), Told.refl _, ?_, ?_⟩)) | (with_reducible intro _) | (refine fun (_ : Bool) => ?_)))
  all_goals first | omega | exact h8 | skip
  refine AW.loop (I := fun k : Nat => ⟨23, [(5, .own 0), (10, .own 1), (11, .int .i64 (chars f s).length), (12, .int .i64 k)], [.row 3 1 (((chars f s).take k).map Chr.cid).length (els ci (((chars f s).take k).map Chr.cid)), .row 48 8 (chars f s).length (els cH (chars f s))]⟩) (fun k => k ≤ (chars f s).length) (fun k => (chars f s).length - k) 0 (Nat.zero_le _) ?_ ?_
  · (repeat' first | (with_reducible exact trivial) | (with_reducible rfl) | (refine And.intro ?_ ?_) | (refine Need.mk ?_) | exact True.intro | (first | (refine ⟨_, Told.refl _, ?_, ?_⟩) | (refine ⟨⟨_, _⟩, Told.refl _, ?_, ?_⟩) | (refine ⟨⟨_, _, _⟩, Told.refl _, ?_, ?_⟩) | (refine ⟨⟨_, _, _, _⟩, Told.refl _, ?_, ?_⟩) | (refine ⟨⟨_, _, _, _, _⟩, Told.refl _, ?_, ?_⟩) | (refine ⟨(), Told.refl _, ?_, ?_⟩)) | (with_reducible intro _) | (refine fun (_ : Bool) => ?_))
    all_goals first | rfl
  · intro k hk
    rcases Nat.lt_or_ge k (chars f s).length with hlt | hge
    · have hd : decide ((k : Int) < ((chars f s).length : Int)) = true := decide_eq_true (by omega)
      have hw := iw (n := (k : Int) + 1) (by omega) (by omega)
      have hnx := cid_next hlt
      have hml : (((chars f s).take k).map Chr.cid).length ≤ (chars f s).length := by rw [List.length_map, List.length_take]; omega
      ((refine AW.byF ‹_› ?_); (repeat' first | (with_reducible exact trivial) | (with_reducible rfl) | (refine And.intro ?_ ?_) | (refine Need.mk ?_) | exact True.intro | (first | (refine ⟨_, Told.refl _, ?_, ?_⟩) | (refine ⟨⟨_, _⟩, Told.refl _, ?_, ?_⟩) | (refine ⟨⟨_, _, _⟩, Told.refl _, ?_, ?_⟩) | (refine ⟨⟨_, _, _, _⟩, Told.refl _, ?_, ?_⟩) | (refine ⟨⟨_, _, _, _, _⟩, Told.refl _, ?_, ?_⟩) | (refine ⟨(), Told.refl _, ?_, ?_⟩)) | (with_reducible intro _) | (refine fun (_ : Bool) => ?_)))
      all_goals first | (exact absurd ‹decide ((k : Int) < ((chars f s).length : Int)) = false› (by rw [hd]; decide)) | skip
      any_goals (refine Exists.intro (k + 1) (And.intro ?_ (And.intro ?_ ?_)); all_goals (repeat' first | (with_reducible exact trivial) | (with_reducible rfl) | (refine And.intro ?_ ?_) | (refine Need.mk ?_) | exact True.intro | (first | (refine ⟨_, Told.refl _, ?_, ?_⟩) | (refine ⟨⟨_, _⟩, Told.refl _, ?_, ?_⟩) | (refine ⟨⟨_, _, _⟩, Told.refl _, ?_, ?_⟩) | (refine ⟨⟨_, _, _, _⟩, Told.refl _, ?_, ?_⟩) | (refine ⟨⟨_, _, _, _, _⟩, Told.refl _, ?_, ?_⟩) | (refine ⟨(), Told.refl _, ?_, ?_⟩)) | (with_reducible intro _) | (refine fun (_ : Bool) => ?_)))
      all_goals try simp only [Int.toNat_natCast] at *
      all_goals first
        | omega
        | (show ((((chars f s).take k).map Chr.cid).length + 1) * 8 ≤ _; omega)
        | (rw [hw]; rfl)
        | (rw [hnx, List.length_append]; rfl)
        | (rename_i z hz
           rw [hnx] at hz ⊢
           exact els_of ci_emb (n := 0) (cat_snoc rfl) z hz)
    · obtain rfl : k = (chars f s).length := by omega
      have hd : decide (((chars f s).length : Int) < ((chars f s).length : Int)) = false := decide_eq_false (by omega)
      ((refine AW.byF ‹_› ?_); (repeat' first | (with_reducible exact trivial) | (with_reducible rfl) | (refine And.intro ?_ ?_) | (refine Need.mk ?_) | exact True.intro | (first | (refine ⟨_, Told.refl _, ?_, ?_⟩) | (refine ⟨⟨_, _⟩, Told.refl _, ?_, ?_⟩) | (refine ⟨⟨_, _, _⟩, Told.refl _, ?_, ?_⟩) | (refine ⟨⟨_, _, _, _⟩, Told.refl _, ?_, ?_⟩) | (refine ⟨⟨_, _, _, _, _⟩, Told.refl _, ?_, ?_⟩) | (refine ⟨(), Told.refl _, ?_, ?_⟩)) | (with_reducible intro _) | (refine fun (_ : Bool) => ?_)))
      all_goals first | (exact absurd ‹decide (((chars f s).length : Int) < ((chars f s).length : Int)) = true› (by rw [hd]; decide)) | skip
      all_goals rw [List.take_length]
end Go.Abs.Cp
set_option maxRecDepth 100000
namespace Go.Abs.Cp
open Go.RowKit Go.Proofs Go.Abs.Tab Go.Abs.Dest Go.Abs.Span Go.Abs.Coll Go.Abs.Hx Go.Abs.Mt Go.Abs.Lk Go.Abs.Rc Go.Abs.Utf
open Go.Abs.Txt (isB_below)
attribute [local go_sem] Oper.semAt_some
def encT (l : List Chr) : List UInt8 := l.flatMap fun c => c.text.data.toList
def txtT (l : List Chr) : ByteArray := ⟨(encT l).toArray⟩
theorem encT_len : ∀ (l : List Chr), (∀ c ∈ l, c.text.size ≤ 10000000) → (encT l).length ≤ 10000000 * l.length
  | [], _ => by simp [encT]
  | c :: l, h => by
    have ih := encT_len l (fun x hx => h x (List.mem_cons_of_mem _ hx))
    have h1 : c.text.data.toList.length ≤ 10000000 := h c List.mem_cons_self
    unfold encT at ih ⊢
    rw [List.flatMap_cons, List.length_append, List.length_cons]
    omega
def encH (c : Chr) : List Value := [.int .i64 c.p.at_, .int .i64 c.p.n, .bool c.p.full, .int .i64 c.p.cn, .int .i64 c.p.cv, .int .i64 c.cid, .int .i64 c.from_, .string c.text]
theorem rowCells {w1 : World} {S1 : Nat → Prop} {base : Nat} {L : List Chr} {v : Value} (h : Res w1 S1 base (.row 48 8 L.length (els cH L)) v) : ∃ A c g, v = .slice A L.length c ∧ (0 < L.length → base ≤ g ∧ ∃ cs, w1.heap[g]? = some (.cells cs 48 (0, 0))) ∧ ∀ i, i < L.length → ∃ ad, A = some ad ∧ ad.block = g ∧ ∀ j x, (encH (L.getD i default))[j]? = some x → w1.cell? (ad.add (i * 8 + j)) = some x := by
  obtain ⟨⟨inner, ho, hi⟩, _⟩ := h
  have hc : ∀ i, i < L.length → ∀ j x, (encH (L.getD i default))[j]? = some x → inner[i * 8 + j]? = some x := fun i hil j x hx => by
    obtain ⟨_, _, h3⟩ := hi i hil
    have hj : j < 8 := (List.getElem?_eq_some_iff.1 hx).1
    have hj' : j = 0 ∨ j = 1 ∨ j = 2 ∨ j = 3 ∨ j = 4 ∨ j = 5 ∨ j = 6 ∨ j = 7 := by omega
    rcases hj' with rfl | rfl | rfl | rfl | rfl | rfl | rfl | rfl
    · obtain ⟨u, h4, h5⟩ := h3 0 _ rfl
      obtain rfl := Option.some.inj hx
      rw [h4]
      cases h5
      rfl
    · obtain ⟨u, h4, h5⟩ := h3 1 _ rfl
      obtain rfl := Option.some.inj hx
      rw [h4]
      cases h5
      rfl
    · obtain ⟨u, h4, h5⟩ := h3 2 _ rfl
      obtain rfl := Option.some.inj hx
      rw [h4]
      cases h5
      rfl
    · obtain ⟨u, h4, h5⟩ := h3 3 _ rfl
      obtain rfl := Option.some.inj hx
      rw [h4]
      cases h5
      rfl
    · obtain ⟨u, h4, h5⟩ := h3 4 _ rfl
      obtain rfl := Option.some.inj hx
      rw [h4]
      cases h5
      rfl
    · obtain ⟨u, h4, h5⟩ := h3 5 _ rfl
      obtain rfl := Option.some.inj hx
      rw [h4]
      cases h5
      rfl
    · obtain ⟨u, h4, h5⟩ := h3 6 _ rfl
      obtain rfl := Option.some.inj hx
      rw [h4]
      cases h5
      rfl
    · obtain ⟨u, h4, h5⟩ := h3 7 _ rfl
      obtain rfl := Option.some.inj hx
      rw [h4]
      cases h5
      rfl
  have hcell := fun (g : Nat) (h : v.ownBlock = some g) => ho.cells (g := g) h
  rcases ho.2 with ⟨rfl, hn⟩ | ⟨g, cap, cur, rfl, hbg, hg, _⟩
  · refine ⟨none, 0, 0, by rw [hn], fun q => by omega, fun i hil => by omega⟩
  · refine ⟨some ⟨g, 0, none⟩, cap, g, rfl, fun _ => ⟨hbg, cur, hg⟩, fun i hil => ⟨_, rfl, rfl, fun j x hx => ?_⟩⟩
    exact hcell g rfl _ _ (hc i hil j x hx)
theorem wpLoadF {P : Program} {ops : Array Oper} {rest : List Oper} {o : Oper} {a : Act} {Q : Exit → Act → World → Prop} {w : World} (hg : o.guard = none) (x : Operand) (t : TypeId) (hop : o.op = Op.load t x) (v u : Value) (hx : a.eval x = v) (hrun : (Instr.loadAt t v).run P w = .ok u w)
    (hK : wpList P ops Q rest (a.put o.dst u) w) : wpList P ops Q (o :: rest) a w := by
  refine wpList_plain hg fun K' hK' => ?_
  unfold Oper.wp
  simp only [execOp, hop, hx, Sem.run_bind, hrun, Result.andThen_ok, Sem.run_pure]
  exact hK' _ _ hK
theorem loadF (W : World) (b : Nat) (cs : List Value) (hl : cs.length = 20) (hb : W.heap[b]? = some (.cells cs.toArray 35 (0, 0))) : (Instr.loadAt 35 (.pointer (some ⟨b, 0, none⟩))).run Tryz.prog W = .ok (.agg cs.toArray) W := by
  obtain ⟨d, info, z, hd, hi, hsz, _, _, _, hT, _, _⟩ := base.ty 35 _ rfl
  have hag := TDok.agg hd hT
  have hz : info.size = 20 := hsz
  have hcell : ∀ (j : Nat) (x : Value), cs[j]? = some x → W.cell? ((⟨b, 0, none⟩ : Addr).add j) = some x := fun j x hx => by
    have e : (⟨b, 0, none⟩ : Addr).add j = ⟨b, j, none⟩ := by unfold Addr.add; split <;> simp_all
    rw [e, blk_cell hb]
    simpa using hx
  have hld := run_loadCells_list (P := Tryz.prog) W ⟨b, 0, none⟩ cs hcell
  rw [hl] at hld
  unfold Instr.loadAt loadVar
  simp only [Instr.sureAddr, Sem.run_bind, Sem.run_pure, Result.andThen_ok, run_isAgg hd, hag]
  show ((if (true : Bool) = true then _ else _ : Sem Value).run Tryz.prog W) = _
  simp only [if_true, Sem.run_bind, run_sizeOf hi, Result.andThen_ok, hz, hld, Sem.run_pure]
set_option maxHeartbeats 8000000 in
theorem compTextC (f : Fnt) (s : List Int) (S : Nat → Prop) (w : World) (cs : List Value) (hcs : cs.length = 20) (vs : Value) (hS : ∀ b, S b → b < w.heap.size) (hv : RVs0 w S [.agg (cFn f), a8 s] [.agg cs.toArray, vs]) (hp : SAllF.pre (f, s)) (ht : ∀ c ∈ chars f s, c.text.size ≤ 10000000) :
    Calls Tryz.prog 12 #[.agg cs.toArray, vs] w fun e w' => e = .returned (.string (txtT (chars f s))) ∧ Below w.heap.size w w' := by
  have hall : ∀ W, Below w.heap.size w W → Calls Tryz.prog 8 #[.agg cs.toArray, vs] W fun e w1 => ∃ A c g, e = .returned (.slice A (chars f s).length c) ∧ (0 < (chars f s).length → W.heap.size ≤ g ∧ ∃ cs, w1.heap[g]? = some (.cells cs 48 (0, 0))) ∧ (∀ i, i < (chars f s).length → ∃ ad, A = some ad ∧ ad.block = g ∧ ∀ j x, (encH ((chars f s).getD i default))[j]? = some x → w1.cell? (ad.add (i * 8 + j)) = some x) ∧ Below W.heap.size W w1 := fun W hW => by
    refine ((compAll (f, s) hp).2 W S [.agg cs.toArray, vs] (fun b hb => Nat.lt_of_lt_of_le (hS b hb) hW.size) ⟨hv.1, fun i a v h1 h2 => (hv.2 i a v h1 h2).mono (fun _ q => q) (fun b hb => hW.block b (hS b hb))⟩).mono ?_
    rintro e w1 ⟨v, S', rfl, hr, _, _, hb⟩
    obtain ⟨A, c, g, rfl, h1, h2⟩ := rowCells hr
    exact ⟨A, c, g, rfl, h1, h2, hb⟩
  obtain ⟨L, hL⟩ : ∃ L, L = chars f s := ⟨_, rfl⟩
  have hll : L.length ≤ 1000000 := by
    rw [hL]
    exact Nat.le_trans (chars_len f s) hp.2.1
  rw [← hL] at hall ht ⊢
  have hbx : ∀ W, (Instr.box 35 (.agg cs.toArray)).run Tryz.prog W = .ok (.pointer (some ⟨W.heap.size, 0, none⟩)) (W.alloc (.cells cs.toArray 35)) := fun W => rfl
  have hld : (Instr.loadAt 35 (.pointer (some ⟨w.heap.size, 0, none⟩))).run Tryz.prog ((w.alloc (.cells cs.toArray 35)).alloc (.cells #[.pointer none, .slice none 0 0] 72)) = .ok (.agg cs.toArray) ((w.alloc (.cells cs.toArray 35)).alloc (.cells #[.pointer none, .slice none 0 0] 72)) :=
    loadF _ _ cs hcs ((Below.heap_alloc _ _ _ (by simp)).trans (heap_alloc_new w _))
  have HA := Aside0.mk hall
  have HT := Aside0.mk ht
  have HL := Aside0.mk hll
  have HB0 := Aside0.mk (show Below w.heap.size w ((w.alloc (.cells cs.toArray 35)).alloc (.cells #[.pointer none, .slice none 0 0] 72)) from b_alloc (b_alloc (Below.refl _ _) (Nat.le_refl _) _) (Nat.le_refl _) _)
  have hfr := Lib.IsBuilderF.of (Lib.fresh_isBuilder 72 5 (w.alloc (.cells cs.toArray 35)))
  have hs1 : (w.alloc (.cells cs.toArray 35)).heap.size = w.heap.size + 1 := Array.size_push ..
  have hs2 : ((w.alloc (.cells cs.toArray 35)).alloc (.cells #[.pointer none, .slice none 0 0] 72)).heap.size = w.heap.size + 2 := (Array.size_push ..).trans (congrArg (· + 1) hs1)
  rw [hs1] at hfr
  have HF := Aside0.mk hfr
  have HS2 := Aside0.mk hs2
  clear hall ht hll hL hS hv hp hfr hs2 hcs
  go_enter Tryz.func12, Tryz.ntmps12
  go_wp2_with (first | (refine wpLoadF rfl (.tmp 2) 35 rfl _ _ rfl hld ?_) | (go_at_call 8; refine (HA.out _ HB0.out).mono ?_; rintro e w1 ⟨A, c0, g, rfl, hg1, hc1, hb1⟩; have HG1 := Aside0.mk hg1; have HC1 := Aside0.mk hc1; have HBW := Aside0.mk (HB0.out.trans (hb1.mono HB0.out.size)); have HO1 := Aside0.mk (isB_below HF.out hb1); clear hg1 hc1 hb1))
  clear hbx hld
  go_loopg [12] (L.length + 1) (fun kq v8 w' => ∃ (i : Nat), v8 = .int .i64 (i : Nat) ∧ Aside0 (i ≤ L.length ∧ L.length + 1 ≤ kq + i) ∧ Aside0 (Lib.IsBuilderF 72 5 (w.heap.size + 1) (w.heap.size + 1) (Lib.byteCells (encT (L.take i))) w') ∧ Aside0 (∀ cs, w1.heap[g]? = some (.cells cs 48 (0, 0)) → w'.heap[g]? = some (.cells cs 48 (0, 0))) ∧ Aside0 (Below w.heap.size w w'))
  case atStart => exact ⟨0, rfl, ⟨by omega⟩, HO1, ⟨fun _ h => h⟩, HBW⟩
  case round =>
    obtain ⟨i, rfl, HI, HO, HG, HB⟩ := hrel
    cases gk with
    | zero => have := HI.out; omega
    | succ k1 =>
      by_cases hi : i < L.length
      · have hlt : w.heap.size + 1 < wr.heap.size := HO.out.elim (fun h => h.lt) (fun h => h.lt)
        obtain ⟨ad, ead, hab, hcl⟩ := HC1.out i hi
        subst ead
        obtain ⟨hge, cs1, hcs1⟩ := HG1.out (by omega)
        have hgr := HG.out cs1 hcs1
        rw [HS2.out] at hge
        have hw : ∀ p : Addr, p.block = ad.block → wr.cell? p = w1.cell? p := fun p hp => World.cell?_of_block (by rw [hp, hab, hgr, hcs1])
        obtain ⟨sg, hsg⟩ : ∃ sg, sg = L.getD i default := ⟨_, rfl⟩
        rw [← hsg] at hcl
        have hab2 : ∀ n, (ad.add n).block = ad.block := fun n => by unfold Addr.add; split <;> rfl
        have hao : (ad.add (i * 8)).off = ad.off + i * 8 := by unfold Addr.add; split <;> first | rfl | (rename_i h; omega)
        have hadd : ∀ j, 0 < j → (⟨(ad.add (i * 8)).block, (ad.add (i * 8)).off + j, none⟩ : Addr) = ad.add (i * 8 + j) := fun j hj => by
          rw [hab2, hao]
          unfold Addr.add
          rw [if_neg (by omega), Nat.add_assoc]
        have hx0 : wr.cell? (ad.add (i * 8)) = some (.int .i64 sg.p.at_) := (hw _ (hab2 _)).trans (hcl 0 _ rfl)
        have hx1 : wr.cell? ⟨(ad.add (i * 8)).block, (ad.add (i * 8)).off + 1, none⟩ = some (.int .i64 sg.p.n) := by rw [hadd 1 (by omega)]; exact (hw _ (hab2 _)).trans (hcl 1 _ rfl)
        have hx2 : wr.cell? ⟨(ad.add (i * 8)).block, (ad.add (i * 8)).off + 2, none⟩ = some (.bool sg.p.full) := by rw [hadd 2 (by omega)]; exact (hw _ (hab2 _)).trans (hcl 2 _ rfl)
        have hx3 : wr.cell? ⟨(ad.add (i * 8)).block, (ad.add (i * 8)).off + 3, none⟩ = some (.int .i64 sg.p.cn) := by rw [hadd 3 (by omega)]; exact (hw _ (hab2 _)).trans (hcl 3 _ rfl)
        have hx4 : wr.cell? ⟨(ad.add (i * 8)).block, (ad.add (i * 8)).off + 4, none⟩ = some (.int .i64 sg.p.cv) := by rw [hadd 4 (by omega)]; exact (hw _ (hab2 _)).trans (hcl 4 _ rfl)
        have hx5 : wr.cell? ⟨(ad.add (i * 8)).block, (ad.add (i * 8)).off + 5, none⟩ = some (.int .i64 sg.cid) := by rw [hadd 5 (by omega)]; exact (hw _ (hab2 _)).trans (hcl 5 _ rfl)
        have hx6 : wr.cell? ⟨(ad.add (i * 8)).block, (ad.add (i * 8)).off + 6, none⟩ = some (.int .i64 sg.from_) := by rw [hadd 6 (by omega)]; exact (hw _ (hab2 _)).trans (hcl 6 _ rfl)
        have hx7 : wr.cell? ⟨(ad.add (i * 8)).block, (ad.add (i * 8)).off + 7, none⟩ = some (.string sg.text) := by rw [hadd 7 (by omega)]; exact (hw _ (hab2 _)).trans (hcl 7 _ rfl)
        have htk : encT (L.take (i + 1)) = encT (L.take i) ++ sg.text.data.toList := by
          rw [List.take_succ_eq_append_getElem hi, hsg]
          unfold encT
          rw [List.flatMap_append]
          simp [List.getD, hi]
        have hst : sg.text.size ≤ 10000000 := by
          rw [hsg, getH hi]
          exact HT.out _ (List.getElem_mem hi)
        have p0 : (0 ≤ (i : Int)) = True := eq_true (by omega)
        have p1 : ((i : Int) < (L.length : Int)) = True := eq_true (by omega)
        have hln := encT_len (L.take i) (fun x hx => HT.out x (List.mem_of_mem_take hx))
        rw [List.length_take] at hln
        have HLN := Aside0.mk (show (encT (L.take i)).length ≤ 10000000 * i by omega)
        have HTK := Aside0.mk htk
        have HLi := Aside0.mk hi
        have HST := Aside0.mk hst
        have HGE := Aside0.mk (And.intro hge hlt)
        have HBA := Aside0.mk (show ∀ o, Below w.heap.size w (wr.alloc o) from fun o => b_alloc HB.out (Nat.le_refl _) o)
        have HOA := Aside0.mk (show ∀ o, Lib.IsBuilderF 72 5 (w.heap.size + 1) (w.heap.size + 1) (Lib.byteCells (encT (L.take i))) (wr.alloc o) from fun o => HO.out.alloc o)
        have HGA := Aside0.mk (show ∀ o cs, w1.heap[g]? = some (.cells cs 48 (0, 0)) → (wr.alloc o).heap[g]? = some (.cells cs 48 (0, 0)) from fun o cs h => blk_alloc (HG.out cs h) o)
        clear htk hst hsg hcl hw hadd hab hao hln hgr hcs1 hge hlt hab2
        go_wp2_with (go_at_call 24; refine (Tryz.Builder_WriteString_k (w.heap.size + 1) (w.heap.size + 1) (Lib.byteCells (encT (L.take i))) sg.text _ (HOA.out _) (by rw [Lib.byteCells_length]; have := HL.out; have := HLN.out; have := HST.out; have := HLi.out; omega) (by have := HGE.out; simp; omega)).mono ?_; rintro e W1 ⟨rfl, h1, b1, k1_⟩)
        go_roundg k1
        case measure => have := HI.out; omega
        case rel => exact ⟨i + 1, (by first | rfl | (have := HL.out; have := HLi.out; congr 1; unfold wrap64; omega) | (have := HL.out; have := HLi.out; simp [wrap64]; omega)), ⟨by have := HI.out; have := HLi.out; omega⟩, ⟨by rw [HTK.out, Lib.byteCells_append]; exact Or.inr h1⟩, ⟨fun cs h => k1_ g _ (HGA.out _ cs h) (by intro q; have := Option.some.inj q; have := HGE.out; omega) (fun c fz q => by injection q with _ q; exact absurd q (by decide))⟩, ⟨(HBA.out _).trans (b1.mono (Nat.le_succ _))⟩⟩
      · obtain rfl : i = L.length := by have := HI.out; omega
        have ho := HO.out
        rw [List.take_length] at ho
        clear HO
        have HO := Aside0.mk ho
        clear ho
        go_wp2_with (go_at_call 25; refine (Tryz.Builder_String_any_k (w.heap.size + 1) (w.heap.size + 1) (encT L) _ HO.out (by have : w.heap.size + 1 < wr.heap.size := HO.out.elim (fun h => h.lt) (fun h => h.lt); omega)).mono ?_; rintro e W1 ⟨rfl, _, b1, _⟩)
        go_ret
        exact ⟨rfl, HB.out.trans (b1.mono (Nat.le_succ _))⟩
def STextF : Sp := ⟨Fnt × List Int, fun (f, s) => SAllF.pre (f, s) ∧ ∀ c ∈ chars f s, c.text.size ≤ 10000000, fun (f, s) => [.agg (cFn f), a8 s], fun (f, s) => .st (.str (txtT (chars f s)))⟩
theorem compText : SpOK Tryz.prog 12 STextF := fun ⟨f, s⟩ ⟨hp, ht⟩ => by
  refine ⟨⟨_, Tryz.func12, rfl, rfl⟩, fun w S vs hS hv => ?_⟩
  match vs, hv with
  | [v, u], hv =>
    have h0 := hv.2 0 _ _ rfl rfl
    obtain ⟨cs, rfl, hc⟩ := rv_agg (.st _ _ h0 : RV w S [] _ _)
    refine (compTextC f s S w cs hc.1 u hS hv hp ht).mono ?_
    rintro e w' ⟨rfl, hb⟩
    exact ⟨_, S, rfl, .str _, fun _ q => q, fun b q => ⟨Nat.lt_of_lt_of_le (hS b q) hb.size, .inl q⟩, hb⟩
end Go.Abs.Cp
set_option maxRecDepth 100000
namespace Go.Abs.Ci
open Go.RowKit Go.Proofs Go.Abs.Tab Go.Abs.Dest Go.Abs.Span Go.Abs.Coll Go.Abs.Hx Go.Abs.Mt Go.Abs.Lk Go.Abs.Rc
def idR : Rct := ⟨2, 0, 65535⟩
def idS : Spn := ⟨2, 0, 65535, 0⟩
theorem okId : okR idR = true := by decide +kernel
theorem canId : canR [idR] = [idR] := by
  have h1 : [idR].filter okR = [idR] := by rw [List.filter_cons, okId]; rfl
  have h2 : sortR [idR] = [idR] := List.mergeSort_singleton _
  unfold canR
  have h3 : cptR [idR] = [idR] := rfl
  have h4 : held [idR] idR = false := by decide +kernel
  rw [h1, h2, h3, List.filter_cons, h4]
  rfl
theorem in1 (v : Int) : inR idR 1 v = false := by
  unfold inR
  have : ((1 : Int) == idR.n) = false := by decide
  rw [this]
  simp
theorem in2 {v : Int} (h : 0 ≤ v ∧ v < 65536) : inR idR 2 v = true := by
  have hs : saneC 2 v = true := (saneC_iff 2 v).2 (by omega)
  have h8 := bytesC_8 2 v
  have hl : (bytesC 2 v).length = 2 := by rw [bytesC_len, if_pos hs]; rfl
  have hf : fits idR (bytesC 2 v) = 2 := by
    unfold Hx.fits
    rw [if_pos okId, hl]
    refine fitTo_all fun j hj => ?_
    have hj : j < 2 := hj
    have hg := B8.get h8 j
    have c1 : (lo idR).getD j default = 0 := by
      have : j = 0 ∨ j = 1 := by omega
      rcases this with rfl | rfl <;> decide +kernel
    have c2 : (hi idR).getD j default = 255 := by
      have : j = 0 ∨ j = 1 := by omega
      rcases this with rfl | rfl <;> decide +kernel
    unfold inK
    rw [c1, c2]
    exact decide_eq_true hg
  unfold inR
  rw [okId, hs, hf]
  rfl
theorem val2 {b : List Int} (h8 : B8 b) (h : b.length = 2) : valN b = 2 ∧ valV b = b.getD 0 default * 256 + b.getD 1 default ∧ 0 ≤ valV b ∧ valV b < 65536 ∧ valOk b = true := by
  have ok : valOk b = true := decide_eq_true (by omega)
  have hv : valV b = b.getD 0 default * 256 + b.getD 1 default := by
    unfold valV
    rw [if_pos ok]
    match b, h with
    | [x, y], _ => simp [valI]
  have g0 := B8.get h8 0
  have g1 := B8.get h8 1
  refine ⟨?_, hv, by omega, by omega, ok⟩
  unfold valN
  rw [if_pos ok, h]
  rfl
theorem full1F {b : List Int} (h : b.length = 1) : fullB [idR] b = false := by
  have ok : valOk b = true := decide_eq_true (by omega)
  unfold fullB anyR valN
  rw [if_pos ok, h]
  simp [in1]
theorem full2T {b : List Int} (h8 : B8 b) (h : b.length = 2) : fullB [idR] b = true := by
  obtain ⟨h1, h2, h3, h4, h5⟩ := val2 h8 h
  unfold fullB anyR
  rw [h5, h1]
  simp [in2 ⟨h3, h4⟩]
theorem code2 {b : List Int} (h8 : B8 b) (h : 2 ≤ b.length) : code [idR] b = some 2 := by
  refine code_some (k := 1) (by omega) (fun j hj => ?_) ?_
  · obtain rfl : j = 0 := by omega
    exact full1F (by rw [List.length_take]; omega)
  · exact full2T (B8.take h8 _) (by rw [List.length_take]; omega)
theorem code1 {b : List Int} (h : b.length = 1) : code [idR] b = none := by
  refine code_none (fun j hj => ?_)
  obtain rfl : j = 0 := by omega
  exact full1F (by rw [List.length_take]; omega)
theorem next2 {b : List Int} (h8 : B8 b) (h : 2 ≤ b.length) : nextN [idR] b = 2 := by
  unfold nextN
  rw [code2 h8 h]
  rfl
theorem next1 {b : List Int} (h : b.length = 1) : nextN [idR] b = 1 := by
  have := next_rng (l := [idR]) (b := b) (by omega)
  omega
theorem idAt {s : List Int} (h8 : B8 s) : ∀ (f a : Nat), s.length - a ≤ f → (allAt [idR] s a).length = (s.length - a + 1) / 2 ∧ ∀ i, i < (s.length - a + 1) / 2 → (allAt [idR] s a).getD i default = pcAt [idR] s (a + 2 * i)
  | 0, a, h => by
    rw [allAt_end (by omega)]
    refine ⟨?_, fun i hi => ?_⟩
    · show 0 = _
      omega
    · omega
  | f + 1, a, h => by
    rcases Nat.lt_or_ge a s.length with q | q
    · rw [allAt_step q]
      by_cases q2 : a + 1 < s.length
      · have hn : stepN [idR] s a = 2 := by
          unfold stepN
          rw [next2 (B8.drop h8 a) (by rw [List.length_drop]; omega)]
          rfl
        rw [hn]
        obtain ⟨i1, i2⟩ := idAt h8 f (a + 2) (by omega)
        refine ⟨by rw [List.length_cons, i1]; omega, fun i hi => ?_⟩
        cases i with
        | zero => rfl
        | succ i =>
          rw [List.getD_cons_succ, i2 i (by omega)]
          congr 1
          omega
      · have hn : stepN [idR] s a = 1 := by
          unfold stepN
          rw [next1 (by rw [List.length_drop]; omega)]
          rfl
        rw [hn, allAt_end (l := [idR]) (a := a + 1) (by omega)]
        refine ⟨by show 1 = _; omega, fun i hi => ?_⟩
        obtain rfl : i = 0 := by omega
        rfl
    · rw [allAt_end (by omega)]
      refine ⟨?_, fun i hi => ?_⟩
      · show 0 = _
        omega
      · omega
theorem pc2 {s : List Int} (h8 : B8 s) {a : Nat} (h : a + 1 < s.length) : (pcAt [idR] s a).full = true ∧ (pcAt [idR] s a).cn = 2 ∧ (pcAt [idR] s a).cv = s.getD a default * 256 + s.getD (a + 1) default := by
  have hl : (s.drop a).length = s.length - a := List.length_drop
  have hc := code2 (B8.drop h8 a) (by omega)
  have hn : stepN [idR] s a = 2 := by
    unfold stepN
    rw [next2 (B8.drop h8 a) (by omega)]
    rfl
  have hp : pcAt [idR] s a = ⟨a, nextN [idR] (s.drop a), true, valN ((s.drop a).take 2), valV ((s.drop a).take 2)⟩ := by
    unfold pcAt
    rw [if_pos (by rw [hc]; rfl), hn]
  obtain ⟨v1, v2, _⟩ := val2 (b := (s.drop a).take 2) (B8.take (B8.drop h8 a) 2) (by rw [List.length_take]; omega)
  rw [hp]
  refine ⟨rfl, v1, ?_⟩
  show valV _ = _
  rw [v2]
  simp only [List.getD, List.getElem?_take, List.getElem?_drop]
  simp
theorem pc1 {s : List Int} {a : Nat} (h : a + 1 = s.length) : (pcAt [idR] s a).full = false := by
  have hc := code1 (b := s.drop a) (by rw [List.length_drop]; omega)
  unfold pcAt
  rw [if_neg (by rw [hc]; decide)]
theorem findI (n v : Int) : (ES true).find [idS] n v = if n = 2 ∧ 0 ≤ v ∧ v ≤ 65535 then some v else none := by
  have hc : (ES true).canon [idS] = true := by decide +kernel
  unfold En.find
  rw [if_pos hc]
  show (if (ES true).has idS n v then some ((ES true).val idS v) else none) = _
  have hh : (ES true).has idS n v ↔ (n = 2 ∧ 0 ≤ v ∧ v ≤ 65535) := by
    show ((2 : Int) = n ∧ (0 : Int) ≤ v ∧ v ≤ 65535) ↔ _
    exact ⟨fun ⟨a, b⟩ => ⟨a.symm, b⟩, fun ⟨a, b⟩ => ⟨a.symm, b⟩⟩
  by_cases h : n = 2 ∧ 0 ≤ v ∧ v ≤ 65535
  · rw [if_pos h, if_pos (hh.2 h)]
    congr 1
    show (0 : Int) + more true (v - 0) = v
    simp [more]
  · rw [if_neg h, if_neg (fun q => h (hh.1 q))]
theorem findN (n v : Int) : (ES false).find [] n v = none := by
  unfold En.find
  split <;> rfl
theorem findB0 (n v : Int) : EB.find [] n v = none := by
  unfold En.find
  split <;> rfl
theorem numI (w n v : Int) : numT (identT w) n v = if n = 2 ∧ 0 ≤ v ∧ v ≤ 65535 then (v, 1) else (0, 0) := by
  have h1 : (identT w).cids = [idS] := rfl
  have h2 : (identT w).nots = [] := rfl
  unfold numT
  rw [h1, h2, findI, findN]
  by_cases h : n = 2 ∧ 0 ≤ v ∧ v ≤ 65535
  · rw [if_pos h, if_pos h]
  · rw [if_neg h, if_neg h]
theorem saneI (w : Int) : saneT (identT w) = true := by
  have h0 : (identT w).spaces = [idR] := rfl
  have h1 : (identT w).cids = [idS] := rfl
  have h2 : (identT w).nots = [] := rfl
  have h3 : (identT w).bfs = [] := rfl
  have h4 : (identT w).wmode = modeT w := rfl
  unfold saneT
  rw [h0, h1, h2, h3, h4, canId, decide_eq_true (modeT_rng w), (sameRs_iff _ _).2 rfl]
  decide +kernel
theorem sgsI {w : Int} {s : List Int} (h8 : B8 s) : (sgs (identT w) s).length = (s.length + 1) / 2 ∧ ∀ i, i < (s.length + 1) / 2 →
    (2 * i + 1 < s.length → ((sgs (identT w) s).getD i default).p.full = true ∧ ((sgs (identT w) s).getD i default).cid = s.getD (2 * i) default * 256 + s.getD (2 * i + 1) default)
    ∧ (¬ 2 * i + 1 < s.length → ((sgs (identT w) s).getD i default).p.full = false) ∧ ((sgs (identT w) s).getD i default).has = false := by
  obtain ⟨l1, l2⟩ := idAt h8 s.length 0 (by omega)
  have hs : (identT w).spaces = [idR] := rfl
  unfold sgs
  rw [hs]
  refine ⟨by rw [List.length_map, l1]; rfl, fun i hi => ?_⟩
  have hil : i < (allAt [idR] s 0).length := by rw [l1]; omega
  have hg : ((allAt [idR] s 0).map (sgOf (identT w))).getD i default = sgOf (identT w) (pcAt [idR] s (2 * i)) := by
    have h1 := l2 i (by omega)
    rw [Nat.zero_add] at h1
    rw [← h1]
    simp [List.getD, hil]
  rw [hg]
  have hb : ∀ n v, EB.find (identT w).bfs n v = none := findB0
  refine ⟨fun q => ?_, fun q => ?_, ?_⟩
  · obtain ⟨p1, p2, p3⟩ := pc2 h8 q
    have g0 := B8.get h8 (2 * i)
    have g1 := B8.get h8 (2 * i + 1)
    unfold sgOf
    rw [if_pos p1, p2, p3, numI, if_pos (by omega)]
    exact ⟨p1, rfl⟩
  · have p1 := pc1 (s := s) (a := 2 * i) (by omega)
    unfold sgOf
    rw [if_neg (by rw [p1]; decide)]
    exact p1
  · unfold sgOf
    split
    · simp only [hb]
      rfl
    · rfl
end Go.Abs.Ci
set_option maxRecDepth 100000
namespace Go.Abs.Cp
open Go.RowKit Go.Proofs Go.Abs.Tab Go.Abs.Dest Go.Abs.Span Go.Abs.Coll Go.Abs.Hx Go.Abs.Mt Go.Abs.Lk Go.Abs.Rc Go.Abs.Utf Go.Abs.Ci
open Go.Abs.Txt (encB enc)
set_option maxHeartbeats 4000000 in
theorem table21 : SpOK Tryz.prog 17 STab := fun (t : Tbl) _ => by
  have hC := base
  ((refine Fn.ofF hC Tryz.func17 Tryz.ntmps17 rfl rfl rfl ?_); (repeat' first | (with_reducible exact trivial) | (with_reducible rfl) | (refine And.intro ?_ ?_) | (refine Need.mk ?_) | exact True.intro | (first | (refine ⟨_, Told.refl _, ?_, ?_⟩) | (refine ⟨⟨_, _⟩, Told.refl _, ?_, ?_⟩) | (refine ⟨⟨_, _, _⟩, Told.refl _, ?_, ?_⟩) | (refine ⟨⟨_, _, _, _⟩, Told.refl _, ?_, ?_⟩) | (refine ⟨⟨_, _, _, _, _⟩, Told.refl _, ?_, ?_⟩) | (refine ⟨(), Told.refl _, ?_, ?_⟩)) | (with_reducible intro _) | (refine fun (_ : Bool) => ?_)))
def SComps : Sp := ⟨Fnt, fun _ => True, fun f => [.agg (cFn f)], fun f => .st (.agg (cFn f))⟩
set_option maxHeartbeats 16000000 in
theorem comps : SpOK Tryz.prog 7 SComps := fun (f : Fnt) _ => by
  have hC : COK Tryz.prog (cfg [(17, STab)]) := Ty.ty.cfg ⟨table21, trivial⟩
  ((refine Fn.ofF hC Tryz.func7 Tryz.ntmps7 rfl rfl rfl ?_); (repeat' first | (with_reducible exact trivial) | (with_reducible rfl) | (refine And.intro ?_ ?_) | (refine Need.mk ?_) | exact True.intro | (first | (refine ⟨_, Told.refl _, ?_, ?_⟩) | (refine ⟨⟨_, _⟩, Told.refl _, ?_, ?_⟩) | (refine ⟨⟨_, _, _⟩, Told.refl _, ?_, ?_⟩) | (refine ⟨⟨_, _, _, _⟩, Told.refl _, ?_, ?_⟩) | (refine ⟨⟨_, _, _, _, _⟩, Told.refl _, ?_, ?_⟩) | (refine ⟨(), Told.refl _, ?_, ?_⟩)) | (with_reducible intro _) | (refine fun (_ : Bool) => ?_)))
def fewF (f : Fnt) : Bool := fewT f.enc && (fewT f.uni && fewT f.coll)
def SFewF : Sp := ⟨Fnt, fun _ => True, fun f => [.agg (cFn f)], fun f => .st (.sb (fewF f))⟩
theorem fewFC : SpOK Tryz.prog 5 SFewF := fun (f : Fnt) _ => by
  have hC : COK Tryz.prog (cfg [(15, SFewT)]) := Ty.ty.cfg ⟨rfewT, trivial⟩
  ((refine Fn.ofF hC Tryz.func5 Tryz.ntmps5 rfl rfl rfl ?_); (repeat' first | (with_reducible exact trivial) | (with_reducible rfl) | (refine And.intro ?_ ?_) | (refine Need.mk ?_) | exact True.intro | (first | (refine ⟨_, Told.refl _, ?_, ?_⟩) | (refine ⟨⟨_, _⟩, Told.refl _, ?_, ?_⟩) | (refine ⟨⟨_, _, _⟩, Told.refl _, ?_, ?_⟩) | (refine ⟨⟨_, _, _, _⟩, Told.refl _, ?_, ?_⟩) | (refine ⟨⟨_, _, _, _, _⟩, Told.refl _, ?_, ?_⟩) | (refine ⟨(), Told.refl _, ?_, ?_⟩)) | (with_reducible intro _) | (refine fun (_ : Bool) => ?_)))
  all_goals
    unfold fewF
    simp_all
theorem few_sm {t : Tbl} (h : fewT t = true) : small t := by
  obtain ⟨⟨_, a, b, c⟩, d, _⟩ := (fewT_iff t).1 h
  exact ⟨by omega, by omega, by omega, by omega⟩
theorem fewF_sm {f : Fnt} (h : (!fewF f) = false) : small f.enc ∧ small f.uni ∧ small f.coll := by
  have h : fewF f = true := by simpa using h
  unfold fewF at h
  rw [Bool.and_eq_true, Bool.and_eq_true] at h
  exact ⟨few_sm h.1, few_sm h.2.1, few_sm h.2.2⟩
/-- No text is long. -/
theorem encB_size (l : List Int) : (encB l).size ≤ 4 * l.length := by
  show (enc l).toArray.size ≤ _
  rw [List.size_toArray]
  exact Txt.enc_len l
theorem tell_short (t : Tl) (x : Sg) : (tellB t x).size ≤ 256 := by
  have h0 : ByteArray.empty.size = 0 := rfl
  have hd : ∀ (l : List Bf) (n v : Int), (((EB.find l n v).map fun a => encB (decU a)).getD ByteArray.empty).size ≤ 256 := fun l n v => by
    cases h : EB.find l n v with
    | none => exact Nat.zero_le _
    | some a =>
      have h1 := encB_size (decU a)
      have h2 := decU_len a
      have h3 := (find_rng h).1
      show (encB (decU a)).size ≤ 256
      omega
  cases t with
  | u t => exact hd _ _ _
  | c t =>
    show ((if x.kind = 0 then none else (EB.find t.bfs 2 x.cid).map fun a => encB (decU a)).getD ByteArray.empty).size ≤ 256
    split
    · exact Nat.zero_le _
    · exact hd _ _ _
  | n =>
    have := encB_size [65533]
    show (encB [65533]).size ≤ 256
    simp at this
    omega
theorem first_short (x : Sg) : ∀ (l : List Tl), (firstT x l).1.size ≤ 256
  | [] => Nat.zero_le _
  | t :: l => by
    have ih := first_short x l
    have h1 := tell_short t x
    unfold tellB at h1
    unfold firstT
    cases h : tellO t x with
    | none => exact ih
    | some b => rw [h] at h1; exact h1
theorem chars_short (f : Fnt) (s : List Int) : ∀ c ∈ chars f s, c.text.size ≤ 10000000 := fun c hc => by
  unfold chars at hc
  split at hc
  · obtain ⟨x, _, rfl⟩ := List.mem_map.1 hc
    have := first_short x (if x.p.full = true then tls f else (tls f).drop ((tls f).length - 1))
    show (firstT x _).1.size ≤ _
    omega
  · cases hc
def fA : Fnt := ⟨identT 0, false, ⟨ByteArray.empty, 0, [], [], [], []⟩, true, ⟨ByteArray.empty, 0, [], [], [], [⟨2, 5, 5, [65]⟩]⟩⟩
theorem canR_nil : canR [] = [] := by
  have h := canR_len []
  cases hc : canR [] with
  | nil => rfl
  | cons x l => rw [hc] at h; simp at h
theorem saneA : saneF fA = true := by
  have h2 : saneT ⟨ByteArray.empty, 0, [], [], [], [⟨2, 5, 5, [65]⟩]⟩ = true := by
    unfold saneT
    dsimp only
    rw [canR_nil]
    decide +kernel
  unfold saneF
  show (saneT (identT 0) && ((!false || _) && (!true || saneT ⟨ByteArray.empty, 0, [], [], [], [⟨2, 5, 5, [65]⟩]⟩))) = true
  rw [saneI, h2]
  rfl
theorem charsA (s : List Int) : chars fA s = (sgs (identT 0) s).map (charT (tls fA)) := if_pos saneA
theorem awakeC : (chars fA [0, 5, 0, 6]).map Chr.cid = [5, 6] := by
  rw [charsA]
  decide +kernel
theorem awake1 : encT (chars fA [0, 5]) = [65] := by
  rw [charsA]
  decide +kernel
theorem awake2 : encT (chars fA [0, 6]) = [239, 191, 189] := by
  rw [charsA]
  decide +kernel
theorem preA {s : List Int} (h : s.length ≤ 1000000) (h8 : B8 s) : SAllF.pre (fA, s) := ⟨⟨⟨by decide, by decide, by decide, by decide⟩, ⟨by decide, by decide, by decide, by decide⟩, ⟨by decide, by decide, by decide, by decide⟩⟩, h, h8⟩
theorem litA : subs0 (cFn fA) [.str (identT 0).name, .int .i64 (identT 0).wmode, aR (identT 0).spaces, aS (identT 0).cids, aS (identT 0).nots, aB (identT 0).bfs, .lit false, .str ByteArray.empty, .int .i64 0, .nil, .nil, .nil, .nil, .lit true, .str ByteArray.empty, .int .i64 0, .nil, .nil, .nil, .sl 4 1 (elt [[.int .i64 2, .int .i64 5, .int .i64 5, .sl 1 1 (elt [[.int .i64 65]])]])] := by
  refine ⟨⟨rfl⟩, ⟨rfl⟩, ⟨⟨rfl⟩, els_of cR_emb (n := 0) (fun _ _ => rfl)⟩, ⟨⟨rfl⟩, els_of cSp_emb (n := 0) (fun _ _ => rfl)⟩, ⟨⟨rfl⟩, els_of cSp_emb (n := 0) (fun _ _ => rfl)⟩, ⟨⟨rfl⟩, els_of cBf_emb (n := 0) (fun _ _ => rfl)⟩, ⟨rfl⟩, ⟨rfl⟩, ⟨rfl⟩, ⟨rfl⟩, ⟨rfl⟩, ⟨rfl⟩, ⟨rfl⟩, ⟨rfl⟩, ⟨rfl⟩, ⟨rfl⟩, ⟨rfl⟩, ⟨rfl⟩, ⟨rfl⟩, ⟨⟨rfl⟩, fun i hi => ?_⟩, trivial⟩
  have hi : i < 1 := hi
  obtain rfl : i = 0 := by omega
  exact ⟨⟨rfl⟩, ⟨rfl⟩, ⟨rfl⟩, (lit_sub ci_emb [65]).1, trivial⟩
def SAwakeP : Sp := ⟨Unit, fun _ => True, fun _ => [], fun _ => .st (.lit true)⟩
set_option maxHeartbeats 16000000 in
theorem awake21 : SpOK Tryz.prog 4 SAwakeP := fun _ _ => by
  have hC : COK Tryz.prog (cfg [(14, SIdent), (10, SCidsF), (12, STextF), (6, SSaneF)]) := Ty.ty.cfg ⟨ident, compCids, compText, saneFC, trivial⟩
  ((refine Fn.ofF hC Tryz.func4 Tryz.ntmps4 rfl rfl rfl ?_); (repeat' first | (with_reducible exact trivial) | (with_reducible rfl) | (refine And.intro ?_ ?_) | (refine Need.mk ?_) | exact True.intro | (first | (refine ⟨_, Told.refl _, ?_, ?_⟩) | (refine ⟨⟨_, _⟩, Told.refl _, ?_, ?_⟩) | (refine ⟨⟨_, _, _⟩, Told.refl _, ?_, ?_⟩) | (refine ⟨⟨_, _, _, _⟩, Told.refl _, ?_, ?_⟩) | (refine ⟨⟨_, _, _, _, _⟩, Told.refl _, ?_, ?_⟩) | (refine ⟨(), Told.refl _, ?_, ?_⟩)) | (with_reducible intro _) | (refine fun (_ : Bool) => ?_)))
  have b1 : B8 [0, 5, 0, 6] := fun x hx => by simp at hx; omega
  have b2 : B8 [0, 5] := fun x hx => by simp at hx; omega
  have b3 : B8 [0, 6] := fun x hx => by simp at hx; omega
  have et1 : txtT (chars fA [0, 5]) = ⟨#[65]⟩ := by unfold txtT; rw [awake1]
  have et2 : txtT (chars fA [0, 6]) = ⟨#[239, 191, 189]⟩ := by unfold txtT; rw [awake2]
  have hp := preA (s := []) (by decide) (fun x hx => by cases hx)
  refine Exists.intro (fA, [0, 5, 0, 6]) (And.intro (Told.of ⟨litA, (lit_sub c8_emb [0, 5, 0, 6]).1, trivial⟩) (And.intro (preA (by decide) b1) ?_))
  (repeat' first | (with_reducible exact trivial) | (with_reducible rfl) | (refine And.intro ?_ ?_) | (refine Need.mk ?_) | exact True.intro | (first | (refine ⟨_, Told.refl _, ?_, ?_⟩) | (refine ⟨⟨_, _⟩, Told.refl _, ?_, ?_⟩) | (refine ⟨⟨_, _, _⟩, Told.refl _, ?_, ?_⟩) | (refine ⟨⟨_, _, _, _⟩, Told.refl _, ?_, ?_⟩) | (refine ⟨⟨_, _, _, _, _⟩, Told.refl _, ?_, ?_⟩) | (refine ⟨(), Told.refl _, ?_, ?_⟩)) | (with_reducible intro _) | (refine fun (_ : Bool) => ?_))
  refine Exists.intro (fA, [0, 5]) (And.intro (Told.of ⟨litA, (lit_sub c8_emb [0, 5]).1, trivial⟩) (And.intro ⟨preA (by decide) b2, chars_short _ _⟩ ?_))
  (repeat' first | (with_reducible exact trivial) | (with_reducible rfl) | (refine And.intro ?_ ?_) | (refine Need.mk ?_) | exact True.intro | (first | (refine ⟨_, Told.refl _, ?_, ?_⟩) | (refine ⟨⟨_, _⟩, Told.refl _, ?_, ?_⟩) | (refine ⟨⟨_, _, _⟩, Told.refl _, ?_, ?_⟩) | (refine ⟨⟨_, _, _, _⟩, Told.refl _, ?_, ?_⟩) | (refine ⟨⟨_, _, _, _, _⟩, Told.refl _, ?_, ?_⟩) | (refine ⟨(), Told.refl _, ?_, ?_⟩)) | (with_reducible intro _) | (refine fun (_ : Bool) => ?_))
  all_goals (try rw [awakeC] at *)
  all_goals first
    | decide
    | (exfalso; simp [et1] at *; done)
    | (exfalso; revert ‹_ = false›; rw [awakeC]; decide)
    | skip
  all_goals
    refine Exists.intro fA (And.intro (Told.of ⟨litA, trivial⟩) (And.intro hp.1 ?_))
    (repeat' first | (with_reducible exact trivial) | (with_reducible rfl) | (refine And.intro ?_ ?_) | (refine Need.mk ?_) | exact True.intro | (first | (refine ⟨_, Told.refl _, ?_, ?_⟩) | (refine ⟨⟨_, _⟩, Told.refl _, ?_, ?_⟩) | (refine ⟨⟨_, _, _⟩, Told.refl _, ?_, ?_⟩) | (refine ⟨⟨_, _, _, _⟩, Told.refl _, ?_, ?_⟩) | (refine ⟨⟨_, _, _, _, _⟩, Told.refl _, ?_, ?_⟩) | (refine ⟨(), Told.refl _, ?_, ?_⟩)) | (with_reducible intro _) | (refine fun (_ : Bool) => ?_))
  all_goals first
    | (exact absurd ‹saneF fA = false› (by rw [saneA]; decide))
    | (refine Exists.intro (fA, [0, 6]) (And.intro (Told.of ⟨litA, (lit_sub c8_emb [0, 6]).1, trivial⟩) (And.intro ⟨preA (by decide) b3, chars_short _ _⟩ ?_))
       (repeat' first | (with_reducible exact trivial) | (with_reducible rfl) | (refine And.intro ?_ ?_) | (refine Need.mk ?_) | exact True.intro | (first | (refine ⟨_, Told.refl _, ?_, ?_⟩) | (refine ⟨⟨_, _⟩, Told.refl _, ?_, ?_⟩) | (refine ⟨⟨_, _, _⟩, Told.refl _, ?_, ?_⟩) | (refine ⟨⟨_, _, _, _⟩, Told.refl _, ?_, ?_⟩) | (refine ⟨⟨_, _, _, _, _⟩, Told.refl _, ?_, ?_⟩) | (refine ⟨(), Told.refl _, ?_, ?_⟩)) | (with_reducible intro _) | (refine fun (_ : Bool) => ?_))
       rw [et2]
       exact beq_self_eq_true _)
end Go.Abs.Cp
set_option maxRecDepth 100000
namespace Go.Abs.Cp
open Go.RowKit Go.Proofs Go.Abs.Dest Go.Abs.Span Go.Abs.Coll Go.Abs.Hx
def wfFn (f : Fnt) : Prop := wfT f.enc ∧ True ∧ wfT f.uni ∧ True ∧ wfT f.coll
theorem opBoolF : OpA Tryz.prog 4 (fun b : Bool => [.sb b]) (fun _ => True) := OpA.bool Tryz.underlying4
theorem opFnt : OpA Tryz.prog 28 cFn wfFn :=
  OpA.iso (OpA.struct (n := 6 + (1 + (6 + (1 + 6)))) Tryz.underlying28 (OpAF.cons opTbl rfl (by kernel_rfl) (OpAF.cons opBoolF rfl (by kernel_rfl) (OpAF.cons opTbl rfl (by kernel_rfl) (OpAF.cons opBoolF rfl (by kernel_rfl) (OpAF.one opTbl rfl (by kernel_rfl)))))) (by kernel_rfl)) (fun a => ⟨a.1, a.2.1, a.2.2.1, a.2.2.2.1, a.2.2.2.2⟩) (fun _ => rfl) (fun _ h => h)
end Go.Abs.Cp
set_option maxRecDepth 100000
namespace Go.Abs.Cp
open Go.RowKit Go.Proofs Go.Abs.Tab Go.Abs.Dest Go.Abs.Span Go.Abs.Coll Go.Abs.Hx Go.Abs.Mt Go.Abs.Lk Go.Abs.Rc Go.Abs.Utf Go.Abs.Txt
/-! ### Texts -/
def goodTx (b : ByteArray) : Prop := ∃ l : List Int, l ≠ [] ∧ b = encB l
theorem enc_app (a b : List Int) : enc (a ++ b) = enc a ++ enc b := List.flatMap_append
theorem encB_list (l : List Int) : (encB l).data.toList = enc l := by simp [encB]
theorem decU_neP {l : List Int} (h : 1 ≤ l.length) : decU l ≠ [] := by
  match l, h with
  | [a], _ => simp [decU]
  | a :: b :: r, _ =>
    rw [decU]
    split <;> simp
theorem find_neP {l : List Bf} {n v : Int} {a : List Int} (h : EB.find l n v = some a) : 1 ≤ a.length := by
  have hc : EB.canon l = true := by
    unfold En.find at h
    split at h
    · assumption
    · cases h
  have htab := (EB.canon_iff l).1 hc
  rw [EB.find_tab htab] at h
  obtain ⟨b, hb, ⟨h1, h2, h3⟩, rfl⟩ := Tb.get_mem _ h
  have r := rngB (htab.1 b hb)
  show 1 ≤ (fur b.to (v - b.lo)).length
  rw [fur_len]
  omega
theorem goodU {l : List Bf} {n v : Int} {b : ByteArray} (h : (EB.find l n v).map (fun a => encB (decU a)) = some b) : goodTx b := by
  cases hf : EB.find l n v with
  | none => rw [hf] at h; cases h
  | some a =>
    rw [hf] at h
    obtain rfl := Option.some.inj h
    exact ⟨decU a, decU_neP (find_neP hf), rfl⟩
theorem good_tell {t : Tl} {x : Sg} {b : ByteArray} (h : tellO t x = some b) : goodTx b := by
  cases t with
  | u t => exact goodU h
  | c t =>
    have h : (if x.kind = 0 then none else (EB.find t.bfs 2 x.cid).map fun a => encB (decU a)) = some b := h
    split at h
    · cases h
    · exact goodU h
  | n =>
    obtain rfl := Option.some.inj h
    exact ⟨[65533], by simp, rfl⟩
theorem good_first (x : Sg) : ∀ l : List Tl, Tl.n ∈ l → goodTx (firstT x l).1 ∧ 0 ≤ (firstT x l).2 ∧ (firstT x l).2 ≤ 2
  | [], h => by cases h
  | t :: l, h => by
    unfold firstT
    cases ht : tellO t x with
    | some b =>
      refine ⟨good_tell ht, ?_⟩
      show 0 ≤ fromT t ∧ fromT t ≤ 2
      cases t with
      | u t => exact ⟨by show (0 : Int) ≤ 1; decide, by show (1 : Int) ≤ 2; decide⟩
      | c t => exact ⟨by show (0 : Int) ≤ 2; decide, by show (2 : Int) ≤ 2; decide⟩
      | n => exact ⟨by show (0 : Int) ≤ 0; decide, by show (0 : Int) ≤ 2; decide⟩
    | none =>
      rcases List.mem_cons.1 h with rfl | q
      · cases ht
      · exact good_first x l q
theorem tls_n (f : Fnt) : Tl.n ∈ tls f := by unfold tls; simp
theorem tls_last (f : Fnt) : (tls f).drop ((tls f).length - 1) = [.n] := by
  unfold tls
  cases f.hasUni <;> cases f.hasColl <;> rfl
theorem good_char (f : Fnt) (x : Sg) : goodTx (charT (tls f) x).text ∧ 0 ≤ (charT (tls f) x).from_ ∧ (charT (tls f) x).from_ ≤ 2 := by
  unfold charT
  dsimp only
  split
  · exact good_first x _ (tls_n f)
  · rw [tls_last]
    exact good_first x _ (by simp)
theorem char_part (f : Fnt) (x : Sg) (h : x.p.full = false) : (charT (tls f) x).from_ = 0 := by
  unfold charT
  rw [h]
  show (firstT x ((tls f).drop _)).2 = 0
  rw [tls_last]
  rfl
theorem good_txt : ∀ l : List Chr, (∀ c ∈ l, goodTx c.text) → ∃ r : List Int, encT l = enc r
  | [], _ => ⟨[], rfl⟩
  | c :: l, h => by
    obtain ⟨r, hr⟩ := good_txt l (fun x hx => h x (List.mem_cons_of_mem _ hx))
    obtain ⟨q, _, hq⟩ := h c (List.mem_cons_self ..)
    refine ⟨q ++ r, ?_⟩
    rw [enc_app, ← hr, ← encB_list q, ← hq]
    rfl
theorem good_whole {b : ByteArray} (h : goodTx b) : Lib.validD b.data.toList = true := by
  obtain ⟨l, _, rfl⟩ := h
  rw [encB_list]
  exact valid_enc l
theorem good_not {b : ByteArray} (h : goodTx b) : (b.toList == ByteArray.empty.toList) = false := by
  obtain ⟨l, hl, rfl⟩ := h
  rw [beq_eq_false_iff_ne]
  intro e
  rw [ByteArray.toList_eq, ByteArray.toList_eq, encB_list] at e
  match l, hl with
  | x :: r, _ =>
    rw [enc_cons] at e
    exact enc_ne _ (List.append_eq_nil_iff.1 e).1
theorem chars_eq {f : Fnt} {s : List Int} (h : saneF f = true) : chars f s = (allAt f.enc.spaces s 0).map fun p => charT (tls f) (sgOf f.enc p) := by
  have e : chars f s = (sgs f.enc s).map (charT (tls f)) := if_pos h
  rw [e]
  unfold sgs
  rw [List.map_map]
  rfl
theorem char_p (f : Fnt) (p : Pc) : (charT (tls f) (sgOf f.enc p)).p = p := by
  show (sgOf f.enc p).p = p
  unfold sgOf
  split <;> rfl
theorem char_cid (f : Fnt) (p : Pc) (h : p.full = false) : (charT (tls f) (sgOf f.enc p)).cid = 0 := by
  show (sgOf f.enc p).cid = 0
  unfold sgOf
  rw [if_neg (by rw [h]; decide)]
/-! ### Pieces joined -/
def loP (s : List Int) (p : Pc) : Int := if (s.length : Int) < (if p.at_ > 0 then p.at_ else 0) then (s.length : Int) else (if p.at_ > 0 then p.at_ else 0)
def nP (s : List Int) (p : Pc) : Int := if ((((s.length : Int) - loP s p).toNat : Nat) : Int) < (if p.n > 0 then p.n else 0) then ((((s.length : Int) - loP s p).toNat : Nat) : Int) else (if p.n > 0 then p.n else 0)
theorem loP_rng (s : List Int) (p : Pc) : 0 ≤ loP s p ∧ loP s p ≤ (s.length : Int) := by
  unfold loP
  repeat' split
  all_goals omega
theorem nP_rng (s : List Int) (p : Pc) : 0 ≤ nP s p ∧ nP s p ≤ ((((s.length : Int) - loP s p).toNat : Nat) : Int) := by
  unfold nP
  repeat' split
  all_goals omega
def cutP (s : List Int) (p : Pc) : List Int := (s.drop (loP s p).toNat).take (nP s p).toNat
theorem cut_is (s : List Int) (p : Pc) : (cutP s p).length = (nP s p).toNat := by
  have h1 := loP_rng s p
  have h2 := nP_rng s p
  unfold cutP
  rw [List.length_take, List.length_drop]
  omega
theorem cut_at {s : List Int} {p : Pc} {i : Nat} (hi : i < (cutP s p).length) : (cutP s p).getD i default = s.getD ((loP s p).toNat + i) default := by
  rw [cut_is] at hi
  unfold cutP
  simp [List.getD, List.getElem?_take, List.getElem?_drop, hi]
def joinP (s : List Int) (l : List Pc) : List Int := l.flatMap (cutP s)
theorem join_next {s : List Int} {l : List Pc} {k : Nat} (hk : k < l.length) : joinP s (l.take (k + 1)) = joinP s (l.take k) ++ cutP s (l.getD k default) := by
  unfold joinP
  rw [List.take_succ_eq_append_getElem hk, List.flatMap_append]
  simp [List.getD, hk]
theorem cut_len (s : List Int) (p : Pc) : (cutP s p).length ≤ s.length := by
  have h1 := loP_rng s p
  have h2 := nP_rng s p
  rw [cut_is]
  omega
theorem join_len (s : List Int) : ∀ l : List Pc, (joinP s l).length ≤ s.length * l.length
  | [] => Nat.zero_le _
  | p :: l => by
    have h := join_len s l
    have h2 := cut_len s p
    unfold joinP at h ⊢
    rw [List.flatMap_cons, List.length_append, List.length_cons, Nat.mul_succ]
    omega
theorem pcAt_n (l : List Rct) (s : List Int) (a : Nat) : (pcAt l s a).at_ = (a : Int) ∧ (pcAt l s a).n = nextN l (s.drop a) := by
  unfold pcAt
  split <;> exact ⟨rfl, rfl⟩
theorem join_all (l : List Rct) (s : List Int) : ∀ (n a : Nat), s.length - a ≤ n → joinP s (allAt l s a) = s.drop a
  | 0, a, h => by
    rw [allAt_end (by omega), List.drop_eq_nil_of_le (by omega)]
    rfl
  | n + 1, a, h => by
    rcases Nat.lt_or_ge a s.length with hlt | hge
    · obtain ⟨r1, r2, r3⟩ := stepN_rng (l := l) hlt
      obtain ⟨p1, p2⟩ := pcAt_n l s a
      have ih := join_all l s n (a + stepN l s a) (by omega)
      rw [allAt_step hlt]
      unfold joinP at ih ⊢
      rw [List.flatMap_cons, ih]
      have e1 : loP s (pcAt l s a) = (a : Int) := by
        unfold loP
        rw [p1]
        repeat' split
        all_goals omega
      have e2 : nP s (pcAt l s a) = ((stepN l s a : Nat) : Int) := by
        unfold nP
        rw [e1, p2, ← r3]
        repeat' split
        all_goals omega
      unfold cutP
      rw [e1, e2, Int.toNat_natCast, Int.toNat_natCast]
      have e3 : s.drop (a + stepN l s a) = (s.drop a).drop (stepN l s a) := by rw [List.drop_drop]
      rw [e3, List.take_append_drop]
    · rw [allAt_end hge, List.drop_eq_nil_of_le hge]
      rfl
def SJoinP : Sp := ⟨List Pc × List Int, fun (l, s) => l.length ≤ 10000 ∧ s.length ≤ 10000, fun (l, s) => [aL cP 5 l, a8 s], fun (l, s) => .row 5 1 (joinP s l).length (els c8 (joinP s l))⟩
set_option maxHeartbeats 16000000 in
theorem joinC : SpOK Tryz.prog 13 SJoinP := fun ⟨l, s⟩ ⟨h1, h2⟩ => by
  have hC := base
  have h1 : l.length ≤ 10000 := h1
  have h2 : s.length ≤ 10000 := h2
  ((refine Fn.ofF hC Tryz.func13 Tryz.ntmps13 rfl rfl rfl ?_); (repeat' first | (with_reducible exact trivial) | (with_reducible rfl) | (refine And.intro ?_ ?_) | (refine Need.mk ?_) | exact True.intro | (first | (refine ⟨_, Told.refl _, ?_, ?_⟩) | (refine ⟨⟨_, _⟩, Told.refl _, ?_, ?_⟩) | (refine ⟨⟨_, _, _⟩, Told.refl _, ?_, ?_⟩) | (refine ⟨⟨_, _, _, _⟩, Told.refl _, ?_, ?_⟩) | (refine ⟨⟨_, _, _, _, _⟩, Told.refl _, ?_, ?_⟩) | (refine ⟨(), Told.refl _, ?_, ?_⟩)) | (with_reducible intro _) | (refine fun (_ : Bool) => ?_)))
  refine AW.loop (I := fun k : Nat => ⟨35, [(1, a8 s), (5, .own 0), (9, aL cP 5 l), (10, .int .i64 l.length), (11, .int .i64 k)], [.row 5 1 (joinP s (l.take k)).length (els c8 (joinP s (l.take k)))]⟩) (fun k => k ≤ l.length) (fun k => l.length - k) 0 (Nat.zero_le _) ?_ ?_
  · (repeat' first | (with_reducible exact trivial) | (with_reducible rfl) | (refine And.intro ?_ ?_) | (refine Need.mk ?_) | exact True.intro | (first | (refine ⟨_, Told.refl _, ?_, ?_⟩) | (refine ⟨⟨_, _⟩, Told.refl _, ?_, ?_⟩) | (refine ⟨⟨_, _, _⟩, Told.refl _, ?_, ?_⟩) | (refine ⟨⟨_, _, _, _⟩, Told.refl _, ?_, ?_⟩) | (refine ⟨⟨_, _, _, _, _⟩, Told.refl _, ?_, ?_⟩) | (refine ⟨(), Told.refl _, ?_, ?_⟩)) | (with_reducible intro _) | (refine fun (_ : Bool) => ?_))
    all_goals rfl
  · intro k hk
    rcases Nat.lt_or_ge k l.length with hlt | hge
    · have hd : decide ((k : Int) < (l.length : Int)) = true := decide_eq_true (by omega)
      have hw := iw (n := (k : Int) + 1) (by omega) (by omega)
      have hnx := join_next (s := s) hlt
      have hjl := join_len s (l.take k)
      have hcl := cut_len s (l.getD k default)
      have hmm : s.length * (l.take k).length ≤ 10000 * 10000 := Nat.mul_le_mul h2 (by rw [List.length_take]; omega)
      obtain ⟨p, hp⟩ : ∃ p, p = l.getD k default := ⟨_, rfl⟩
      ((refine AW.byF ‹_› ?_); (repeat' first | (with_reducible exact trivial) | (with_reducible rfl) | (refine And.intro ?_ ?_) | (refine Need.mk ?_) | exact True.intro | (first | (refine ⟨_, Told.refl _, ?_, ?_⟩) | (refine ⟨⟨_, _⟩, Told.refl _, ?_, ?_⟩) | (refine ⟨⟨_, _, _⟩, Told.refl _, ?_, ?_⟩) | (refine ⟨⟨_, _, _, _⟩, Told.refl _, ?_, ?_⟩) | (refine ⟨⟨_, _, _, _, _⟩, Told.refl _, ?_, ?_⟩) | (refine ⟨(), Told.refl _, ?_, ?_⟩)) | (with_reducible intro _) | (refine fun (_ : Bool) => ?_)))
      all_goals first | (exact absurd ‹decide ((k : Int) < (l.length : Int)) = false› (by rw [hd]; decide)) | skip
      any_goals (first | (refine Exists.intro ((k + 1 : Nat)) (And.intro ?_ (And.intro ?_ ?_)); all_goals (repeat' first | (with_reducible exact trivial) | (with_reducible rfl) | (refine And.intro ?_ ?_) | (refine Need.mk ?_) | exact True.intro | (first | (refine ⟨_, Told.refl _, ?_, ?_⟩) | (refine ⟨⟨_, _⟩, Told.refl _, ?_, ?_⟩) | (refine ⟨⟨_, _, _⟩, Told.refl _, ?_, ?_⟩) | (refine ⟨⟨_, _, _, _⟩, Told.refl _, ?_, ?_⟩) | (refine ⟨⟨_, _, _, _, _⟩, Told.refl _, ?_, ?_⟩) | (refine ⟨(), Told.refl _, ?_, ?_⟩)) | (with_reducible intro _) | (refine fun (_ : Bool) => ?_))) | fail)
      all_goals try simp only [Int.toNat_natCast] at *
      all_goals have g1 := loP_rng s (l.getD k default)
      all_goals have g2 := nP_rng s (l.getD k default)
      all_goals have g3 := cut_is s (l.getD k default)
      all_goals first
        | omega
        | exact g1.1
        | exact g1.2
        | exact g2.1
        | exact g2.2
        | (rw [hw]; rfl)
        | (show ((joinP s (l.take k)).length + (nP s (l.getD k default) - 0).toNat) * 1 ≤ 140737488355328; omega)
        | (show (joinP s (l.take k)).length + (nP s (l.getD k default) - 0).toNat = _; rw [hnx, List.length_append, g3, Int.sub_zero]; done)
        | (rename_i z hz
           rw [hnx] at hz ⊢
           refine els_of c8_emb (n := 0) (cat_app' rfl (fun _ _ => rfl) (fun i hi => ?_)) z hz
           show c8 (s.getD ((loP s (l.getD k default)).toNat + (Int.toNat 0 + i)) default) = _
           rw [cut_at hi, show Int.toNat 0 + i = i by simp])
        | skip
    · obtain rfl : k = l.length := by omega
      have hd : decide ((l.length : Int) < (l.length : Int)) = false := decide_eq_false (by omega)
      ((refine AW.byF ‹_› ?_); (repeat' first | (with_reducible exact trivial) | (with_reducible rfl) | (refine And.intro ?_ ?_) | (refine Need.mk ?_) | exact True.intro | (first | (refine ⟨_, Told.refl _, ?_, ?_⟩) | (refine ⟨⟨_, _⟩, Told.refl _, ?_, ?_⟩) | (refine ⟨⟨_, _, _⟩, Told.refl _, ?_, ?_⟩) | (refine ⟨⟨_, _, _, _⟩, Told.refl _, ?_, ?_⟩) | (refine ⟨⟨_, _, _, _, _⟩, Told.refl _, ?_, ?_⟩) | (refine ⟨(), Told.refl _, ?_, ?_⟩)) | (with_reducible intro _) | (refine fun (_ : Bool) => ?_)))
      all_goals first | (exact absurd ‹decide ((l.length : Int) < (l.length : Int)) = true› (by rw [hd]; decide)) | skip
      all_goals rw [List.take_length]
      all_goals try rfl
theorem txt_whole {f : Fnt} {s : List Int} (h : saneF f = true) : Lib.validD (txtT (chars f s)).data.toList = true := by
  obtain ⟨r, hr⟩ := good_txt (chars f s) (fun c hc => by
    rw [chars_eq h] at hc
    obtain ⟨p, _, rfl⟩ := List.mem_map.1 hc
    exact (good_char f _).1)
  have e : (txtT (chars f s)).data.toList = encT (chars f s) := by simp [txtT]
  rw [e, hr]
  exact valid_enc r
theorem chars_at {f : Fnt} {s : List Int} (h : saneF f = true) {i : Nat} (hi : i < (chars f s).length) : (chars f s).getD i default = charT (tls f) (sgOf f.enc ((allAt f.enc.spaces s 0).getD i default)) := by
  have hl : (chars f s).length = (allAt f.enc.spaces s 0).length := by rw [chars_eq h, List.length_map]
  rw [getH hi]
  have hj : i < (allAt f.enc.spaces s 0).length := by omega
  have e : (chars f s)[i] = ((allAt f.enc.spaces s 0).map fun p => charT (tls f) (sgOf f.enc p))[i]'(by rw [List.length_map]; exact hj) := by
    congr 1
    exact chars_eq h
  rw [e, List.getElem_map]
  simp [List.getD, hj]
theorem txtT_sz (L : List Chr) (h : ∀ c ∈ L, c.text.size ≤ 10000000) : (txtT L).size ≤ 10000000 * L.length := by
  show (encT L).toArray.size ≤ _
  rw [List.size_toArray]
  exact encT_len L h
def SPieces : Sp := ⟨Fnt × List Int, fun (f, s) => B8 s, fun (f, s) => [.agg (cFn f), a8 s], fun _ => .st (.lit true)⟩
set_option maxHeartbeats 32000000 in
theorem compPieces : SpOKT UT Tryz.prog 3 SPieces := fun ⟨f, s⟩ h8 => by
  have hC : COKT Tryz.prog UT (cfg [(4, SAwakeP), (5, SFewF), (7, SComps), (6, SSaneF), (8, SAllF), (10, SCidsF), (12, STextF), (9, SAll), (13, SJoinP), (11, SWhole)]) := Ty.ty.cfgT ⟨awake21.t, fewFC.t, comps.t, saneFC.t, compAll.t, compCids.t, compText.t, Mt.all.t, joinC.t, whole, trivial⟩
  have h8 : B8 s := h8
  refine FnT.ofF hC Tryz.func3 Tryz.ntmps3 rfl rfl rfl ?_
  (repeat' first | (with_reducible exact trivial) | (with_reducible rfl) | (refine And.intro ?_ ?_) | (refine Need.mk ?_) | exact True.intro | (first | (refine ⟨_, Told.refl _, ?_, ?_⟩) | (refine ⟨⟨_, _⟩, Told.refl _, ?_, ?_⟩) | (refine ⟨⟨_, _, _⟩, Told.refl _, ?_, ?_⟩) | (refine ⟨⟨_, _, _, _⟩, Told.refl _, ?_, ?_⟩) | (refine ⟨⟨_, _, _, _, _⟩, Told.refl _, ?_, ?_⟩) | (refine ⟨(), Told.refl _, ?_, ?_⟩)) | (with_reducible intro _) | (refine fun (_ : Bool) => ?_))
  all_goals (try obtain ⟨⟨a1, a2, a3, a4⟩, ⟨b1, b2, b3, b4⟩, ⟨c1, c2, c3, c4⟩⟩ := fewF_sm ‹(!fewF f) = false›)
  all_goals (try have hsl := of_decide_eq_false ‹decide ((s.length : Int) > 100) = false›)
  all_goals first | omega | exact h8 | skip
  all_goals have hs : saneF f = true := by simpa using ‹(!saneF f) = false›
  all_goals have hcl : (chars f s).length = (allAt f.enc.spaces s 0).length := by rw [chars_eq hs, List.length_map]
  all_goals first
    | (exfalso; have q := ‹(((chars f s).length : Int) != ((allAt f.enc.spaces s 0).length : Int)) = true›; rw [hcl] at q; simp at q; done)
    | (exfalso; have q := ‹((((chars f s).map Chr.cid).length : Int) != ((chars f s).length : Int)) = true›; rw [List.length_map] at q; simp at q; done)
    | skip
  have hll := chars_len f s
  have hjn : joinP s (allAt f.enc.spaces s 0) = s := by
    rw [join_all _ s s.length 0 (by omega)]
    rfl
  have htw := txt_whole (s := s) hs
  have hts := txtT_sz (chars f s) (fun c hc => chars_short f s c hc)
  refine AW.loop (I := fun k : Nat => ⟨140, [(1, a8 s), (2, .ptr 0 0), (5, .lit true), (6, .own 1), (7, .own 2), (8, .int .i64 k)], [.box 28 (cFn f), .row 48 8 (chars f s).length (els cH (chars f s)), .row 46 5 (allAt f.enc.spaces s 0).length (els cP (allAt f.enc.spaces s 0))]⟩) (fun k => k ≤ (chars f s).length) (fun k => (chars f s).length - k) 0 (Nat.zero_le _) ?_ ?_
  · (repeat' first | (with_reducible exact trivial) | (with_reducible rfl) | (refine And.intro ?_ ?_) | (refine Need.mk ?_) | exact True.intro | (first | (refine ⟨_, Told.refl _, ?_, ?_⟩) | (refine ⟨⟨_, _⟩, Told.refl _, ?_, ?_⟩) | (refine ⟨⟨_, _, _⟩, Told.refl _, ?_, ?_⟩) | (refine ⟨⟨_, _, _, _⟩, Told.refl _, ?_, ?_⟩) | (refine ⟨⟨_, _, _, _, _⟩, Told.refl _, ?_, ?_⟩) | (refine ⟨(), Told.refl _, ?_, ?_⟩)) | (with_reducible intro _) | (refine fun (_ : Bool) => ?_))
    all_goals first
      | rfl
      | skip
  · intro k hk
    rcases Nat.lt_or_ge k (chars f s).length with hlt | hge
    · have hd : decide ((k : Int) < ((chars f s).length : Int)) = true := decide_eq_true (by omega)
      have hw := iw (n := (k : Int) + 1) (by omega) (by omega)
      have hx := chars_at hs hlt
      have f1 : ((chars f s).getD k default).p = (allAt f.enc.spaces s 0).getD k default := by rw [hx]; exact char_p f _
      have f2 := (good_char f (sgOf f.enc ((allAt f.enc.spaces s 0).getD k default)))
      rw [← hx] at f2
      obtain ⟨f2, f4, f5⟩ := f2
      have f6 := good_not f2
      have f7 := good_whole f2
      have f8 : ((chars f s).getD k default).p.full = false → ((chars f s).getD k default).cid = 0 ∧ ((chars f s).getD k default).from_ = 0 := fun h => by
        rw [f1] at h
        rw [hx]
        exact ⟨char_cid f _ h, char_part f _ (by rw [show (sgOf f.enc ((allAt f.enc.spaces s 0).getD k default)).p = (allAt f.enc.spaces s 0).getD k default from char_p f _]; exact h)⟩
      have f9 := chars_short f s ((chars f s).getD k default) (by rw [getH hlt]; exact List.getElem_mem hlt)
      ((refine AW.byF ‹_› ?_); (repeat' first | (with_reducible exact trivial) | (with_reducible rfl) | (refine And.intro ?_ ?_) | (refine Need.mk ?_) | exact True.intro | (first | (refine ⟨_, Told.refl _, ?_, ?_⟩) | (refine ⟨⟨_, _⟩, Told.refl _, ?_, ?_⟩) | (refine ⟨⟨_, _, _⟩, Told.refl _, ?_, ?_⟩) | (refine ⟨⟨_, _, _, _⟩, Told.refl _, ?_, ?_⟩) | (refine ⟨⟨_, _, _, _, _⟩, Told.refl _, ?_, ?_⟩) | (refine ⟨(), Told.refl _, ?_, ?_⟩)) | (with_reducible intro _) | (refine fun (_ : Bool) => ?_)))
      all_goals first | (exact absurd ‹decide ((k : Int) < ((chars f s).length : Int)) = false› (by rw [hd]; decide)) | skip
      any_goals (first | (refine Exists.intro ((k + 1 : Nat)) (And.intro ?_ (And.intro ?_ ?_)); all_goals (repeat' first | (with_reducible exact trivial) | (with_reducible rfl) | (refine And.intro ?_ ?_) | (refine Need.mk ?_) | exact True.intro | (first | (refine ⟨_, Told.refl _, ?_, ?_⟩) | (refine ⟨⟨_, _⟩, Told.refl _, ?_, ?_⟩) | (refine ⟨⟨_, _, _⟩, Told.refl _, ?_, ?_⟩) | (refine ⟨⟨_, _, _, _⟩, Told.refl _, ?_, ?_⟩) | (refine ⟨⟨_, _, _, _, _⟩, Told.refl _, ?_, ?_⟩) | (refine ⟨(), Told.refl _, ?_, ?_⟩)) | (with_reducible intro _) | (refine fun (_ : Bool) => ?_))) | fail)
      all_goals try simp only [Int.toNat_natCast] at *
      all_goals first
        | omega
        | (rw [hw]; rfl)
        | (show ((chars f s).getD k default).text.size ≤ 9223372036854775807; omega)
        | (exfalso; have q := of_decide_eq_true ‹decide (((chars f s).getD k default).from_ < 0) = true›; omega)
        | (exfalso; have q := of_decide_eq_true ‹decide (((chars f s).getD k default).from_ > 2) = true›; omega)
        | (exfalso
           clear hC hx
           rw [← f1] at *
           simp_all [eqA, bval]
           done)
        | skip
    · obtain rfl : k = (chars f s).length := by omega
      have hd : decide (((chars f s).length : Int) < ((chars f s).length : Int)) = false := decide_eq_false (by omega)
      ((refine AW.byF ‹_› ?_); (repeat' first | (with_reducible exact trivial) | (with_reducible rfl) | (refine And.intro ?_ ?_) | (refine Need.mk ?_) | exact True.intro | (first | (refine ⟨_, Told.refl _, ?_, ?_⟩) | (refine ⟨⟨_, _⟩, Told.refl _, ?_, ?_⟩) | (refine ⟨⟨_, _, _⟩, Told.refl _, ?_, ?_⟩) | (refine ⟨⟨_, _, _, _⟩, Told.refl _, ?_, ?_⟩) | (refine ⟨⟨_, _, _, _, _⟩, Told.refl _, ?_, ?_⟩) | (refine ⟨(), Told.refl _, ?_, ?_⟩)) | (with_reducible intro _) | (refine fun (_ : Bool) => ?_)))
      all_goals first | (exact absurd ‹decide (((chars f s).length : Int) < ((chars f s).length : Int)) = true› (by rw [hd]; decide)) | skip
      all_goals first
        | omega
        | exact h8
        | exact chars_short f s _ ‹_›
        | (show (txtT (chars f s)).size ≤ 9223372036854775807; omega)
        | (show (allAt f.enc.spaces s 0).length ≤ 10000; omega)
        | (show s.length ≤ 10000; omega)
        | exact htw
        | (rw [hjn]; exact beq_self_eq_true _)
        | exact (rfl : (u8v (c8 _)).isSome = true)
        | (exfalso; have q := ‹Lib.validD (txtT (chars f s)).data.toList = false›; rw [htw] at q; cases q)
        | skip
end Go.Abs.Cp
