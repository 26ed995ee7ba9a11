/- Several texts of this claim, merged (ACompIsMb). -/
import Derived.Test.YtbinbndegfednaaGreatAbsSpec
import Derived.WalkKit
import Derived.OpenShut
import Derived.ChangeArms
import Derived.DataReads
import Derived.DataElems
import Derived.Test.YtbinbndegfednaaGreatADestA
import Derived.Test.YtbinbndegfednaaGreatATbl
import Derived.Test.YtbinbndegfednaaGreatAHx
import Derived.Test.YtbinbndegfednaaGreatACounts
import Derived.Test.YtbinbndegfednaaGreatACompIsMa
set_option linter.all false
namespace Go.Abs
open Go.RowKit
section
variable {P : Program} {t e : TypeId} {α β : Type} {f : α → List AV} {f' : β → List AV} {wf : α → Prop} {wf' : β → Prop} {sz sz' : Nat}
/-- The blocks there are. -/
def Sall (w : World) (b : Nat) : Prop := b < w.heap.size
/-- Whatever reads as data at the type t is told by f, and meets wf. -/
def OpA (P : Program) (t : TypeId) {α : Type} (f : α → List AV) (wf : α → Prop) : Prop :=
  ∀ {H : Type} (enc : TypeId × Value → H) (w : World) (base : Nat) (spare : Nat → Bool) (held : Bool) (fuel : Nat) (cs : List Value) (x : DataW H × List MemPlace),
    DataW.trod enc P w base spare held fuel t cs = some x → ∃ a : α, RVs0 w (Sall w) (f a) cs ∧ wf a
theorem rvs1 {w : World} {S : Nat → Prop} {a : AV} {v : Value} (h : RV0 w S a v) : RVs0 w S [a] [v] := ⟨rfl, fun i x u h1 h2 => by
  cases i with
  | zero => simp at h1 h2; subst h1; subst h2; exact h
  | succ i => simp at h1⟩
theorem OpA.int {k : IntKind} (ht : P.underlying t = some (.int k)) : OpA P t (fun n : Int => [.int k n]) (fun n => (Lit.int k n).wf = true) := by
  intro H enc w base spare held fuel cs x h
  obtain ⟨n, rfl, _, hw⟩ := DataW.trod_int ht h
  exact ⟨n, rvs1 (.int _ _), hw⟩
theorem OpA.bool (ht : P.underlying t = some .bool) : OpA P t (fun b : Bool => [.sb b]) (fun _ => True) := by
  intro H enc w base spare held fuel cs x h
  obtain ⟨n, rfl, _⟩ := DataW.trod_bool ht h
  exact ⟨n, rvs1 (.sb _), trivial⟩
theorem OpA.string (ht : P.underlying t = some .string) : OpA P t (fun s : ByteArray => [.str s]) (fun s => s.size ≤ maxLen) := by
  intro H enc w base spare held fuel cs x h
  obtain ⟨n, rfl, _, hw⟩ := DataW.trod_string ht h
  exact ⟨n, rvs1 (.str _), hw⟩
theorem OpA.mono {wf2 : α → Prop} (h : OpA P t f wf) (hm : ∀ a, wf a → wf2 a) : OpA P t f wf2 := by
  intro H enc w base spare held fuel cs x hx
  obtain ⟨a, hk, hw⟩ := h enc w base spare held fuel cs x hx
  exact ⟨a, hk, hm a hw⟩
theorem list_of {n : Nat} {Q : Nat → α → Prop} (h : ∀ i, i < n → ∃ a, Q i a) : ∃ l : List α, l.length = n ∧ ∀ i a, l[i]? = some a → Q i a := by
  induction n with
  | zero => exact ⟨[], rfl, fun i a hi => by simp at hi⟩
  | succ n ih =>
    obtain ⟨l, hl, hq⟩ := ih (fun i hi => h i (by omega))
    obtain ⟨a, ha⟩ := h n (by omega)
    refine ⟨l ++ [a], by simp [hl], fun i b hi => ?_⟩
    by_cases hin : i < n
    · rw [List.getElem?_append_left (by omega)] at hi
      exact hq i b hi
    · have hlt : i < (l ++ [a]).length := (List.getElem?_eq_some_iff.1 hi).1
      obtain rfl : i = n := by simp [hl] at hlt; omega
      rw [List.getElem?_append_right (by omega), hl, Nat.sub_self] at hi
      obtain rfl := Option.some.inj hi
      exact ha
theorem OpA.slice [Inhabited α] (ht : P.underlying t = some (.slice e)) (hc : P.cellsOf e = sz) (hf : Emb f sz) (he : OpA P e f wf) :
    OpA P t (fun l : List α => [aL f sz l]) (fun l => l.length ≤ maxLen ∧ ∀ x ∈ l, wf x) := by
  intro H enc w base spare held fuel cs x h
  rcases DataW.trod_slice ht h with ⟨rfl, _⟩ | ⟨a, len, cap, elems, rest, n, _, rfl, _, hb, hl, hm, hlen, hel, _, _⟩
  · exact ⟨[], rvs1 (.sl _ _ _ none 0 (fun _ _ => undef) (Nat.le_refl _) (Nat.zero_le _) (fun i hi => by simp at hi) (fun i j hi => by simp at hi) (fun i j a hi => by simp at hi)), Nat.zero_le _, fun x hx => by simp at hx⟩
  · have hex : ∀ i, i < len → ∃ b : α, wf b ∧ ∃ c, c.length = sz ∧ RVs0 w (Sall w) (f b) c ∧ ∀ j u, c[j]? = some u → w.cell? (a.add (i * sz + j)) = some u := by
      intro i hi
      have h1 := hel i hi
      rw [List.getElem?_eq_getElem (by omega)] at h1
      obtain ⟨c, hcs, htr⟩ := Option.bind_eq_some_iff.mp h1
      obtain ⟨_, hcl, hat⟩ := World.cells?_some hcs
      obtain ⟨b, hK, hw⟩ := he enc w base spare held n c _ htr
      refine ⟨b, hw, c, by rw [hcl, hc], hK, fun j u hj => ?_⟩
      have hjl : j < c.length := (List.getElem?_eq_some_iff.1 hj).1
      have := hat j (by omega)
      rw [hj, hc] at this
      rw [← this, Addr.add_add]
    obtain ⟨l, hll, hq⟩ := list_of hex
    have hget : ∀ i, i < l.length → l[i]? = some (l.getD i default) := fun i hi => by simp [List.getD, hi]
    refine ⟨l, rvs1 ?_, by omega, fun x hx => ?_⟩
    · subst hll
      refine .sl _ _ _ (some a) cap (fun i j => (w.cell? (a.add (i * sz + j))).getD undef) (by omega) (by omega) (fun i hi => ⟨(hf _).2.2, (hf _).1⟩) (fun i j hi hj => ?_) (fun i j x hi hx => ?_)
      · obtain ⟨_, c, hcl, hK, hcell⟩ := hq i _ (hget i hi)
        have h1 := hcell j c[j] (List.getElem?_eq_getElem (by omega))
        refine ⟨a, rfl, ?_, by rw [h1]; rfl⟩
        have h2 := World.block_lt_of_cell? _ _ h1
        have h3 : (a.add (i * sz + j)).block = a.block := by unfold Addr.add; split <;> rfl
        exact h3 ▸ h2
      · obtain ⟨_, c, hcl, hK, hcell⟩ := hq i _ (hget i hi)
        have hj : j < sz := by rw [← (hf (l.getD i default)).2.2]; exact (List.getElem?_eq_some_iff.1 hx).1
        have h1 := hcell j c[j] (List.getElem?_eq_getElem (by omega))
        rw [h1]
        exact hK.2 j x _ hx (List.getElem?_eq_getElem (by omega))
    · obtain ⟨i, hi, rfl⟩ := List.getElem_of_mem hx
      exact (hq i _ (List.getElem?_eq_getElem hi)).1
/-- A run of a struct's fields, from a cell on. -/
def OpAF (P : Program) (fs : List Field) (off n : Nat) {α : Type} (f : α → List AV) (wf : α → Prop) : Prop :=
  ∀ {H : Type} (enc : TypeId × Value → H) (w : World) (base : Nat) (spare : Nat → Bool) (held : Bool) (fuel : Nat) (cs : List Value),
    (∀ (j : Nat) (fl : Field), fs[j]? = some fl → ∃ y, DataW.trod enc P w base spare held fuel fl.type ((cs.drop fl.offset).take (P.cellsOf fl.type)) = some y) →
    cs.length = off + n → ∃ a : α, RVs0 w (Sall w) (f a) (cs.drop off) ∧ wf a
theorem OpAF.one {fl : Field} {off n : Nat} (hf : OpA P fl.type f wf) (ho : fl.offset = off) (hc : P.cellsOf fl.type = n) : OpAF P [fl] off n f wf := by
  intro H enc w base spare held fuel cs hx hl
  obtain ⟨y, hy⟩ := hx 0 fl rfl
  obtain ⟨a, hK, hw⟩ := hf enc w base spare held fuel _ y hy
  rw [ho, hc, List.take_of_length_le (by rw [List.length_drop]; omega)] at hK
  exact ⟨a, hK, hw⟩
theorem RVs0.append {w : World} {S : Nat → Prop} {xs1 bs : List AV} {us vs : List Value} (h : RVs0 w S xs1 us) (k : RVs0 w S bs vs) : RVs0 w S (xs1 ++ bs) (us ++ vs) := by
  refine ⟨by rw [List.length_append, List.length_append, h.1, k.1], fun i a v h1 h2 => ?_⟩
  by_cases hi : i < xs1.length
  · rw [List.getElem?_append_left hi] at h1
    rw [List.getElem?_append_left (by rw [h.1]; exact hi)] at h2
    exact h.2 i a v h1 h2
  · rw [List.getElem?_append_right (by omega)] at h1
    rw [List.getElem?_append_right (by rw [h.1]; omega), h.1] at h2
    exact k.2 _ a v h1 h2
theorem OpAF.cons {fl : Field} {fs : List Field} {off n m : Nat} (hf : OpA P fl.type f wf) (ho : fl.offset = off) (hc : P.cellsOf fl.type = n) (hr : OpAF P fs (off + n) m f' wf') :
    OpAF P (fl :: fs) off (n + m) (fun x : α × β => f x.1 ++ f' x.2) (fun x => wf x.1 ∧ wf' x.2) := by
  intro H enc w base spare held fuel cs hx hl
  obtain ⟨y, hy⟩ := hx 0 fl rfl
  obtain ⟨a, hK, hw⟩ := hf enc w base spare held fuel _ y hy
  obtain ⟨b, hK2, hw2⟩ := hr enc w base spare held fuel cs (fun j g hg => hx (j + 1) g hg) (by omega)
  rw [ho, hc] at hK
  refine ⟨(a, b), ?_, hw, hw2⟩
  have := RVs0.append hK hK2
  rwa [← List.drop_drop, List.take_append_drop] at this
theorem OpA.struct {fs : Array Field} {n : Nat} (ht : P.underlying t = some (.struct fs)) (hf : OpAF P fs.toList 0 n f wf) (hc : P.cellsOf t = n) : OpA P t f wf := by
  intro H enc w base spare held fuel cs x h
  obtain ⟨xs, m, rfl, _, hlen, hxl, hget⟩ := DataW.trod_struct ht h
  obtain ⟨a, hK, hw⟩ := hf enc w base spare held m cs (fun j fl hj => by
    have hj' : fs[j]? = some fl := by simpa using hj
    have hjl : j < fs.size := (Array.getElem?_eq_some_iff.1 hj').1
    exact ⟨_, (hget j fl hj').trans (List.getElem?_eq_getElem (by omega))⟩) (by omega)
  exact ⟨a, by simpa using hK, hw⟩
theorem OpA.iso {g : β → List AV} (h : OpA P t f wf) (to : α → β) (hg : ∀ a, g (to a) = f a) (hw : ∀ a, wf a → wf' (to a)) : OpA P t g wf' := by
  intro H enc w base spare held fuel cs x hx
  obtain ⟨a, hk, hwf⟩ := h enc w base spare held fuel cs x hx
  exact ⟨to a, by rw [hg]; exact hk, hw a hwf⟩
end
end Go.Abs
set_option maxRecDepth 100000
namespace Go.Abs.Dest
open Go.RowKit Go.Proofs
abbrev wfI (n : Int) : Prop := (Lit.int .i64 n).wf = true
def wfIs (l : List Int) : Prop := l.length ≤ maxLen ∧ ∀ x ∈ l, wfI x
def wfB (b : Bf) : Prop := wfI b.n ∧ wfI b.lo ∧ wfI b.hi ∧ wfIs b.to
theorem opInt : OpA Tryz.prog 3 (fun n : Int => [.int .i64 n]) wfI := OpA.int Tryz.underlying3
theorem opInts : OpA Tryz.prog 46 (fun l : List Int => [aI l]) wfIs := OpA.slice Tryz.underlying46 (by kernel_rfl) ci_emb opInt
theorem opBf : OpA Tryz.prog 74 cBf wfB :=
  OpA.iso (OpA.struct (n := 1 + (1 + (1 + 1))) Tryz.underlying74 (OpAF.cons opInt rfl (by kernel_rfl) (OpAF.cons opInt rfl (by kernel_rfl) (OpAF.cons opInt rfl (by kernel_rfl) (OpAF.one opInts rfl (by kernel_rfl))))) (by kernel_rfl)) (fun a => ⟨a.1, a.2.1, a.2.2.1, a.2.2.2⟩) (fun _ => rfl) (fun _ h => h)
theorem opBfs : OpA Tryz.prog 24 (fun l : List Bf => [aB l]) (fun l => l.length ≤ maxLen ∧ ∀ x ∈ l, wfB x) := OpA.slice Tryz.underlying24 (by kernel_rfl) cBf_emb opBf
theorem opCode : OpA Tryz.prog 51 (fun x : Int × Int => [.int .i64 x.1, .int .i64 x.2]) (fun x => wfI x.1 ∧ wfI x.2) :=
  OpA.iso (OpA.struct (n := 1 + 1) Tryz.underlying51 (OpAF.cons opInt rfl (by kernel_rfl) (OpAF.one opInt rfl (by kernel_rfl))) (by kernel_rfl)) (fun a => a) (fun _ => rfl) (fun _ h => h)
end Go.Abs.Dest
set_option maxRecDepth 100000
namespace Go.Abs.Coll
open Go.RowKit Go.Proofs Go.Abs.Dest Go.Abs.Span
theorem wfI_rng {n : Int} (h : wfI n) : -9223372036854775808 ≤ n ∧ n ≤ 9223372036854775807 := by
  have h : (decide (IntKind.i64.min ≤ n) && decide (n ≤ IntKind.i64.max)) = true := h
  rw [Bool.and_eq_true, decide_eq_true_eq, decide_eq_true_eq] at h
  exact h
def wfR (r : Rct) : Prop := wfI r.n ∧ wfI r.lo ∧ wfI r.hi
def wfS (s : Spn) : Prop := wfI s.n ∧ wfI s.lo ∧ wfI s.hi ∧ wfI s.to
def wfT (t : Tbl) : Prop := t.name.size ≤ maxLen ∧ wfI t.wmode ∧ (t.spaces.length ≤ maxLen ∧ ∀ x ∈ t.spaces, wfR x) ∧ (t.cids.length ≤ maxLen ∧ ∀ x ∈ t.cids, wfS x) ∧ (t.nots.length ≤ maxLen ∧ ∀ x ∈ t.nots, wfS x) ∧ (t.bfs.length ≤ maxLen ∧ ∀ x ∈ t.bfs, wfB x)
theorem opStr : OpA Tryz.prog 9 (fun s : ByteArray => [.str s]) (fun s => s.size ≤ maxLen) := OpA.string Tryz.underlying9
theorem opRct : OpA Tryz.prog 113 cR wfR :=
  OpA.iso (OpA.struct (n := 1 + (1 + 1)) Tryz.underlying113 (OpAF.cons opInt rfl (by kernel_rfl) (OpAF.cons opInt rfl (by kernel_rfl) (OpAF.one opInt rfl (by kernel_rfl)))) (by kernel_rfl)) (fun a => ⟨a.1, a.2.1, a.2.2⟩) (fun _ => rfl) (fun _ h => h)
theorem opSpn : OpA Tryz.prog 118 cSp wfS :=
  OpA.iso (OpA.struct (n := 1 + (1 + (1 + 1))) Tryz.underlying118 (OpAF.cons opInt rfl (by kernel_rfl) (OpAF.cons opInt rfl (by kernel_rfl) (OpAF.cons opInt rfl (by kernel_rfl) (OpAF.one opInt rfl (by kernel_rfl))))) (by kernel_rfl)) (fun a => ⟨a.1, a.2.1, a.2.2.1, a.2.2.2⟩) (fun _ => rfl) (fun _ h => h)
theorem opRcts : OpA Tryz.prog 22 (fun l : List Rct => [aR l]) (fun l => l.length ≤ maxLen ∧ ∀ x ∈ l, wfR x) := OpA.slice Tryz.underlying22 (by kernel_rfl) cR_emb opRct
theorem opSpns : OpA Tryz.prog 23 (fun l : List Spn => [aS l]) (fun l => l.length ≤ maxLen ∧ ∀ x ∈ l, wfS x) := OpA.slice Tryz.underlying23 (by kernel_rfl) cSp_emb opSpn
theorem opTbl : OpA Tryz.prog 26 cT wfT :=
  OpA.iso (OpA.struct (n := 1 + (1 + (1 + (1 + (1 + 1))))) Tryz.underlying26 (OpAF.cons opStr rfl (by kernel_rfl) (OpAF.cons opInt rfl (by kernel_rfl) (OpAF.cons opRcts rfl (by kernel_rfl) (OpAF.cons opSpns rfl (by kernel_rfl) (OpAF.cons opSpns rfl (by kernel_rfl) (OpAF.one opBfs rfl (by kernel_rfl))))))) (by kernel_rfl)) (fun a => ⟨a.1, a.2.1, a.2.2.1, a.2.2.2.1, a.2.2.2.2.1, a.2.2.2.2.2⟩) (fun _ => rfl) (fun _ h => h)
end Go.Abs.Coll
set_option maxRecDepth 100000
namespace Go.Abs.Hx
open Go.RowKit Go.Proofs
abbrev wf8 (n : Int) : Prop := (Lit.int .u8 n).wf = true
theorem wf8_rng {n : Int} (h : wf8 n) : 0 ≤ n ∧ n ≤ 255 := by
  have h : (decide (IntKind.u8.min ≤ n) && decide (n ≤ IntKind.u8.max)) = true := h
  rw [Bool.and_eq_true, decide_eq_true_eq, decide_eq_true_eq] at h
  exact h
theorem opB8 : OpA Tryz.prog 29 (fun l : List Int => [a8 l]) (fun l => l.length ≤ maxLen ∧ ∀ x ∈ l, wf8 x) := OpA.slice Tryz.underlying29 (by kernel_rfl) c8_emb (OpA.int Tryz.underlying5)
end Go.Abs.Hx
set_option maxRecDepth 100000
namespace Go.Abs.Cp
open Go.RowKit Go.Proofs Go.Abs.Tab Go.Abs.Dest Go.Abs.Span Go.Abs.Coll Go.Abs.Hx Go.Abs.Mt Go.Abs.Lk Go.Abs.Rc Go.Abs.Utf Go.Abs.Txt
structure Fnt where
  enc : Tbl
  hasUni : Bool
  uni : Tbl
  hasColl : Bool
  coll : Tbl
def cFn (f : Fnt) : List AV := [.str f.enc.name, .int .i64 f.enc.wmode, aR f.enc.spaces, aS f.enc.cids, aS f.enc.nots, aB f.enc.bfs, .sb f.hasUni, .str f.uni.name, .int .i64 f.uni.wmode, aR f.uni.spaces, aS f.uni.cids, aS f.uni.nots, aB f.uni.bfs, .sb f.hasColl, .str f.coll.name, .int .i64 f.coll.wmode, aR f.coll.spaces, aS f.coll.cids, aS f.coll.nots, aB f.coll.bfs]
structure Chr where
  p : Pc
  cid : Int
  from_ : Int
  text : ByteArray
instance : Inhabited Chr := ⟨⟨default, 0, 0, ByteArray.empty⟩⟩
def cH (c : Chr) : List AV := [.int .i64 c.p.at_, .int .i64 c.p.n, .sb c.p.full, .int .i64 c.p.cn, .int .i64 c.p.cv, .int .i64 c.cid, .int .i64 c.from_, .str c.text]
theorem cH_emb : Emb cH 8 := fun x => ⟨rfl, ⟨⟨rfl⟩, ⟨rfl⟩, ⟨rfl⟩, ⟨rfl⟩, ⟨rfl⟩, ⟨rfl⟩, ⟨rfl⟩, ⟨rfl⟩, trivial⟩, rfl⟩
abbrev aH (l : List Chr) : AV := aL cH 8 l
inductive Tl where
  | u (t : Tbl)
  | c (t : Tbl)
  | n
instance : Inhabited Tl := ⟨.n⟩
def cTl : Tl → List AV
  | .u t => [.iface 123 (.agg (cT t))]
  | .c t => [.iface 124 (.agg (cT t))]
  | .n => [.iface 126 (.agg [])]
theorem cTl_emb : Emb cTl 1 := fun x => by
  cases x with
  | u t => exact ⟨rfl, ⟨(cT_emb t).2.1, trivial⟩, rfl⟩
  | c t => exact ⟨rfl, ⟨(cT_emb t).2.1, trivial⟩, rfl⟩
  | n => exact ⟨rfl, ⟨trivial, trivial⟩, rfl⟩
abbrev aTl (l : List Tl) : AV := aL cTl 1 l
/-! Whether a font may be. -/
def small (t : Tbl) : Prop := t.spaces.length ≤ 1000000 ∧ t.cids.length ≤ 1000000 ∧ t.nots.length ≤ 1000000 ∧ t.bfs.length ≤ 1000000
def saneF (f : Fnt) : Bool := saneT f.enc && ((!f.hasUni || saneT f.uni) && (!f.hasColl || saneT f.coll))
def SSaneF : Sp := ⟨Fnt, fun f => small f.enc ∧ small f.uni ∧ small f.coll, fun f => [.agg (cFn f)], fun f => .st (.sb (saneF f))⟩
set_option maxHeartbeats 4000000 in
theorem saneFC : SpOK Tryz.prog 10 SSaneF := fun (f : Fnt) ⟨⟨a1, a2, a3, a4⟩, ⟨b1, b2, b3, b4⟩, ⟨c1, c2, c3, c4⟩⟩ => by
  have hC : COK Tryz.prog (cfg [(29, SSaneT)]) := Ty.ty.cfg ⟨saneTC, trivial⟩
  ((refine Fn.ofF hC Tryz.func10 Tryz.ntmps10 rfl rfl rfl ?_); (repeat' first | (with_reducible exact trivial) | (with_reducible rfl) | (refine And.intro ?_ ?_) | (refine Need.mk ?_) | exact True.intro | (first | (refine ⟨_, Told.refl _, ?_, ?_⟩) | (refine ⟨⟨_, _⟩, Told.refl _, ?_, ?_⟩) | (refine ⟨⟨_, _, _⟩, Told.refl _, ?_, ?_⟩) | (refine ⟨⟨_, _, _, _⟩, Told.refl _, ?_, ?_⟩) | (refine ⟨⟨_, _, _, _, _⟩, Told.refl _, ?_, ?_⟩) | (refine ⟨(), Told.refl _, ?_, ?_⟩)) | (with_reducible intro _) | (refine fun (_ : Bool) => ?_)))
  any_goals omega
  all_goals unfold saneF
  all_goals simp_all
/-! What tells a text. -/
def tellO : Tl → Sg → Option ByteArray
  | .u t, x => (EB.find t.bfs x.p.cn x.p.cv).map fun a => encB (decU a)
  | .c t, x => if x.kind = 0 then none else (EB.find t.bfs 2 x.cid).map fun a => encB (decU a)
  | .n, _ => some (encB [65533])
def tellB (t : Tl) (x : Sg) : ByteArray := (tellO t x).getD ByteArray.empty
def fromT : Tl → Int
  | .u _ => 1
  | .c _ => 2
  | .n => 0
def STellU : Sp := ⟨Tbl × Sg, fun (t, x) => t.bfs.length ≤ 1000000, fun (t, x) => [.agg (cT t), .agg (cG x)], fun (t, x) => .st (.tup [.str (tellB (.u t) x), .sb (tellO (.u t) x).isSome])⟩
def STellC : Sp := ⟨Tbl × Sg, fun (t, x) => t.bfs.length ≤ 1000000, fun (t, x) => [.agg (cT t), .agg (cG x)], fun (t, x) => .st (.tup [.str (tellB (.c t) x), .sb (tellO (.c t) x).isSome])⟩
def STellN : Sp := ⟨Sg, fun _ => True, fun x => [.agg [], .agg (cG x)], fun x => .st (.tup [.str (tellB .n x), .sb (tellO .n x).isSome])⟩
def SFromU : Sp := ⟨Tbl, fun _ => True, fun t => [.agg (cT t)], fun _ => .st (.int .i64 1)⟩
def SFromC : Sp := ⟨Tbl, fun _ => True, fun t => [.agg (cT t)], fun _ => .st (.int .i64 2)⟩
def SFromN : Sp := ⟨Unit, fun _ => True, fun _ => [.agg []], fun _ => .st (.int .i64 0)⟩
theorem decU_nil : decU [] = [] := by decide +kernel
theorem encB_nil : encB [] = ByteArray.empty := rfl
theorem find_opt (l : List Bf) (n v : Int) : ((EB.find l n v).getD []).length ≤ 64 := by
  cases h : EB.find l n v with
  | none => exact Nat.zero_le _
  | some a => exact (find_rng h).1
theorem enc_opt (l : List Bf) (n v : Int) : encB (decU ((EB.find l n v).getD [])) = ((EB.find l n v).map fun a => encB (decU a)).getD ByteArray.empty := by
  cases h : EB.find l n v with
  | none => show encB (decU []) = ByteArray.empty; rw [decU_nil]; rfl
  | some a => rfl
theorem txt_opt (l : List Bf) (n v : Int) : txtO (EB.find l n v) = ((EB.find l n v).map fun a => encB (decU a)).getD ByteArray.empty := by
  cases h : EB.find l n v <;> rfl
theorem tellU : SpOK Tryz.prog 185 STellU := fun ⟨t, x⟩ ht => by
  have hC : COK Tryz.prog (cfg [(22, SUniL), (27, SDec), (26, SText)]) := Ty.ty.cfg ⟨uniL, dec16, text, trivial⟩
  have ht : t.bfs.length ≤ 1000000 := ht
  have hf := find_opt t.bfs x.p.cn x.p.cv
  have hd := decU_len ((EB.find t.bfs x.p.cn x.p.cv).getD [])
  ((refine Fn.ofF hC Tryz.func185 Tryz.ntmps185 rfl rfl rfl ?_); (repeat' first | (with_reducible exact trivial) | (with_reducible rfl) | (refine And.intro ?_ ?_) | (refine Need.mk ?_) | exact True.intro | (first | (refine ⟨_, Told.refl _, ?_, ?_⟩) | (refine ⟨⟨_, _⟩, Told.refl _, ?_, ?_⟩) | (refine ⟨⟨_, _, _⟩, Told.refl _, ?_, ?_⟩) | (refine ⟨⟨_, _, _, _⟩, Told.refl _, ?_, ?_⟩) | (refine ⟨⟨_, _, _, _, _⟩, Told.refl _, ?_, ?_⟩) | (refine ⟨(), Told.refl _, ?_, ?_⟩)) | (with_reducible intro _) | (refine fun (_ : Bool) => ?_)))
  · show t.bfs.length < 4611686018427387904
    omega
  · show ((EB.find t.bfs x.p.cn x.p.cv).getD []).length ≤ 1000000000
    omega
  · show (decU _).length < 4398046511104
    omega
  · exact enc_opt _ _ _
  · show _ = ((EB.find t.bfs x.p.cn x.p.cv).map _).isSome
    rw [Option.isSome_map]
theorem tellC : SpOK Tryz.prog 187 STellC := fun ⟨t, x⟩ ht => by
  have hC : COK Tryz.prog (cfg [(25, SCText)]) := Ty.ty.cfg ⟨ctext, trivial⟩
  have ht : t.bfs.length ≤ 1000000 := ht
  ((refine Fn.ofF hC Tryz.func187 Tryz.ntmps187 rfl rfl rfl ?_); (repeat' first | (with_reducible exact trivial) | (with_reducible rfl) | (refine And.intro ?_ ?_) | (refine Need.mk ?_) | exact True.intro | (first | (refine ⟨_, Told.refl _, ?_, ?_⟩) | (refine ⟨⟨_, _⟩, Told.refl _, ?_, ?_⟩) | (refine ⟨⟨_, _, _⟩, Told.refl _, ?_, ?_⟩) | (refine ⟨⟨_, _, _, _⟩, Told.refl _, ?_, ?_⟩) | (refine ⟨⟨_, _, _, _, _⟩, Told.refl _, ?_, ?_⟩) | (refine ⟨(), Told.refl _, ?_, ?_⟩)) | (with_reducible intro _) | (refine fun (_ : Bool) => ?_)))
  all_goals
    first
      | (have e : tellO (.c t) x = none := if_pos (by simpa using ‹(x.kind == 0) = true›)
         first
           | (unfold tellB; rw [e]; rfl)
           | (rw [e]; rfl))
      | (have e : tellO (.c t) x = (EB.find t.bfs 2 x.cid).map fun a => encB (decU a) := if_neg (by simpa using ‹(x.kind == 0) = false›)
         first
           | (show t.bfs.length < 4611686018427387904; omega)
           | (unfold tellB; rw [e]; exact txt_opt _ _ _)
           | (rw [e, Option.isSome_map]; done))
theorem tellN : SpOK Tryz.prog 189 STellN := fun (x : Sg) _ => by
  have hC : COK Tryz.prog (cfg [(26, SText)]) := Ty.ty.cfg ⟨text, trivial⟩
  ((refine Fn.ofF hC Tryz.func189 Tryz.ntmps189 rfl rfl rfl ?_); (repeat' first | (with_reducible exact trivial) | (with_reducible rfl) | (refine And.intro ?_ ?_) | (refine Need.mk ?_) | exact True.intro | (first | (refine ⟨_, Told.refl _, ?_, ?_⟩) | (refine ⟨⟨_, _⟩, Told.refl _, ?_, ?_⟩) | (refine ⟨⟨_, _, _⟩, Told.refl _, ?_, ?_⟩) | (refine ⟨⟨_, _, _, _⟩, Told.refl _, ?_, ?_⟩) | (refine ⟨⟨_, _, _, _, _⟩, Told.refl _, ?_, ?_⟩) | (refine ⟨(), Told.refl _, ?_, ?_⟩)) | (with_reducible intro _) | (refine fun (_ : Bool) => ?_)))
  refine Exists.intro [65533] (And.intro (Told.of (lit_sub ci_emb _)) (And.intro ?_ ?_))
  · show 1 < 4398046511104
    omega
  · (repeat' first | (with_reducible exact trivial) | (with_reducible rfl) | (refine And.intro ?_ ?_) | (refine Need.mk ?_) | exact True.intro | (first | (refine ⟨_, Told.refl _, ?_, ?_⟩) | (refine ⟨⟨_, _⟩, Told.refl _, ?_, ?_⟩) | (refine ⟨⟨_, _, _⟩, Told.refl _, ?_, ?_⟩) | (refine ⟨⟨_, _, _, _⟩, Told.refl _, ?_, ?_⟩) | (refine ⟨⟨_, _, _, _, _⟩, Told.refl _, ?_, ?_⟩) | (refine ⟨(), Told.refl _, ?_, ?_⟩)) | (with_reducible intro _) | (refine fun (_ : Bool) => ?_))
    all_goals rfl
theorem fromU : SpOK Tryz.prog 184 SFromU := fun t _ => by
  have hC := base
  ((refine Fn.ofF hC Tryz.func184 Tryz.ntmps184 rfl rfl rfl ?_); (repeat' first | (with_reducible exact trivial) | (with_reducible rfl) | (refine And.intro ?_ ?_) | (refine Need.mk ?_) | exact True.intro | (first | (refine ⟨_, Told.refl _, ?_, ?_⟩) | (refine ⟨⟨_, _⟩, Told.refl _, ?_, ?_⟩) | (refine ⟨⟨_, _, _⟩, Told.refl _, ?_, ?_⟩) | (refine ⟨⟨_, _, _, _⟩, Told.refl _, ?_, ?_⟩) | (refine ⟨⟨_, _, _, _, _⟩, Told.refl _, ?_, ?_⟩) | (refine ⟨(), Told.refl _, ?_, ?_⟩)) | (with_reducible intro _) | (refine fun (_ : Bool) => ?_)))
theorem fromC : SpOK Tryz.prog 186 SFromC := fun t _ => by
  have hC := base
  ((refine Fn.ofF hC Tryz.func186 Tryz.ntmps186 rfl rfl rfl ?_); (repeat' first | (with_reducible exact trivial) | (with_reducible rfl) | (refine And.intro ?_ ?_) | (refine Need.mk ?_) | exact True.intro | (first | (refine ⟨_, Told.refl _, ?_, ?_⟩) | (refine ⟨⟨_, _⟩, Told.refl _, ?_, ?_⟩) | (refine ⟨⟨_, _, _⟩, Told.refl _, ?_, ?_⟩) | (refine ⟨⟨_, _, _, _⟩, Told.refl _, ?_, ?_⟩) | (refine ⟨⟨_, _, _, _, _⟩, Told.refl _, ?_, ?_⟩) | (refine ⟨(), Told.refl _, ?_, ?_⟩)) | (with_reducible intro _) | (refine fun (_ : Bool) => ?_)))
theorem fromN : SpOK Tryz.prog 188 SFromN := fun t _ => by
  have hC := base
  ((refine Fn.ofF hC Tryz.func188 Tryz.ntmps188 rfl rfl rfl ?_); (repeat' first | (with_reducible exact trivial) | (with_reducible rfl) | (refine And.intro ?_ ?_) | (refine Need.mk ?_) | exact True.intro | (first | (refine ⟨_, Told.refl _, ?_, ?_⟩) | (refine ⟨⟨_, _⟩, Told.refl _, ?_, ?_⟩) | (refine ⟨⟨_, _, _⟩, Told.refl _, ?_, ?_⟩) | (refine ⟨⟨_, _, _, _⟩, Told.refl _, ?_, ?_⟩) | (refine ⟨⟨_, _, _, _, _⟩, Told.refl _, ?_, ?_⟩) | (refine ⟨(), Told.refl _, ?_, ?_⟩)) | (with_reducible intro _) | (refine fun (_ : Bool) => ?_)))
/-! All that may tell, in order. -/
def tls (f : Fnt) : List Tl := (if f.hasUni = true then [.u f.uni] else []) ++ ((if f.hasColl = true then [.c f.coll] else []) ++ [.n])
def STls : Sp := ⟨Fnt, fun _ => True, fun f => [.agg (cFn f)], fun f => .row 128 1 (tls f).length (els cTl (tls f))⟩
theorem tellers : SpOK Tryz.prog 33 STls := fun (f : Fnt) _ => by
  have hC := base
  have hu : ∀ b c, f.hasUni = b → f.hasColl = c → tls f = (if b = true then [.u f.uni] else []) ++ ((if c = true then [.c f.coll] else []) ++ [.n]) := fun b c e1 e2 => by unfold tls; rw [e1, e2]
  ((refine Fn.ofF hC Tryz.func33 Tryz.ntmps33 rfl rfl rfl ?_); (repeat' first | (with_reducible exact trivial) | (with_reducible rfl) | (refine And.intro ?_ ?_) | (refine Need.mk ?_) | exact True.intro | (first | (refine ⟨_, Told.refl _, ?_, ?_⟩) | (refine ⟨⟨_, _⟩, Told.refl _, ?_, ?_⟩) | (refine ⟨⟨_, _, _⟩, Told.refl _, ?_, ?_⟩) | (refine ⟨⟨_, _, _, _⟩, Told.refl _, ?_, ?_⟩) | (refine ⟨⟨_, _, _, _, _⟩, Told.refl _, ?_, ?_⟩) | (refine ⟨(), Told.refl _, ?_, ?_⟩)) | (with_reducible intro _) | (refine fun (_ : Bool) => ?_)))
  all_goals first | decide | skip
  all_goals
    first
      | (have e := hu _ _ ‹f.hasUni = true› ‹f.hasColl = true›
         first
           | (rw [e]; rfl)
           | (rename_i i hi
              rw [e] at hi ⊢
              have hi : i < 3 := hi
              have q : i = 0 ∨ i = 1 ∨ i = 2 := by omega
              rcases q with rfl | rfl | rfl
              · exact (cTl_emb (.u f.uni)).2.1
              · exact (cTl_emb (.c f.coll)).2.1
              · exact (cTl_emb .n).2.1))
      | (have e := hu _ _ ‹f.hasUni = true› ‹f.hasColl = false›
         first
           | (rw [e]; rfl)
           | (rename_i i hi
              rw [e] at hi ⊢
              have hi : i < 2 := hi
              have q : i = 0 ∨ i = 1 := by omega
              rcases q with rfl | rfl
              · exact (cTl_emb (.u f.uni)).2.1
              · exact (cTl_emb .n).2.1))
      | (have e := hu _ _ ‹f.hasUni = false› ‹f.hasColl = true›
         first
           | (rw [e]; rfl)
           | (rename_i i hi
              rw [e] at hi ⊢
              have hi : i < 2 := hi
              have q : i = 0 ∨ i = 1 := by omega
              rcases q with rfl | rfl
              · exact (cTl_emb (.c f.coll)).2.1
              · exact (cTl_emb .n).2.1))
      | (have e := hu _ _ ‹f.hasUni = false› ‹f.hasColl = false›
         first
           | (rw [e]; rfl)
           | (rename_i i hi
              rw [e] at hi ⊢
              have hi : i < 1 := hi
              obtain rfl : i = 0 := by omega
              exact (cTl_emb .n).2.1))
/-! Methods. -/
def methB (P : Program) (t : TypeId) (m : String) (g : FuncId) : Bool := match P.underlying t with
  | some (.struct _) => match P.info? t with
    | some i => match i.methods.find? (·.name == m) with
      | some mi => mi.path.isEmpty && (match mi.func with
        | some (g', false) => Nat.beq g' g
        | _ => false)
      | none => false
    | none => false
  | _ => false
theorem meth_ofB {P : Program} {t : TypeId} {m : String} {g : FuncId} (h : methB P t m g = true) : MethOK P t m g := by
  unfold methB at h
  split at h
  · rename_i fs hu
    split at h
    · rename_i i hi
      split at h
      · rename_i mi hm
        rw [Bool.and_eq_true] at h
        obtain ⟨h1, h2⟩ := h
        split at h2
        · rename_i g' hf
          obtain rfl := Nat.eq_of_beq_eq_true h2
          exact meth_of hu hi hm (by simpa using h1) hf (by unfold Made.depth; omega)
        · cases h2
      · cases h
    · cases h
  · cases h
def M : List (TypeId × String × FuncId) := [(123, "hornbook/comp.tell", 185), (124, "hornbook/comp.tell", 187), (126, "hornbook/comp.tell", 189), (123, "hornbook/comp.from", 184), (124, "hornbook/comp.from", 186), (126, "hornbook/comp.from", 188)]
theorem methsOK : MethsOK Tryz.prog M := ⟨meth_ofB (by kernel_rfl), meth_ofB (by kernel_rfl), meth_ofB (by kernel_rfl), meth_ofB (by kernel_rfl), meth_ofB (by kernel_rfl), meth_ofB (by kernel_rfl), trivial⟩
def CL : List (FuncId × Sp) := [(185, STellU), (187, STellC), (189, STellN), (184, SFromU), (186, SFromC), (188, SFromN)]
theorem callsOK : OKs Tryz.prog CL := ⟨tellU, tellC, tellN, fromU, fromC, fromN, trivial⟩
def firstT (x : Sg) : List Tl → ByteArray × Int
  | [] => (ByteArray.empty, 0)
  | t :: l => match tellO t x with
    | some b => (b, fromT t)
    | none => firstT x l
def charT (l : List Tl) (x : Sg) : Chr := ⟨x.p, x.cid, (firstT x (if x.p.full = true then l else l.drop (l.length - 1))).2, (firstT x (if x.p.full = true then l else l.drop (l.length - 1))).1⟩
end Go.Abs.Cp
set_option maxRecDepth 100000
namespace Go.Abs.Cp
open Go.RowKit Go.Proofs Go.Abs.Tab Go.Abs.Dest Go.Abs.Span Go.Abs.Coll Go.Abs.Hx Go.Abs.Mt Go.Abs.Lk Go.Abs.Rc Go.Abs.Utf Go.Abs.Txt
theorem lit_self {L : List Tl} : ∀ i, i < L.length → cond (ones (elt (L.map cTl) i)) (subs0 (elt (L.map cTl) i) (elt (L.map cTl) i)) False := fun i hi => by
  rw [elt_list L i hi, (cTl_emb _).1]
  exact (cTl_emb _).2.1

set_option maxHeartbeats 16000000 in
theorem char_ucn (x : Sg) (a b : Tbl) (ha : a.bfs.length ≤ 1000000) (hb : b.bfs.length ≤ 1000000) : Fn Tryz.prog 35 [.agg (cG x), .sl 1 3 (elt [[.iface 123 (.agg (cT a))], [.iface 124 (.agg (cT b))], [.iface 126 (.agg [])]])] (.st (.agg (cH (charT [.u a, .c b, .n] x)))) := by
  have hC : COK Tryz.prog (cfgM M CL) := Ty.ty.cfgM methsOK callsOK
  ((refine Fn.ofF hC Tryz.func35 Tryz.ntmps35 rfl rfl rfl ?_); (repeat' first | (with_reducible exact trivial) | (with_reducible rfl) | (refine And.intro ?_ ?_) | (refine Need.mk ?_) | exact True.intro | (first | (refine ⟨_, Told.refl _, ?_, ?_⟩) | (refine ⟨⟨_, _⟩, Told.refl _, ?_, ?_⟩) | (refine ⟨⟨_, _, _⟩, Told.refl _, ?_, ?_⟩) | (refine ⟨⟨_, _, _, _⟩, Told.refl _, ?_, ?_⟩) | (refine ⟨⟨_, _, _, _, _⟩, Told.refl _, ?_, ?_⟩) | (refine ⟨(), Told.refl _, ?_, ?_⟩)) | (with_reducible intro _) | (refine fun (_ : Bool) => ?_)))
  any_goals decide
  · have hf : x.p.full = false := by simpa using ‹(!x.p.full) = true›
    have hr : charT [.u a, .c b, .n] x = ⟨x.p, x.cid, 0, encB [65533]⟩ := by
      unfold charT
      rw [hf]
      rfl
    rw [hr]
    refine AW.loop (I := fun k : Nat => ⟨44, [(2, .ptr 0 0), (4, .ptr 1 0), (5, .ptr 2 0), (24, .sl 1 1 (elt [[.iface 126 (.agg [])]])), (25, .int .i64 1), (26, .int .i64 k)], [.box 83 (cG x), .box 55 [.int .i64 0, .int .i64 0, .lit false, .int .i64 0, .int .i64 0, .int .i64 0, .int .i64 0, .str ByteArray.empty], .box 55 (cH ⟨x.p, x.cid, 0, ByteArray.empty⟩)]⟩) (fun k => k = 0) (fun k => 1 - k) 0 rfl ?_ ?_
    · (repeat' first | (with_reducible exact trivial) | (with_reducible rfl) | (refine And.intro ?_ ?_) | (refine Need.mk ?_) | exact True.intro | (first | (refine ⟨_, Told.refl _, ?_, ?_⟩) | (refine ⟨⟨_, _⟩, Told.refl _, ?_, ?_⟩) | (refine ⟨⟨_, _, _⟩, Told.refl _, ?_, ?_⟩) | (refine ⟨⟨_, _, _, _⟩, Told.refl _, ?_, ?_⟩) | (refine ⟨⟨_, _, _, _, _⟩, Told.refl _, ?_, ?_⟩) | (refine ⟨(), Told.refl _, ?_, ?_⟩)) | (with_reducible intro _) | (refine fun (_ : Bool) => ?_))
      all_goals first
        | rfl
        | decide
        | (rename_i i hi
           have hi : i < 1 := hi
           have h0 : i = 0 := by omega
           subst h0
           have e9 : (IntKind.i64.wrap (((3 : Nat) : Int) - 1)).toNat = 2 := by decide
           show cond (ones [.iface 126 (.agg [])]) (subs0 [.iface 126 (.agg [])] (elt [[.iface 123 (.agg (cT a))], [.iface 124 (.agg (cT b))], [.iface 126 (.agg [])]] ((IntKind.i64.wrap (((3 : Nat) : Int) - 1)).toNat + 0))) False
           rw [e9]
           exact (cTl_emb .n).2.1)
    · rintro k rfl
      ((refine AW.byF ‹_› ?_); (repeat' first | (with_reducible exact trivial) | (with_reducible rfl) | (refine And.intro ?_ ?_) | (refine Need.mk ?_) | exact True.intro | (first | (refine ⟨_, Told.refl _, ?_, ?_⟩) | (refine ⟨⟨_, _⟩, Told.refl _, ?_, ?_⟩) | (refine ⟨⟨_, _, _⟩, Told.refl _, ?_, ?_⟩) | (refine ⟨⟨_, _, _, _⟩, Told.refl _, ?_, ?_⟩) | (refine ⟨⟨_, _, _, _, _⟩, Told.refl _, ?_, ?_⟩) | (refine ⟨(), Told.refl _, ?_, ?_⟩)) | (with_reducible intro _) | (refine fun (_ : Bool) => ?_)))
      all_goals first | decide | (exact absurd ‹decide (((0 : Nat) : Int) < 1) = false› (by decide)) | rfl

  · have hf : x.p.full = true := by simpa using ‹(!x.p.full) = false›
    have hr : charT [.u a, .c b, .n] x = ⟨x.p, x.cid, (firstT x [.u a, .c b, .n]).2, (firstT x [.u a, .c b, .n]).1⟩ := by
      unfold charT
      rw [if_pos hf]
    rw [hr]
    refine AW.loop (I := fun k : Nat => ⟨44, [(2, .ptr 0 0), (4, .ptr 1 0), (5, .ptr 2 0), (24, .sl 1 3 (elt [[.iface 123 (.agg (cT a))], [.iface 124 (.agg (cT b))], [.iface 126 (.agg [])]])), (25, .int .i64 3), (26, .int .i64 k)], [.box 83 (cG x), .box 55 [.int .i64 0, .int .i64 0, .lit false, .int .i64 0, .int .i64 0, .int .i64 0, .int .i64 0, .str ByteArray.empty], .box 55 (cH ⟨x.p, x.cid, 0, ByteArray.empty⟩)]⟩) (fun k => k < 3 ∧ firstT x [.u a, .c b, .n] = firstT x ([.u a, .c b, .n].drop k)) (fun k => 3 - k) 0 ⟨by decide, rfl⟩ ?_ ?_
    · (repeat' first | (with_reducible exact trivial) | (with_reducible rfl) | (refine And.intro ?_ ?_) | (refine Need.mk ?_) | exact True.intro | (first | (refine ⟨_, Told.refl _, ?_, ?_⟩) | (refine ⟨⟨_, _⟩, Told.refl _, ?_, ?_⟩) | (refine ⟨⟨_, _, _⟩, Told.refl _, ?_, ?_⟩) | (refine ⟨⟨_, _, _, _⟩, Told.refl _, ?_, ?_⟩) | (refine ⟨⟨_, _, _, _, _⟩, Told.refl _, ?_, ?_⟩) | (refine ⟨(), Told.refl _, ?_, ?_⟩)) | (with_reducible intro _) | (refine fun (_ : Bool) => ?_))
      all_goals first
        | rfl
        | decide
        | exact lit_self (L := [.u a, .c b, .n]) _ ‹_›
    · rintro k ⟨hk, hg⟩
      have hc : k = 0 ∨ k = 1 ∨ k = 2 := by omega
      rcases hc with rfl | rfl | rfl
      · -- round 0
        have g : firstT x ([.u a, .c b, .n].drop 0) = match tellO (.u a) x with
          | some b => (b, 1)
          | none => firstT x ([.u a, .c b, .n].drop 1) := rfl
        ((refine AW.byF ‹_› ?_); (repeat' first | (with_reducible exact trivial) | (with_reducible rfl) | (refine And.intro ?_ ?_) | (refine Need.mk ?_) | exact True.intro | (first | (refine ⟨_, Told.refl _, ?_, ?_⟩) | (refine ⟨⟨_, _⟩, Told.refl _, ?_, ?_⟩) | (refine ⟨⟨_, _, _⟩, Told.refl _, ?_, ?_⟩) | (refine ⟨⟨_, _, _, _⟩, Told.refl _, ?_, ?_⟩) | (refine ⟨⟨_, _, _, _, _⟩, Told.refl _, ?_, ?_⟩) | (refine ⟨(), Told.refl _, ?_, ?_⟩)) | (with_reducible intro _) | (refine fun (_ : Bool) => ?_)))
        all_goals first
          | decide
          | assumption
          | (exact absurd ‹decide (((0 : Nat) : Int) < 3) = false› (by decide))
          | skip
        any_goals (refine Exists.intro (1) (And.intro ?_ (And.intro ?_ ?_)); all_goals (repeat' first | (with_reducible exact trivial) | (with_reducible rfl) | (refine And.intro ?_ ?_) | (refine Need.mk ?_) | exact True.intro | (first | (refine ⟨_, Told.refl _, ?_, ?_⟩) | (refine ⟨⟨_, _⟩, Told.refl _, ?_, ?_⟩) | (refine ⟨⟨_, _, _⟩, Told.refl _, ?_, ?_⟩) | (refine ⟨⟨_, _, _, _⟩, Told.refl _, ?_, ?_⟩) | (refine ⟨⟨_, _, _, _, _⟩, Told.refl _, ?_, ?_⟩) | (refine ⟨(), Told.refl _, ?_, ?_⟩)) | (with_reducible intro _) | (refine fun (_ : Bool) => ?_)))
        all_goals first
          | decide
          | exact lit_self (L := [.u a, .c b, .n]) _ ‹_›
          | (have q := ‹(tellO (.u a) x).isSome = true›
             obtain ⟨u, hu⟩ := Option.isSome_iff_exists.1 q
             have e : firstT x [.u a, .c b, .n] = (u, 1) := by rw [hg, g, hu]
             first
               | (show (1 : Int) = (firstT x [.u a, .c b, .n]).2; rw [e]; done)
               | (show tellB (.u a) x = (firstT x [.u a, .c b, .n]).1; rw [e]; unfold tellB; rw [hu]; rfl))
          | (have q : tellO (.u a) x = none := by simpa using ‹(tellO (.u a) x).isSome = false›
             rw [hg, g, q]
             done)
          | (have e : firstT x [.u a, .c b, .n] = (encB [65533], 0) := hg
             first
               | (show (0 : Int) = (firstT x [.u a, .c b, .n]).2; rw [e]; done)
               | (show tellB .n x = (firstT x [.u a, .c b, .n]).1; rw [e]; rfl))
      · -- round 1
        have g : firstT x ([.u a, .c b, .n].drop 1) = match tellO (.c b) x with
          | some b => (b, 2)
          | none => firstT x ([.u a, .c b, .n].drop 2) := rfl
        ((refine AW.byF ‹_› ?_); (repeat' first | (with_reducible exact trivial) | (with_reducible rfl) | (refine And.intro ?_ ?_) | (refine Need.mk ?_) | exact True.intro | (first | (refine ⟨_, Told.refl _, ?_, ?_⟩) | (refine ⟨⟨_, _⟩, Told.refl _, ?_, ?_⟩) | (refine ⟨⟨_, _, _⟩, Told.refl _, ?_, ?_⟩) | (refine ⟨⟨_, _, _, _⟩, Told.refl _, ?_, ?_⟩) | (refine ⟨⟨_, _, _, _, _⟩, Told.refl _, ?_, ?_⟩) | (refine ⟨(), Told.refl _, ?_, ?_⟩)) | (with_reducible intro _) | (refine fun (_ : Bool) => ?_)))
        all_goals first
          | decide
          | assumption
          | (exact absurd ‹decide (((1 : Nat) : Int) < 3) = false› (by decide))
          | skip
        any_goals (refine Exists.intro (2) (And.intro ?_ (And.intro ?_ ?_)); all_goals (repeat' first | (with_reducible exact trivial) | (with_reducible rfl) | (refine And.intro ?_ ?_) | (refine Need.mk ?_) | exact True.intro | (first | (refine ⟨_, Told.refl _, ?_, ?_⟩) | (refine ⟨⟨_, _⟩, Told.refl _, ?_, ?_⟩) | (refine ⟨⟨_, _, _⟩, Told.refl _, ?_, ?_⟩) | (refine ⟨⟨_, _, _, _⟩, Told.refl _, ?_, ?_⟩) | (refine ⟨⟨_, _, _, _, _⟩, Told.refl _, ?_, ?_⟩) | (refine ⟨(), Told.refl _, ?_, ?_⟩)) | (with_reducible intro _) | (refine fun (_ : Bool) => ?_)))
        all_goals first
          | decide
          | exact lit_self (L := [.u a, .c b, .n]) _ ‹_›
          | (have q := ‹(tellO (.c b) x).isSome = true›
             obtain ⟨u, hu⟩ := Option.isSome_iff_exists.1 q
             have e : firstT x [.u a, .c b, .n] = (u, 2) := by rw [hg, g, hu]
             first
               | (show (2 : Int) = (firstT x [.u a, .c b, .n]).2; rw [e]; done)
               | (show tellB (.c b) x = (firstT x [.u a, .c b, .n]).1; rw [e]; unfold tellB; rw [hu]; rfl))
          | (have q : tellO (.c b) x = none := by simpa using ‹(tellO (.c b) x).isSome = false›
             rw [hg, g, q]
             done)
          | (have e : firstT x [.u a, .c b, .n] = (encB [65533], 0) := hg
             first
               | (show (0 : Int) = (firstT x [.u a, .c b, .n]).2; rw [e]; done)
               | (show tellB .n x = (firstT x [.u a, .c b, .n]).1; rw [e]; rfl))
      · -- round 2
        have g : firstT x ([.u a, .c b, .n].drop 2) = match tellO (.n) x with
          | some b => (b, 0)
          | none => firstT x ([.u a, .c b, .n].drop 3) := rfl
        ((refine AW.byF ‹_› ?_); (repeat' first | (with_reducible exact trivial) | (with_reducible rfl) | (refine And.intro ?_ ?_) | (refine Need.mk ?_) | exact True.intro | (first | (refine ⟨_, Told.refl _, ?_, ?_⟩) | (refine ⟨⟨_, _⟩, Told.refl _, ?_, ?_⟩) | (refine ⟨⟨_, _, _⟩, Told.refl _, ?_, ?_⟩) | (refine ⟨⟨_, _, _, _⟩, Told.refl _, ?_, ?_⟩) | (refine ⟨⟨_, _, _, _, _⟩, Told.refl _, ?_, ?_⟩) | (refine ⟨(), Told.refl _, ?_, ?_⟩)) | (with_reducible intro _) | (refine fun (_ : Bool) => ?_)))
        all_goals first
          | decide
          | assumption
          | (exact absurd ‹decide (((2 : Nat) : Int) < 3) = false› (by decide))
          | skip
        all_goals first
          | decide
          | exact lit_self (L := [.u a, .c b, .n]) _ ‹_›
          | (have q := ‹(tellO (.n) x).isSome = true›
             obtain ⟨u, hu⟩ := Option.isSome_iff_exists.1 q
             have e : firstT x [.u a, .c b, .n] = (u, 0) := by rw [hg, g, hu]
             first
               | (show (0 : Int) = (firstT x [.u a, .c b, .n]).2; rw [e]; done)
               | (show tellB (.n) x = (firstT x [.u a, .c b, .n]).1; rw [e]; unfold tellB; rw [hu]; rfl))
          | (have q : tellO (.n) x = none := by simpa using ‹(tellO (.n) x).isSome = false›
             rw [hg, g, q]
             done)
          | (have e : firstT x [.u a, .c b, .n] = (encB [65533], 0) := hg
             first
               | (show (0 : Int) = (firstT x [.u a, .c b, .n]).2; rw [e]; done)
               | (show tellB .n x = (firstT x [.u a, .c b, .n]).1; rw [e]; rfl))


set_option maxHeartbeats 16000000 in
theorem char_un (x : Sg) (a b : Tbl) (ha : a.bfs.length ≤ 1000000) (hb : b.bfs.length ≤ 1000000) : Fn Tryz.prog 35 [.agg (cG x), .sl 1 2 (elt [[.iface 123 (.agg (cT a))], [.iface 126 (.agg [])]])] (.st (.agg (cH (charT [.u a, .n] x)))) := by
  have hC : COK Tryz.prog (cfgM M CL) := Ty.ty.cfgM methsOK callsOK
  ((refine Fn.ofF hC Tryz.func35 Tryz.ntmps35 rfl rfl rfl ?_); (repeat' first | (with_reducible exact trivial) | (with_reducible rfl) | (refine And.intro ?_ ?_) | (refine Need.mk ?_) | exact True.intro | (first | (refine ⟨_, Told.refl _, ?_, ?_⟩) | (refine ⟨⟨_, _⟩, Told.refl _, ?_, ?_⟩) | (refine ⟨⟨_, _, _⟩, Told.refl _, ?_, ?_⟩) | (refine ⟨⟨_, _, _, _⟩, Told.refl _, ?_, ?_⟩) | (refine ⟨⟨_, _, _, _, _⟩, Told.refl _, ?_, ?_⟩) | (refine ⟨(), Told.refl _, ?_, ?_⟩)) | (with_reducible intro _) | (refine fun (_ : Bool) => ?_)))
  any_goals decide
  · have hf : x.p.full = false := by simpa using ‹(!x.p.full) = true›
    have hr : charT [.u a, .n] x = ⟨x.p, x.cid, 0, encB [65533]⟩ := by
      unfold charT
      rw [hf]
      rfl
    rw [hr]
    refine AW.loop (I := fun k : Nat => ⟨44, [(2, .ptr 0 0), (4, .ptr 1 0), (5, .ptr 2 0), (24, .sl 1 1 (elt [[.iface 126 (.agg [])]])), (25, .int .i64 1), (26, .int .i64 k)], [.box 83 (cG x), .box 55 [.int .i64 0, .int .i64 0, .lit false, .int .i64 0, .int .i64 0, .int .i64 0, .int .i64 0, .str ByteArray.empty], .box 55 (cH ⟨x.p, x.cid, 0, ByteArray.empty⟩)]⟩) (fun k => k = 0) (fun k => 1 - k) 0 rfl ?_ ?_
    · (repeat' first | (with_reducible exact trivial) | (with_reducible rfl) | (refine And.intro ?_ ?_) | (refine Need.mk ?_) | exact True.intro | (first | (refine ⟨_, Told.refl _, ?_, ?_⟩) | (refine ⟨⟨_, _⟩, Told.refl _, ?_, ?_⟩) | (refine ⟨⟨_, _, _⟩, Told.refl _, ?_, ?_⟩) | (refine ⟨⟨_, _, _, _⟩, Told.refl _, ?_, ?_⟩) | (refine ⟨⟨_, _, _, _, _⟩, Told.refl _, ?_, ?_⟩) | (refine ⟨(), Told.refl _, ?_, ?_⟩)) | (with_reducible intro _) | (refine fun (_ : Bool) => ?_))
      all_goals first
        | rfl
        | decide
        | (rename_i i hi
           have hi : i < 1 := hi
           have h0 : i = 0 := by omega
           subst h0
           have e9 : (IntKind.i64.wrap (((2 : Nat) : Int) - 1)).toNat = 1 := by decide
           show cond (ones [.iface 126 (.agg [])]) (subs0 [.iface 126 (.agg [])] (elt [[.iface 123 (.agg (cT a))], [.iface 126 (.agg [])]] ((IntKind.i64.wrap (((2 : Nat) : Int) - 1)).toNat + 0))) False
           rw [e9]
           exact (cTl_emb .n).2.1)
    · rintro k rfl
      ((refine AW.byF ‹_› ?_); (repeat' first | (with_reducible exact trivial) | (with_reducible rfl) | (refine And.intro ?_ ?_) | (refine Need.mk ?_) | exact True.intro | (first | (refine ⟨_, Told.refl _, ?_, ?_⟩) | (refine ⟨⟨_, _⟩, Told.refl _, ?_, ?_⟩) | (refine ⟨⟨_, _, _⟩, Told.refl _, ?_, ?_⟩) | (refine ⟨⟨_, _, _, _⟩, Told.refl _, ?_, ?_⟩) | (refine ⟨⟨_, _, _, _, _⟩, Told.refl _, ?_, ?_⟩) | (refine ⟨(), Told.refl _, ?_, ?_⟩)) | (with_reducible intro _) | (refine fun (_ : Bool) => ?_)))
      all_goals first | decide | (exact absurd ‹decide (((0 : Nat) : Int) < 1) = false› (by decide)) | rfl

  · have hf : x.p.full = true := by simpa using ‹(!x.p.full) = false›
    have hr : charT [.u a, .n] x = ⟨x.p, x.cid, (firstT x [.u a, .n]).2, (firstT x [.u a, .n]).1⟩ := by
      unfold charT
      rw [if_pos hf]
    rw [hr]
    refine AW.loop (I := fun k : Nat => ⟨44, [(2, .ptr 0 0), (4, .ptr 1 0), (5, .ptr 2 0), (24, .sl 1 2 (elt [[.iface 123 (.agg (cT a))], [.iface 126 (.agg [])]])), (25, .int .i64 2), (26, .int .i64 k)], [.box 83 (cG x), .box 55 [.int .i64 0, .int .i64 0, .lit false, .int .i64 0, .int .i64 0, .int .i64 0, .int .i64 0, .str ByteArray.empty], .box 55 (cH ⟨x.p, x.cid, 0, ByteArray.empty⟩)]⟩) (fun k => k < 2 ∧ firstT x [.u a, .n] = firstT x ([.u a, .n].drop k)) (fun k => 2 - k) 0 ⟨by decide, rfl⟩ ?_ ?_
    · (repeat' first | (with_reducible exact trivial) | (with_reducible rfl) | (refine And.intro ?_ ?_) | (refine Need.mk ?_) | exact True.intro | (first | (refine ⟨_, Told.refl _, ?_, ?_⟩) | (refine ⟨⟨_, _⟩, Told.refl _, ?_, ?_⟩) | (refine ⟨⟨_, _, _⟩, Told.refl _, ?_, ?_⟩) | (refine ⟨⟨_, _, _, _⟩, Told.refl _, ?_, ?_⟩) | (refine ⟨⟨_, _, _, _, _⟩, Told.refl _, ?_, ?_⟩) | (refine ⟨(), Told.refl _, ?_, ?_⟩)) | (with_reducible intro _) | (refine fun (_ : Bool) => ?_))
      all_goals first
        | rfl
        | decide
        | exact lit_self (L := [.u a, .n]) _ ‹_›
    · rintro k ⟨hk, hg⟩
      have hc : k = 0 ∨ k = 1 := by omega
      rcases hc with rfl | rfl
      · -- round 0
        have g : firstT x ([.u a, .n].drop 0) = match tellO (.u a) x with
          | some b => (b, 1)
          | none => firstT x ([.u a, .n].drop 1) := rfl
        ((refine AW.byF ‹_› ?_); (repeat' first | (with_reducible exact trivial) | (with_reducible rfl) | (refine And.intro ?_ ?_) | (refine Need.mk ?_) | exact True.intro | (first | (refine ⟨_, Told.refl _, ?_, ?_⟩) | (refine ⟨⟨_, _⟩, Told.refl _, ?_, ?_⟩) | (refine ⟨⟨_, _, _⟩, Told.refl _, ?_, ?_⟩) | (refine ⟨⟨_, _, _, _⟩, Told.refl _, ?_, ?_⟩) | (refine ⟨⟨_, _, _, _, _⟩, Told.refl _, ?_, ?_⟩) | (refine ⟨(), Told.refl _, ?_, ?_⟩)) | (with_reducible intro _) | (refine fun (_ : Bool) => ?_)))
        all_goals first
          | decide
          | assumption
          | (exact absurd ‹decide (((0 : Nat) : Int) < 2) = false› (by decide))
          | skip
        any_goals (refine Exists.intro (1) (And.intro ?_ (And.intro ?_ ?_)); all_goals (repeat' first | (with_reducible exact trivial) | (with_reducible rfl) | (refine And.intro ?_ ?_) | (refine Need.mk ?_) | exact True.intro | (first | (refine ⟨_, Told.refl _, ?_, ?_⟩) | (refine ⟨⟨_, _⟩, Told.refl _, ?_, ?_⟩) | (refine ⟨⟨_, _, _⟩, Told.refl _, ?_, ?_⟩) | (refine ⟨⟨_, _, _, _⟩, Told.refl _, ?_, ?_⟩) | (refine ⟨⟨_, _, _, _, _⟩, Told.refl _, ?_, ?_⟩) | (refine ⟨(), Told.refl _, ?_, ?_⟩)) | (with_reducible intro _) | (refine fun (_ : Bool) => ?_)))
        all_goals first
          | decide
          | exact lit_self (L := [.u a, .n]) _ ‹_›
          | (have q := ‹(tellO (.u a) x).isSome = true›
             obtain ⟨u, hu⟩ := Option.isSome_iff_exists.1 q
             have e : firstT x [.u a, .n] = (u, 1) := by rw [hg, g, hu]
             first
               | (show (1 : Int) = (firstT x [.u a, .n]).2; rw [e]; done)
               | (show tellB (.u a) x = (firstT x [.u a, .n]).1; rw [e]; unfold tellB; rw [hu]; rfl))
          | (have q : tellO (.u a) x = none := by simpa using ‹(tellO (.u a) x).isSome = false›
             rw [hg, g, q]
             done)
          | (have e : firstT x [.u a, .n] = (encB [65533], 0) := hg
             first
               | (show (0 : Int) = (firstT x [.u a, .n]).2; rw [e]; done)
               | (show tellB .n x = (firstT x [.u a, .n]).1; rw [e]; rfl))
      · -- round 1
        have g : firstT x ([.u a, .n].drop 1) = match tellO (.n) x with
          | some b => (b, 0)
          | none => firstT x ([.u a, .n].drop 2) := rfl
        ((refine AW.byF ‹_› ?_); (repeat' first | (with_reducible exact trivial) | (with_reducible rfl) | (refine And.intro ?_ ?_) | (refine Need.mk ?_) | exact True.intro | (first | (refine ⟨_, Told.refl _, ?_, ?_⟩) | (refine ⟨⟨_, _⟩, Told.refl _, ?_, ?_⟩) | (refine ⟨⟨_, _, _⟩, Told.refl _, ?_, ?_⟩) | (refine ⟨⟨_, _, _, _⟩, Told.refl _, ?_, ?_⟩) | (refine ⟨⟨_, _, _, _, _⟩, Told.refl _, ?_, ?_⟩) | (refine ⟨(), Told.refl _, ?_, ?_⟩)) | (with_reducible intro _) | (refine fun (_ : Bool) => ?_)))
        all_goals first
          | decide
          | assumption
          | (exact absurd ‹decide (((1 : Nat) : Int) < 2) = false› (by decide))
          | skip
        all_goals first
          | decide
          | exact lit_self (L := [.u a, .n]) _ ‹_›
          | (have q := ‹(tellO (.n) x).isSome = true›
             obtain ⟨u, hu⟩ := Option.isSome_iff_exists.1 q
             have e : firstT x [.u a, .n] = (u, 0) := by rw [hg, g, hu]
             first
               | (show (0 : Int) = (firstT x [.u a, .n]).2; rw [e]; done)
               | (show tellB (.n) x = (firstT x [.u a, .n]).1; rw [e]; unfold tellB; rw [hu]; rfl))
          | (have q : tellO (.n) x = none := by simpa using ‹(tellO (.n) x).isSome = false›
             rw [hg, g, q]
             done)
          | (have e : firstT x [.u a, .n] = (encB [65533], 0) := hg
             first
               | (show (0 : Int) = (firstT x [.u a, .n]).2; rw [e]; done)
               | (show tellB .n x = (firstT x [.u a, .n]).1; rw [e]; rfl))


set_option maxHeartbeats 16000000 in
theorem char_cn (x : Sg) (a b : Tbl) (ha : a.bfs.length ≤ 1000000) (hb : b.bfs.length ≤ 1000000) : Fn Tryz.prog 35 [.agg (cG x), .sl 1 2 (elt [[.iface 124 (.agg (cT b))], [.iface 126 (.agg [])]])] (.st (.agg (cH (charT [.c b, .n] x)))) := by
  have hC : COK Tryz.prog (cfgM M CL) := Ty.ty.cfgM methsOK callsOK
  ((refine Fn.ofF hC Tryz.func35 Tryz.ntmps35 rfl rfl rfl ?_); (repeat' first | (with_reducible exact trivial) | (with_reducible rfl) | (refine And.intro ?_ ?_) | (refine Need.mk ?_) | exact True.intro | (first | (refine ⟨_, Told.refl _, ?_, ?_⟩) | (refine ⟨⟨_, _⟩, Told.refl _, ?_, ?_⟩) | (refine ⟨⟨_, _, _⟩, Told.refl _, ?_, ?_⟩) | (refine ⟨⟨_, _, _, _⟩, Told.refl _, ?_, ?_⟩) | (refine ⟨⟨_, _, _, _, _⟩, Told.refl _, ?_, ?_⟩) | (refine ⟨(), Told.refl _, ?_, ?_⟩)) | (with_reducible intro _) | (refine fun (_ : Bool) => ?_)))
  any_goals decide
  · have hf : x.p.full = false := by simpa using ‹(!x.p.full) = true›
    have hr : charT [.c b, .n] x = ⟨x.p, x.cid, 0, encB [65533]⟩ := by
      unfold charT
      rw [hf]
      rfl
    rw [hr]
    refine AW.loop (I := fun k : Nat => ⟨44, [(2, .ptr 0 0), (4, .ptr 1 0), (5, .ptr 2 0), (24, .sl 1 1 (elt [[.iface 126 (.agg [])]])), (25, .int .i64 1), (26, .int .i64 k)], [.box 83 (cG x), .box 55 [.int .i64 0, .int .i64 0, .lit false, .int .i64 0, .int .i64 0, .int .i64 0, .int .i64 0, .str ByteArray.empty], .box 55 (cH ⟨x.p, x.cid, 0, ByteArray.empty⟩)]⟩) (fun k => k = 0) (fun k => 1 - k) 0 rfl ?_ ?_
    · (repeat' first | (with_reducible exact trivial) | (with_reducible rfl) | (refine And.intro ?_ ?_) | (refine Need.mk ?_) | exact True.intro | (first | (refine ⟨_, Told.refl _, ?_, ?_⟩) | (refine ⟨⟨_, _⟩, Told.refl _, ?_, ?_⟩) | (refine ⟨⟨_, _, _⟩, Told.refl _, ?_, ?_⟩) | (refine ⟨⟨_, _, _, _⟩, Told.refl _, ?_, ?_⟩) | (refine ⟨⟨_, _, _, _, _⟩, Told.refl _, ?_, ?_⟩) | (refine ⟨(), Told.refl _, ?_, ?_⟩)) | (with_reducible intro _) | (refine fun (_ : Bool) => ?_))
      all_goals first
        | rfl
        | decide
        | (rename_i i hi
           have hi : i < 1 := hi
           have h0 : i = 0 := by omega
           subst h0
           have e9 : (IntKind.i64.wrap (((2 : Nat) : Int) - 1)).toNat = 1 := by decide
           show cond (ones [.iface 126 (.agg [])]) (subs0 [.iface 126 (.agg [])] (elt [[.iface 124 (.agg (cT b))], [.iface 126 (.agg [])]] ((IntKind.i64.wrap (((2 : Nat) : Int) - 1)).toNat + 0))) False
           rw [e9]
           exact (cTl_emb .n).2.1)
    · rintro k rfl
      ((refine AW.byF ‹_› ?_); (repeat' first | (with_reducible exact trivial) | (with_reducible rfl) | (refine And.intro ?_ ?_) | (refine Need.mk ?_) | exact True.intro | (first | (refine ⟨_, Told.refl _, ?_, ?_⟩) | (refine ⟨⟨_, _⟩, Told.refl _, ?_, ?_⟩) | (refine ⟨⟨_, _, _⟩, Told.refl _, ?_, ?_⟩) | (refine ⟨⟨_, _, _, _⟩, Told.refl _, ?_, ?_⟩) | (refine ⟨⟨_, _, _, _, _⟩, Told.refl _, ?_, ?_⟩) | (refine ⟨(), Told.refl _, ?_, ?_⟩)) | (with_reducible intro _) | (refine fun (_ : Bool) => ?_)))
      all_goals first | decide | (exact absurd ‹decide (((0 : Nat) : Int) < 1) = false› (by decide)) | rfl

  · have hf : x.p.full = true := by simpa using ‹(!x.p.full) = false›
    have hr : charT [.c b, .n] x = ⟨x.p, x.cid, (firstT x [.c b, .n]).2, (firstT x [.c b, .n]).1⟩ := by
      unfold charT
      rw [if_pos hf]
    rw [hr]
    refine AW.loop (I := fun k : Nat => ⟨44, [(2, .ptr 0 0), (4, .ptr 1 0), (5, .ptr 2 0), (24, .sl 1 2 (elt [[.iface 124 (.agg (cT b))], [.iface 126 (.agg [])]])), (25, .int .i64 2), (26, .int .i64 k)], [.box 83 (cG x), .box 55 [.int .i64 0, .int .i64 0, .lit false, .int .i64 0, .int .i64 0, .int .i64 0, .int .i64 0, .str ByteArray.empty], .box 55 (cH ⟨x.p, x.cid, 0, ByteArray.empty⟩)]⟩) (fun k => k < 2 ∧ firstT x [.c b, .n] = firstT x ([.c b, .n].drop k)) (fun k => 2 - k) 0 ⟨by decide, rfl⟩ ?_ ?_
    · (repeat' first | (with_reducible exact trivial) | (with_reducible rfl) | (refine And.intro ?_ ?_) | (refine Need.mk ?_) | exact True.intro | (first | (refine ⟨_, Told.refl _, ?_, ?_⟩) | (refine ⟨⟨_, _⟩, Told.refl _, ?_, ?_⟩) | (refine ⟨⟨_, _, _⟩, Told.refl _, ?_, ?_⟩) | (refine ⟨⟨_, _, _, _⟩, Told.refl _, ?_, ?_⟩) | (refine ⟨⟨_, _, _, _, _⟩, Told.refl _, ?_, ?_⟩) | (refine ⟨(), Told.refl _, ?_, ?_⟩)) | (with_reducible intro _) | (refine fun (_ : Bool) => ?_))
      all_goals first
        | rfl
        | decide
        | exact lit_self (L := [.c b, .n]) _ ‹_›
    · rintro k ⟨hk, hg⟩
      have hc : k = 0 ∨ k = 1 := by omega
      rcases hc with rfl | rfl
      · -- round 0
        have g : firstT x ([.c b, .n].drop 0) = match tellO (.c b) x with
          | some b => (b, 2)
          | none => firstT x ([.c b, .n].drop 1) := rfl
        ((refine AW.byF ‹_› ?_); (repeat' first | (with_reducible exact trivial) | (with_reducible rfl) | (refine And.intro ?_ ?_) | (refine Need.mk ?_) | exact True.intro | (first | (refine ⟨_, Told.refl _, ?_, ?_⟩) | (refine ⟨⟨_, _⟩, Told.refl _, ?_, ?_⟩) | (refine ⟨⟨_, _, _⟩, Told.refl _, ?_, ?_⟩) | (refine ⟨⟨_, _, _, _⟩, Told.refl _, ?_, ?_⟩) | (refine ⟨⟨_, _, _, _, _⟩, Told.refl _, ?_, ?_⟩) | (refine ⟨(), Told.refl _, ?_, ?_⟩)) | (with_reducible intro _) | (refine fun (_ : Bool) => ?_)))
        all_goals first
          | decide
          | assumption
          | (exact absurd ‹decide (((0 : Nat) : Int) < 2) = false› (by decide))
          | skip
        any_goals (refine Exists.intro (1) (And.intro ?_ (And.intro ?_ ?_)); all_goals (repeat' first | (with_reducible exact trivial) | (with_reducible rfl) | (refine And.intro ?_ ?_) | (refine Need.mk ?_) | exact True.intro | (first | (refine ⟨_, Told.refl _, ?_, ?_⟩) | (refine ⟨⟨_, _⟩, Told.refl _, ?_, ?_⟩) | (refine ⟨⟨_, _, _⟩, Told.refl _, ?_, ?_⟩) | (refine ⟨⟨_, _, _, _⟩, Told.refl _, ?_, ?_⟩) | (refine ⟨⟨_, _, _, _, _⟩, Told.refl _, ?_, ?_⟩) | (refine ⟨(), Told.refl _, ?_, ?_⟩)) | (with_reducible intro _) | (refine fun (_ : Bool) => ?_)))
        all_goals first
          | decide
          | exact lit_self (L := [.c b, .n]) _ ‹_›
          | (have q := ‹(tellO (.c b) x).isSome = true›
             obtain ⟨u, hu⟩ := Option.isSome_iff_exists.1 q
             have e : firstT x [.c b, .n] = (u, 2) := by rw [hg, g, hu]
             first
               | (show (2 : Int) = (firstT x [.c b, .n]).2; rw [e]; done)
               | (show tellB (.c b) x = (firstT x [.c b, .n]).1; rw [e]; unfold tellB; rw [hu]; rfl))
          | (have q : tellO (.c b) x = none := by simpa using ‹(tellO (.c b) x).isSome = false›
             rw [hg, g, q]
             done)
          | (have e : firstT x [.c b, .n] = (encB [65533], 0) := hg
             first
               | (show (0 : Int) = (firstT x [.c b, .n]).2; rw [e]; done)
               | (show tellB .n x = (firstT x [.c b, .n]).1; rw [e]; rfl))
      · -- round 1
        have g : firstT x ([.c b, .n].drop 1) = match tellO (.n) x with
          | some b => (b, 0)
          | none => firstT x ([.c b, .n].drop 2) := rfl
        ((refine AW.byF ‹_› ?_); (repeat' first | (with_reducible exact trivial) | (with_reducible rfl) | (refine And.intro ?_ ?_) | (refine Need.mk ?_) | exact True.intro | (first | (refine ⟨_, Told.refl _, ?_, ?_⟩) | (refine ⟨⟨_, _⟩, Told.refl _, ?_, ?_⟩) | (refine ⟨⟨_, _, _⟩, Told.refl _, ?_, ?_⟩) | (refine ⟨⟨_, _, _, _⟩, Told.refl _, ?_, ?_⟩) | (refine ⟨⟨_, _, _, _, _⟩, Told.refl _, ?_, ?_⟩) | (refine ⟨(), Told.refl _, ?_, ?_⟩)) | (with_reducible intro _) | (refine fun (_ : Bool) => ?_)))
        all_goals first
          | decide
          | assumption
          | (exact absurd ‹decide (((1 : Nat) : Int) < 2) = false› (by decide))
          | skip
        all_goals first
          | decide
          | exact lit_self (L := [.c b, .n]) _ ‹_›
          | (have q := ‹(tellO (.n) x).isSome = true›
             obtain ⟨u, hu⟩ := Option.isSome_iff_exists.1 q
             have e : firstT x [.c b, .n] = (u, 0) := by rw [hg, g, hu]
             first
               | (show (0 : Int) = (firstT x [.c b, .n]).2; rw [e]; done)
               | (show tellB (.n) x = (firstT x [.c b, .n]).1; rw [e]; unfold tellB; rw [hu]; rfl))
          | (have q : tellO (.n) x = none := by simpa using ‹(tellO (.n) x).isSome = false›
             rw [hg, g, q]
             done)
          | (have e : firstT x [.c b, .n] = (encB [65533], 0) := hg
             first
               | (show (0 : Int) = (firstT x [.c b, .n]).2; rw [e]; done)
               | (show tellB .n x = (firstT x [.c b, .n]).1; rw [e]; rfl))


set_option maxHeartbeats 16000000 in
theorem char_n (x : Sg) (a b : Tbl) (ha : a.bfs.length ≤ 1000000) (hb : b.bfs.length ≤ 1000000) : Fn Tryz.prog 35 [.agg (cG x), .sl 1 1 (elt [[.iface 126 (.agg [])]])] (.st (.agg (cH (charT [.n] x)))) := by
  have hC : COK Tryz.prog (cfgM M CL) := Ty.ty.cfgM methsOK callsOK
  ((refine Fn.ofF hC Tryz.func35 Tryz.ntmps35 rfl rfl rfl ?_); (repeat' first | (with_reducible exact trivial) | (with_reducible rfl) | (refine And.intro ?_ ?_) | (refine Need.mk ?_) | exact True.intro | (first | (refine ⟨_, Told.refl _, ?_, ?_⟩) | (refine ⟨⟨_, _⟩, Told.refl _, ?_, ?_⟩) | (refine ⟨⟨_, _, _⟩, Told.refl _, ?_, ?_⟩) | (refine ⟨⟨_, _, _, _⟩, Told.refl _, ?_, ?_⟩) | (refine ⟨⟨_, _, _, _, _⟩, Told.refl _, ?_, ?_⟩) | (refine ⟨(), Told.refl _, ?_, ?_⟩)) | (with_reducible intro _) | (refine fun (_ : Bool) => ?_)))
  any_goals decide
  · have hf : x.p.full = false := by simpa using ‹(!x.p.full) = true›
    have hr : charT [.n] x = ⟨x.p, x.cid, 0, encB [65533]⟩ := by
      unfold charT
      rw [hf]
      rfl
    rw [hr]
    refine AW.loop (I := fun k : Nat => ⟨44, [(2, .ptr 0 0), (4, .ptr 1 0), (5, .ptr 2 0), (24, .sl 1 1 (elt [[.iface 126 (.agg [])]])), (25, .int .i64 1), (26, .int .i64 k)], [.box 83 (cG x), .box 55 [.int .i64 0, .int .i64 0, .lit false, .int .i64 0, .int .i64 0, .int .i64 0, .int .i64 0, .str ByteArray.empty], .box 55 (cH ⟨x.p, x.cid, 0, ByteArray.empty⟩)]⟩) (fun k => k = 0) (fun k => 1 - k) 0 rfl ?_ ?_
    · (repeat' first | (with_reducible exact trivial) | (with_reducible rfl) | (refine And.intro ?_ ?_) | (refine Need.mk ?_) | exact True.intro | (first | (refine ⟨_, Told.refl _, ?_, ?_⟩) | (refine ⟨⟨_, _⟩, Told.refl _, ?_, ?_⟩) | (refine ⟨⟨_, _, _⟩, Told.refl _, ?_, ?_⟩) | (refine ⟨⟨_, _, _, _⟩, Told.refl _, ?_, ?_⟩) | (refine ⟨⟨_, _, _, _, _⟩, Told.refl _, ?_, ?_⟩) | (refine ⟨(), Told.refl _, ?_, ?_⟩)) | (with_reducible intro _) | (refine fun (_ : Bool) => ?_))
      all_goals first
        | rfl
        | decide
        | (rename_i i hi
           have hi : i < 1 := hi
           have h0 : i = 0 := by omega
           subst h0
           have e9 : (IntKind.i64.wrap (((1 : Nat) : Int) - 1)).toNat = 0 := by decide
           show cond (ones [.iface 126 (.agg [])]) (subs0 [.iface 126 (.agg [])] (elt [[.iface 126 (.agg [])]] ((IntKind.i64.wrap (((1 : Nat) : Int) - 1)).toNat + 0))) False
           rw [e9]
           exact (cTl_emb .n).2.1)
    · rintro k rfl
      ((refine AW.byF ‹_› ?_); (repeat' first | (with_reducible exact trivial) | (with_reducible rfl) | (refine And.intro ?_ ?_) | (refine Need.mk ?_) | exact True.intro | (first | (refine ⟨_, Told.refl _, ?_, ?_⟩) | (refine ⟨⟨_, _⟩, Told.refl _, ?_, ?_⟩) | (refine ⟨⟨_, _, _⟩, Told.refl _, ?_, ?_⟩) | (refine ⟨⟨_, _, _, _⟩, Told.refl _, ?_, ?_⟩) | (refine ⟨⟨_, _, _, _, _⟩, Told.refl _, ?_, ?_⟩) | (refine ⟨(), Told.refl _, ?_, ?_⟩)) | (with_reducible intro _) | (refine fun (_ : Bool) => ?_)))
      all_goals first | decide | (exact absurd ‹decide (((0 : Nat) : Int) < 1) = false› (by decide)) | rfl

  · have hf : x.p.full = true := by simpa using ‹(!x.p.full) = false›
    have hr : charT [.n] x = ⟨x.p, x.cid, (firstT x [.n]).2, (firstT x [.n]).1⟩ := by
      unfold charT
      rw [if_pos hf]
    rw [hr]
    refine AW.loop (I := fun k : Nat => ⟨44, [(2, .ptr 0 0), (4, .ptr 1 0), (5, .ptr 2 0), (24, .sl 1 1 (elt [[.iface 126 (.agg [])]])), (25, .int .i64 1), (26, .int .i64 k)], [.box 83 (cG x), .box 55 [.int .i64 0, .int .i64 0, .lit false, .int .i64 0, .int .i64 0, .int .i64 0, .int .i64 0, .str ByteArray.empty], .box 55 (cH ⟨x.p, x.cid, 0, ByteArray.empty⟩)]⟩) (fun k => k < 1 ∧ firstT x [.n] = firstT x ([.n].drop k)) (fun k => 1 - k) 0 ⟨by decide, rfl⟩ ?_ ?_
    · (repeat' first | (with_reducible exact trivial) | (with_reducible rfl) | (refine And.intro ?_ ?_) | (refine Need.mk ?_) | exact True.intro | (first | (refine ⟨_, Told.refl _, ?_, ?_⟩) | (refine ⟨⟨_, _⟩, Told.refl _, ?_, ?_⟩) | (refine ⟨⟨_, _, _⟩, Told.refl _, ?_, ?_⟩) | (refine ⟨⟨_, _, _, _⟩, Told.refl _, ?_, ?_⟩) | (refine ⟨⟨_, _, _, _, _⟩, Told.refl _, ?_, ?_⟩) | (refine ⟨(), Told.refl _, ?_, ?_⟩)) | (with_reducible intro _) | (refine fun (_ : Bool) => ?_))
      all_goals first
        | rfl
        | decide
        | exact lit_self (L := [.n]) _ ‹_›
    · rintro k ⟨hk, hg⟩
      have hc : k = 0 := by omega
      subst hc
      · -- round 0
        have g : firstT x ([.n].drop 0) = match tellO (.n) x with
          | some b => (b, 0)
          | none => firstT x ([.n].drop 1) := rfl
        ((refine AW.byF ‹_› ?_); (repeat' first | (with_reducible exact trivial) | (with_reducible rfl) | (refine And.intro ?_ ?_) | (refine Need.mk ?_) | exact True.intro | (first | (refine ⟨_, Told.refl _, ?_, ?_⟩) | (refine ⟨⟨_, _⟩, Told.refl _, ?_, ?_⟩) | (refine ⟨⟨_, _, _⟩, Told.refl _, ?_, ?_⟩) | (refine ⟨⟨_, _, _, _⟩, Told.refl _, ?_, ?_⟩) | (refine ⟨⟨_, _, _, _, _⟩, Told.refl _, ?_, ?_⟩) | (refine ⟨(), Told.refl _, ?_, ?_⟩)) | (with_reducible intro _) | (refine fun (_ : Bool) => ?_)))
        all_goals first
          | decide
          | assumption
          | (exact absurd ‹decide (((0 : Nat) : Int) < 1) = false› (by decide))
          | skip
        all_goals first
          | decide
          | exact lit_self (L := [.n]) _ ‹_›
          | (have q := ‹(tellO (.n) x).isSome = true›
             obtain ⟨u, hu⟩ := Option.isSome_iff_exists.1 q
             have e : firstT x [.n] = (u, 0) := by rw [hg, g, hu]
             first
               | (show (0 : Int) = (firstT x [.n]).2; rw [e]; done)
               | (show tellB (.n) x = (firstT x [.n]).1; rw [e]; unfold tellB; rw [hu]; rfl))
          | (have q : tellO (.n) x = none := by simpa using ‹(tellO (.n) x).isSome = false›
             rw [hg, g, q]
             done)
          | (have e : firstT x [.n] = (encB [65533], 0) := hg
             first
               | (show (0 : Int) = (firstT x [.n]).2; rw [e]; done)
               | (show tellB .n x = (firstT x [.n]).1; rw [e]; rfl))

end Go.Abs.Cp
set_option maxRecDepth 100000
namespace Go.Abs.Cp
open Go.RowKit Go.Proofs Go.Abs.Tab Go.Abs.Dest Go.Abs.Span Go.Abs.Coll Go.Abs.Hx Go.Abs.Mt Go.Abs.Lk Go.Abs.Rc Go.Abs.Utf Go.Abs.Txt
theorem told_tl {x : Sg} {L : List Tl} {n : Nat} {el : Nat → List AV} (hn : n = L.length) (h : ∀ i, i < n → el i = cTl (L.getD i default)) : Told [.agg (cG x), .sl 1 n el] [.agg (cG x), aTl L] := by
  refine Told.of ⟨(cG_emb x).2.1, ⟨⟨hn.symm⟩, fun i hi => ?_⟩, trivial⟩
  rw [h i hi]
  show cond (ones (cTl (L.getD i default))) (subs0 (cTl (L.getD i default)) (cTl (L.getD i default))) False
  rw [(cTl_emb _).1]
  exact (cTl_emb _).2.1
def SChar : Sp := ⟨Sg × Fnt, fun (x, f) => small f.uni ∧ small f.coll, fun (x, f) => [.agg (cG x), aTl (tls f)], fun (x, f) => .st (.agg (cH (charT (tls f) x)))⟩
theorem charC : SpOK Tryz.prog 35 SChar := fun ⟨x, f⟩ ⟨⟨_, _, _, hu⟩, ⟨_, _, _, hc⟩⟩ => by
  show Fn Tryz.prog 35 [.agg (cG x), aTl (tls f)] (.st (.agg (cH (charT (tls f) x))))
  cases h1 : f.hasUni <;> cases h2 : f.hasColl
  · have e : tls f = [.n] := by unfold tls; rw [h1, h2]; rfl
    rw [e]
    refine (char_n x f.uni f.coll hu hc).told (told_tl rfl fun i hi => ?_)
    obtain rfl : i = 0 := by omega
    rfl
  · have e : tls f = [.c f.coll, .n] := by unfold tls; rw [h1, h2]; rfl
    rw [e]
    refine (char_cn x f.uni f.coll hu hc).told (told_tl rfl fun i hi => ?_)
    have q : i = 0 ∨ i = 1 := by omega
    rcases q with rfl | rfl <;> rfl
  · have e : tls f = [.u f.uni, .n] := by unfold tls; rw [h1, h2]; rfl
    rw [e]
    refine (char_un x f.uni f.coll hu hc).told (told_tl rfl fun i hi => ?_)
    have q : i = 0 ∨ i = 1 := by omega
    rcases q with rfl | rfl <;> rfl
  · have e : tls f = [.u f.uni, .c f.coll, .n] := by unfold tls; rw [h1, h2]; rfl
    rw [e]
    refine (char_ucn x f.uni f.coll hu hc).told (told_tl rfl fun i hi => ?_)
    have q : i = 0 ∨ i = 1 ∨ i = 2 := by omega
    rcases q with rfl | rfl | rfl <;> rfl
def chars (f : Fnt) (s : List Int) : List Chr := if saneF f = true then (sgs f.enc s).map (charT (tls f)) else []
theorem getH {l : List Chr} {i : Nat} (h : i < l.length) : l.getD i default = l[i] := by simp [List.getD, h]
theorem chars_len (f : Fnt) (s : List Int) : (chars f s).length ≤ s.length := by
  unfold chars
  split
  · rw [List.length_map]
    exact sgs_len _ _
  · exact Nat.zero_le _
def SAllF : Sp := ⟨Fnt × List Int, fun (f, s) => (small f.enc ∧ small f.uni ∧ small f.coll) ∧ s.length ≤ 1000000 ∧ B8 s, fun (f, s) => [.agg (cFn f), a8 s], fun (f, s) => .row 55 8 (chars f s).length (els cH (chars f s))⟩
theorem map_nextC {f : Sg → Chr} {L : List Sg} {k : Nat} (hk : k < L.length) : (L.take (k + 1)).map f = (L.take k).map f ++ [f (L.getD k default)] := by
  rw [List.take_succ_eq_append_getElem hk, List.map_append, getG hk]
  rfl
set_option maxHeartbeats 16000000 in
theorem compAll : SpOK Tryz.prog 15 SAllF := fun ⟨f, s⟩ ⟨⟨h1, h2, h3⟩, hl, h8⟩ => by
  have hC : COK Tryz.prog (cfg [(10, SSaneF), (33, STls), (34, SLook), (35, SChar)]) := Ty.ty.cfg ⟨saneFC, tellers, Lk.look, charC, trivial⟩
  obtain ⟨a1, a2, a3, a4⟩ := h1
  obtain ⟨b1, b2, b3, b4⟩ := h2
  obtain ⟨c1, c2, c3, c4⟩ := h3
  have hsm : smallT f.enc := ⟨by omega, by omega, by omega, by omega⟩
  have hsl := sgs_len f.enc s
  have hall : ∀ b, saneF f = b → chars f s = if b = true then (sgs f.enc s).map (charT (tls f)) else [] := fun b e => by unfold chars; rw [e]
  ((refine Fn.ofF hC Tryz.func15 Tryz.ntmps15 rfl rfl rfl ?_); (repeat' first | (with_reducible exact trivial) | (with_reducible rfl) | (refine And.intro ?_ ?_) | (refine Need.mk ?_) | exact True.intro | (first | (refine ⟨_, Told.refl _, ?_, ?_⟩) | (refine ⟨⟨_, _⟩, Told.refl _, ?_, ?_⟩) | (refine ⟨⟨_, _, _⟩, Told.refl _, ?_, ?_⟩) | (refine ⟨⟨_, _, _, _⟩, Told.refl _, ?_, ?_⟩) | (refine ⟨⟨_, _, _, _, _⟩, Told.refl _, ?_, ?_⟩) | (refine ⟨(), Told.refl _, ?_, ?_⟩)) | (with_reducible intro _) | (refine fun (_ : Bool) => ?_)))
  all_goals first | omega | exact hsm | exact h8 | skip
  · have e : chars f s = [] := if_neg (by simpa using ‹(!saneF f) = true›)
    rw [e]
    rfl
  have hs : saneF f = true := by simpa using ‹(!saneF f) = false›
  have e : chars f s = (sgs f.enc s).map (charT (tls f)) := if_pos hs
  refine AW.loop (I := fun k : Nat => ⟨31, [(5, aTl (tls f)), (6, .own 0), (17, .own 1), (18, .int .i64 (sgs f.enc s).length), (19, .int .i64 k)], [.row 55 8 (((sgs f.enc s).take k).map (charT (tls f))).length (els cH (((sgs f.enc s).take k).map (charT (tls f)))), .row 83 9 (sgs f.enc s).length (els cG (sgs f.enc s))]⟩) (fun k => k ≤ (sgs f.enc s).length) (fun k => (sgs f.enc s).length - k) 0 (Nat.zero_le _) ?_ ?_
  · (repeat' first | (with_reducible exact trivial) | (with_reducible rfl) | (refine And.intro ?_ ?_) | (refine Need.mk ?_) | exact True.intro | (first | (refine ⟨_, Told.refl _, ?_, ?_⟩) | (refine ⟨⟨_, _⟩, Told.refl _, ?_, ?_⟩) | (refine ⟨⟨_, _, _⟩, Told.refl _, ?_, ?_⟩) | (refine ⟨⟨_, _, _, _⟩, Told.refl _, ?_, ?_⟩) | (refine ⟨⟨_, _, _, _, _⟩, Told.refl _, ?_, ?_⟩) | (refine ⟨(), Told.refl _, ?_, ?_⟩)) | (with_reducible intro _) | (refine fun (_ : Bool) => ?_))
    all_goals first | rfl | exact els_of cTl_emb (n := 0) (fun _ _ => rfl) _ ‹_›
  · intro k hk
    rcases Nat.lt_or_ge k (sgs f.enc s).length with hlt | hge
    · have hd : decide ((k : Int) < ((sgs f.enc s).length : Int)) = true := decide_eq_true (by omega)
      have hw := iw (n := (k : Int) + 1) (by omega) (by omega)
      have hnx := map_nextC (f := charT (tls f)) hlt
      have hml : (((sgs f.enc s).take k).map (charT (tls f))).length ≤ (sgs f.enc s).length := by rw [List.length_map, List.length_take]; omega
      ((refine AW.byF ‹_› ?_); (repeat' first | (with_reducible exact trivial) | (with_reducible rfl) | (refine And.intro ?_ ?_) | (refine Need.mk ?_) | exact True.intro | (first | (refine ⟨_, Told.refl _, ?_, ?_⟩) | (refine ⟨⟨_, _⟩, Told.refl _, ?_, ?_⟩) | (refine ⟨⟨_, _, _⟩, Told.refl _, ?_, ?_⟩) | (refine ⟨⟨_, _, _, _⟩, Told.refl _, ?_, ?_⟩) | (refine ⟨⟨_, _, _, _, _⟩, Told.refl _, ?_, ?_⟩) | (refine ⟨(), Told.refl _, ?_, ?_⟩)) | (with_reducible intro _) | (refine fun (_ : Bool) => ?_)))
      all_goals first | (exact absurd ‹decide ((k : Int) < ((sgs f.enc s).length : Int)) = false› (by rw [hd]; decide)) | skip
      any_goals (refine Exists.intro (k + 1) (And.intro ?_ (And.intro ?_ ?_)); all_goals (repeat' first | (with_reducible exact trivial) | (with_reducible rfl) | (refine And.intro ?_ ?_) | (refine Need.mk ?_) | exact True.intro | (first | (refine ⟨_, Told.refl _, ?_, ?_⟩) | (refine ⟨⟨_, _⟩, Told.refl _, ?_, ?_⟩) | (refine ⟨⟨_, _, _⟩, Told.refl _, ?_, ?_⟩) | (refine ⟨⟨_, _, _, _⟩, Told.refl _, ?_, ?_⟩) | (refine ⟨⟨_, _, _, _, _⟩, Told.refl _, ?_, ?_⟩) | (refine ⟨(), Told.refl _, ?_, ?_⟩)) | (with_reducible intro _) | (refine fun (_ : Bool) => ?_)))
      all_goals try simp only [Int.toNat_natCast] at *
      all_goals first
        | omega
        | (show ((((sgs f.enc s).take k).map (charT (tls f))).length + 1) * 80 ≤ _; omega)
        | (rw [hw]; rfl)
        | (rw [hnx, List.length_append]; rfl)
        | (rename_i z hz
           rw [hnx] at hz ⊢
           exact els_of cH_emb (n := 0) (cat_snoc rfl) z hz)
        | exact els_of cTl_emb (n := 0) (fun _ _ => rfl) _ ‹_›
    · obtain rfl : k = (sgs f.enc s).length := by omega
      have hd : decide (((sgs f.enc s).length : Int) < ((sgs f.enc s).length : Int)) = false := decide_eq_false (by omega)
      ((refine AW.byF ‹_› ?_); (repeat' first | (with_reducible exact trivial) | (with_reducible rfl) | (refine And.intro ?_ ?_) | (refine Need.mk ?_) | exact True.intro | (first | (refine ⟨_, Told.refl _, ?_, ?_⟩) | (refine ⟨⟨_, _⟩, Told.refl _, ?_, ?_⟩) | (refine ⟨⟨_, _, _⟩, Told.refl _, ?_, ?_⟩) | (refine ⟨⟨_, _, _, _⟩, Told.refl _, ?_, ?_⟩) | (refine ⟨⟨_, _, _, _, _⟩, Told.refl _, ?_, ?_⟩) | (refine ⟨(), Told.refl _, ?_, ?_⟩)) | (with_reducible intro _) | (refine fun (_ : Bool) => ?_)))
      all_goals first | (exact absurd ‹decide (((sgs f.enc s).length : Int) < ((sgs f.enc s).length : Int)) = true› (by rw [hd]; decide)) | skip
      all_goals rw [e, List.take_length]
def SCidsF : Sp := ⟨Fnt × List Int, fun (f, s) => (small f.enc ∧ small f.uni ∧ small f.coll) ∧ s.length ≤ 1000000 ∧ B8 s, fun (f, s) => [.agg (cFn f), a8 s], fun (f, s) => .row 3 1 ((chars f s).map Chr.cid).length (els ci ((chars f s).map Chr.cid))⟩
theorem cid_next {L : List Chr} {k : Nat} (hk : k < L.length) : (L.take (k + 1)).map Chr.cid = (L.take k).map Chr.cid ++ [(L.getD k default).cid] := by
  rw [List.take_succ_eq_append_getElem hk, List.map_append, getH hk]
  rfl
set_option maxHeartbeats 16000000 in
theorem compCids : SpOK Tryz.prog 20 SCidsF := fun ⟨f, s⟩ ⟨⟨⟨a1, a2, a3, a4⟩, ⟨b1, b2, b3, b4⟩, ⟨c1, c2, c3, c4⟩⟩, hl, h8⟩ => by
  have hC : COK Tryz.prog (cfg [(15, SAllF)]) := Ty.ty.cfg ⟨compAll, trivial⟩
  have hcl := chars_len f s
  ((refine Fn.ofF hC Tryz.func20 Tryz.ntmps20 rfl rfl rfl ?_); (repeat' first | (with_reducible exact trivial) | (with_reducible rfl) | (refine And.intro ?_ ?_) | (refine Need.mk ?_) | exact True.intro | (first | (refine ⟨_, Told.refl _, ?_, ?_⟩) | (refine ⟨⟨_, _⟩, Told.refl _, ?_, ?_⟩) | (refine ⟨⟨_, _, _⟩, Told.refl _, ?_, ?_⟩) | (refine ⟨⟨_, _, _, _⟩, Told.refl _, ?_, ?_⟩) | (refine ⟨⟨_, _, _, _, _⟩, Told.refl _, ?_, ?_⟩) | (refine ⟨(), Told.refl _, ?_, ?_⟩)) | (with_reducible intro _) | (refine fun (_ : Bool) => ?_)))
  all_goals first | omega | exact h8 | skip
  refine AW.loop (I := fun k : Nat => ⟨23, [(5, .own 0), (10, .own 1), (11, .int .i64 (chars f s).length), (12, .int .i64 k)], [.row 3 1 (((chars f s).take k).map Chr.cid).length (els ci (((chars f s).take k).map Chr.cid)), .row 55 8 (chars f s).length (els cH (chars f s))]⟩) (fun k => k ≤ (chars f s).length) (fun k => (chars f s).length - k) 0 (Nat.zero_le _) ?_ ?_
  · (repeat' first | (with_reducible exact trivial) | (with_reducible rfl) | (refine And.intro ?_ ?_) | (refine Need.mk ?_) | exact True.intro | (first | (refine ⟨_, Told.refl _, ?_, ?_⟩) | (refine ⟨⟨_, _⟩, Told.refl _, ?_, ?_⟩) | (refine ⟨⟨_, _, _⟩, Told.refl _, ?_, ?_⟩) | (refine ⟨⟨_, _, _, _⟩, Told.refl _, ?_, ?_⟩) | (refine ⟨⟨_, _, _, _, _⟩, Told.refl _, ?_, ?_⟩) | (refine ⟨(), Told.refl _, ?_, ?_⟩)) | (with_reducible intro _) | (refine fun (_ : Bool) => ?_))
    all_goals first | rfl
  · intro k hk
    rcases Nat.lt_or_ge k (chars f s).length with hlt | hge
    · have hd : decide ((k : Int) < ((chars f s).length : Int)) = true := decide_eq_true (by omega)
      have hw := iw (n := (k : Int) + 1) (by omega) (by omega)
      have hnx := cid_next hlt
      have hml : (((chars f s).take k).map Chr.cid).length ≤ (chars f s).length := by rw [List.length_map, List.length_take]; omega
      ((refine AW.byF ‹_› ?_); (repeat' first | (with_reducible exact trivial) | (with_reducible rfl) | (refine And.intro ?_ ?_) | (refine Need.mk ?_) | exact True.intro | (first | (refine ⟨_, Told.refl _, ?_, ?_⟩) | (refine ⟨⟨_, _⟩, Told.refl _, ?_, ?_⟩) | (refine ⟨⟨_, _, _⟩, Told.refl _, ?_, ?_⟩) | (refine ⟨⟨_, _, _, _⟩, Told.refl _, ?_, ?_⟩) | (refine ⟨⟨_, _, _, _, _⟩, Told.refl _, ?_, ?_⟩) | (refine ⟨(), Told.refl _, ?_, ?_⟩)) | (with_reducible intro _) | (refine fun (_ : Bool) => ?_)))
      all_goals first | (exact absurd ‹decide ((k : Int) < ((chars f s).length : Int)) = false› (by rw [hd]; decide)) | skip
      any_goals (refine Exists.intro (k + 1) (And.intro ?_ (And.intro ?_ ?_)); all_goals (repeat' first | (with_reducible exact trivial) | (with_reducible rfl) | (refine And.intro ?_ ?_) | (refine Need.mk ?_) | exact True.intro | (first | (refine ⟨_, Told.refl _, ?_, ?_⟩) | (refine ⟨⟨_, _⟩, Told.refl _, ?_, ?_⟩) | (refine ⟨⟨_, _, _⟩, Told.refl _, ?_, ?_⟩) | (refine ⟨⟨_, _, _, _⟩, Told.refl _, ?_, ?_⟩) | (refine ⟨⟨_, _, _, _, _⟩, Told.refl _, ?_, ?_⟩) | (refine ⟨(), Told.refl _, ?_, ?_⟩)) | (with_reducible intro _) | (refine fun (_ : Bool) => ?_)))
      all_goals try simp only [Int.toNat_natCast] at *
      all_goals first
        | omega
        | (show ((((chars f s).take k).map Chr.cid).length + 1) * 8 ≤ _; omega)
        | (rw [hw]; rfl)
        | (rw [hnx, List.length_append]; rfl)
        | (rename_i z hz
           rw [hnx] at hz ⊢
           exact els_of ci_emb (n := 0) (cat_snoc rfl) z hz)
    · obtain rfl : k = (chars f s).length := by omega
      have hd : decide (((chars f s).length : Int) < ((chars f s).length : Int)) = false := decide_eq_false (by omega)
      ((refine AW.byF ‹_› ?_); (repeat' first | (with_reducible exact trivial) | (with_reducible rfl) | (refine And.intro ?_ ?_) | (refine Need.mk ?_) | exact True.intro | (first | (refine ⟨_, Told.refl _, ?_, ?_⟩) | (refine ⟨⟨_, _⟩, Told.refl _, ?_, ?_⟩) | (refine ⟨⟨_, _, _⟩, Told.refl _, ?_, ?_⟩) | (refine ⟨⟨_, _, _, _⟩, Told.refl _, ?_, ?_⟩) | (refine ⟨⟨_, _, _, _, _⟩, Told.refl _, ?_, ?_⟩) | (refine ⟨(), Told.refl _, ?_, ?_⟩)) | (with_reducible intro _) | (refine fun (_ : Bool) => ?_)))
      all_goals first | (exact absurd ‹decide (((chars f s).length : Int) < ((chars f s).length : Int)) = true› (by rw [hd]; decide)) | skip
      all_goals rw [List.take_length]
end Go.Abs.Cp
set_option maxRecDepth 100000
namespace Go.Abs.Cp
open Go.RowKit Go.Proofs Go.Abs.Tab Go.Abs.Dest Go.Abs.Span Go.Abs.Coll Go.Abs.Hx Go.Abs.Mt Go.Abs.Lk Go.Abs.Rc Go.Abs.Utf
open Go.Abs.Txt (isB_below)
attribute [local go_sem] Oper.semAt_some
def encT (l : List Chr) : List UInt8 := l.flatMap fun c => c.text.data.toList
def txtT (l : List Chr) : ByteArray := ⟨(encT l).toArray⟩
theorem encT_len : ∀ (l : List Chr), (∀ c ∈ l, c.text.size ≤ 10000000) → (encT l).length ≤ 10000000 * l.length
  | [], _ => by simp [encT]
  | c :: l, h => by
    have ih := encT_len l (fun x hx => h x (List.mem_cons_of_mem _ hx))
    have h1 : c.text.data.toList.length ≤ 10000000 := h c List.mem_cons_self
    unfold encT at ih ⊢
    rw [List.flatMap_cons, List.length_append, List.length_cons]
    omega
def encH (c : Chr) : List Value := [.int .i64 c.p.at_, .int .i64 c.p.n, .bool c.p.full, .int .i64 c.p.cn, .int .i64 c.p.cv, .int .i64 c.cid, .int .i64 c.from_, .string c.text]
theorem rowCells {w1 : World} {S1 : Nat → Prop} {base : Nat} {L : List Chr} {v : Value} (h : Res w1 S1 base (.row 55 8 L.length (els cH L)) v) : ∃ A c g, v = .slice A L.length c ∧ (0 < L.length → base ≤ g ∧ ∃ cs, w1.heap[g]? = some (.cells cs 55 (0, 0))) ∧ ∀ i, i < L.length → ∃ ad, A = some ad ∧ ad.block = g ∧ ∀ j x, (encH (L.getD i default))[j]? = some x → w1.cell? (ad.add (i * 8 + j)) = some x := by
  obtain ⟨⟨inner, ho, hi⟩, _⟩ := h
  have hc : ∀ i, i < L.length → ∀ j x, (encH (L.getD i default))[j]? = some x → inner[i * 8 + j]? = some x := fun i hil j x hx => by
    obtain ⟨_, _, h3⟩ := hi i hil
    have hj : j < 8 := (List.getElem?_eq_some_iff.1 hx).1
    have hj' : j = 0 ∨ j = 1 ∨ j = 2 ∨ j = 3 ∨ j = 4 ∨ j = 5 ∨ j = 6 ∨ j = 7 := by omega
    rcases hj' with rfl | rfl | rfl | rfl | rfl | rfl | rfl | rfl
    · obtain ⟨u, h4, h5⟩ := h3 0 _ rfl
      obtain rfl := Option.some.inj hx
      rw [h4]
      cases h5
      rfl
    · obtain ⟨u, h4, h5⟩ := h3 1 _ rfl
      obtain rfl := Option.some.inj hx
      rw [h4]
      cases h5
      rfl
    · obtain ⟨u, h4, h5⟩ := h3 2 _ rfl
      obtain rfl := Option.some.inj hx
      rw [h4]
      cases h5
      rfl
    · obtain ⟨u, h4, h5⟩ := h3 3 _ rfl
      obtain rfl := Option.some.inj hx
      rw [h4]
      cases h5
      rfl
    · obtain ⟨u, h4, h5⟩ := h3 4 _ rfl
      obtain rfl := Option.some.inj hx
      rw [h4]
      cases h5
      rfl
    · obtain ⟨u, h4, h5⟩ := h3 5 _ rfl
      obtain rfl := Option.some.inj hx
      rw [h4]
      cases h5
      rfl
    · obtain ⟨u, h4, h5⟩ := h3 6 _ rfl
      obtain rfl := Option.some.inj hx
      rw [h4]
      cases h5
      rfl
    · obtain ⟨u, h4, h5⟩ := h3 7 _ rfl
      obtain rfl := Option.some.inj hx
      rw [h4]
      cases h5
      rfl
  have hcell := fun (g : Nat) (h : v.ownBlock = some g) => ho.cells (g := g) h
  rcases ho.2 with ⟨rfl, hn⟩ | ⟨g, cap, cur, rfl, hbg, hg, _⟩
  · refine ⟨none, 0, 0, by rw [hn], fun q => by omega, fun i hil => by omega⟩
  · refine ⟨some ⟨g, 0, none⟩, cap, g, rfl, fun _ => ⟨hbg, cur, hg⟩, fun i hil => ⟨_, rfl, rfl, fun j x hx => ?_⟩⟩
    exact hcell g rfl _ _ (hc i hil j x hx)
theorem wpLoadF {P : Program} {ops : Array Oper} {rest : List Oper} {o : Oper} {a : Act} {Q : Exit → Act → World → Prop} {w : World} (hg : o.guard = none) (x : Operand) (t : TypeId) (hop : o.op = Op.load t x) (v u : Value) (hx : a.eval x = v) (hrun : (Instr.loadAt t v).run P w = .ok u w)
    (hK : wpList P ops Q rest (a.put o.dst u) w) : wpList P ops Q (o :: rest) a w := by
  refine wpList_plain hg fun K' hK' => ?_
  unfold Oper.wp
  simp only [execOp, hop, hx, Sem.run_bind, hrun, Result.andThen_ok, Sem.run_pure]
  exact hK' _ _ hK
theorem loadF (W : World) (b : Nat) (cs : List Value) (hl : cs.length = 20) (hb : W.heap[b]? = some (.cells cs.toArray 35 (0, 0))) : (Instr.loadAt 35 (.pointer (some ⟨b, 0, none⟩))).run Tryz.prog W = .ok (.agg cs.toArray) W := by
  obtain ⟨d, info, z, hd, hi, hsz, _, _, _, hT, _, _⟩ := base.ty 35 _ rfl
  have hag := TDok.agg hd hT
  have hz : info.size = 20 := hsz
  have hcell : ∀ (j : Nat) (x : Value), cs[j]? = some x → W.cell? ((⟨b, 0, none⟩ : Addr).add j) = some x := fun j x hx => by
    have e : (⟨b, 0, none⟩ : Addr).add j = ⟨b, j, none⟩ := by unfold Addr.add; split <;> simp_all
    rw [e, blk_cell hb]
    simpa using hx
  have hld := run_loadCells_list (P := Tryz.prog) W ⟨b, 0, none⟩ cs hcell
  rw [hl] at hld
  unfold Instr.loadAt loadVar
  simp only [Instr.sureAddr, Sem.run_bind, Sem.run_pure, Result.andThen_ok, run_isAgg hd, hag]
  show ((if (true : Bool) = true then _ else _ : Sem Value).run Tryz.prog W) = _
  simp only [if_true, Sem.run_bind, run_sizeOf hi, Result.andThen_ok, hz, hld, Sem.run_pure]
set_option maxHeartbeats 8000000 in
theorem compTextC (f : Fnt) (s : List Int) (S : Nat → Prop) (w : World) (cs : List Value) (hcs : cs.length = 20) (vs : Value) (hS : ∀ b, S b → b < w.heap.size) (hv : RVs0 w S [.agg (cFn f), a8 s] [.agg cs.toArray, vs]) (hp : SAllF.pre (f, s)) (ht : ∀ c ∈ chars f s, c.text.size ≤ 10000000) :
    Calls Tryz.prog 17 #[.agg cs.toArray, vs] w fun e w' => e = .returned (.string (txtT (chars f s))) ∧ Below w.heap.size w w' := by
  have hall : ∀ W, Below w.heap.size w W → Calls Tryz.prog 15 #[.agg cs.toArray, vs] W fun e w1 => ∃ A c g, e = .returned (.slice A (chars f s).length c) ∧ (0 < (chars f s).length → W.heap.size ≤ g ∧ ∃ cs, w1.heap[g]? = some (.cells cs 55 (0, 0))) ∧ (∀ i, i < (chars f s).length → ∃ ad, A = some ad ∧ ad.block = g ∧ ∀ j x, (encH ((chars f s).getD i default))[j]? = some x → w1.cell? (ad.add (i * 8 + j)) = some x) ∧ Below W.heap.size W w1 := fun W hW => by
    refine ((compAll (f, s) hp).2 W S [.agg cs.toArray, vs] (fun b hb => Nat.lt_of_lt_of_le (hS b hb) hW.size) ⟨hv.1, fun i a v h1 h2 => (hv.2 i a v h1 h2).mono (fun _ q => q) (fun b hb => hW.block b (hS b hb))⟩).mono ?_
    rintro e w1 ⟨v, S', rfl, hr, _, _, hb⟩
    obtain ⟨A, c, g, rfl, h1, h2⟩ := rowCells hr
    exact ⟨A, c, g, rfl, h1, h2, hb⟩
  obtain ⟨L, hL⟩ : ∃ L, L = chars f s := ⟨_, rfl⟩
  have hll : L.length ≤ 1000000 := by
    rw [hL]
    exact Nat.le_trans (chars_len f s) hp.2.1
  rw [← hL] at hall ht ⊢
  have hbx : ∀ W, (Instr.box 35 (.agg cs.toArray)).run Tryz.prog W = .ok (.pointer (some ⟨W.heap.size, 0, none⟩)) (W.alloc (.cells cs.toArray 35)) := fun W => rfl
  have hld : (Instr.loadAt 35 (.pointer (some ⟨w.heap.size, 0, none⟩))).run Tryz.prog ((w.alloc (.cells cs.toArray 35)).alloc (.cells #[.pointer none, .slice none 0 0] 93)) = .ok (.agg cs.toArray) ((w.alloc (.cells cs.toArray 35)).alloc (.cells #[.pointer none, .slice none 0 0] 93)) :=
    loadF _ _ cs hcs ((Below.heap_alloc _ _ _ (by simp)).trans (heap_alloc_new w _))
  have HA := Aside0.mk hall
  have HT := Aside0.mk ht
  have HL := Aside0.mk hll
  have HB0 := Aside0.mk (show Below w.heap.size w ((w.alloc (.cells cs.toArray 35)).alloc (.cells #[.pointer none, .slice none 0 0] 93)) from b_alloc (b_alloc (Below.refl _ _) (Nat.le_refl _) _) (Nat.le_refl _) _)
  have hfr := Lib.IsBuilderF.of (Lib.fresh_isBuilder 93 5 (w.alloc (.cells cs.toArray 35)))
  have hs1 : (w.alloc (.cells cs.toArray 35)).heap.size = w.heap.size + 1 := Array.size_push ..
  have hs2 : ((w.alloc (.cells cs.toArray 35)).alloc (.cells #[.pointer none, .slice none 0 0] 93)).heap.size = w.heap.size + 2 := (Array.size_push ..).trans (congrArg (· + 1) hs1)
  rw [hs1] at hfr
  have HF := Aside0.mk hfr
  have HS2 := Aside0.mk hs2
  clear hall ht hll hL hS hv hp hfr hs2 hcs
  go_enter Tryz.func17, Tryz.ntmps17
  go_wp2_with (first | (refine wpLoadF rfl (.tmp 2) 35 rfl _ _ rfl hld ?_) | (go_at_call 15; refine (HA.out _ HB0.out).mono ?_; rintro e w1 ⟨A, c0, g, rfl, hg1, hc1, hb1⟩; have HG1 := Aside0.mk hg1; have HC1 := Aside0.mk hc1; have HBW := Aside0.mk (HB0.out.trans (hb1.mono HB0.out.size)); have HO1 := Aside0.mk (isB_below HF.out hb1); clear hg1 hc1 hb1))
  clear hbx hld
  go_loopg [12] (L.length + 1) (fun kq v8 w' => ∃ (i : Nat), v8 = .int .i64 (i : Nat) ∧ Aside0 (i ≤ L.length ∧ L.length + 1 ≤ kq + i) ∧ Aside0 (Lib.IsBuilderF 93 5 (w.heap.size + 1) (w.heap.size + 1) (Lib.byteCells (encT (L.take i))) w') ∧ Aside0 (∀ cs, w1.heap[g]? = some (.cells cs 55 (0, 0)) → w'.heap[g]? = some (.cells cs 55 (0, 0))) ∧ Aside0 (Below w.heap.size w w'))
  case atStart => exact ⟨0, rfl, ⟨by omega⟩, HO1, ⟨fun _ h => h⟩, HBW⟩
  case round =>
    obtain ⟨i, rfl, HI, HO, HG, HB⟩ := hrel
    cases gk with
    | zero => have := HI.out; omega
    | succ k1 =>
      by_cases hi : i < L.length
      · have hlt : w.heap.size + 1 < wr.heap.size := HO.out.elim (fun h => h.lt) (fun h => h.lt)
        obtain ⟨ad, ead, hab, hcl⟩ := HC1.out i hi
        subst ead
        obtain ⟨hge, cs1, hcs1⟩ := HG1.out (by omega)
        have hgr := HG.out cs1 hcs1
        rw [HS2.out] at hge
        have hw : ∀ p : Addr, p.block = ad.block → wr.cell? p = w1.cell? p := fun p hp => World.cell?_of_block (by rw [hp, hab, hgr, hcs1])
        obtain ⟨sg, hsg⟩ : ∃ sg, sg = L.getD i default := ⟨_, rfl⟩
        rw [← hsg] at hcl
        have hab2 : ∀ n, (ad.add n).block = ad.block := fun n => by unfold Addr.add; split <;> rfl
        have hao : (ad.add (i * 8)).off = ad.off + i * 8 := by unfold Addr.add; split <;> first | rfl | (rename_i h; omega)
        have hadd : ∀ j, 0 < j → (⟨(ad.add (i * 8)).block, (ad.add (i * 8)).off + j, none⟩ : Addr) = ad.add (i * 8 + j) := fun j hj => by
          rw [hab2, hao]
          unfold Addr.add
          rw [if_neg (by omega), Nat.add_assoc]
        have hx0 : wr.cell? (ad.add (i * 8)) = some (.int .i64 sg.p.at_) := (hw _ (hab2 _)).trans (hcl 0 _ rfl)
        have hx1 : wr.cell? ⟨(ad.add (i * 8)).block, (ad.add (i * 8)).off + 1, none⟩ = some (.int .i64 sg.p.n) := by rw [hadd 1 (by omega)]; exact (hw _ (hab2 _)).trans (hcl 1 _ rfl)
        have hx2 : wr.cell? ⟨(ad.add (i * 8)).block, (ad.add (i * 8)).off + 2, none⟩ = some (.bool sg.p.full) := by rw [hadd 2 (by omega)]; exact (hw _ (hab2 _)).trans (hcl 2 _ rfl)
        have hx3 : wr.cell? ⟨(ad.add (i * 8)).block, (ad.add (i * 8)).off + 3, none⟩ = some (.int .i64 sg.p.cn) := by rw [hadd 3 (by omega)]; exact (hw _ (hab2 _)).trans (hcl 3 _ rfl)
        have hx4 : wr.cell? ⟨(ad.add (i * 8)).block, (ad.add (i * 8)).off + 4, none⟩ = some (.int .i64 sg.p.cv) := by rw [hadd 4 (by omega)]; exact (hw _ (hab2 _)).trans (hcl 4 _ rfl)
        have hx5 : wr.cell? ⟨(ad.add (i * 8)).block, (ad.add (i * 8)).off + 5, none⟩ = some (.int .i64 sg.cid) := by rw [hadd 5 (by omega)]; exact (hw _ (hab2 _)).trans (hcl 5 _ rfl)
        have hx6 : wr.cell? ⟨(ad.add (i * 8)).block, (ad.add (i * 8)).off + 6, none⟩ = some (.int .i64 sg.from_) := by rw [hadd 6 (by omega)]; exact (hw _ (hab2 _)).trans (hcl 6 _ rfl)
        have hx7 : wr.cell? ⟨(ad.add (i * 8)).block, (ad.add (i * 8)).off + 7, none⟩ = some (.string sg.text) := by rw [hadd 7 (by omega)]; exact (hw _ (hab2 _)).trans (hcl 7 _ rfl)
        have htk : encT (L.take (i + 1)) = encT (L.take i) ++ sg.text.data.toList := by
          rw [List.take_succ_eq_append_getElem hi, hsg]
          unfold encT
          rw [List.flatMap_append]
          simp [List.getD, hi]
        have hst : sg.text.size ≤ 10000000 := by
          rw [hsg, getH hi]
          exact HT.out _ (List.getElem_mem hi)
        have p0 : (0 ≤ (i : Int)) = True := eq_true (by omega)
        have p1 : ((i : Int) < (L.length : Int)) = True := eq_true (by omega)
        have hln := encT_len (L.take i) (fun x hx => HT.out x (List.mem_of_mem_take hx))
        rw [List.length_take] at hln
        have HLN := Aside0.mk (show (encT (L.take i)).length ≤ 10000000 * i by omega)
        have HTK := Aside0.mk htk
        have HLi := Aside0.mk hi
        have HST := Aside0.mk hst
        have HGE := Aside0.mk (And.intro hge hlt)
        have HBA := Aside0.mk (show ∀ o, Below w.heap.size w (wr.alloc o) from fun o => b_alloc HB.out (Nat.le_refl _) o)
        have HOA := Aside0.mk (show ∀ o, Lib.IsBuilderF 93 5 (w.heap.size + 1) (w.heap.size + 1) (Lib.byteCells (encT (L.take i))) (wr.alloc o) from fun o => HO.out.alloc o)
        have HGA := Aside0.mk (show ∀ o cs, w1.heap[g]? = some (.cells cs 55 (0, 0)) → (wr.alloc o).heap[g]? = some (.cells cs 55 (0, 0)) from fun o cs h => blk_alloc (HG.out cs h) o)
        clear htk hst hsg hcl hw hadd hab hao hln hgr hcs1 hge hlt hab2
        go_wp2_with (go_at_call 39; refine (Tryz.Builder_WriteString_k (w.heap.size + 1) (w.heap.size + 1) (Lib.byteCells (encT (L.take i))) sg.text _ (HOA.out _) (by rw [Lib.byteCells_length]; have := HL.out; have := HLN.out; have := HST.out; have := HLi.out; omega) (by have := HGE.out; simp; omega)).mono ?_; rintro e W1 ⟨rfl, h1, b1, k1_⟩)
        go_roundg k1
        case measure => have := HI.out; omega
        case rel => exact ⟨i + 1, (by first | rfl | (have := HL.out; have := HLi.out; congr 1; unfold wrap64; omega) | (have := HL.out; have := HLi.out; simp [wrap64]; omega)), ⟨by have := HI.out; have := HLi.out; omega⟩, ⟨by rw [HTK.out, Lib.byteCells_append]; exact Or.inr h1⟩, ⟨fun cs h => k1_ g _ (HGA.out _ cs h) (by intro q; have := Option.some.inj q; have := HGE.out; omega) (fun c fz q => by injection q with _ q; exact absurd q (by decide))⟩, ⟨(HBA.out _).trans (b1.mono (Nat.le_succ _))⟩⟩
      · obtain rfl : i = L.length := by have := HI.out; omega
        have ho := HO.out
        rw [List.take_length] at ho
        clear HO
        have HO := Aside0.mk ho
        clear ho
        go_wp2_with (go_at_call 40; refine (Tryz.Builder_String_any_k (w.heap.size + 1) (w.heap.size + 1) (encT L) _ HO.out (by have : w.heap.size + 1 < wr.heap.size := HO.out.elim (fun h => h.lt) (fun h => h.lt); omega)).mono ?_; rintro e W1 ⟨rfl, _, b1, _⟩)
        go_ret
        exact ⟨rfl, HB.out.trans (b1.mono (Nat.le_succ _))⟩
def STextF : Sp := ⟨Fnt × List Int, fun (f, s) => SAllF.pre (f, s) ∧ ∀ c ∈ chars f s, c.text.size ≤ 10000000, fun (f, s) => [.agg (cFn f), a8 s], fun (f, s) => .st (.str (txtT (chars f s)))⟩
theorem compText : SpOK Tryz.prog 17 STextF := fun ⟨f, s⟩ ⟨hp, ht⟩ => by
  refine ⟨⟨_, Tryz.func17, rfl, rfl⟩, fun w S vs hS hv => ?_⟩
  match vs, hv with
  | [v, u], hv =>
    have h0 := hv.2 0 _ _ rfl rfl
    obtain ⟨cs, rfl, hc⟩ := rv_agg (.st _ _ h0 : RV w S [] _ _)
    refine (compTextC f s S w cs hc.1 u hS hv hp ht).mono ?_
    rintro e w' ⟨rfl, hb⟩
    exact ⟨_, S, rfl, .str _, fun _ q => q, fun b q => ⟨Nat.lt_of_lt_of_le (hS b q) hb.size, .inl q⟩, hb⟩
end Go.Abs.Cp
set_option maxRecDepth 100000
namespace Go.Abs.Cp
open Go.RowKit Go.Proofs Go.Abs.Tab Go.Abs.Dest Go.Abs.Span Go.Abs.Coll Go.Abs.Hx Go.Abs.Mt Go.Abs.Lk Go.Abs.Rc Go.Abs.Utf Go.Abs.Ci
open Go.Abs.Txt (encB enc)
set_option maxHeartbeats 4000000 in
theorem table21 : SpOK Tryz.prog 23 STab := fun (t : Tbl) _ => by
  have hC := base
  ((refine Fn.ofF hC Tryz.func23 Tryz.ntmps23 rfl rfl rfl ?_); (repeat' first | (with_reducible exact trivial) | (with_reducible rfl) | (refine And.intro ?_ ?_) | (refine Need.mk ?_) | exact True.intro | (first | (refine ⟨_, Told.refl _, ?_, ?_⟩) | (refine ⟨⟨_, _⟩, Told.refl _, ?_, ?_⟩) | (refine ⟨⟨_, _, _⟩, Told.refl _, ?_, ?_⟩) | (refine ⟨⟨_, _, _, _⟩, Told.refl _, ?_, ?_⟩) | (refine ⟨⟨_, _, _, _, _⟩, Told.refl _, ?_, ?_⟩) | (refine ⟨(), Told.refl _, ?_, ?_⟩)) | (with_reducible intro _) | (refine fun (_ : Bool) => ?_)))
def SComps : Sp := ⟨Fnt, fun _ => True, fun f => [.agg (cFn f)], fun f => .st (.agg (cFn f))⟩
set_option maxHeartbeats 16000000 in
theorem comps : SpOK Tryz.prog 11 SComps := fun (f : Fnt) _ => by
  have hC : COK Tryz.prog (cfg [(23, STab)]) := Ty.ty.cfg ⟨table21, trivial⟩
  ((refine Fn.ofF hC Tryz.func11 Tryz.ntmps11 rfl rfl rfl ?_); (repeat' first | (with_reducible exact trivial) | (with_reducible rfl) | (refine And.intro ?_ ?_) | (refine Need.mk ?_) | exact True.intro | (first | (refine ⟨_, Told.refl _, ?_, ?_⟩) | (refine ⟨⟨_, _⟩, Told.refl _, ?_, ?_⟩) | (refine ⟨⟨_, _, _⟩, Told.refl _, ?_, ?_⟩) | (refine ⟨⟨_, _, _, _⟩, Told.refl _, ?_, ?_⟩) | (refine ⟨⟨_, _, _, _, _⟩, Told.refl _, ?_, ?_⟩) | (refine ⟨(), Told.refl _, ?_, ?_⟩)) | (with_reducible intro _) | (refine fun (_ : Bool) => ?_)))
def fewF (f : Fnt) : Bool := fewT f.enc && (fewT f.uni && fewT f.coll)
def SFewF : Sp := ⟨Fnt, fun _ => True, fun f => [.agg (cFn f)], fun f => .st (.sb (fewF f))⟩
theorem fewFC : SpOK Tryz.prog 9 SFewF := fun (f : Fnt) _ => by
  have hC : COK Tryz.prog (cfg [(28, SFewT)]) := Ty.ty.cfg ⟨rfewT, trivial⟩
  ((refine Fn.ofF hC Tryz.func9 Tryz.ntmps9 rfl rfl rfl ?_); (repeat' first | (with_reducible exact trivial) | (with_reducible rfl) | (refine And.intro ?_ ?_) | (refine Need.mk ?_) | exact True.intro | (first | (refine ⟨_, Told.refl _, ?_, ?_⟩) | (refine ⟨⟨_, _⟩, Told.refl _, ?_, ?_⟩) | (refine ⟨⟨_, _, _⟩, Told.refl _, ?_, ?_⟩) | (refine ⟨⟨_, _, _, _⟩, Told.refl _, ?_, ?_⟩) | (refine ⟨⟨_, _, _, _, _⟩, Told.refl _, ?_, ?_⟩) | (refine ⟨(), Told.refl _, ?_, ?_⟩)) | (with_reducible intro _) | (refine fun (_ : Bool) => ?_)))
  all_goals
    unfold fewF
    simp_all
theorem few_sm {t : Tbl} (h : fewT t = true) : small t := by
  obtain ⟨⟨_, a, b, c⟩, d, _⟩ := (fewT_iff t).1 h
  exact ⟨by omega, by omega, by omega, by omega⟩
theorem fewF_sm {f : Fnt} (h : (!fewF f) = false) : small f.enc ∧ small f.uni ∧ small f.coll := by
  have h : fewF f = true := by simpa using h
  unfold fewF at h
  rw [Bool.and_eq_true, Bool.and_eq_true] at h
  exact ⟨few_sm h.1, few_sm h.2.1, few_sm h.2.2⟩
/-- No text is long. -/
theorem encB_size (l : List Int) : (encB l).size ≤ 4 * l.length := by
  show (enc l).toArray.size ≤ _
  rw [List.size_toArray]
  exact Txt.enc_len l
theorem tell_short (t : Tl) (x : Sg) : (tellB t x).size ≤ 256 := by
  have h0 : ByteArray.empty.size = 0 := rfl
  have hd : ∀ (l : List Bf) (n v : Int), (((EB.find l n v).map fun a => encB (decU a)).getD ByteArray.empty).size ≤ 256 := fun l n v => by
    cases h : EB.find l n v with
    | none => exact Nat.zero_le _
    | some a =>
      have h1 := encB_size (decU a)
      have h2 := decU_len a
      have h3 := (find_rng h).1
      show (encB (decU a)).size ≤ 256
      omega
  cases t with
  | u t => exact hd _ _ _
  | c t =>
    show ((if x.kind = 0 then none else (EB.find t.bfs 2 x.cid).map fun a => encB (decU a)).getD ByteArray.empty).size ≤ 256
    split
    · exact Nat.zero_le _
    · exact hd _ _ _
  | n =>
    have := encB_size [65533]
    show (encB [65533]).size ≤ 256
    simp at this
    omega
theorem first_short (x : Sg) : ∀ (l : List Tl), (firstT x l).1.size ≤ 256
  | [] => Nat.zero_le _
  | t :: l => by
    have ih := first_short x l
    have h1 := tell_short t x
    unfold tellB at h1
    unfold firstT
    cases h : tellO t x with
    | none => exact ih
    | some b => rw [h] at h1; exact h1
theorem chars_short (f : Fnt) (s : List Int) : ∀ c ∈ chars f s, c.text.size ≤ 10000000 := fun c hc => by
  unfold chars at hc
  split at hc
  · obtain ⟨x, _, rfl⟩ := List.mem_map.1 hc
    have := first_short x (if x.p.full = true then tls f else (tls f).drop ((tls f).length - 1))
    show (firstT x _).1.size ≤ _
    omega
  · cases hc
def fA : Fnt := ⟨identT 0, false, ⟨ByteArray.empty, 0, [], [], [], []⟩, true, ⟨ByteArray.empty, 0, [], [], [], [⟨2, 5, 5, [65]⟩]⟩⟩
theorem canR_nil : canR [] = [] := by
  have h := canR_len []
  cases hc : canR [] with
  | nil => rfl
  | cons x l => rw [hc] at h; simp at h
theorem saneA : saneF fA = true := by
  have h2 : saneT ⟨ByteArray.empty, 0, [], [], [], [⟨2, 5, 5, [65]⟩]⟩ = true := by
    unfold saneT
    dsimp only
    rw [canR_nil]
    decide +kernel
  unfold saneF
  show (saneT (identT 0) && ((!false || _) && (!true || saneT ⟨ByteArray.empty, 0, [], [], [], [⟨2, 5, 5, [65]⟩]⟩))) = true
  rw [saneI, h2]
  rfl
theorem charsA (s : List Int) : chars fA s = (sgs (identT 0) s).map (charT (tls fA)) := if_pos saneA
theorem awakeC : (chars fA [0, 5, 0, 6]).map Chr.cid = [5, 6] := by
  rw [charsA]
  decide +kernel
theorem awake1 : encT (chars fA [0, 5]) = [65] := by
  rw [charsA]
  decide +kernel
theorem awake2 : encT (chars fA [0, 6]) = [239, 191, 189] := by
  rw [charsA]
  decide +kernel
theorem preA {s : List Int} (h : s.length ≤ 1000000) (h8 : B8 s) : SAllF.pre (fA, s) := ⟨⟨⟨by decide, by decide, by decide, by decide⟩, ⟨by decide, by decide, by decide, by decide⟩, ⟨by decide, by decide, by decide, by decide⟩⟩, h, h8⟩
theorem litA : subs0 (cFn fA) [.str (identT 0).name, .int .i64 (identT 0).wmode, aR (identT 0).spaces, aS (identT 0).cids, aS (identT 0).nots, aB (identT 0).bfs, .lit false, .str ByteArray.empty, .int .i64 0, .nil, .nil, .nil, .nil, .lit true, .str ByteArray.empty, .int .i64 0, .nil, .nil, .nil, .sl 4 1 (elt [[.int .i64 2, .int .i64 5, .int .i64 5, .sl 1 1 (elt [[.int .i64 65]])]])] := by
  refine ⟨⟨rfl⟩, ⟨rfl⟩, ⟨⟨rfl⟩, els_of cR_emb (n := 0) (fun _ _ => rfl)⟩, ⟨⟨rfl⟩, els_of cSp_emb (n := 0) (fun _ _ => rfl)⟩, ⟨⟨rfl⟩, els_of cSp_emb (n := 0) (fun _ _ => rfl)⟩, ⟨⟨rfl⟩, els_of cBf_emb (n := 0) (fun _ _ => rfl)⟩, ⟨rfl⟩, ⟨rfl⟩, ⟨rfl⟩, ⟨rfl⟩, ⟨rfl⟩, ⟨rfl⟩, ⟨rfl⟩, ⟨rfl⟩, ⟨rfl⟩, ⟨rfl⟩, ⟨rfl⟩, ⟨rfl⟩, ⟨rfl⟩, ⟨⟨rfl⟩, fun i hi => ?_⟩, trivial⟩
  have hi : i < 1 := hi
  obtain rfl : i = 0 := by omega
  exact ⟨⟨rfl⟩, ⟨rfl⟩, ⟨rfl⟩, (lit_sub ci_emb [65]).1, trivial⟩
def SAwakeP : Sp := ⟨Unit, fun _ => True, fun _ => [], fun _ => .st (.lit true)⟩
set_option maxHeartbeats 16000000 in
theorem awake21 : SpOK Tryz.prog 8 SAwakeP := fun _ _ => by
  have hC : COK Tryz.prog (cfg [(30, SIdent), (20, SCidsF), (17, STextF), (10, SSaneF)]) := Ty.ty.cfg ⟨ident, compCids, compText, saneFC, trivial⟩
  ((refine Fn.ofF hC Tryz.func8 Tryz.ntmps8 rfl rfl rfl ?_); (repeat' first | (with_reducible exact trivial) | (with_reducible rfl) | (refine And.intro ?_ ?_) | (refine Need.mk ?_) | exact True.intro | (first | (refine ⟨_, Told.refl _, ?_, ?_⟩) | (refine ⟨⟨_, _⟩, Told.refl _, ?_, ?_⟩) | (refine ⟨⟨_, _, _⟩, Told.refl _, ?_, ?_⟩) | (refine ⟨⟨_, _, _, _⟩, Told.refl _, ?_, ?_⟩) | (refine ⟨⟨_, _, _, _, _⟩, Told.refl _, ?_, ?_⟩) | (refine ⟨(), Told.refl _, ?_, ?_⟩)) | (with_reducible intro _) | (refine fun (_ : Bool) => ?_)))
  have b1 : B8 [0, 5, 0, 6] := fun x hx => by simp at hx; omega
  have b2 : B8 [0, 5] := fun x hx => by simp at hx; omega
  have b3 : B8 [0, 6] := fun x hx => by simp at hx; omega
  have et1 : txtT (chars fA [0, 5]) = ⟨#[65]⟩ := by unfold txtT; rw [awake1]
  have et2 : txtT (chars fA [0, 6]) = ⟨#[239, 191, 189]⟩ := by unfold txtT; rw [awake2]
  have hp := preA (s := []) (by decide) (fun x hx => by cases hx)
  refine Exists.intro (fA, [0, 5, 0, 6]) (And.intro (Told.of ⟨litA, (lit_sub c8_emb [0, 5, 0, 6]).1, trivial⟩) (And.intro (preA (by decide) b1) ?_))
  (repeat' first | (with_reducible exact trivial) | (with_reducible rfl) | (refine And.intro ?_ ?_) | (refine Need.mk ?_) | exact True.intro | (first | (refine ⟨_, Told.refl _, ?_, ?_⟩) | (refine ⟨⟨_, _⟩, Told.refl _, ?_, ?_⟩) | (refine ⟨⟨_, _, _⟩, Told.refl _, ?_, ?_⟩) | (refine ⟨⟨_, _, _, _⟩, Told.refl _, ?_, ?_⟩) | (refine ⟨⟨_, _, _, _, _⟩, Told.refl _, ?_, ?_⟩) | (refine ⟨(), Told.refl _, ?_, ?_⟩)) | (with_reducible intro _) | (refine fun (_ : Bool) => ?_))
  refine Exists.intro (fA, [0, 5]) (And.intro (Told.of ⟨litA, (lit_sub c8_emb [0, 5]).1, trivial⟩) (And.intro ⟨preA (by decide) b2, chars_short _ _⟩ ?_))
  (repeat' first | (with_reducible exact trivial) | (with_reducible rfl) | (refine And.intro ?_ ?_) | (refine Need.mk ?_) | exact True.intro | (first | (refine ⟨_, Told.refl _, ?_, ?_⟩) | (refine ⟨⟨_, _⟩, Told.refl _, ?_, ?_⟩) | (refine ⟨⟨_, _, _⟩, Told.refl _, ?_, ?_⟩) | (refine ⟨⟨_, _, _, _⟩, Told.refl _, ?_, ?_⟩) | (refine ⟨⟨_, _, _, _, _⟩, Told.refl _, ?_, ?_⟩) | (refine ⟨(), Told.refl _, ?_, ?_⟩)) | (with_reducible intro _) | (refine fun (_ : Bool) => ?_))
  all_goals (try rw [awakeC] at *)
  all_goals first
    | decide
    | (exfalso; simp [et1] at *; done)
    | (exfalso; revert ‹_ = false›; rw [awakeC]; decide)
    | skip
  all_goals
    refine Exists.intro fA (And.intro (Told.of ⟨litA, trivial⟩) (And.intro hp.1 ?_))
    (repeat' first | (with_reducible exact trivial) | (with_reducible rfl) | (refine And.intro ?_ ?_) | (refine Need.mk ?_) | exact True.intro | (first | (refine ⟨_, Told.refl _, ?_, ?_⟩) | (refine ⟨⟨_, _⟩, Told.refl _, ?_, ?_⟩) | (refine ⟨⟨_, _, _⟩, Told.refl _, ?_, ?_⟩) | (refine ⟨⟨_, _, _, _⟩, Told.refl _, ?_, ?_⟩) | (refine ⟨⟨_, _, _, _, _⟩, Told.refl _, ?_, ?_⟩) | (refine ⟨(), Told.refl _, ?_, ?_⟩)) | (with_reducible intro _) | (refine fun (_ : Bool) => ?_))
  all_goals first
    | (exact absurd ‹saneF fA = false› (by rw [saneA]; decide))
    | (refine Exists.intro (fA, [0, 6]) (And.intro (Told.of ⟨litA, (lit_sub c8_emb [0, 6]).1, trivial⟩) (And.intro ⟨preA (by decide) b3, chars_short _ _⟩ ?_))
       (repeat' first | (with_reducible exact trivial) | (with_reducible rfl) | (refine And.intro ?_ ?_) | (refine Need.mk ?_) | exact True.intro | (first | (refine ⟨_, Told.refl _, ?_, ?_⟩) | (refine ⟨⟨_, _⟩, Told.refl _, ?_, ?_⟩) | (refine ⟨⟨_, _, _⟩, Told.refl _, ?_, ?_⟩) | (refine ⟨⟨_, _, _, _⟩, Told.refl _, ?_, ?_⟩) | (refine ⟨⟨_, _, _, _, _⟩, Told.refl _, ?_, ?_⟩) | (refine ⟨(), Told.refl _, ?_, ?_⟩)) | (with_reducible intro _) | (refine fun (_ : Bool) => ?_))
       rw [et2]
       exact beq_self_eq_true _)
end Go.Abs.Cp
set_option maxRecDepth 100000
namespace Go.Abs.Cp
open Go.RowKit Go.Proofs Go.Abs.Dest Go.Abs.Span Go.Abs.Coll Go.Abs.Hx
def wfFn (f : Fnt) : Prop := wfT f.enc ∧ True ∧ wfT f.uni ∧ True ∧ wfT f.coll
theorem opBoolF : OpA Tryz.prog 4 (fun b : Bool => [.sb b]) (fun _ => True) := OpA.bool Tryz.underlying4
theorem opFnt : OpA Tryz.prog 28 cFn wfFn :=
  OpA.iso (OpA.struct (n := 6 + (1 + (6 + (1 + 6)))) Tryz.underlying28 (OpAF.cons opTbl rfl (by kernel_rfl) (OpAF.cons opBoolF rfl (by kernel_rfl) (OpAF.cons opTbl rfl (by kernel_rfl) (OpAF.cons opBoolF rfl (by kernel_rfl) (OpAF.one opTbl rfl (by kernel_rfl)))))) (by kernel_rfl)) (fun a => ⟨a.1, a.2.1, a.2.2.1, a.2.2.2.1, a.2.2.2.2⟩) (fun _ => rfl) (fun _ h => h)
end Go.Abs.Cp
set_option maxRecDepth 100000
namespace Go.Abs.Cp
open Go.RowKit Go.Proofs Go.Abs.Tab Go.Abs.Dest Go.Abs.Span Go.Abs.Coll Go.Abs.Hx Go.Abs.Mt Go.Abs.Lk Go.Abs.Rc Go.Abs.Utf Go.Abs.Ci
open Go.Abs.Txt (encB enc)
def SLawF : Sp := ⟨Fnt × List Int, fun (f, s) => B8 s, fun (f, s) => [.agg (cFn f), a8 s], fun _ => .st (.lit true)⟩
def T0 : Tbl := ⟨ByteArray.empty, 0, [], [], [], []⟩
def bare (f : Fnt) : Fnt := ⟨f.enc, false, T0, false, T0⟩
theorem map_getC (F : Sg → Chr) {X : List Sg} {i : Nat} (h : i < X.length) : (X.map F).getD i default = F (X.getD i default) := by simp [List.getD, h]
theorem repl_bytes : encB [65533] = ⟨#[239, 191, 189]⟩ := by decide +kernel
theorem fewF_s {f : Fnt} {s : List Int} (h : (!fewF f) = false) (hl : s.length ≤ 1000000) (h8 : B8 s) : SAllF.pre (f, s) := ⟨fewF_sm h, hl, h8⟩
set_option maxHeartbeats 16000000 in
theorem compBare : SpOK Tryz.prog 7 SLawF := fun ⟨f, s⟩ h8 => by
  have hC : COK Tryz.prog (cfg [(8, SAwakeP), (9, SFewF), (11, SComps), (10, SSaneF), (15, SAllF), (23, STab)]) := Ty.ty.cfg ⟨awake21, fewFC, comps, saneFC, compAll, table21, trivial⟩
  have h8 : B8 s := h8
  ((refine Fn.ofF hC Tryz.func7 Tryz.ntmps7 rfl rfl rfl ?_); (repeat' first | (with_reducible exact trivial) | (with_reducible rfl) | (refine And.intro ?_ ?_) | (refine Need.mk ?_) | exact True.intro | (first | (refine ⟨_, Told.refl _, ?_, ?_⟩) | (refine ⟨⟨_, _⟩, Told.refl _, ?_, ?_⟩) | (refine ⟨⟨_, _, _⟩, Told.refl _, ?_, ?_⟩) | (refine ⟨⟨_, _, _, _⟩, Told.refl _, ?_, ?_⟩) | (refine ⟨⟨_, _, _, _, _⟩, Told.refl _, ?_, ?_⟩) | (refine ⟨(), Told.refl _, ?_, ?_⟩)) | (with_reducible intro _) | (refine fun (_ : Bool) => ?_)))
  all_goals (try obtain ⟨⟨a1, a2, a3, a4⟩, ⟨b1, b2, b3, b4⟩, ⟨c1, c2, c3, c4⟩⟩ := fewF_sm ‹(!fewF f) = false›)
  all_goals (try have hsl := of_decide_eq_false ‹decide ((s.length : Int) > 60) = false›)
  all_goals first | omega | exact h8 | skip
  have hs : saneF f = true := by simpa using ‹(!saneF f) = false›
  have he : saneT f.enc = true := by
    unfold saneF at hs
    rw [Bool.and_eq_true] at hs
    exact hs.1
  have hg : saneF (bare f) = true := by
    show (saneT f.enc && ((!false || _) && (!false || _))) = true
    rw [he]
    rfl
  have ha : chars f s = (sgs f.enc s).map (charT (tls f)) := if_pos hs
  have hb : chars (bare f) s = (sgs f.enc s).map (charT [.n]) := if_pos hg
  have hxl := sgs_len f.enc s
  obtain ⟨X, hX⟩ : ∃ X, X = sgs f.enc s := ⟨_, rfl⟩
  rw [← hX] at ha hb hxl
  refine Exists.intro (bare f, s) (And.intro (Told.of ⟨?_, ⟨⟨rfl⟩, els_of c8_emb (n := 0) (fun _ _ => rfl)⟩, trivial⟩) (And.intro ⟨⟨⟨a1, a2, a3, a4⟩, ⟨Nat.zero_le _, Nat.zero_le _, Nat.zero_le _, Nat.zero_le _⟩, ⟨Nat.zero_le _, Nat.zero_le _, Nat.zero_le _, Nat.zero_le _⟩⟩, by omega, h8⟩ ?_))
  · exact ⟨⟨rfl⟩, ⟨rfl⟩, ⟨⟨rfl⟩, els_of cR_emb (n := 0) (fun _ _ => rfl)⟩, ⟨⟨rfl⟩, els_of cSp_emb (n := 0) (fun _ _ => rfl)⟩, ⟨⟨rfl⟩, els_of cSp_emb (n := 0) (fun _ _ => rfl)⟩, ⟨⟨rfl⟩, els_of cBf_emb (n := 0) (fun _ _ => rfl)⟩, ⟨rfl⟩, ⟨rfl⟩, ⟨rfl⟩, ⟨rfl⟩, ⟨rfl⟩, ⟨rfl⟩, ⟨rfl⟩, ⟨rfl⟩, ⟨rfl⟩, ⟨rfl⟩, ⟨rfl⟩, ⟨rfl⟩, ⟨rfl⟩, ⟨rfl⟩, trivial⟩
  (repeat' first | (with_reducible exact trivial) | (with_reducible rfl) | (refine And.intro ?_ ?_) | (refine Need.mk ?_) | exact True.intro | (first | (refine ⟨_, Told.refl _, ?_, ?_⟩) | (refine ⟨⟨_, _⟩, Told.refl _, ?_, ?_⟩) | (refine ⟨⟨_, _, _⟩, Told.refl _, ?_, ?_⟩) | (refine ⟨⟨_, _, _, _⟩, Told.refl _, ?_, ?_⟩) | (refine ⟨⟨_, _, _, _, _⟩, Told.refl _, ?_, ?_⟩) | (refine ⟨(), Told.refl _, ?_, ?_⟩)) | (with_reducible intro _) | (refine fun (_ : Bool) => ?_))
  · exfalso
    simp [ha, hb] at *
  refine AW.loop (I := fun k : Nat => ⟨89, [(5, .lit true), (7, .own 0), (8, .own 1), (9, .int .i64 k)], [.row 55 8 (chars f s).length (els cH (chars f s)), .row 55 8 (chars (bare f) s).length (els cH (chars (bare f) s))]⟩) (fun k => k ≤ X.length) (fun k => X.length - k) 0 (Nat.zero_le _) ?_ ?_
  · (repeat' first | (with_reducible exact trivial) | (with_reducible rfl) | (refine And.intro ?_ ?_) | (refine Need.mk ?_) | exact True.intro | (first | (refine ⟨_, Told.refl _, ?_, ?_⟩) | (refine ⟨⟨_, _⟩, Told.refl _, ?_, ?_⟩) | (refine ⟨⟨_, _, _⟩, Told.refl _, ?_, ?_⟩) | (refine ⟨⟨_, _, _, _⟩, Told.refl _, ?_, ?_⟩) | (refine ⟨⟨_, _, _, _, _⟩, Told.refl _, ?_, ?_⟩) | (refine ⟨(), Told.refl _, ?_, ?_⟩)) | (with_reducible intro _) | (refine fun (_ : Bool) => ?_))
    all_goals rfl
  · have hal : (chars f s).length = X.length := by rw [ha, List.length_map]
    have hbl : (chars (bare f) s).length = X.length := by rw [hb, List.length_map]
    intro k hk
    rcases Nat.lt_or_ge k X.length with hlt | hge
    · have hd : decide ((k : Int) < ((chars f s).length : Int)) = true := decide_eq_true (by omega)
      have hw := iw (n := (k : Int) + 1) (by omega) (by omega)
      have g1 : (chars f s).getD k default = charT (tls f) (X.getD k default) := by rw [ha]; exact map_getC _ hlt
      have g2 : (chars (bare f) s).getD k default = ⟨(X.getD k default).p, (X.getD k default).cid, 0, ⟨#[239, 191, 189]⟩⟩ := by
        rw [hb, map_getC _ hlt, ← repl_bytes]
        unfold charT
        cases (X.getD k default).p.full <;> rfl
      ((refine AW.byF ‹_› ?_); (repeat' first | (with_reducible exact trivial) | (with_reducible rfl) | (refine And.intro ?_ ?_) | (refine Need.mk ?_) | exact True.intro | (first | (refine ⟨_, Told.refl _, ?_, ?_⟩) | (refine ⟨⟨_, _⟩, Told.refl _, ?_, ?_⟩) | (refine ⟨⟨_, _, _⟩, Told.refl _, ?_, ?_⟩) | (refine ⟨⟨_, _, _, _⟩, Told.refl _, ?_, ?_⟩) | (refine ⟨⟨_, _, _, _, _⟩, Told.refl _, ?_, ?_⟩) | (refine ⟨(), Told.refl _, ?_, ?_⟩)) | (with_reducible intro _) | (refine fun (_ : Bool) => ?_)))
      all_goals first | (exact absurd ‹decide ((k : Int) < ((chars f s).length : Int)) = false› (by rw [hd]; decide)) | skip
      any_goals (refine Exists.intro (k + 1) (And.intro ?_ (And.intro ?_ ?_)); all_goals (repeat' first | (with_reducible exact trivial) | (with_reducible rfl) | (refine And.intro ?_ ?_) | (refine Need.mk ?_) | exact True.intro | (first | (refine ⟨_, Told.refl _, ?_, ?_⟩) | (refine ⟨⟨_, _⟩, Told.refl _, ?_, ?_⟩) | (refine ⟨⟨_, _, _⟩, Told.refl _, ?_, ?_⟩) | (refine ⟨⟨_, _, _, _⟩, Told.refl _, ?_, ?_⟩) | (refine ⟨⟨_, _, _, _, _⟩, Told.refl _, ?_, ?_⟩) | (refine ⟨(), Told.refl _, ?_, ?_⟩)) | (with_reducible intro _) | (refine fun (_ : Bool) => ?_)))
      all_goals (try simp only [Int.toNat_natCast, g1, g2] at *)
      all_goals first
        | omega
        | (rw [hw]; rfl)
        | (exfalso; simp [eqA, bval, charT] at *; done)
    · obtain rfl : k = X.length := by omega
      have hd : decide ((X.length : Int) < ((chars f s).length : Int)) = false := decide_eq_false (by omega)
      ((refine AW.byF ‹_› ?_); (repeat' first | (with_reducible exact trivial) | (with_reducible rfl) | (refine And.intro ?_ ?_) | (refine Need.mk ?_) | exact True.intro | (first | (refine ⟨_, Told.refl _, ?_, ?_⟩) | (refine ⟨⟨_, _⟩, Told.refl _, ?_, ?_⟩) | (refine ⟨⟨_, _, _⟩, Told.refl _, ?_, ?_⟩) | (refine ⟨⟨_, _, _, _⟩, Told.refl _, ?_, ?_⟩) | (refine ⟨⟨_, _, _, _, _⟩, Told.refl _, ?_, ?_⟩) | (refine ⟨(), Told.refl _, ?_, ?_⟩)) | (with_reducible intro _) | (refine fun (_ : Bool) => ?_)))
      all_goals first | (exact absurd ‹decide ((X.length : Int) < ((chars f s).length : Int)) = true› (by rw [hd]; decide)) | skip
end Go.Abs.Cp
set_option maxRecDepth 100000
namespace Go.Abs.Cp
open Go.RowKit Go.Proofs Go.Abs.Tab Go.Abs.Dest Go.Abs.Span Go.Abs.Coll Go.Abs.Hx Go.Abs.Mt Go.Abs.Lk Go.Abs.Rc Go.Abs.Utf Go.Abs.Ci
open Go.Abs.Txt (encB enc)
/-- What a full piece shows. -/
def showF (f : Fnt) (n v : Int) : ByteArray × Int :=
  if f.hasUni = true ∧ (EB.find f.uni.bfs n v).isSome = true then (encB (decU ((EB.find f.uni.bfs n v).getD [])), 1)
  else if f.hasColl = true ∧ (numT f.enc n v).2 ≠ 0 ∧ (EB.find f.coll.bfs 2 (numT f.enc n v).1).isSome = true then (txtO (EB.find f.coll.bfs 2 (numT f.enc n v).1), 2)
  else (⟨#[239, 191, 189]⟩, 0)
theorem char_full (f : Fnt) (p : Pc) (hp : p.full = true) : charT (tls f) (sgOf f.enc p) = ⟨p, (numT f.enc p.cn p.cv).1, (showF f p.cn p.cv).2, (showF f p.cn p.cv).1⟩ := by
  have hx : sgOf f.enc p = ⟨p, (numT f.enc p.cn p.cv).2, (numT f.enc p.cn p.cv).1, (EB.find f.enc.bfs p.cn p.cv).getD [], (EB.find f.enc.bfs p.cn p.cv).isSome⟩ := if_pos hp
  have hf : firstT (sgOf f.enc p) (tls f) = showF f p.cn p.cv := by
    rw [hx]
    have nn : ∀ x : Sg, firstT x [.n] = (⟨#[239, 191, 189]⟩, 0) := fun x => by
      show (encB [65533], (0 : Int)) = _
      rw [repl_bytes]
    have nc : ∀ b : Tbl, firstT ⟨p, (numT f.enc p.cn p.cv).2, (numT f.enc p.cn p.cv).1, (EB.find f.enc.bfs p.cn p.cv).getD [], (EB.find f.enc.bfs p.cn p.cv).isSome⟩ [.c b, .n] = if (numT f.enc p.cn p.cv).2 ≠ 0 ∧ (EB.find b.bfs 2 (numT f.enc p.cn p.cv).1).isSome = true then (txtO (EB.find b.bfs 2 (numT f.enc p.cn p.cv).1), 2) else (⟨#[239, 191, 189]⟩, 0) := fun b => by
      rw [← nn ⟨p, (numT f.enc p.cn p.cv).2, (numT f.enc p.cn p.cv).1, (EB.find f.enc.bfs p.cn p.cv).getD [], (EB.find f.enc.bfs p.cn p.cv).isSome⟩]
      show (match (if (numT f.enc p.cn p.cv).2 = 0 then none else (EB.find b.bfs 2 (numT f.enc p.cn p.cv).1).map fun a => encB (decU a)) with
        | some y => (y, (2 : Int))
        | none => firstT _ [.n]) = _
      by_cases h : (numT f.enc p.cn p.cv).2 = 0
      · rw [if_pos h, if_neg (fun q => q.1 h)]
      · rw [if_neg h]
        cases hb : EB.find b.bfs 2 (numT f.enc p.cn p.cv).1 with
        | none => rw [if_neg (fun q => by cases q.2)]; rfl
        | some a => rw [if_pos ⟨h, rfl⟩]; rfl
    have un : ∀ (t : Tbl) (l : List Tl), firstT ⟨p, (numT f.enc p.cn p.cv).2, (numT f.enc p.cn p.cv).1, (EB.find f.enc.bfs p.cn p.cv).getD [], (EB.find f.enc.bfs p.cn p.cv).isSome⟩ (.u t :: l) = if (EB.find t.bfs p.cn p.cv).isSome = true then (encB (decU ((EB.find t.bfs p.cn p.cv).getD [])), 1) else firstT ⟨p, (numT f.enc p.cn p.cv).2, (numT f.enc p.cn p.cv).1, (EB.find f.enc.bfs p.cn p.cv).getD [], (EB.find f.enc.bfs p.cn p.cv).isSome⟩ l := fun t l => by
      show (match ((EB.find t.bfs p.cn p.cv).map fun a => encB (decU a)) with
        | some y => (y, (1 : Int))
        | none => firstT _ l) = _
      cases hb : EB.find t.bfs p.cn p.cv with
      | none => rw [if_neg (by simp)]; rfl
      | some a => simp
    unfold showF tls
    cases h1 : f.hasUni <;> cases h2 : f.hasColl
    · show firstT _ [.n] = _
      rw [nn, if_neg (fun q => by cases q.1), if_neg (fun q => by cases q.1)]
    · show firstT _ [.c f.coll, .n] = _
      rw [nc]
      simp
    · show firstT _ [.u f.uni, .n] = _
      rw [un, nn]
      simp
    · show firstT _ [.u f.uni, .c f.coll, .n] = _
      rw [un, nc]
      simp
  unfold charT
  have hpx : (sgOf f.enc p).p = p := by rw [hx]
  have hcx : (sgOf f.enc p).cid = (numT f.enc p.cn p.cv).1 := by rw [hx]
  rw [hpx, if_pos hp, hf, hcx]
set_option maxHeartbeats 16000000 in
theorem compFirst : SpOK Tryz.prog 4 SLawF := fun ⟨f, s⟩ h8 => by
  have hC : COK Tryz.prog (cfg [(8, SAwakeP), (9, SFewF), (11, SComps), (10, SSaneF), (15, SAllF), (23, STab), (22, SUniL), (24, SNum), (25, SCText), (27, SDec), (26, Txt.SText)]) := Ty.ty.cfg ⟨awake21, fewFC, comps, saneFC, compAll, table21, uniL, num, ctext, dec16, Txt.text, trivial⟩
  have h8 : B8 s := h8
  ((refine Fn.ofF hC Tryz.func4 Tryz.ntmps4 rfl rfl rfl ?_); (repeat' first | (with_reducible exact trivial) | (with_reducible rfl) | (refine And.intro ?_ ?_) | (refine Need.mk ?_) | exact True.intro | (first | (refine ⟨_, Told.refl _, ?_, ?_⟩) | (refine ⟨⟨_, _⟩, Told.refl _, ?_, ?_⟩) | (refine ⟨⟨_, _, _⟩, Told.refl _, ?_, ?_⟩) | (refine ⟨⟨_, _, _, _⟩, Told.refl _, ?_, ?_⟩) | (refine ⟨⟨_, _, _, _, _⟩, Told.refl _, ?_, ?_⟩) | (refine ⟨(), Told.refl _, ?_, ?_⟩)) | (with_reducible intro _) | (refine fun (_ : Bool) => ?_)))
  all_goals (try obtain ⟨⟨a1, a2, a3, a4⟩, ⟨b1, b2, b3, b4⟩, ⟨c1, c2, c3, c4⟩⟩ := fewF_sm ‹(!fewF f) = false›)
  all_goals (try have hsl := of_decide_eq_false ‹decide ((s.length : Int) > 60) = false›)
  all_goals first | omega | exact h8 | skip
  have hs : saneF f = true := by simpa using ‹(!saneF f) = false›
  have ha : chars f s = (sgs f.enc s).map (charT (tls f)) := if_pos hs
  have hxl := sgs_len f.enc s
  have hal : (chars f s).length = (sgs f.enc s).length := by rw [ha, List.length_map]
  refine AW.loop (I := fun k : Nat => ⟨127, [(2, .ptr 1 0), (5, .lit true), (6, .own 0), (7, .int .i64 k)], [.row 55 8 (chars f s).length (els cH (chars f s)), .box 28 (cFn f)]⟩) (fun k => k ≤ (chars f s).length) (fun k => (chars f s).length - k) 0 (Nat.zero_le _) ?_ ?_
  · (repeat' first | (with_reducible exact trivial) | (with_reducible rfl) | (refine And.intro ?_ ?_) | (refine Need.mk ?_) | exact True.intro | (first | (refine ⟨_, Told.refl _, ?_, ?_⟩) | (refine ⟨⟨_, _⟩, Told.refl _, ?_, ?_⟩) | (refine ⟨⟨_, _, _⟩, Told.refl _, ?_, ?_⟩) | (refine ⟨⟨_, _, _, _⟩, Told.refl _, ?_, ?_⟩) | (refine ⟨⟨_, _, _, _, _⟩, Told.refl _, ?_, ?_⟩) | (refine ⟨(), Told.refl _, ?_, ?_⟩)) | (with_reducible intro _) | (refine fun (_ : Bool) => ?_))
    all_goals rfl
  · intro k hk
    rcases Nat.lt_or_ge k (chars f s).length with hlt | hge
    · have hd : decide ((k : Int) < ((chars f s).length : Int)) = true := decide_eq_true (by omega)
      have hw := iw (n := (k : Int) + 1) (by omega) (by omega)
      obtain ⟨c, hc⟩ : ∃ c, c = (chars f s).getD k default := ⟨_, rfl⟩
      have hcf : c.p.full = true → c = ⟨c.p, (numT f.enc c.p.cn c.p.cv).1, (showF f c.p.cn c.p.cv).2, (showF f c.p.cn c.p.cv).1⟩ := fun h => by
        have hk2 : k < (sgs f.enc s).length := by omega
        have h1 : c = charT (tls f) ((sgs f.enc s).getD k default) := by rw [hc, ha]; exact map_getC _ hk2
        have hk3 : k < (allAt f.enc.spaces s 0).length := by
          unfold sgs at hk2
          rw [List.length_map] at hk2
          exact hk2
        have h2 : (sgs f.enc s).getD k default = sgOf f.enc ((allAt f.enc.spaces s 0).getD k default) := by
          unfold sgs
          simp [List.getD, hk3]
        rw [h2] at h1
        have h3 : c.p = (allAt f.enc.spaces s 0).getD k default := by
          rw [h1]
          unfold charT sgOf
          split <;> rfl
        rw [← h3] at h1
        exact h1.trans (char_full f c.p h)
      ((refine AW.byF ‹_› ?_); (repeat' first | (with_reducible exact trivial) | (with_reducible rfl) | (refine And.intro ?_ ?_) | (refine Need.mk ?_) | exact True.intro | (first | (refine ⟨_, Told.refl _, ?_, ?_⟩) | (refine ⟨⟨_, _⟩, Told.refl _, ?_, ?_⟩) | (refine ⟨⟨_, _, _⟩, Told.refl _, ?_, ?_⟩) | (refine ⟨⟨_, _, _, _⟩, Told.refl _, ?_, ?_⟩) | (refine ⟨⟨_, _, _, _, _⟩, Told.refl _, ?_, ?_⟩) | (refine ⟨(), Told.refl _, ?_, ?_⟩)) | (with_reducible intro _) | (refine fun (_ : Bool) => ?_)))
      all_goals first | (exact absurd ‹decide ((k : Int) < ((chars f s).length : Int)) = false› (by rw [hd]; decide)) | skip
      all_goals (try simp only [Int.toNat_natCast, ← hc] at *)
      any_goals (refine Exists.intro (k + 1) (And.intro ?_ (And.intro ?_ ?_)); all_goals (repeat' first | (with_reducible exact trivial) | (with_reducible rfl) | (refine And.intro ?_ ?_) | (refine Need.mk ?_) | exact True.intro | (first | (refine ⟨_, Told.refl _, ?_, ?_⟩) | (refine ⟨⟨_, _⟩, Told.refl _, ?_, ?_⟩) | (refine ⟨⟨_, _, _⟩, Told.refl _, ?_, ?_⟩) | (refine ⟨⟨_, _, _, _⟩, Told.refl _, ?_, ?_⟩) | (refine ⟨⟨_, _, _, _, _⟩, Told.refl _, ?_, ?_⟩) | (refine ⟨(), Told.refl _, ?_, ?_⟩)) | (with_reducible intro _) | (refine fun (_ : Bool) => ?_)))
      all_goals first
        | omega
        | (rw [hw]; rfl)
        | (show f.uni.bfs.length < 4611686018427387904; omega)
        | (show f.coll.bfs.length < 4611686018427387904; omega)
        | (show ((EB.find f.uni.bfs c.p.cn c.p.cv).getD []).length ≤ 1000000000; have := find_opt f.uni.bfs c.p.cn c.p.cv; omega)
        | (show (decU ((EB.find f.uni.bfs c.p.cn c.p.cv).getD [])).length < 4398046511104; have := find_opt f.uni.bfs c.p.cn c.p.cv; have := decU_len ((EB.find f.uni.bfs c.p.cn c.p.cv).getD []); omega)
        | (exfalso
           have hp : c.p.full = true := by simpa using ‹(!c.p.full) = false›
           have e := hcf hp
           have ht := congrArg Chr.text e
           have hr := congrArg Chr.from_ e
           have hi := congrArg Chr.cid e
           clear e hcf
           unfold showF at ht hr
           simp_all
           done)
    · obtain rfl : k = (chars f s).length := by omega
      have hd : decide (((chars f s).length : Int) < ((chars f s).length : Int)) = false := decide_eq_false (by omega)
      ((refine AW.byF ‹_› ?_); (repeat' first | (with_reducible exact trivial) | (with_reducible rfl) | (refine And.intro ?_ ?_) | (refine Need.mk ?_) | exact True.intro | (first | (refine ⟨_, Told.refl _, ?_, ?_⟩) | (refine ⟨⟨_, _⟩, Told.refl _, ?_, ?_⟩) | (refine ⟨⟨_, _, _⟩, Told.refl _, ?_, ?_⟩) | (refine ⟨⟨_, _, _, _⟩, Told.refl _, ?_, ?_⟩) | (refine ⟨⟨_, _, _, _, _⟩, Told.refl _, ?_, ?_⟩) | (refine ⟨(), Told.refl _, ?_, ?_⟩)) | (with_reducible intro _) | (refine fun (_ : Bool) => ?_)))
      all_goals first | (exact absurd ‹decide (((chars f s).length : Int) < ((chars f s).length : Int)) = true› (by rw [hd]; decide)) | skip
end Go.Abs.Cp
set_option maxRecDepth 100000
namespace Go.Abs.Cp
open Go.RowKit Go.Proofs Go.Abs.Tab Go.Abs.Dest Go.Abs.Span Go.Abs.Coll Go.Abs.Hx Go.Abs.Mt Go.Abs.Lk Go.Abs.Rc Go.Abs.Utf Go.Abs.Ci
open Go.Abs.Txt (encB enc)
theorem pcs_at {l : List Rct} {s : List Int} : ∀ (i : Nat), i < (allAt l s 0).length → ∃ a, a < s.length ∧ ((allAt l s 0).getD i default).at_ = (a : Int) ∧ allAt l s a = (allAt l s 0).drop i
  | 0, h => by
    have h0 : 0 < s.length := by
      rcases Nat.lt_or_ge 0 s.length with q | q
      · exact q
      · rw [allAt_end q] at h
        exact absurd h (Nat.not_lt_zero _)
    refine ⟨0, h0, ?_, rfl⟩
    rw [allAt_step h0]
    show (pcAt l s 0).at_ = ((0 : Nat) : Int)
    unfold pcAt
    split <;> rfl
  | i + 1, h => by
    obtain ⟨a, ha, h1, h2⟩ := pcs_at (l := l) (s := s) i (by omega)
    have hr := stepN_rng (l := l) ha
    have hs := allAt_step (l := l) ha
    rw [h2] at hs
    have h3 : allAt l s (a + stepN l s a) = (allAt l s 0).drop (i + 1) := by
      have := congrArg List.tail hs
      rw [List.tail_cons, List.tail_drop] at this
      exact this.symm
    have hlt : a + stepN l s a < s.length := by
      rcases Nat.lt_or_ge (a + stepN l s a) s.length with q | q
      · exact q
      · rw [allAt_end q] at h3
        have := congrArg List.length h3
        rw [List.length_drop, List.length_nil] at this
        omega
    refine ⟨a + stepN l s a, hlt, ?_, h3⟩
    have h4 := allAt_step (l := l) hlt
    rw [h3] at h4
    have h5 : (allAt l s 0).getD (i + 1) default = pcAt l s (a + stepN l s a) := by
      have := congrArg (fun z => z.getD 0 default) h4
      simp only [List.getD, List.getElem?_drop, Nat.add_zero] at this
      simpa [List.getD] using this
    rw [h5]
    unfold pcAt
    split <;> rfl
def shift (a : Nat) (p : Pc) : Pc := ⟨p.at_ - a, p.n, p.full, p.cn, p.cv⟩
theorem pcs_shift {l : List Rct} {s : List Int} (a : Nat) : ∀ (f c : Nat), pcs l (s.drop a) f c = (pcs l s f (a + c)).map (shift a)
  | 0, _ => rfl
  | f + 1, c => by
    unfold pcs
    have hd : (s.drop a).drop c = s.drop (a + c) := by rw [List.drop_drop]
    have hst : stepN l (s.drop a) c = stepN l s (a + c) := by unfold stepN; rw [hd]
    rw [List.length_drop]
    by_cases h : a + c < s.length
    · rw [if_pos (by omega), if_pos h, List.map_cons, hst, pcs_shift a f, Nat.add_assoc]
      congr 1
      unfold pcAt
      rw [hst, hd]
      split <;> (unfold shift; simp only [Pc.mk.injEq, and_true, true_and]; omega)
    · rw [if_neg (by omega), if_neg h]
      rfl
theorem all_shift (l : List Rct) (s : List Int) (a : Nat) : allAt l (s.drop a) 0 = (allAt l s a).map (shift a) := by
  unfold allAt
  rw [pcs_shift, List.length_drop]
  rfl
def low16 (c : Int) : Int := IntKind.i64.wrap ((BitVec.ofInt IntKind.i64.bits c &&& BitVec.ofInt IntKind.i64.bits 65535).toNat : Int)
theorem low16_rng (c : Int) : 0 ≤ low16 c ∧ low16 c < 65536 := by
  have hm : low16 c = c % 65536 := and_low 16 (by decide) c
  omega
theorem sgs_pos (t : Tbl) {s : List Int} (h : 1 ≤ s.length) : 1 ≤ (sgs t s).length := by
  unfold sgs
  rw [List.length_map, allAt_step (by omega), List.length_cons]
  omega
theorem at_ge {l : List Rct} {s : List Int} : ∀ (f c : Nat), ∀ p ∈ pcs l s f c, (c : Int) ≤ p.at_
  | 0, _, p, h => by cases h
  | f + 1, c, p, h => by
    unfold pcs at h
    split at h
    · rename_i hc
      rcases List.mem_cons.1 h with rfl | h
      · unfold pcAt
        split <;> exact Int.le_refl _
      · have h1 := at_ge f _ p h
        have h2 := stepN_rng (l := l) hc
        omega
    · cases h
theorem at_lt {l : List Rct} {s : List Int} {i j : Nat} (hij : j < i) (hi : i < (allAt l s 0).length) : ((allAt l s 0).getD j default).at_ < ((allAt l s 0).getD i default).at_ := by
  obtain ⟨a, ha, h1, h2⟩ := pcs_at (l := l) (s := s) j (by omega)
  have hst := allAt_step (l := l) ha
  have hr := stepN_rng (l := l) ha
  have hd : (allAt l s 0).getD i default ∈ allAt l s (a + stepN l s a) := by
    have e1 : (allAt l s 0).getD i default = ((allAt l s 0).drop j).getD (i - j) default := by
      simp only [List.getD, List.getElem?_drop]
      rw [show j + (i - j) = i by omega]
    rw [e1, ← h2, hst]
    obtain ⟨d, hd⟩ : ∃ d, i - j = d + 1 := ⟨i - j - 1, by omega⟩
    rw [hd, List.getD_cons_succ]
    have hl : d < (allAt l s (a + stepN l s a)).length := by
      have e2 : (allAt l s a).length = (allAt l s 0).length - j := by rw [h2, List.length_drop]
      rw [hst, List.length_cons] at e2
      omega
    rw [getP hl]
    exact List.getElem_mem hl
  have := at_ge _ _ _ hd
  rw [h1]
  omega
theorem tell_congr {x y : Sg} (h1 : x.p.cn = y.p.cn) (h2 : x.p.cv = y.p.cv) (h3 : x.kind = y.kind) (h4 : x.cid = y.cid) (t : Tl) : tellO t x = tellO t y := by
  cases t with
  | u t => show (EB.find t.bfs x.p.cn x.p.cv).map _ = (EB.find t.bfs y.p.cn y.p.cv).map _; rw [h1, h2]
  | c t => show (if x.kind = 0 then none else (EB.find t.bfs 2 x.cid).map _) = (if y.kind = 0 then none else (EB.find t.bfs 2 y.cid).map _); rw [h3, h4]
  | n => rfl
theorem first_congr {x y : Sg} (h1 : x.p.cn = y.p.cn) (h2 : x.p.cv = y.p.cv) (h3 : x.kind = y.kind) (h4 : x.cid = y.cid) : ∀ l : List Tl, firstT x l = firstT y l
  | [] => rfl
  | t :: l => by
    unfold firstT
    rw [tell_congr h1 h2 h3 h4 t, first_congr h1 h2 h3 h4 l]
theorem text_shift (l : List Tl) (t : Tbl) (a : Nat) (p : Pc) : (charT l (sgOf t (shift a p))).text = (charT l (sgOf t p)).text := by
  have hp : (sgOf t (shift a p)).p = shift a p := by unfold sgOf; split <;> rfl
  have hq : (sgOf t p).p = p := by unfold sgOf; split <;> rfl
  have hk : (sgOf t (shift a p)).kind = (sgOf t p).kind := by unfold sgOf shift; split <;> rfl
  have hc : (sgOf t (shift a p)).cid = (sgOf t p).cid := by unfold sgOf shift; split <;> rfl
  show (firstT _ (if (sgOf t (shift a p)).p.full = true then l else _)).1 = (firstT _ (if (sgOf t p).p.full = true then l else _)).1
  rw [first_congr (y := sgOf t p) (by rw [hp, hq]; rfl) (by rw [hp, hq]; rfl) hk hc]
  rw [hp, hq]
  rfl
theorem rows_lawF {f : Fnt} {s : List Int} (hs : saneF f = true) {i : Nat} (hi : i < (chars f s).length) : ∃ a, a < s.length ∧ ((chars f s).getD i default).p.at_ = (a : Int) ∧ (∀ j, j < (chars f s).length → (((chars f s).getD j default).p.at_ < (a : Int) ↔ j < i)) ∧ encT (chars f s) = encT ((chars f s).take i) ++ encT (chars f (s.drop a)) ∧ (chars f s).length = (allAt f.enc.spaces s 0).length := by
  have ha : ∀ s, chars f s = (sgs f.enc s).map (charT (tls f)) := fun s => if_pos hs
  have hl : (chars f s).length = (allAt f.enc.spaces s 0).length := by rw [ha, List.length_map]; exact List.length_map ..
  have hp : ∀ j, j < (chars f s).length → ((chars f s).getD j default).p = (allAt f.enc.spaces s 0).getD j default := fun j hj => by
    rw [ha, map_getC _ (by rw [ha, List.length_map] at hj; exact hj)]
    have : (sgs f.enc s).getD j default = sgOf f.enc ((allAt f.enc.spaces s 0).getD j default) := by
      unfold sgs
      rw [getG (by rw [List.length_map]; omega), getP (by omega), List.getElem_map]
    rw [this]
    unfold charT sgOf
    split <;> rfl
  obtain ⟨a, hal, h1, h2⟩ := pcs_at (l := f.enc.spaces) (s := s) i (by omega)
  refine ⟨a, hal, by rw [hp i hi]; exact h1, fun j hj => ?_, ?_, hl⟩
  · rw [hp j hj, ← h1]
    constructor
    · intro h
      rcases Nat.lt_trichotomy j i with q | q | q
      · exact q
      · subst q
        omega
      · have := at_lt (l := f.enc.spaces) (s := s) q (by omega)
        omega
    · exact fun q => at_lt q (by omega)
  · have e1 : encT (chars f (s.drop a)) = encT ((chars f s).drop i) := by
      rw [ha, ha]
      unfold encT sgs
      rw [all_shift, h2, ← List.map_drop, ← List.map_drop, List.map_map, List.map_map, List.map_map, List.flatMap_map, List.flatMap_map]
      congr 1
      funext p
      show (charT (tls f) (sgOf f.enc (shift a p))).text.data.toList = _
      rw [text_shift]
      rfl
    rw [e1]
    unfold encT
    rw [← List.flatMap_append, List.take_append_drop]
theorem txtT_app {a b c : List Chr} (h : encT a = encT b ++ encT c) : txtT b ++ txtT c = txtT a := by
  unfold txtT
  rw [h]
  apply ByteArray.ext
  simp
theorem txtT_next {L : List Chr} {k : Nat} (hk : k < L.length) : txtT (L.take (k + 1)) = txtT (L.take k) ++ (L.getD k default).text := by
  have e : encT (L.take (k + 1)) = encT (L.take k) ++ (L.getD k default).text.data.toList := by
    rw [List.take_succ_eq_append_getElem hk]
    unfold encT
    rw [List.flatMap_append]
    simp [List.getD, hk]
  unfold txtT
  rw [e]
  apply ByteArray.ext
  simp
theorem txtT_size (L : List Chr) (h : ∀ c ∈ L, c.text.size ≤ 10000000) : (txtT L).size ≤ 10000000 * L.length := by
  show (encT L).toArray.size ≤ _
  rw [List.size_toArray]
  exact encT_len L h
theorem cFn_self (f : Fnt) : subs0 (cFn f) (cFn f) := ⟨⟨rfl⟩, ⟨rfl⟩, ⟨⟨rfl⟩, els_of cR_emb (n := 0) (fun _ _ => rfl)⟩, ⟨⟨rfl⟩, els_of cSp_emb (n := 0) (fun _ _ => rfl)⟩, ⟨⟨rfl⟩, els_of cSp_emb (n := 0) (fun _ _ => rfl)⟩, ⟨⟨rfl⟩, els_of cBf_emb (n := 0) (fun _ _ => rfl)⟩, ⟨rfl⟩, ⟨rfl⟩, ⟨rfl⟩, ⟨⟨rfl⟩, els_of cR_emb (n := 0) (fun _ _ => rfl)⟩, ⟨⟨rfl⟩, els_of cSp_emb (n := 0) (fun _ _ => rfl)⟩, ⟨⟨rfl⟩, els_of cSp_emb (n := 0) (fun _ _ => rfl)⟩, ⟨⟨rfl⟩, els_of cBf_emb (n := 0) (fun _ _ => rfl)⟩, ⟨rfl⟩, ⟨rfl⟩, ⟨rfl⟩, ⟨⟨rfl⟩, els_of cR_emb (n := 0) (fun _ _ => rfl)⟩, ⟨⟨rfl⟩, els_of cSp_emb (n := 0) (fun _ _ => rfl)⟩, ⟨⟨rfl⟩, els_of cSp_emb (n := 0) (fun _ _ => rfl)⟩, ⟨⟨rfl⟩, els_of cBf_emb (n := 0) (fun _ _ => rfl)⟩, trivial⟩
def SRowsF : Sp := ⟨Fnt × List Int × Int, fun (f, s, k) => B8 s, fun (f, s, k) => [.agg (cFn f), a8 s, .int .i64 k], fun _ => .st (.lit true)⟩
set_option maxHeartbeats 16000000 in
theorem compRows : SpOK Tryz.prog 6 SRowsF := fun ⟨f, s, k⟩ h8 => by
  have hC : COK Tryz.prog (cfg [(8, SAwakeP), (9, SFewF), (11, SComps), (10, SSaneF), (15, SAllF), (17, STextF), (31, SAll)]) := Ty.ty.cfg ⟨awake21, fewFC, comps, saneFC, compAll, compText, all, trivial⟩
  have h8 : B8 s := h8
  have hk := low16_rng k
  ((refine Fn.ofF hC Tryz.func6 Tryz.ntmps6 rfl rfl rfl ?_); (repeat' first | (with_reducible exact trivial) | (with_reducible rfl) | (refine And.intro ?_ ?_) | (refine Need.mk ?_) | exact True.intro | (first | (refine ⟨_, Told.refl _, ?_, ?_⟩) | (refine ⟨⟨_, _⟩, Told.refl _, ?_, ?_⟩) | (refine ⟨⟨_, _, _⟩, Told.refl _, ?_, ?_⟩) | (refine ⟨⟨_, _, _, _⟩, Told.refl _, ?_, ?_⟩) | (refine ⟨⟨_, _, _, _, _⟩, Told.refl _, ?_, ?_⟩) | (refine ⟨(), Told.refl _, ?_, ?_⟩)) | (with_reducible intro _) | (refine fun (_ : Bool) => ?_)))
  all_goals (try obtain ⟨⟨a1, a2, a3, a4⟩, ⟨b1, b2, b3, b4⟩, ⟨c1, c2, c3, c4⟩⟩ := fewF_sm ‹(!fewF f) = false›)
  all_goals (try have hsl := of_decide_eq_false ‹decide ((s.length : Int) > 60) = false›)
  all_goals first | omega | exact h8 | skip
  all_goals
    have hs : saneF f = true := by simpa using ‹(!saneF f) = false›
    have hs0 : s.length ≠ 0 := fun e => by
      have q := ‹((s.length : Int) == 0) = false›
      rw [e] at q
      cases q
    have hcl : (chars f s).length = (sgs f.enc s).length := by
      have : chars f s = (sgs f.enc s).map (charT (tls f)) := if_pos hs
      rw [this, List.length_map]
    have hp := sgs_pos f.enc (s := s) (by omega)
    have hp0 : (((chars f s).length : Int) == 0) = false := by rw [beq_eq_false_iff_ne]; omega
    have hll := chars_len f s
    obtain ⟨i, hi, hraw⟩ : ∃ i, i < (chars f s).length ∧ (low16 k).tmod ((chars f s).length : Int) = (i : Int) := by
      have h1 := Int.tmod_nonneg ((chars f s).length : Int) hk.1
      have h2 := Int.tmod_lt_of_pos (low16 k) (b := ((chars f s).length : Int)) (by omega)
      exact ⟨((low16 k).tmod ((chars f s).length : Int)).toNat, by omega, by omega⟩
    have hraw : (IntKind.i64.wrap ((BitVec.ofInt IntKind.i64.bits k &&& BitVec.ofInt IntKind.i64.bits 65535).toNat : Int)).tmod ((chars f s).length : Int) = (i : Int) := hraw
    obtain ⟨a, hal, hat, hlt, hen, hpl⟩ := rows_lawF hs hi
    try simp only [hraw, Int.toNat_natCast, hat] at *
  all_goals first
    | omega
    | exact h8
    | exact absurd ‹(((chars f s).length : Int) == 0) = true› (by rw [hp0]; decide)
    | (exfalso; have q := of_decide_eq_true ‹decide ((a : Int) < 0) = true›; omega)
    | (exfalso; have q := of_decide_eq_true ‹decide ((a : Int) > (s.length : Int)) = true›; omega)
    | skip
  refine AW.loop (I := fun k : Nat => ⟨106, [(1, a8 s), (3, .ptr 1 0), (7, .lit true), (8, .own 0), (9, .int .i64 a), (10, .str (txtT ((chars f s).take (min k i)))), (11, .int .i64 k)], [.row 55 8 (chars f s).length (els cH (chars f s)), .box 28 (cFn f)]⟩) (fun k => k ≤ (chars f s).length) (fun k => (chars f s).length - k) 0 (Nat.zero_le _) ?_ ?_
  · (repeat' first | (with_reducible exact trivial) | (with_reducible rfl) | (refine And.intro ?_ ?_) | (refine Need.mk ?_) | exact True.intro | (first | (refine ⟨_, Told.refl _, ?_, ?_⟩) | (refine ⟨⟨_, _⟩, Told.refl _, ?_, ?_⟩) | (refine ⟨⟨_, _, _⟩, Told.refl _, ?_, ?_⟩) | (refine ⟨⟨_, _, _, _⟩, Told.refl _, ?_, ?_⟩) | (refine ⟨⟨_, _, _, _, _⟩, Told.refl _, ?_, ?_⟩) | (refine ⟨(), Told.refl _, ?_, ?_⟩)) | (with_reducible intro _) | (refine fun (_ : Bool) => ?_))
    all_goals first | rfl
  · intro k hk
    rcases Nat.lt_or_ge k (chars f s).length with hlt2 | hge
    · have hd : decide ((k : Int) < ((chars f s).length : Int)) = true := decide_eq_true (by omega)
      have hw := iw (n := (k : Int) + 1) (by omega) (by omega)
      have hco := hlt k hlt2
      have hnx := txtT_next hlt2
      have hsz := txtT_size ((chars f s).take k) (fun c hc => chars_short f s c (List.mem_of_mem_take hc))
      rw [List.length_take] at hsz
      have hst : ((chars f s).getD k default).text.size ≤ 10000000 := by
        rw [getH hlt2]
        exact chars_short f s _ (List.getElem_mem hlt2)
      by_cases hki : k < i
      · have m1 : min k i = k := by omega
        have m2 : min (k + 1) i = k + 1 := by omega
        have hd2 : decide (((chars f s).getD k default).p.at_ < (a : Int)) = true := decide_eq_true (hco.2 hki)
        rw [m1]
        ((refine AW.byF ‹_› ?_); (repeat' first | (with_reducible exact trivial) | (with_reducible rfl) | (refine And.intro ?_ ?_) | (refine Need.mk ?_) | exact True.intro | (first | (refine ⟨_, Told.refl _, ?_, ?_⟩) | (refine ⟨⟨_, _⟩, Told.refl _, ?_, ?_⟩) | (refine ⟨⟨_, _, _⟩, Told.refl _, ?_, ?_⟩) | (refine ⟨⟨_, _, _, _⟩, Told.refl _, ?_, ?_⟩) | (refine ⟨⟨_, _, _, _, _⟩, Told.refl _, ?_, ?_⟩) | (refine ⟨(), Told.refl _, ?_, ?_⟩)) | (with_reducible intro _) | (refine fun (_ : Bool) => ?_)))
        all_goals (try simp only [Int.toNat_natCast] at *)
        all_goals first | (exact absurd ‹decide ((k : Int) < ((chars f s).length : Int)) = false› (by rw [hd]; decide)) | (exact absurd ‹decide (((chars f s).getD k default).p.at_ < (a : Int)) = false› (by rw [hd2]; decide)) | skip
        any_goals (refine Exists.intro (k + 1) (And.intro ?_ (And.intro ?_ ?_)); all_goals (repeat' first | (with_reducible exact trivial) | (with_reducible rfl) | (refine And.intro ?_ ?_) | (refine Need.mk ?_) | exact True.intro | (first | (refine ⟨_, Told.refl _, ?_, ?_⟩) | (refine ⟨⟨_, _⟩, Told.refl _, ?_, ?_⟩) | (refine ⟨⟨_, _, _⟩, Told.refl _, ?_, ?_⟩) | (refine ⟨⟨_, _, _, _⟩, Told.refl _, ?_, ?_⟩) | (refine ⟨⟨_, _, _, _, _⟩, Told.refl _, ?_, ?_⟩) | (refine ⟨(), Told.refl _, ?_, ?_⟩)) | (with_reducible intro _) | (refine fun (_ : Bool) => ?_)))
        all_goals first
          | omega
          | (rw [hw]; rfl)
          | (rw [m2, hnx]; done)
          | (rw [m2, hnx]; rfl)
      · have m1 : min k i = i := by omega
        have m2 : min (k + 1) i = i := by omega
        have hd2 : decide (((chars f s).getD k default).p.at_ < (a : Int)) = false := decide_eq_false (fun q => hki (hco.1 q))
        rw [m1]
        ((refine AW.byF ‹_› ?_); (repeat' first | (with_reducible exact trivial) | (with_reducible rfl) | (refine And.intro ?_ ?_) | (refine Need.mk ?_) | exact True.intro | (first | (refine ⟨_, Told.refl _, ?_, ?_⟩) | (refine ⟨⟨_, _⟩, Told.refl _, ?_, ?_⟩) | (refine ⟨⟨_, _, _⟩, Told.refl _, ?_, ?_⟩) | (refine ⟨⟨_, _, _, _⟩, Told.refl _, ?_, ?_⟩) | (refine ⟨⟨_, _, _, _, _⟩, Told.refl _, ?_, ?_⟩) | (refine ⟨(), Told.refl _, ?_, ?_⟩)) | (with_reducible intro _) | (refine fun (_ : Bool) => ?_)))
        all_goals (try simp only [Int.toNat_natCast] at *)
        all_goals first | (exact absurd ‹decide ((k : Int) < ((chars f s).length : Int)) = false› (by rw [hd]; decide)) | (exact absurd ‹decide (((chars f s).getD k default).p.at_ < (a : Int)) = true› (by rw [hd2]; decide)) | skip
        any_goals (refine Exists.intro (k + 1) (And.intro ?_ (And.intro ?_ ?_)); all_goals (repeat' first | (with_reducible exact trivial) | (with_reducible rfl) | (refine And.intro ?_ ?_) | (refine Need.mk ?_) | exact True.intro | (first | (refine ⟨_, Told.refl _, ?_, ?_⟩) | (refine ⟨⟨_, _⟩, Told.refl _, ?_, ?_⟩) | (refine ⟨⟨_, _, _⟩, Told.refl _, ?_, ?_⟩) | (refine ⟨⟨_, _, _, _⟩, Told.refl _, ?_, ?_⟩) | (refine ⟨⟨_, _, _, _, _⟩, Told.refl _, ?_, ?_⟩) | (refine ⟨(), Told.refl _, ?_, ?_⟩)) | (with_reducible intro _) | (refine fun (_ : Bool) => ?_)))
        all_goals first
          | omega
          | (rw [hw]; rfl)
          | (rw [m2]; done)
    · obtain rfl : k = (chars f s).length := by omega
      have hd : decide (((chars f s).length : Int) < ((chars f s).length : Int)) = false := decide_eq_false (by omega)
      have m1 : min (chars f s).length i = i := by omega
      rw [m1]
      ((refine AW.byF ‹_› ?_); (repeat' first | (with_reducible exact trivial) | (with_reducible rfl) | (refine And.intro ?_ ?_) | (refine Need.mk ?_) | exact True.intro | (first | (refine ⟨_, Told.refl _, ?_, ?_⟩) | (refine ⟨⟨_, _⟩, Told.refl _, ?_, ?_⟩) | (refine ⟨⟨_, _, _⟩, Told.refl _, ?_, ?_⟩) | (refine ⟨⟨_, _, _, _⟩, Told.refl _, ?_, ?_⟩) | (refine ⟨⟨_, _, _, _, _⟩, Told.refl _, ?_, ?_⟩) | (refine ⟨(), Told.refl _, ?_, ?_⟩)) | (with_reducible intro _) | (refine fun (_ : Bool) => ?_)))
      all_goals first | (exact absurd ‹decide (((chars f s).length : Int) < ((chars f s).length : Int)) = true› (by rw [hd]; decide)) | skip
      all_goals first
        | omega
        | exact h8
        | exact chars_short f s _ ‹_›
        | skip
      have hta := txtT_app hen
      have hz1 := txtT_size ((chars f s).take i) (fun c hc => chars_short f s c (List.mem_of_mem_take hc))
      have hz2 := txtT_size (chars f (s.drop a)) (chars_short f _)
      have hz3 := chars_len f (s.drop a)
      rw [List.length_drop] at hz3
      rw [List.length_take] at hz1
      refine Exists.intro (f, s.drop a) (And.intro (Told.of ⟨cFn_self f, (told_drop [] s (by omega) (fun i => rfl)).2⟩) (And.intro ⟨⟨⟨⟨a1, a2, a3, a4⟩, ⟨b1, b2, b3, b4⟩, ⟨c1, c2, c3, c4⟩⟩, by show (s.drop a).length ≤ _; rw [List.length_drop]; omega, B8.drop h8 _⟩, chars_short f _⟩ ?_))
      (repeat' first | (with_reducible exact trivial) | (with_reducible rfl) | (refine And.intro ?_ ?_) | (refine Need.mk ?_) | exact True.intro | (first | (refine ⟨_, Told.refl _, ?_, ?_⟩) | (refine ⟨⟨_, _⟩, Told.refl _, ?_, ?_⟩) | (refine ⟨⟨_, _, _⟩, Told.refl _, ?_, ?_⟩) | (refine ⟨⟨_, _, _, _⟩, Told.refl _, ?_, ?_⟩) | (refine ⟨⟨_, _, _, _, _⟩, Told.refl _, ?_, ?_⟩) | (refine ⟨(), Told.refl _, ?_, ?_⟩)) | (with_reducible intro _) | (refine fun (_ : Bool) => ?_))
      all_goals first
        | omega
        | exact h8
        | (exfalso; simp [hta, hpl] at *; done)
        | (rw [hpl]; exact beq_self_eq_true _)
end Go.Abs.Cp
