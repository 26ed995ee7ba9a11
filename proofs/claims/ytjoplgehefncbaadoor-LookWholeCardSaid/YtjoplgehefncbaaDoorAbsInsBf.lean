/- slices.Insert of one element into a row of one's own. -/
import Derived.Test.YtjoplgehefncbaaDoorProg
import Derived.Test.YtjoplgehefncbaaDoorAbsFn
import Derived.Deep.Draws
import Derived.OwnWalk
import Derived.KernelRfl
import Derived.Deep.RegionHeld3
import Derived.Deep.QuietTactic
import Derived.WideLaws
import Derived.Laws.IdiomCopy
import Derived.OrdersHeld
import Derived.Lib.Overlaps
import Derived.Lib.AppendZerosOnto
import Derived.Shelf.Spec.SlicesInsertGrow
set_option linter.all false
namespace Go.Abs.InsBf
open Go.RowKit Go.Proofs
structure Aside0 (p : Prop) : Prop where mk :: (out : p)
theorem info_ : (Tryd.prog.info? 50).map (fun i => (i.zero, i.size, i.bytes)) = some (some (Value.agg #[.int .i64 0, .int .i64 0, .int .i64 0, .slice none 0 0]), 4, 48) := by kernel_rfl
theorem cut_from {P : Program} (t e : TypeId) (kl : IntKind) {i : TypeInfo} (ht : P.underlying t = some (.slice e)) (hi : P.info? e = some i) (size : Nat) (hsz : i.size = size) (A : Option Addr) (n c : Nat) (j : Int) (h0 : 0 ≤ j) (hm : j ≤ n) :
    ∀ W : World, (Instr.slice t (.slice A n c) (some (.int kl j)) none none).run P W = .ok (.slice (if c = j.toNat then A else A.map (·.add (j.toNat * size))) (n - j.toNat) (c - j.toNat)) W := by
  intro W
  have hel : P.elem t = e := by simp [Program.elem, ht]
  have hu : P.underlying t = some (.slice (P.elem t)) := by rw [hel]; exact ht
  rw [run_slice_l W t A n c hu kl j h0 hm, hel]
  simp [sizeOf, typeInfo, hi, hsz, sliced, Result.andThen]
theorem run_copy_rowN {P : Program} (w : World) (dT sT ty elem : TypeId) (size n g o dLen dCap : Nat) (a : Addr) (sLen sCap : Nat) (cur : Array Value) (t : TypeId) (cs : List Value)
    (hu : P.underlying dT = some (.slice elem)) (hs : (P.info? elem).map (·.size) = some size)
    (hg : w.heap[g]? = some (.cells cur t (0, 0))) (hn : n = Nat.min sLen dLen) (hl0 : cs.length = n * size)
    (hsrc : ∀ j v, cs[j]? = some v → w.cell? (a.add j) = some v) (hfit : o + cs.length ≤ cur.size) (h1 : ∀ v ∈ cs, v.oneCell' = true) :
    (Builtin.copy_ #[dT, sT] ty #[.slice (some ⟨g, o, none⟩) dLen dCap, .slice (some a) sLen sCap]).run P w =
      .ok (goInt n) (w.setRow g (cur.toList.take o ++ cs ++ cur.toList.drop (o + cs.length)).toArray) := by
  have hl := run_loadCells_list (P := P) w a cs hsrc
  have hst := run_storeCells_at P g o t cs 0 cur w hg (by simpa using hfit) h1
  rw [hl0] at hl
  cases hq : P.info? elem with
  | none => simp [hq] at hs
  | some i =>
    have hi : i.size = size := by simpa [hq] using hs
    simp [Builtin.copy_, run_underlying hu, Builtin.lenOf, Builtin.firstCells, sizeOf, typeInfo, hq, hi, ← hn, hl, hst]
/-- Cells of a block. -/
theorem cells_at {W : World} {g : Nat} {cur : Array Value} {t : TypeId} (h : W.heap[g]? = some (.cells cur t (0, 0))) (o : Nat) (cs : List Value) (hc : ∀ j v, cs[j]? = some v → cur.toList[o + j]? = some v) : ∀ j v, cs[j]? = some v → W.cell? (Addr.add ⟨g, o, none⟩ j) = some v := by
  intro j v hj
  have e := hc j v hj
  rw [Addr.add_lit]
  simp only [World.cell?, h]
  simpa using e
theorem shape_at {W : World} {g : Nat} {cur : Array Value} {t : TypeId} (h : W.heap[g]? = some (.cells cur t (0, 0))) : W.shape? g = some (t, cur.size) := by
  simp [World.shape?, h]
theorem frozen_at {W : World} {g : Nat} {cur : Array Value} {t : TypeId} (h : W.heap[g]? = some (.cells cur t (0, 0))) (o : Nat) : W.frozen? ⟨g, o, none⟩ = false := by
  simp [World.frozen?, h]
theorem grownBy_setRow_ (w : World) (g : Nat) (cs : Array Value) : w.grownBy (w.setRow g cs) (some g) := by
  exact ⟨rfl, rfl, rfl, Nat.le_of_eq (by simp [World.setRow]), fun k _ hk => setRow_other w g k cs (fun e => hk (by rw [e]))⟩
theorem grownBy_drew_ (w : World) (r : Option Nat) : w.grownBy w.drew r := ⟨rfl, rfl, rfl, Nat.le_refl _, fun _ _ _ => rfl⟩
theorem zero_size (n : Nat) : (Builtin.zeroCells (Value.agg #[.int .i64 0, .int .i64 0, .int .i64 0, .slice none 0 0]).cells n).toList.length = n * 4 := by
  simp [Builtin.zeroCells, Value.cells]
theorem run_last {w : World} (base : Nat) (v : Value) (n g2 c2 : Nat) (inner cs : List Value) (cv : Array Value) (hown : w.ownsRow base 50 4 v n inner) (hvA : w.heap[g2]? = some (.cells cv 50 (0, 0))) (hvt : cv.toList.take 4 = cs) (hcs : cs.length = 4) (h1c : ∀ u ∈ cs, u.oneCell' = true) (hbase : base ≤ w.heap.size) (hn : n < 4294967296) :
    ∃ v' w', (Builtin.append_ #[24, 24] 24 #[v, .slice (some ⟨g2, 0, none⟩) 1 c2]).run Tryd.prog w = .ok v' w' ∧ w'.ownsRow base 50 4 v' (n + 1) (inner ++ cs) ∧ w.grownBy w' v.ownBlock ∧
      (v' = .slice none 0 0 ↔ v = .slice none 0 0 ∧ 1 = 0) ∧ (v'.ownBlock = v.ownBlock ∨ v'.ownBlock = some w.heap.size) := by
  obtain ⟨i0, hi0, hz0, hzs, hzb⟩ := info_parts info_
  exact run_append_own_at w base 24 24 50 i0 (Value.agg #[.int .i64 0, .int .i64 0, .int .i64 0, .slice none 0 0]) 4 48 Tryd.underlying24 hi0 hz0 hzs hzb (by simp [Value.cells]) (by decide) v n inner hown ⟨g2, 0, none⟩ 1 c2 cs (by simpa using hcs)
    (cells_at hvA 0 cs (fun j u hj => by
      rw [← hvt, List.getElem?_take] at hj
      rw [Nat.zero_add]
      split at hj
      · exact hj
      · cases hj)) h1c (by unfold maxLen; omega) (by omega) hbase
end Go.Abs.InsBf
