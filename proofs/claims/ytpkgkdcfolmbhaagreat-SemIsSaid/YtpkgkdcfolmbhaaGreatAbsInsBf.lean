/- slices.Insert of one element into a row of one's own. -/
import Derived.Test.YtpkgkdcfolmbhaaGreatProg
import Derived.Test.YtpkgkdcfolmbhaaGreatAbsFn
import Derived.Deep.Draws
import Derived.OwnWalk
import Derived.KernelRfl
import Derived.Deep.RegionHeld3
import Derived.Deep.QuietTactic
import Derived.WideLaws
import Derived.Laws.IdiomCopy
import Derived.OrdersHeld
import Derived.Lib.Overlaps
import Derived.Lib.AppendZerosOnto
import Derived.Shelf.Spec.SlicesInsertGrow
set_option linter.all false
namespace Go.Abs.InsBf
open Go.RowKit Go.Proofs
structure Aside0 (p : Prop) : Prop where mk :: (out : p)
theorem info_ : (Tryz.prog.info? 73).map (fun i => (i.zero, i.size, i.bytes)) = some (some (Value.agg #[.int .i64 0, .int .i64 0, .int .i64 0, .slice none 0 0]), 4, 48) := by kernel_rfl
theorem cut_from {P : Program} (t e : TypeId) (kl : IntKind) {i : TypeInfo} (ht : P.underlying t = some (.slice e)) (hi : P.info? e = some i) (size : Nat) (hsz : i.size = size) (A : Option Addr) (n c : Nat) (j : Int) (h0 : 0 ≤ j) (hm : j ≤ n) :
    ∀ W : World, (Instr.slice t (.slice A n c) (some (.int kl j)) none none).run P W = .ok (.slice (if c = j.toNat then A else A.map (·.add (j.toNat * size))) (n - j.toNat) (c - j.toNat)) W := by
  intro W
  have hel : P.elem t = e := by simp [Program.elem, ht]
  have hu : P.underlying t = some (.slice (P.elem t)) := by rw [hel]; exact ht
  rw [run_slice_l W t A n c hu kl j h0 hm, hel]
  simp [sizeOf, typeInfo, hi, hsz, sliced, Result.andThen]
theorem run_copy_rowN {P : Program} (w : World) (dT sT ty elem : TypeId) (size n g o dLen dCap : Nat) (a : Addr) (sLen sCap : Nat) (cur : Array Value) (t : TypeId) (cs : List Value)
    (hu : P.underlying dT = some (.slice elem)) (hs : (P.info? elem).map (·.size) = some size)
    (hg : w.heap[g]? = some (.cells cur t (0, 0))) (hn : n = Nat.min sLen dLen) (hl0 : cs.length = n * size)
    (hsrc : ∀ j v, cs[j]? = some v → w.cell? (a.add j) = some v) (hfit : o + cs.length ≤ cur.size) (h1 : ∀ v ∈ cs, v.oneCell' = true) :
    (Builtin.copy_ #[dT, sT] ty #[.slice (some ⟨g, o, none⟩) dLen dCap, .slice (some a) sLen sCap]).run P w =
      .ok (goInt n) (w.setRow g (cur.toList.take o ++ cs ++ cur.toList.drop (o + cs.length)).toArray) := by
  have hl := run_loadCells_list (P := P) w a cs hsrc
  have hst := run_storeCells_at P g o t cs 0 cur w hg (by simpa using hfit) h1
  rw [hl0] at hl
  cases hq : P.info? elem with
  | none => simp [hq] at hs
  | some i =>
    have hi : i.size = size := by simpa [hq] using hs
    simp [Builtin.copy_, run_underlying hu, Builtin.lenOf, Builtin.firstCells, sizeOf, typeInfo, hq, hi, ← hn, hl, hst]
/-- Cells of a block. -/
theorem cells_at {W : World} {g : Nat} {cur : Array Value} {t : TypeId} (h : W.heap[g]? = some (.cells cur t (0, 0))) (o : Nat) (cs : List Value) (hc : ∀ j v, cs[j]? = some v → cur.toList[o + j]? = some v) : ∀ j v, cs[j]? = some v → W.cell? (Addr.add ⟨g, o, none⟩ j) = some v := by
  intro j v hj
  have e := hc j v hj
  rw [Addr.add_lit]
  simp only [World.cell?, h]
  simpa using e
theorem shape_at {W : World} {g : Nat} {cur : Array Value} {t : TypeId} (h : W.heap[g]? = some (.cells cur t (0, 0))) : W.shape? g = some (t, cur.size) := by
  simp [World.shape?, h]
theorem frozen_at {W : World} {g : Nat} {cur : Array Value} {t : TypeId} (h : W.heap[g]? = some (.cells cur t (0, 0))) (o : Nat) : W.frozen? ⟨g, o, none⟩ = false := by
  simp [World.frozen?, h]
theorem grownBy_setRow_ (w : World) (g : Nat) (cs : Array Value) : w.grownBy (w.setRow g cs) (some g) := by
  exact ⟨rfl, rfl, rfl, Nat.le_of_eq (by simp [World.setRow]), fun k _ hk => setRow_other w g k cs (fun e => hk (by rw [e]))⟩
theorem grownBy_drew_ (w : World) (r : Option Nat) : w.grownBy w.drew r := ⟨rfl, rfl, rfl, Nat.le_refl _, fun _ _ _ => rfl⟩
set_option maxRecDepth 100000 in
set_option maxHeartbeats 4000000 in
/-- There is room: in place. -/
theorem room {WA : World} (g n c i g2 c2 : Nat) (cur cv : Array Value) (inner cs : List Value) (hi : i < n) (hroom : n + 1 ≤ c) (hc63 : c ≤ 9223372036854775807)
    (hgA : WA.heap[g]? = some (.cells cur 73 (0, 0))) (hvA : WA.heap[g2]? = some (.cells cv 73 (0, 0))) (hvt : cv.toList.take 4 = cs) (hgv : g2 ≠ g) (hsz : cur.size = c * 4) (hin : cur.toList.take (n * 4) = inner) (hinm : ∀ v ∈ inner, v.oneCell' = true) (hcs : cs.length = 4) (h1c : ∀ v ∈ cs, v.oneCell' = true) :
    Calls Tryz.prog 138 #[.slice (some ⟨g, 0, none⟩) n c, .int .i64 (i : Int), .slice (some ⟨g2, 0, none⟩) 1 c2] WA fun e w' =>
      e = .returned (.slice (some ⟨g, 0, none⟩) (n + 1) c) ∧ ∃ cur2 : Array Value, cur2.size = c * 4 ∧ cur2.toList.take ((n + 1) * 4) = inner.take (i * 4) ++ (cs ++ inner.drop (i * 4)) ∧ w'.heap[g]? = some (.cells cur2 73 (0, 0)) ∧ WA.grownBy w' (some g) := by
  have hgl : g < WA.heap.size := (Array.getElem?_eq_some_iff.1 hgA).1
  have hvl : g2 < WA.heap.size := (Array.getElem?_eq_some_iff.1 hvA).1
  have hcv : ∀ (j : Nat) (v : Value), cs[j]? = some v → cv.toList[0 + j]? = some v := fun j v hj => by
    rw [← hvt, List.getElem?_take] at hj
    rw [Nat.zero_add]
    split at hj
    · exact hj
    · cases hj
  have hlen : inner.length = n * 4 := by rw [← hin, List.length_take, Array.length_toList, hsz]; omega
  have T := 24
  have info := info_parts info_
  obtain ⟨i0, hi0, hz0, hzs, hzb⟩ := info
  have hsi : (Tryz.prog.info? 73).map (·.size) = some 4 := by rw [hi0]; simp [hzs]
  have hun := Tryz.underlying24
  have hov : ∀ W', W' = WA → ∀ lb cb, (callFunc 161 #[.slice (some ⟨g2, 0, none⟩) 1 c2, .slice (some ⟨g, (i + 1) * 4, none⟩) lb cb]).run Tryz.prog W' = .ok (.value (.bool false)) W' := fun W' e lb cb => by
    subst e
    rw [run_callFunc_extern Tryz.func161 (by kernel_rfl) (by kernel_rfl) (by kernel_rfl) (e := Extern.SlicesOverlaps.overlaps #[24, 24] #[4]) (by kernel_rfl),
      Lib.run_overlaps_apart W' 24 4 73 hun 4 (fun w => by simp [sizeOf, typeInfo, hi0, hzs]) ⟨g2, 0, none⟩ ⟨g, (i + 1) * 4, none⟩ 1 c2 lb cb hgv 73 73 cv.size cur.size (shape_at hvA) (shape_at hgA) (by rw [hsz]; omega) (frozen_at hvA 0) (frozen_at hvA _)]
    rfl
  have hidl : (inner.drop (i * 4)).length = (n - i) * 4 := by rw [List.length_drop, hlen, Nat.sub_mul]
  have hm4 : (n - i) * 4 + (i + 1) * 4 = (n + 1) * 4 := by omega
  have hcl : cur.toList.length = c * 4 := by rw [Array.length_toList, hsz]
  obtain ⟨cur1, hc1⟩ : ∃ cur1 : Array Value, cur1 = (cur.toList.take ((i + 1) * 4) ++ inner.drop (i * 4) ++ cur.toList.drop ((i + 1) * 4 + (inner.drop (i * 4)).length)).toArray := ⟨_, rfl⟩
  have hc1l : cur1.toList = cur.toList.take ((i + 1) * 4) ++ inner.drop (i * 4) ++ cur.toList.drop ((i + 1) * 4 + (inner.drop (i * 4)).length) := by rw [hc1]
  have hc1s : cur1.size = c * 4 := by
    rw [← Array.length_toList, hc1l, List.length_append, List.length_append, hidl, List.length_take, List.length_drop, hcl]
    omega
  have hcp1 : ∀ ty dc sc, (Builtin.copy_ #[24, 24] ty #[.slice (some ⟨g, (i + 1) * 4, none⟩) (n - i) dc, .slice (some ⟨g, i * 4, none⟩) (n + 1 - i) sc]).run Tryz.prog WA.drew = .ok (goInt (n - i : Nat)) (WA.drew.setRow g cur1) := fun ty dc sc => by
    rw [hc1]
    exact run_copy_rowN WA.drew _ _ ty 73 4 (n - i) g ((i + 1) * 4) (n - i) dc ⟨g, i * 4, none⟩ (n + 1 - i) sc cur 73 (inner.drop (i * 4)) hun hsi hgA (by simp only [Nat.min_def]; split <;> omega) hidl
      (cells_at hgA (i * 4) _ (fun j v hj => by
        rw [List.getElem?_drop, ← hin, List.getElem?_take] at hj
        split at hj
        · exact hj
        · cases hj)) (by rw [hidl, hsz]; omega) (fun v hv => hinm v (List.mem_of_mem_drop hv))
  have hg2 : (WA.drew.setRow g cur1).heap[g]? = some (.cells cur1 73 (0, 0)) := setRow_heap _ g cur _ _ _ hgA
  have hv2 : (WA.drew.setRow g cur1).heap[g2]? = some (.cells cv 73 (0, 0)) := (setRow_other _ g _ _ hgv).trans hvA
  obtain ⟨cur2, hc2⟩ : ∃ cur2 : Array Value, cur2 = (cur1.toList.take (i * 4) ++ cs ++ cur1.toList.drop (i * 4 + cs.length)).toArray := ⟨_, rfl⟩
  have hc2l : cur2.toList = cur1.toList.take (i * 4) ++ cs ++ cur1.toList.drop (i * 4 + cs.length) := by rw [hc2]
  have hc1n : cur1.toList.length = c * 4 := by rw [Array.length_toList, hc1s]
  have hcp2 : ∀ (W' : World), W' = WA.drew.setRow g cur1 → ∀ ty dc, (Builtin.copy_ #[24, 24] ty #[.slice (some ⟨g, i * 4, none⟩) (n + 1 - i) dc, .slice (some ⟨g2, 0, none⟩) 1 c2]).run Tryz.prog W' = .ok (goInt (1 : Nat)) (W'.setRow g cur2) := fun W' e ty dc => by
    subst e
    rw [hc2]
    exact run_copy_rowN _ _ _ ty 73 4 1 g (i * 4) (n + 1 - i) dc ⟨g2, 0, none⟩ 1 c2 cur1 73 cs hun hsi hg2 (by simp only [Nat.min_def]; split <;> omega) (by rw [hcs])
      (cells_at hv2 0 _ hcv) (by rw [hcs, hc1s]; omega) h1c
  have hz2 : ¬ ((i : Int) = (n : Int)) := by omega
  have hw1 : IntKind.i64.wrap ((i : Int) + 1) = (i : Int) + 1 := by rw [IntKind.wrap_i64]; omega
  have hw2 : IntKind.i64.wrap ((n : Int) + 1) = (n : Int) + 1 := by rw [IntKind.wrap_i64]; omega
  have hb1 : (0 : Int) ≤ (i : Int) + 1 := by omega
  have htn : ((i : Int) + 1).toNat = i + 1 := by omega
  have hb2 : ¬ (c = i + 1) := by omega
  have hb3 : (i : Int) ≤ (n : Int) + 1 := by omega
  have hb4 : ¬ (c = i) := by omega
  have hb5 : i ≤ n := by omega
  have hb6 : (i : Int) + 1 ≤ (n : Int) + 1 := by omega
  have hov2 := hov WA rfl
  go_enter Tryz.func138, Tryz.ntmps138
  have mixed : Tryz.prog.follows Departure.mixedOrders = true := by kernel_rfl
  have e1 : cur1.toList.take (i * 4) = inner.take (i * 4) := by
    rw [hc1l, List.append_assoc, List.take_append_of_le_length (by rw [List.length_take, hcl]; omega), List.take_take, Nat.min_eq_left (by omega), ← hin, List.take_take, Nat.min_eq_left (by omega)]
  have e2 : cur1.toList.drop (i * 4 + cs.length) = inner.drop (i * 4) ++ cur.toList.drop ((i + 1) * 4 + (inner.drop (i * 4)).length) := by
    rw [hc1l, List.append_assoc]
    exact List.drop_left' (by rw [List.length_take, hcl, hcs]; omega)
  have hsz2 : cur2.size = c * 4 := by
    rw [← Array.length_toList, hc2l, List.length_append, List.length_append, List.length_take, List.length_drop, hcs, hc1n]
    omega
  have htk : cur2.toList.take ((n + 1) * 4) = inner.take (i * 4) ++ (cs ++ inner.drop (i * 4)) := by
    rw [hc2l, e1, e2, List.append_assoc, ← List.append_assoc cs, ← List.append_assoc]
    exact List.take_left' (by rw [List.length_append, List.length_append, List.length_take, hidl, hcs, hlen]; omega)
  have HSZ := Aside0.mk hsz2
  have HTK := Aside0.mk htk
  have HG2 := Aside0.mk hg2
  clear hov e1 e2 hsz2 htk hc1 hc1l hc2 hc2l hc1n hidl hm4 hcl hinm hc1s hlen hg2 hv2 hin
  go_wp2_with (simp only [hov2])
  go_region_law_o (refine step_copy_runI rfl _ _ 24 24 rfl _ _ (by simp [Act.eval, Act.put]) (by simp [Act.eval, Act.put]) (hcp1 _ _ _) ?_)
  go_wp2_with (at_builtin; refine wpList_copy_runI _ rfl _ _ 24 24 rfl _ _ rfl rfl (hcp2 _ rfl _ _) ?_)
  go_ret
  refine ⟨rfl, cur2, HSZ.out, HTK.out, setRow_heap _ g cur1 _ _ _ HG2.out, ?_⟩
  exact World.grownBy.trans (grownBy_drew_ _ _) (World.grownBy.trans (grownBy_setRow_ _ _ _) (grownBy_setRow_ _ _ _))
theorem zero_size (n : Nat) : (Builtin.zeroCells (Value.agg #[.int .i64 0, .int .i64 0, .int .i64 0, .slice none 0 0]).cells n).toList.length = n * 4 := by
  simp [Builtin.zeroCells, Value.cells]
set_option maxRecDepth 100000 in
set_option maxHeartbeats 4000000 in
/-- There is no room: a new row. -/
theorem grow {WA : World} (g n c i g2 c2 : Nat) (cur cv : Array Value) (inner cs : List Value) (hi : i < n) (hnc : n ≤ c) (hroom : c < n + 1) (hn32 : n < 4294967296)
    (hgA : WA.heap[g]? = some (.cells cur 73 (0, 0))) (hvA : WA.heap[g2]? = some (.cells cv 73 (0, 0))) (hvt : cv.toList.take 4 = cs) (hgv : g2 ≠ g) (hsz : cur.size = c * 4) (hin : cur.toList.take (n * 4) = inner) (hinm : ∀ v ∈ inner, v.oneCell' = true) (hcs : cs.length = 4) (h1c : ∀ v ∈ cs, v.oneCell' = true) :
    Calls Tryz.prog 138 #[.slice (some ⟨g, 0, none⟩) n c, .int .i64 (i : Int), .slice (some ⟨g2, 0, none⟩) 1 c2] WA fun e w' =>
      ∃ G, e = .returned (.slice (some ⟨WA.heap.size, 0, none⟩) (n + 1) G) ∧ n + 1 ≤ G ∧ G ≤ maxLen ∧ ∃ cur2 : Array Value, cur2.size = G * 4 ∧ cur2.toList.take ((n + 1) * 4) = inner.take (i * 4) ++ (cs ++ inner.drop (i * 4)) ∧ w'.heap[WA.heap.size]? = some (.cells cur2 73 (0, 0)) ∧ WA.grownBy w' none := by
  have hgl : g < WA.heap.size := (Array.getElem?_eq_some_iff.1 hgA).1
  have hvl : g2 < WA.heap.size := (Array.getElem?_eq_some_iff.1 hvA).1
  have hcv : ∀ (j : Nat) (v : Value), cs[j]? = some v → cv.toList[0 + j]? = some v := fun j v hj => by
    rw [← hvt, List.getElem?_take] at hj
    rw [Nat.zero_add]
    split at hj
    · exact hj
    · cases hj
  have hlen : inner.length = n * 4 := by rw [← hin, List.length_take, Array.length_toList, hsz]; omega
  obtain ⟨i0, hi0, hz0, hzs, hzb⟩ := info_parts info_
  have hsi : (Tryz.prog.info? 73).map (·.size) = some 4 := by rw [hi0]; simp [hzs]
  have hun := Tryz.underlying24
  have hidl : (inner.drop (i * 4)).length = (n - i) * 4 := by rw [List.length_drop, hlen, Nat.sub_mul]
  have hitl : (inner.take (i * 4)).length = i * 4 := by rw [List.length_take, hlen]; omega
  have hcat : ∀ j v, inner[j]? = some v → cur.toList[j]? = some v := fun j v hj => by
    rw [← hin, List.getElem?_take] at hj
    split at hj
    · exact hj
    · cases hj
  have hold : (Builtin.firstCells i0.size i (.slice (some ⟨g, 0, none⟩) i c)).run Tryz.prog WA.drew = .ok (inner.take (i * 4)).toArray WA.drew := by
    rw [hzs]
    exact run_firstCells_some WA.drew 4 i ⟨g, 0, none⟩ i c (inner.take (i * 4)) hitl (cells_at (W := WA.drew) hgA 0 _ (fun j v hj => by
      rw [List.getElem?_take] at hj
      rw [Nat.zero_add]
      split at hj
      · exact hcat j v hj
      · cases hj))
  have hkk : (n : Int) + 1 - (i : Int) = ((n + 1 - i : Nat) : Int) := by omega
  have hik : i + (n + 1 - i) = n + 1 := by omega
  obtain ⟨G, hG⟩ : ∃ G, G = grownCap WA (n + 1) c 73 := ⟨_, rfl⟩
  obtain ⟨zc, hzc⟩ : ∃ zc, zc = (Value.agg #[.int .i64 0, .int .i64 0, .int .i64 0, .slice none 0 0]).cells := ⟨_, rfl⟩
  obtain ⟨ROW, hROW⟩ : ∃ ROW : Array Value, ROW = (inner.take (i * 4)).toArray ++ Builtin.zeroCells zc (n + 1 - i) ++ Builtin.zeroCells zc (G - (n + 1)) := ⟨_, rfl⟩
  have hGn : n + 1 ≤ G := by rw [hG]; exact grownCap_ge WA _ _ _
  have hGm : G ≤ maxLen := by rw [hG]; exact grownCap_le_maxLen WA (n + 1) c 73 (by unfold maxLen; omega)
  have hrz : ∀ ty, (Builtin.append_ #[24, 3] ty #[.slice (some ⟨g, 0, none⟩) i c, .int .i64 ((n : Int) + 1 - (i : Int))]).run Tryz.prog WA =
      .ok (.slice (some ⟨WA.heap.size, 0, none⟩) (n + 1) G) (WA.drew.alloc (.cells ROW 73)) := fun ty => by
    have h := Lib.run_append_grow_zeros WA 24 3 ty 73 i0 _ .i64 .i64 hun Tryz.underlying3 hi0 hz0 (some ⟨g, 0, none⟩) i c (inner.take (i * 4)) hold (n + 1 - i) (by omega) (by omega) (by omega) (by omega) (by rw [hzb]; omega) (by rw [hzb, hik]; exact growslice_fits hroom (by omega))
    rw [hik, ← hG, ← hzc, ← hROW] at h
    rw [hkk]
    exact h
  have hRl : ROW.toList = inner.take (i * 4) ++ (Builtin.zeroCells zc (n + 1 - i)).toList ++ (Builtin.zeroCells zc (G - (n + 1))).toList := by rw [hROW]; simp
  have hz4 : ∀ m, (Builtin.zeroCells zc m).toList.length = m * 4 := fun m => by rw [hzc]; exact zero_size m
  have hRs : ROW.size = G * 4 := by
    rw [← Array.length_toList, hRl, List.length_append, List.length_append, hitl, hz4, hz4]
    omega
  have hRn : ROW.toList.length = G * 4 := by rw [Array.length_toList, hRs]
  have hRt : ROW.toList.take (i * 4) = inner.take (i * 4) := by
    rw [hRl, List.append_assoc]
    exact List.take_left' hitl
  obtain ⟨cur1, hc1⟩ : ∃ cur1 : Array Value, cur1 = (ROW.toList.take (i * 4) ++ cs ++ ROW.toList.drop (i * 4 + cs.length)).toArray := ⟨_, rfl⟩
  have hc1l : cur1.toList = ROW.toList.take (i * 4) ++ cs ++ ROW.toList.drop (i * 4 + cs.length) := by rw [hc1]
  have hc1s : cur1.size = G * 4 := by
    rw [← Array.length_toList, hc1l, List.length_append, List.length_append, List.length_take, List.length_drop, hcs, hRn]
    omega
  have hc1n : cur1.toList.length = G * 4 := by rw [Array.length_toList, hc1s]
  obtain ⟨cur2, hc2⟩ : ∃ cur2 : Array Value, cur2 = (cur1.toList.take ((i + 1) * 4) ++ inner.drop (i * 4) ++ cur1.toList.drop ((i + 1) * 4 + (inner.drop (i * 4)).length)).toArray := ⟨_, rfl⟩
  have hc2l : cur2.toList = cur1.toList.take ((i + 1) * 4) ++ inner.drop (i * 4) ++ cur1.toList.drop ((i + 1) * 4 + (inner.drop (i * 4)).length) := by rw [hc2]
  have hNb : ∀ W' : World, W'.heap = (WA.drew.alloc (.cells ROW 73)).heap → W'.heap[WA.heap.size]? = some (.cells ROW 73 (0, 0)) := fun W' e => by rw [e]; exact heap_alloc_new WA.drew (.cells ROW 73)
  have hVb : ∀ W' : World, W'.heap = (WA.drew.alloc (.cells ROW 73)).heap → W'.heap[g2]? = some (.cells cv 73 (0, 0)) := fun W' e => by rw [e]; exact (Below.heap_alloc WA.drew _ _ (by show _ < WA.heap.size; omega)).trans hvA
  have hGb : ∀ W' : World, W'.heap = (WA.drew.alloc (.cells ROW 73)).heap → W'.heap[g]? = some (.cells cur 73 (0, 0)) := fun W' e => by rw [e]; exact (Below.heap_alloc WA.drew _ _ (by show _ < WA.heap.size; omega)).trans hgA
  have hcpA : ∀ (W' : World), W'.heap = (WA.drew.alloc (.cells ROW 73)).heap → ∀ ty dc, (Builtin.copy_ #[24, 24] ty #[.slice (some ⟨WA.heap.size, i * 4, none⟩) (n + 1 - i) dc, .slice (some ⟨g2, 0, none⟩) 1 c2]).run Tryz.prog W' = .ok (goInt (1 : Nat)) (W'.setRow (WA.heap.size) cur1) := fun W' e ty dc => by
    rw [hc1]
    exact run_copy_rowN W' _ _ ty 73 4 1 (WA.heap.size) (i * 4) (n + 1 - i) dc ⟨g2, 0, none⟩ 1 c2 ROW 73 cs hun hsi (hNb W' e) (by simp only [Nat.min_def]; split <;> omega) (by rw [hcs])
      (cells_at (hVb W' e) 0 _ hcv) (by rw [hcs, hRs]; omega) h1c
  have hcpB : ∀ (W' W2 : World), W2.heap = (WA.drew.alloc (.cells ROW 73)).heap → W'.heap = (W2.setRow (WA.heap.size) cur1).heap → ∀ ty dc sc, (Builtin.copy_ #[24, 24] ty #[.slice (some ⟨WA.heap.size, (i + 1) * 4, none⟩) (n - i) dc, .slice (some ⟨g, i * 4, none⟩) (n - i) sc]).run Tryz.prog W' = .ok (goInt (n - i : Nat)) (W'.setRow (WA.heap.size) cur2) := fun W' W2 e2 e ty dc sc => by
    rw [hc2]
    exact run_copy_rowN W' _ _ ty 73 4 (n - i) (WA.heap.size) ((i + 1) * 4) (n - i) dc ⟨g, i * 4, none⟩ (n - i) sc cur1 73 (inner.drop (i * 4)) hun hsi (by rw [e]; exact setRow_heap W2 _ ROW _ _ _ (hNb W2 e2)) (by simp only [Nat.min_def]; split <;> omega) hidl
      (cells_at (by rw [e]; exact (setRow_other W2 _ g _ (by omega)).trans (hGb W2 e2)) (i * 4) _ (fun j v hj => by rw [List.getElem?_drop] at hj; exact hcat _ v hj)) (by rw [hidl, hc1s]; omega) (fun v hv => hinm v (List.mem_of_mem_drop hv))
  have e1 : cur1.toList.take ((i + 1) * 4) = inner.take (i * 4) ++ cs := by
    rw [hc1l, hRt]
    exact List.take_left' (by rw [List.length_append, hitl, hcs]; omega)
  have hsz2 : cur2.size = G * 4 := by
    rw [← Array.length_toList, hc2l, List.length_append, List.length_append, hidl, List.length_take, List.length_drop, hc1n]
    omega
  have htk : cur2.toList.take ((n + 1) * 4) = inner.take (i * 4) ++ (cs ++ inner.drop (i * 4)) := by
    rw [hc2l, e1, List.append_assoc (inner.take (i * 4)) cs]
    exact List.take_left' (by rw [List.length_append, List.length_append, hitl, hidl, hcs]; omega)
  have HSZ := Aside0.mk hsz2
  have HTK := Aside0.mk htk
  have HGN := Aside0.mk hGn
  have HGM := Aside0.mk hGm
  have HNB := Aside0.mk hNb
  have hz2 : ¬ ((i : Int) = (n : Int)) := by omega
  have hz3 : (c : Int) < (n : Int) + 1 := by omega
  have hw1 : IntKind.i64.wrap ((i : Int) + 1) = (i : Int) + 1 := by rw [IntKind.wrap_i64]; omega
  have hw2 : IntKind.i64.wrap ((n : Int) + 1) = (n : Int) + 1 := by rw [IntKind.wrap_i64]; omega
  have hw3 : IntKind.i64.wrap ((n : Int) + 1 - i) = (n : Int) + 1 - i := by rw [IntKind.wrap_i64]; omega
  have hb1 : (0 : Int) ≤ (i : Int) + 1 := by omega
  have htn : ((i : Int) + 1).toNat = i + 1 := by omega
  have hGi : ¬ (G = i) := by omega
  have hGim : ¬ (G = i + 1) := by omega
  have hci : ¬ (c = i) := by omega
  have hb3 : (i : Int) ≤ (n : Int) + 1 := by omega
  have hb5 : i ≤ n := by omega
  have hb6 : (i : Int) + 1 ≤ (n : Int) + 1 := by omega
  have hG63 : G ≤ 9223372036854775807 := by unfold maxLen at hGm; omega
  have mixed : Tryz.prog.follows Departure.mixedOrders = true := by kernel_rfl
  clear hold hkk hik hG hzc hROW hRl hz4 hRs hRn hRt hc1 hc1l hc1s hc1n hc2 hc2l e1 hsz2 htk hNb hVb hGb hidl hitl hcat hlen hin hgA hvA hGm
  have hA := hcpA (WA.alloc (.cells ROW 73)).drew rfl
  have hB := hcpB ((WA.alloc (.cells ROW 73)).drew.setRow (WA.heap.size) cur1).drew (WA.alloc (.cells ROW 73)).drew rfl rfl
  clear hcpA hcpB
  go_enter Tryz.func138, Tryz.ntmps138
  go_wp2_with (at_builtin; refine Lib.wpList_append_run _ rfl _ _ _ _ rfl _ _ rfl rfl _ _ (hrz _) ?_)
  go_region_law_o (refine step_copy_runI rfl _ _ 24 24 rfl _ _ (by simp [Act.eval, Act.put]) (by simp [Act.eval, Act.put]) (hB _ _ _) ?_)
  go_wp2
  go_ret
  refine ⟨G, rfl, HGN.out, HGM.out, cur2, HSZ.out, HTK.out, ?_, ?_⟩
  · exact setRow_heap _ _ cur1 _ _ _ (setRow_heap _ _ ROW _ _ _ (HNB.out (WA.alloc (.cells ROW 73)).drew rfl))
  · have h : WA.grownBy ((((WA.alloc (.cells ROW 73)).drew.setRow (WA.heap.size) cur1).drew).setRow (WA.heap.size) cur2) (some (WA.heap.size)) :=
      World.grownBy.trans (World.grownBy_alloc WA (.cells ROW 73) _) (World.grownBy.trans (grownBy_drew_ _ _) (World.grownBy.trans (grownBy_setRow_ _ _ _) (World.grownBy.trans (grownBy_drew_ _ _) (grownBy_setRow_ _ _ _))))
    exact ⟨h.os, h.tape, h.output, h.size, fun k hk _ => h.block k hk (fun e => by cases e; omega)⟩
theorem run_last {w : World} (base : Nat) (v : Value) (n g2 c2 : Nat) (inner cs : List Value) (cv : Array Value) (hown : w.ownsRow base 73 4 v n inner) (hvA : w.heap[g2]? = some (.cells cv 73 (0, 0))) (hvt : cv.toList.take 4 = cs) (hcs : cs.length = 4) (h1c : ∀ u ∈ cs, u.oneCell' = true) (hbase : base ≤ w.heap.size) (hn : n < 4294967296) :
    ∃ v' w', (Builtin.append_ #[24, 24] 24 #[v, .slice (some ⟨g2, 0, none⟩) 1 c2]).run Tryz.prog w = .ok v' w' ∧ w'.ownsRow base 73 4 v' (n + 1) (inner ++ cs) ∧ w.grownBy w' v.ownBlock ∧
      (v' = .slice none 0 0 ↔ v = .slice none 0 0 ∧ 1 = 0) ∧ (v'.ownBlock = v.ownBlock ∨ v'.ownBlock = some w.heap.size) := by
  obtain ⟨i0, hi0, hz0, hzs, hzb⟩ := info_parts info_
  exact run_append_own_at w base 24 24 73 i0 (Value.agg #[.int .i64 0, .int .i64 0, .int .i64 0, .slice none 0 0]) 4 48 Tryz.underlying24 hi0 hz0 hzs hzb (by simp [Value.cells]) (by decide) v n inner hown ⟨g2, 0, none⟩ 1 c2 cs (by simpa using hcs)
    (cells_at hvA 0 cs (fun j u hj => by
      rw [← hvt, List.getElem?_take] at hj
      rw [Nat.zero_add]
      split at hj
      · exact hj
      · cases hj)) h1c (by unfold maxLen; omega) (by omega) hbase
set_option maxRecDepth 100000 in
set_option maxHeartbeats 4000000 in
theorem at_end {w : World} (base : Nat) (v : Value) (n g2 c2 : Nat) (inner cs : List Value) (cv : Array Value) (hown : w.ownsRow base 73 4 v n inner) (hvA : w.heap[g2]? = some (.cells cv 73 (0, 0))) (hvt : cv.toList.take 4 = cs) (hcs : cs.length = 4) (h1c : ∀ u ∈ cs, u.oneCell' = true) (hbase : base ≤ w.heap.size) (hn : n < 4294967296) :
    Calls Tryz.prog 138 #[v, .int .i64 (n : Int), .slice (some ⟨g2, 0, none⟩) 1 c2] w fun e w' => ∃ v1, e = .returned v1 ∧ w'.ownsRow base 73 4 v1 (n + 1) (inner ++ cs) ∧ w.grownBy w' v.ownBlock ∧ (v1.ownBlock = v.ownBlock ∨ v1.ownBlock = some w.heap.size) := by
  obtain ⟨A, c, rfl⟩ : ∃ A c, v = .slice A n c := by
    rcases hown.2 with ⟨rfl, rfl⟩ | ⟨g, cap, cur, rfl, _⟩
    · exact ⟨_, _, rfl⟩
    · exact ⟨_, _, rfl⟩
  obtain ⟨v', w1, hr, h1, h2, h3, h4⟩ := run_last base _ n g2 c2 inner cs cv hown hvA hvt hcs h1c hbase hn
  obtain ⟨i0, hi0, _, hsz, _⟩ := info_parts info_
  have hcut := cut_from (P := Tryz.prog) 24 73 .i64 Tryz.underlying24 hi0 4 hsz A n c (n : Int) (by omega) (by omega)
  have H1 := Aside0.mk h1
  have H2 := Aside0.mk h2
  have H4 := Aside0.mk h4
  clear h1 h2 h3 h4 hown
  go_enter Tryz.func138, Tryz.ntmps138
  go_wp2_with (at_builtin; refine Lib.wpList_append_run _ rfl _ _ _ _ rfl _ _ rfl rfl _ _ hr ?_)
  all_goals go_ret
  all_goals exact ⟨_, rfl, H1.out, by first | exact H2.out | (cases A <;> exact H2.out), by first | exact H4.out | (cases A <;> exact H4.out)⟩
theorem all {w : World} (base : Nat) (v : Value) (n i g2 c2 : Nat) (inner cs : List Value) (cv : Array Value) (hi : i ≤ n) (hown : w.ownsRow base 73 4 v n inner) (hin1 : ∀ u ∈ inner, u.oneCell' = true) (hvA : w.heap[g2]? = some (.cells cv 73 (0, 0))) (hvt : cv.toList.take 4 = cs) (hne : some g2 ≠ v.ownBlock) (hcs : cs.length = 4) (h1c : ∀ u ∈ cs, u.oneCell' = true) (hbase : base ≤ w.heap.size) (hn : n < 4294967296) :
    Calls Tryz.prog 138 #[v, .int .i64 (i : Int), .slice (some ⟨g2, 0, none⟩) 1 c2] w fun e w' => ∃ v1, e = .returned v1 ∧ w'.ownsRow base 73 4 v1 (n + 1) (inner.take (i * 4) ++ (cs ++ inner.drop (i * 4))) ∧ w.grownBy w' v.ownBlock ∧ (v1.ownBlock = v.ownBlock ∨ v1.ownBlock = some w.heap.size) := by
  rcases Nat.eq_or_lt_of_le hi with rfl | hi
  · rw [List.take_of_length_le (by rw [hown.1]; omega), List.drop_of_length_le (by rw [hown.1]; omega), List.append_nil]
    exact at_end base v i g2 c2 inner cs cv hown hvA hvt hcs h1c hbase hn
  have hlen := hown.1
  rcases hown.2 with ⟨_, hz⟩ | ⟨g, cap, cur, rfl, hbg, hg, hnc, hcm, hsz, htk⟩
  · omega
  have hgv : g2 ≠ g := fun e => hne (by rw [e]; rfl)
  have hl2 : (inner.take (i * 4) ++ (cs ++ inner.drop (i * 4))).length = (n + 1) * 4 := by
    rw [List.length_append, List.length_append, List.length_take, List.length_drop, hcs, hlen]
    omega
  by_cases hroom : n + 1 ≤ cap
  · refine (room g n cap i g2 c2 cur cv inner cs hi hroom (by unfold maxLen at hcm; omega) hg hvA hvt hgv hsz htk hin1 hcs h1c).mono ?_
    rintro e w' ⟨rfl, cur2, hs2, ht2, hg2, hgr⟩
    exact ⟨_, rfl, ⟨hl2, .inr ⟨g, cap, cur2, rfl, hbg, hg2, hroom, hcm, hs2, ht2⟩⟩, hgr, .inl rfl⟩
  · refine (grow g n cap i g2 c2 cur cv inner cs hi hnc (by omega) hn hg hvA hvt hgv hsz htk hin1 hcs h1c).mono ?_
    rintro e w' ⟨G, rfl, hG1, hG2, cur2, hs2, ht2, hg2, hgr⟩
    exact ⟨_, rfl, ⟨hl2, .inr ⟨w.heap.size, G, cur2, rfl, hbase, hg2, hG1, hG2, hs2, ht2⟩⟩, ⟨hgr.os, hgr.tape, hgr.output, hgr.size, fun k hk _ => hgr.block k hk (by simp)⟩, .inr rfl⟩
theorem ok : InsOK Tryz.prog 138 73 4 :=
  ⟨⟨_, Tryz.func138, rfl, rfl⟩, by decide, fun w base v n i g2 c2 inner cs cv hi hown hin hvA hvt hne hcs h1c hbase hn => all base v n i g2 c2 inner cs cv hi hown hin hvA hvt hne hcs h1c hbase hn⟩
end Go.Abs.InsBf
