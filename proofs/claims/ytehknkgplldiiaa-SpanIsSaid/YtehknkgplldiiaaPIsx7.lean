-- made by xprint.py of this session
import Derived.Test.YtehknkgplldiiaaPIsx0
import Derived.Lib.Overlaps
import Derived.Lib.AppendZerosOnto
import Derived.Shelf.Spec.SlicesInsertGrow
namespace Go.Proofs.Ytehknkgplldiiaa.PIs
open Go.RowKit Go.Proofs.YtehknkgplldiiaaW.PrintWords Go.Proofs.YtehknkgplldiiaaW.PrintLast Go.Proofs.YtehknkgplldiiaaW.PrintMore
attribute [local go_sem] max2_int min2_int max_two min_two max_three min_three max_four min_four   -- for this text's walks alone
set_option linter.unusedVariables false
set_option linter.unusedSimpArgs false

/-! ### EXT slices_Insert_Span: function 39 -/
-- IMPORTS Derived.Lib.Overlaps;Derived.Lib.AppendZerosOnto;Derived.Shelf.Spec.SlicesInsertGrow
/-! slices.Insert of one element into a row of one's own. -/
theorem Reps.taken {α : Type} {R : α → List Value → Prop} {size : Nat} {ps : List α} {cs : List Value} (h : Reps R size ps cs) (i : Nat) : Reps R size (ps.take i) (cs.take (i * size)) := by
  refine ⟨?_, fun j q hq => ?_⟩
  · rw [List.length_take, List.length_take, h.1]
    rcases Nat.le_total i ps.length with hi | hi
    · rw [Nat.min_eq_left hi, Nat.min_eq_left (Nat.mul_le_mul_right _ hi)]
    · rw [Nat.min_eq_right hi, Nat.min_eq_right (Nat.mul_le_mul_right _ hi)]
  · rw [List.getElem?_take] at hq
    split at hq
    · rename_i hj
      have h1 : j * size + size ≤ i * size := by rw [← Nat.succ_mul]; exact Nat.mul_le_mul_right _ hj
      have h2 := h.2 j q hq
      rw [List.drop_take, List.take_take, Nat.min_eq_left (by omega)]
      exact h2
    · cases hq
theorem Reps.dropped {α : Type} {R : α → List Value → Prop} {size : Nat} {ps : List α} {cs : List Value} (h : Reps R size ps cs) (i : Nat) : Reps R size (ps.drop i) (cs.drop (i * size)) := by
  refine ⟨?_, fun j q hq => ?_⟩
  · rw [List.length_drop, List.length_drop, h.1, Nat.sub_mul]
  · rw [List.getElem?_drop] at hq
    have h2 := h.2 (i + j) q hq
    rw [List.drop_drop, ← Nat.add_mul]
    exact h2
theorem Reps.joined {α : Type} {R : α → List Value → Prop} {size : Nat} {ps qs : List α} {cs ds : List Value} (h : Reps R size ps cs) (k : Reps R size qs ds) : Reps R size (ps ++ qs) (cs ++ ds) := by
  refine ⟨by rw [List.length_append, h.1, k.1, List.length_append, Nat.add_mul], fun j q hq => ?_⟩
  rcases Nat.lt_or_ge j ps.length with hj | hj
  · rw [List.getElem?_append_left hj] at hq
    have h1 : j * size + size ≤ cs.length := by rw [h.1, ← Nat.succ_mul]; exact Nat.mul_le_mul_right _ hj
    rw [List.drop_append_of_le_length (by omega), List.take_append_of_le_length (by rw [List.length_drop]; omega)]
    exact h.2 j q hq
  · rw [List.getElem?_append_right hj] at hq
    have h1 : cs.length ≤ j * size := by rw [h.1]; exact Nat.mul_le_mul_right _ hj
    have h2 := k.2 _ q hq
    rw [List.drop_append, List.drop_of_length_le h1, List.nil_append, h.1, ← Nat.sub_mul]
    exact h2
theorem Reps.ins {α : Type} {R : α → List Value → Prop} {size : Nat} {ps : List α} {cs c : List Value} {p : α} (h : Reps R size ps cs) (hp : R p c) (hc : c.length = size) (i : Nat) : Reps R size (ps.take i ++ p :: ps.drop i) (cs.take (i * size) ++ (c ++ cs.drop (i * size))) :=
  Reps.joined (Reps.taken h i) (Reps.front hp hc (Reps.dropped h i) rfl)
/-- 'copy' between rows of elements of several cells. -/
theorem run_copy_rowN {P : Program} (w : World) (dT sT ty elem : TypeId) (size n g o dLen dCap : Nat) (a : Addr) (sLen sCap : Nat) (cur : Array Value) (t : TypeId) (cs : List Value)
    (hu : P.underlying dT = some (.slice elem)) (hs : (P.info? elem).map (·.size) = some size)
    (hg : w.heap[g]? = some (.cells cur t (0, 0))) (hn : n = Nat.min sLen dLen) (hl0 : cs.length = n * size)
    (hsrc : ∀ j v, cs[j]? = some v → w.cell? (a.add j) = some v) (hfit : o + cs.length ≤ cur.size) (h1 : ∀ v ∈ cs, v.oneCell' = true) :
    (Builtin.copy_ #[dT, sT] ty #[.slice (some ⟨g, o, none⟩) dLen dCap, .slice (some a) sLen sCap]).run P w =
      .ok (goInt n) (w.setRow g (cur.toList.take o ++ cs ++ cur.toList.drop (o + cs.length)).toArray) := by
  have hl := run_loadCells_list (P := P) w a cs hsrc
  have hst := run_storeCells_at P g o t cs 0 cur w hg (by simpa using hfit) h1
  rw [hl0] at hl
  cases hq : P.info? elem with
  | none => simp [hq] at hs
  | some i =>
    have hi : i.size = size := by simpa [hq] using hs
    simp [Builtin.copy_, run_underlying hu, Builtin.lenOf, Builtin.firstCells, sizeOf, typeInfo, hq, hi, ← hn, hl, hst]
set_option maxRecDepth 100000 in
set_option maxHeartbeats 4000000 in
theorem slices_Insert_Span.at_end {w0 W : World} (base : Nat) (v : Value) (xs : List S23) (p : S23) (cs : List Value) (ok okp : Nat → Prop)
    (hp : k23.M W base okp p cs) (hokp : ∀ k, okp k → ok k ∧ some k ≠ v.ownBlock) (hfresh : ∀ k, W.heap.size ≤ k → ok k)
    (HO : k23.R 23 W base ok v xs) (HB : Below base w0 W) (hbase : base ≤ W.heap.size) (hl : xs.length < 4294967296) :
    Calls Try.prog 39 #[v, .int .i64 (xs.length : Int), .slice (some ⟨W.heap.size, 0, none⟩) 1 1] (W.alloc (.cells cs.toArray 23)) fun e w' => ∃ v1, e = .returned v1 ∧ k23.R 23 w' base ok v1 (xs ++ [p]) ∧ Below base w0 w' ∧ W.grownBy w' v.ownBlock := by
  obtain ⟨A, c, rfl⟩ := Kd.R_slice HO
  obtain ⟨i0, hi0, _, hsz, _⟩ := info_parts info23
  have hcut := cut_from (P := Try.prog) 26 23 .i64 Try.underlying26 hi0 4 hsz A xs.length c (xs.length : Int) (by omega) (by omega)
  have HO := Aside0.mk HO
  have HB := Aside0.mk HB
  have HP := Aside0.mk hp
  have HL := Aside0.mk hl
  go_enter Try.func39, Try.ntmps39
  have HK := Aside0.mk hokp
  have HF := Aside0.mk hfresh
  clear hp hl hokp hfresh
  go_wp2_with ((with_reducible refine gate_builtin (b := .append) (xs := #[.tmp 23, .tmp 24]) rfl ?_); at_builtin; refine Kd.R_append k23 (w0 := w0) base rfl (.tmp 23) (.tmp 24) 26 23 (.agg #[.int .i64 0, .int .i64 0, .int .i64 0, .int .i64 0]) 32 rfl Try.underlying26 info23 rfl (by decide) (by decide) (.slice A xs.length c) xs p cs ok okp rfl rfl HP.out HK.out HF.out HO.out HB.out hbase (by have := HL.out; omega) ?_; intro v1 w1 ho hb hg hat)
  all_goals go_ret
  all_goals exact ⟨_, rfl, ho, hb, by first | exact hg | (cases A <;> exact hg)⟩
/-- Cells of a block. -/
theorem cells_at {W : World} {g : Nat} {cur : Array Value} {t : TypeId} (h : W.heap[g]? = some (.cells cur t (0, 0))) (o : Nat) (cs : List Value) (hc : ∀ j v, cs[j]? = some v → cur.toList[o + j]? = some v) : ∀ j v, cs[j]? = some v → W.cell? (Addr.add ⟨g, o, none⟩ j) = some v := by
  intro j v hj
  have e := hc j v hj
  rw [Addr.add_lit]
  simp only [World.cell?, h]
  simpa using e
theorem shape_at {W : World} {g : Nat} {cur : Array Value} {t : TypeId} (h : W.heap[g]? = some (.cells cur t (0, 0))) : W.shape? g = some (t, cur.size) := by
  simp [World.shape?, h]
theorem frozen_at {W : World} {g : Nat} {cur : Array Value} {t : TypeId} (h : W.heap[g]? = some (.cells cur t (0, 0))) (o : Nat) : W.frozen? ⟨g, o, none⟩ = false := by
  simp [World.frozen?, h]
theorem grownBy_setRow_ (w : World) (g : Nat) (cs : Array Value) : w.grownBy (w.setRow g cs) (some g) := by
  exact ⟨rfl, rfl, rfl, Nat.le_of_eq (by simp [World.setRow]), fun k _ hk => setRow_other w g k cs (fun e => hk (by rw [e]))⟩
theorem grownBy_drew_ (w : World) (r : Option Nat) : w.grownBy w.drew r := ⟨rfl, rfl, rfl, Nat.le_refl _, fun _ _ _ => rfl⟩
set_option maxRecDepth 100000 in
set_option maxHeartbeats 4000000 in
/-- There is room: in place. -/
theorem slices_Insert_Span.room {W : World} (g n c i : Nat) (cur : Array Value) (inner cs : List Value) (hi : i < n) (hroom : n + 1 ≤ c) (hc63 : c ≤ 9223372036854775807)
    (hg : W.heap[g]? = some (.cells cur 23 (0, 0))) (hsz : cur.size = c * 4) (hin : cur.toList.take (n * 4) = inner) (hinm : ∀ v ∈ inner, v.oneCell' = true) (hcs : cs.length = 4) (h1c : ∀ v ∈ cs, v.oneCell' = true) :
    Calls Try.prog 39 #[.slice (some ⟨g, 0, none⟩) n c, .int .i64 (i : Int), .slice (some ⟨W.heap.size, 0, none⟩) 1 1] (W.alloc (.cells cs.toArray 23)) fun e w' =>
      e = .returned (.slice (some ⟨g, 0, none⟩) (n + 1) c) ∧ ∃ cur2 : Array Value, cur2.size = c * 4 ∧ cur2.toList.take ((n + 1) * 4) = inner.take (i * 4) ++ (cs ++ inner.drop (i * 4)) ∧ w'.heap[g]? = some (.cells cur2 23 (0, 0)) ∧ W.grownBy w' (some g) := by
  have hgl : g < W.heap.size := (Array.getElem?_eq_some_iff.1 hg).1
  have hgv : W.heap.size ≠ g := by omega
  have hlen : inner.length = n * 4 := by rw [← hin, List.length_take, Array.length_toList, hsz]; omega
  obtain ⟨WA, hWA⟩ : ∃ WA, WA = W.alloc (.cells cs.toArray 23) := ⟨_, rfl⟩
  have hgA : WA.heap[g]? = some (.cells cur 23 (0, 0)) := by rw [hWA]; exact (Below.heap_alloc W _ g hgl).trans hg
  have hvA : WA.heap[W.heap.size]? = some (.cells cs.toArray 23 (0, 0)) := by rw [hWA]; exact heap_alloc_new W _
  rw [← hWA]
  have T := 26
  have info := info_parts info23
  obtain ⟨i0, hi0, hz0, hzs, hzb⟩ := info
  have hsi : (Try.prog.info? 23).map (·.size) = some 4 := by rw [hi0]; simp [hzs]
  have hun := Try.underlying26
  have hov : ∀ W', W' = WA → ∀ lb cb, (callFunc 47 #[.slice (some ⟨W.heap.size, 0, none⟩) 1 1, .slice (some ⟨g, (i + 1) * 4, none⟩) lb cb]).run Try.prog W' = .ok (.value (.bool false)) W' := fun W' e lb cb => by
    subst e
    rw [run_callFunc_extern Try.func47 (by kernel_rfl) (by kernel_rfl) (by kernel_rfl) (e := Extern.SlicesOverlaps.overlaps #[26, 26] #[4]) (by kernel_rfl),
      Lib.run_overlaps_apart W' 26 4 23 hun 4 (fun w => by simp [sizeOf, typeInfo, hi0, hzs]) ⟨W.heap.size, 0, none⟩ ⟨g, (i + 1) * 4, none⟩ 1 1 lb cb hgv 23 23 cs.toArray.size cur.size (shape_at hvA) (shape_at hgA) (by rw [hsz]; omega) (frozen_at hvA 0) (frozen_at hvA _)]
    rfl
  have hidl : (inner.drop (i * 4)).length = (n - i) * 4 := by rw [List.length_drop, hlen, Nat.sub_mul]
  have hm4 : (n - i) * 4 + (i + 1) * 4 = (n + 1) * 4 := by omega
  have hcl : cur.toList.length = c * 4 := by rw [Array.length_toList, hsz]
  obtain ⟨cur1, hc1⟩ : ∃ cur1 : Array Value, cur1 = (cur.toList.take ((i + 1) * 4) ++ inner.drop (i * 4) ++ cur.toList.drop ((i + 1) * 4 + (inner.drop (i * 4)).length)).toArray := ⟨_, rfl⟩
  have hc1l : cur1.toList = cur.toList.take ((i + 1) * 4) ++ inner.drop (i * 4) ++ cur.toList.drop ((i + 1) * 4 + (inner.drop (i * 4)).length) := by rw [hc1]
  have hc1s : cur1.size = c * 4 := by
    rw [← Array.length_toList, hc1l, List.length_append, List.length_append, hidl, List.length_take, List.length_drop, hcl]
    omega
  have hcp1 : ∀ ty dc sc, (Builtin.copy_ #[26, 26] ty #[.slice (some ⟨g, (i + 1) * 4, none⟩) (n - i) dc, .slice (some ⟨g, i * 4, none⟩) (n + 1 - i) sc]).run Try.prog WA.drew = .ok (goInt (n - i : Nat)) (WA.drew.setRow g cur1) := fun ty dc sc => by
    rw [hc1]
    exact run_copy_rowN WA.drew _ _ ty 23 4 (n - i) g ((i + 1) * 4) (n - i) dc ⟨g, i * 4, none⟩ (n + 1 - i) sc cur 23 (inner.drop (i * 4)) hun hsi hgA (by simp only [Nat.min_def]; split <;> omega) hidl
      (cells_at hgA (i * 4) _ (fun j v hj => by
        rw [List.getElem?_drop, ← hin, List.getElem?_take] at hj
        split at hj
        · exact hj
        · cases hj)) (by rw [hidl, hsz]; omega) (fun v hv => hinm v (List.mem_of_mem_drop hv))
  have hg2 : (WA.drew.setRow g cur1).heap[g]? = some (.cells cur1 23 (0, 0)) := setRow_heap _ g cur _ _ _ hgA
  have hv2 : (WA.drew.setRow g cur1).heap[W.heap.size]? = some (.cells cs.toArray 23 (0, 0)) := (setRow_other _ g _ _ hgv).trans hvA
  obtain ⟨cur2, hc2⟩ : ∃ cur2 : Array Value, cur2 = (cur1.toList.take (i * 4) ++ cs ++ cur1.toList.drop (i * 4 + cs.length)).toArray := ⟨_, rfl⟩
  have hc2l : cur2.toList = cur1.toList.take (i * 4) ++ cs ++ cur1.toList.drop (i * 4 + cs.length) := by rw [hc2]
  have hc1n : cur1.toList.length = c * 4 := by rw [Array.length_toList, hc1s]
  have hcp2 : ∀ (W' : World), W' = WA.drew.setRow g cur1 → ∀ ty dc, (Builtin.copy_ #[26, 26] ty #[.slice (some ⟨g, i * 4, none⟩) (n + 1 - i) dc, .slice (some ⟨W.heap.size, 0, none⟩) 1 1]).run Try.prog W' = .ok (goInt (1 : Nat)) (W'.setRow g cur2) := fun W' e ty dc => by
    subst e
    rw [hc2]
    exact run_copy_rowN _ _ _ ty 23 4 1 g (i * 4) (n + 1 - i) dc ⟨W.heap.size, 0, none⟩ 1 1 cur1 23 cs hun hsi hg2 (by simp only [Nat.min_def]; split <;> omega) (by rw [hcs])
      (cells_at hv2 0 _ (fun j v hj => by simpa using hj)) (by rw [hcs, hc1s]; omega) h1c
  have hz2 : ¬ ((i : Int) = (n : Int)) := by omega
  have hw1 : IntKind.i64.wrap ((i : Int) + 1) = (i : Int) + 1 := by rw [IntKind.wrap_i64]; omega
  have hw2 : IntKind.i64.wrap ((n : Int) + 1) = (n : Int) + 1 := by rw [IntKind.wrap_i64]; omega
  have hb1 : (0 : Int) ≤ (i : Int) + 1 := by omega
  have htn : ((i : Int) + 1).toNat = i + 1 := by omega
  have hb2 : ¬ (c = i + 1) := by omega
  have hb3 : (i : Int) ≤ (n : Int) + 1 := by omega
  have hb4 : ¬ (c = i) := by omega
  have hb5 : i ≤ n := by omega
  have hb6 : (i : Int) + 1 ≤ (n : Int) + 1 := by omega
  have hov2 := hov WA rfl
  go_enter Try.func39, Try.ntmps39
  have mixed : Try.prog.follows Departure.mixedOrders = true := by kernel_rfl
  have e1 : cur1.toList.take (i * 4) = inner.take (i * 4) := by
    rw [hc1l, List.append_assoc, List.take_append_of_le_length (by rw [List.length_take, hcl]; omega), List.take_take, Nat.min_eq_left (by omega), ← hin, List.take_take, Nat.min_eq_left (by omega)]
  have e2 : cur1.toList.drop (i * 4 + cs.length) = inner.drop (i * 4) ++ cur.toList.drop ((i + 1) * 4 + (inner.drop (i * 4)).length) := by
    rw [hc1l, List.append_assoc]
    exact List.drop_left' (by rw [List.length_take, hcl, hcs]; omega)
  have hsz2 : cur2.size = c * 4 := by
    rw [← Array.length_toList, hc2l, List.length_append, List.length_append, List.length_take, List.length_drop, hcs, hc1n]
    omega
  have htk : cur2.toList.take ((n + 1) * 4) = inner.take (i * 4) ++ (cs ++ inner.drop (i * 4)) := by
    rw [hc2l, e1, e2, List.append_assoc, ← List.append_assoc cs, ← List.append_assoc]
    exact List.take_left' (by rw [List.length_append, List.length_append, List.length_take, hidl, hcs, hlen]; omega)
  have HSZ := Aside0.mk hsz2
  have HTK := Aside0.mk htk
  have HG2 := Aside0.mk hg2
  clear hov e1 e2 hsz2 htk hc1 hc1l hc2 hc2l hc1n hidl hm4 hcl hinm hc1s hlen hg2 hv2 hin
  subst hWA
  go_wp2_with (simp only [hov2])
  go_region_law_o (refine step_copy_runI rfl _ _ 26 26 rfl _ _ (by simp [Act.eval, Act.put]) (by simp [Act.eval, Act.put]) (hcp1 _ _ _) ?_)
  go_wp2_with (at_builtin; refine wpList_copy_runI _ rfl _ _ 26 26 rfl _ _ rfl rfl (hcp2 _ rfl _ _) ?_)
  go_ret
  refine ⟨rfl, cur2, HSZ.out, HTK.out, setRow_heap _ g cur1 _ _ _ HG2.out, ?_⟩
  refine World.grownBy.trans (World.grownBy_alloc W (.cells cs.toArray 23) _) ?_
  exact World.grownBy.trans (grownBy_drew_ _ _) (World.grownBy.trans (grownBy_setRow_ _ _ _) (grownBy_setRow_ _ _ _))
theorem zero_size (n : Nat) : (Builtin.zeroCells (Value.agg #[.int .i64 0, .int .i64 0, .int .i64 0, .int .i64 0]).cells n).toList.length = n * 4 := by
  simp [Builtin.zeroCells, Value.cells]
set_option maxRecDepth 100000 in
set_option maxHeartbeats 4000000 in
/-- There is no room: a new row. -/
theorem slices_Insert_Span.grow {W : World} (g n c i : Nat) (cur : Array Value) (inner cs : List Value) (hi : i < n) (hnc : n ≤ c) (hroom : c < n + 1) (hn32 : n < 4294967296)
    (hg : W.heap[g]? = some (.cells cur 23 (0, 0))) (hsz : cur.size = c * 4) (hin : cur.toList.take (n * 4) = inner) (hinm : ∀ v ∈ inner, v.oneCell' = true) (hcs : cs.length = 4) (h1c : ∀ v ∈ cs, v.oneCell' = true) :
    Calls Try.prog 39 #[.slice (some ⟨g, 0, none⟩) n c, .int .i64 (i : Int), .slice (some ⟨W.heap.size, 0, none⟩) 1 1] (W.alloc (.cells cs.toArray 23)) fun e w' =>
      ∃ G, e = .returned (.slice (some ⟨W.heap.size + 1, 0, none⟩) (n + 1) G) ∧ n + 1 ≤ G ∧ G ≤ maxLen ∧ ∃ cur2 : Array Value, cur2.size = G * 4 ∧ cur2.toList.take ((n + 1) * 4) = inner.take (i * 4) ++ (cs ++ inner.drop (i * 4)) ∧ w'.heap[W.heap.size + 1]? = some (.cells cur2 23 (0, 0)) ∧ W.grownBy w' none := by
  have hgl : g < W.heap.size := (Array.getElem?_eq_some_iff.1 hg).1
  have hgv : W.heap.size ≠ g := by omega
  have hlen : inner.length = n * 4 := by rw [← hin, List.length_take, Array.length_toList, hsz]; omega
  obtain ⟨WA, hWA⟩ : ∃ WA, WA = W.alloc (.cells cs.toArray 23) := ⟨_, rfl⟩
  have hgA : WA.heap[g]? = some (.cells cur 23 (0, 0)) := by rw [hWA]; exact (Below.heap_alloc W _ g hgl).trans hg
  have hvA : WA.heap[W.heap.size]? = some (.cells cs.toArray 23 (0, 0)) := by rw [hWA]; exact heap_alloc_new W _
  have hNA : WA.heap.size = W.heap.size + 1 := by rw [hWA]; simp
  rw [← hWA]
  obtain ⟨i0, hi0, hz0, hzs, hzb⟩ := info_parts info23
  have hsi : (Try.prog.info? 23).map (·.size) = some 4 := by rw [hi0]; simp [hzs]
  have hun := Try.underlying26
  have hidl : (inner.drop (i * 4)).length = (n - i) * 4 := by rw [List.length_drop, hlen, Nat.sub_mul]
  have hitl : (inner.take (i * 4)).length = i * 4 := by rw [List.length_take, hlen]; omega
  have hcat : ∀ j v, inner[j]? = some v → cur.toList[j]? = some v := fun j v hj => by
    rw [← hin, List.getElem?_take] at hj
    split at hj
    · exact hj
    · cases hj
  have hold : (Builtin.firstCells i0.size i (.slice (some ⟨g, 0, none⟩) i c)).run Try.prog WA.drew = .ok (inner.take (i * 4)).toArray WA.drew := by
    rw [hzs]
    exact run_firstCells_some WA.drew 4 i ⟨g, 0, none⟩ i c (inner.take (i * 4)) hitl (cells_at (W := WA.drew) hgA 0 _ (fun j v hj => by
      rw [List.getElem?_take] at hj
      rw [Nat.zero_add]
      split at hj
      · exact hcat j v hj
      · cases hj))
  have hkk : (n : Int) + 1 - (i : Int) = ((n + 1 - i : Nat) : Int) := by omega
  have hik : i + (n + 1 - i) = n + 1 := by omega
  obtain ⟨G, hG⟩ : ∃ G, G = grownCap WA (n + 1) c 23 := ⟨_, rfl⟩
  obtain ⟨zc, hzc⟩ : ∃ zc, zc = (Value.agg #[.int .i64 0, .int .i64 0, .int .i64 0, .int .i64 0]).cells := ⟨_, rfl⟩
  obtain ⟨ROW, hROW⟩ : ∃ ROW : Array Value, ROW = (inner.take (i * 4)).toArray ++ Builtin.zeroCells zc (n + 1 - i) ++ Builtin.zeroCells zc (G - (n + 1)) := ⟨_, rfl⟩
  have hGn : n + 1 ≤ G := by rw [hG]; exact grownCap_ge WA _ _ _
  have hGm : G ≤ maxLen := by rw [hG]; exact grownCap_le_maxLen WA (n + 1) c 23 (by unfold maxLen; omega)
  have hrz : ∀ ty, (Builtin.append_ #[26, 3] ty #[.slice (some ⟨g, 0, none⟩) i c, .int .i64 ((n : Int) + 1 - (i : Int))]).run Try.prog WA =
      .ok (.slice (some ⟨W.heap.size + 1, 0, none⟩) (n + 1) G) (WA.drew.alloc (.cells ROW 23)) := fun ty => by
    have h := Lib.run_append_grow_zeros WA 26 3 ty 23 i0 _ .i64 .i64 hun Try.underlying3 hi0 hz0 (some ⟨g, 0, none⟩) i c (inner.take (i * 4)) hold (n + 1 - i) (by omega) (by omega) (by omega) (by omega) (by rw [hzb]; omega) (by rw [hzb, hik]; exact growslice_fits hroom (by omega))
    rw [hik, ← hG, ← hzc, ← hROW, hNA] at h
    rw [hkk]
    exact h
  have hRl : ROW.toList = inner.take (i * 4) ++ (Builtin.zeroCells zc (n + 1 - i)).toList ++ (Builtin.zeroCells zc (G - (n + 1))).toList := by rw [hROW]; simp
  have hz4 : ∀ m, (Builtin.zeroCells zc m).toList.length = m * 4 := fun m => by rw [hzc]; exact zero_size m
  have hRs : ROW.size = G * 4 := by
    rw [← Array.length_toList, hRl, List.length_append, List.length_append, hitl, hz4, hz4]
    omega
  have hRn : ROW.toList.length = G * 4 := by rw [Array.length_toList, hRs]
  have hRt : ROW.toList.take (i * 4) = inner.take (i * 4) := by
    rw [hRl, List.append_assoc]
    exact List.take_left' hitl
  obtain ⟨cur1, hc1⟩ : ∃ cur1 : Array Value, cur1 = (ROW.toList.take (i * 4) ++ cs ++ ROW.toList.drop (i * 4 + cs.length)).toArray := ⟨_, rfl⟩
  have hc1l : cur1.toList = ROW.toList.take (i * 4) ++ cs ++ ROW.toList.drop (i * 4 + cs.length) := by rw [hc1]
  have hc1s : cur1.size = G * 4 := by
    rw [← Array.length_toList, hc1l, List.length_append, List.length_append, List.length_take, List.length_drop, hcs, hRn]
    omega
  have hc1n : cur1.toList.length = G * 4 := by rw [Array.length_toList, hc1s]
  obtain ⟨cur2, hc2⟩ : ∃ cur2 : Array Value, cur2 = (cur1.toList.take ((i + 1) * 4) ++ inner.drop (i * 4) ++ cur1.toList.drop ((i + 1) * 4 + (inner.drop (i * 4)).length)).toArray := ⟨_, rfl⟩
  have hc2l : cur2.toList = cur1.toList.take ((i + 1) * 4) ++ inner.drop (i * 4) ++ cur1.toList.drop ((i + 1) * 4 + (inner.drop (i * 4)).length) := by rw [hc2]
  have hNb : ∀ W' : World, W'.heap = (WA.drew.alloc (.cells ROW 23)).heap → W'.heap[W.heap.size + 1]? = some (.cells ROW 23 (0, 0)) := fun W' e => by rw [e, ← hNA]; exact heap_alloc_new WA.drew (.cells ROW 23)
  have hVb : ∀ W' : World, W'.heap = (WA.drew.alloc (.cells ROW 23)).heap → W'.heap[W.heap.size]? = some (.cells cs.toArray 23 (0, 0)) := fun W' e => by rw [e]; exact (Below.heap_alloc WA.drew _ _ (by show _ < WA.heap.size; omega)).trans hvA
  have hGb : ∀ W' : World, W'.heap = (WA.drew.alloc (.cells ROW 23)).heap → W'.heap[g]? = some (.cells cur 23 (0, 0)) := fun W' e => by rw [e]; exact (Below.heap_alloc WA.drew _ _ (by show _ < WA.heap.size; omega)).trans hgA
  have hcpA : ∀ (W' : World), W'.heap = (WA.drew.alloc (.cells ROW 23)).heap → ∀ ty dc, (Builtin.copy_ #[26, 26] ty #[.slice (some ⟨W.heap.size + 1, i * 4, none⟩) (n + 1 - i) dc, .slice (some ⟨W.heap.size, 0, none⟩) 1 1]).run Try.prog W' = .ok (goInt (1 : Nat)) (W'.setRow (W.heap.size + 1) cur1) := fun W' e ty dc => by
    rw [hc1]
    exact run_copy_rowN W' _ _ ty 23 4 1 (W.heap.size + 1) (i * 4) (n + 1 - i) dc ⟨W.heap.size, 0, none⟩ 1 1 ROW 23 cs hun hsi (hNb W' e) (by simp only [Nat.min_def]; split <;> omega) (by rw [hcs])
      (cells_at (hVb W' e) 0 _ (fun j v hj => by simpa using hj)) (by rw [hcs, hRs]; omega) h1c
  have hcpB : ∀ (W' W2 : World), W2.heap = (WA.drew.alloc (.cells ROW 23)).heap → W'.heap = (W2.setRow (W.heap.size + 1) cur1).heap → ∀ ty dc sc, (Builtin.copy_ #[26, 26] ty #[.slice (some ⟨W.heap.size + 1, (i + 1) * 4, none⟩) (n - i) dc, .slice (some ⟨g, i * 4, none⟩) (n - i) sc]).run Try.prog W' = .ok (goInt (n - i : Nat)) (W'.setRow (W.heap.size + 1) cur2) := fun W' W2 e2 e ty dc sc => by
    rw [hc2]
    exact run_copy_rowN W' _ _ ty 23 4 (n - i) (W.heap.size + 1) ((i + 1) * 4) (n - i) dc ⟨g, i * 4, none⟩ (n - i) sc cur1 23 (inner.drop (i * 4)) hun hsi (by rw [e]; exact setRow_heap W2 _ ROW _ _ _ (hNb W2 e2)) (by simp only [Nat.min_def]; split <;> omega) hidl
      (cells_at (by rw [e]; exact (setRow_other W2 _ g _ (by omega)).trans (hGb W2 e2)) (i * 4) _ (fun j v hj => by rw [List.getElem?_drop] at hj; exact hcat _ v hj)) (by rw [hidl, hc1s]; omega) (fun v hv => hinm v (List.mem_of_mem_drop hv))
  have e1 : cur1.toList.take ((i + 1) * 4) = inner.take (i * 4) ++ cs := by
    rw [hc1l, hRt]
    exact List.take_left' (by rw [List.length_append, hitl, hcs]; omega)
  have hsz2 : cur2.size = G * 4 := by
    rw [← Array.length_toList, hc2l, List.length_append, List.length_append, hidl, List.length_take, List.length_drop, hc1n]
    omega
  have htk : cur2.toList.take ((n + 1) * 4) = inner.take (i * 4) ++ (cs ++ inner.drop (i * 4)) := by
    rw [hc2l, e1, List.append_assoc (inner.take (i * 4)) cs]
    exact List.take_left' (by rw [List.length_append, List.length_append, hitl, hidl, hcs]; omega)
  have HSZ := Aside0.mk hsz2
  have HTK := Aside0.mk htk
  have HGN := Aside0.mk hGn
  have HGM := Aside0.mk hGm
  have HNB := Aside0.mk hNb
  have hz2 : ¬ ((i : Int) = (n : Int)) := by omega
  have hz3 : (c : Int) < (n : Int) + 1 := by omega
  have hw1 : IntKind.i64.wrap ((i : Int) + 1) = (i : Int) + 1 := by rw [IntKind.wrap_i64]; omega
  have hw2 : IntKind.i64.wrap ((n : Int) + 1) = (n : Int) + 1 := by rw [IntKind.wrap_i64]; omega
  have hw3 : IntKind.i64.wrap ((n : Int) + 1 - i) = (n : Int) + 1 - i := by rw [IntKind.wrap_i64]; omega
  have hb1 : (0 : Int) ≤ (i : Int) + 1 := by omega
  have htn : ((i : Int) + 1).toNat = i + 1 := by omega
  have hGi : ¬ (G = i) := by omega
  have hGim : ¬ (G = i + 1) := by omega
  have hci : ¬ (c = i) := by omega
  have hb3 : (i : Int) ≤ (n : Int) + 1 := by omega
  have hb5 : i ≤ n := by omega
  have hb6 : (i : Int) + 1 ≤ (n : Int) + 1 := by omega
  have hG63 : G ≤ 9223372036854775807 := by unfold maxLen at hGm; omega
  have mixed : Try.prog.follows Departure.mixedOrders = true := by kernel_rfl
  clear hold hkk hik hG hzc hROW hRl hz4 hRs hRn hRt hc1 hc1l hc1s hc1n hc2 hc2l e1 hsz2 htk hNb hVb hGb hidl hitl hcat hlen hin hgA hvA hGm
  subst hWA
  have hA := hcpA ((W.alloc (.cells cs.toArray 23)).alloc (.cells ROW 23)).drew rfl
  have hB := hcpB (((W.alloc (.cells cs.toArray 23)).alloc (.cells ROW 23)).drew.setRow (W.heap.size + 1) cur1).drew ((W.alloc (.cells cs.toArray 23)).alloc (.cells ROW 23)).drew rfl rfl
  clear hcpA hcpB
  go_enter Try.func39, Try.ntmps39
  go_wp2_with (at_builtin; refine Lib.wpList_append_run _ rfl _ _ _ _ rfl _ _ rfl rfl _ _ (hrz _) ?_)
  go_region_law_o (refine step_copy_runI rfl _ _ 26 26 rfl _ _ (by simp [Act.eval, Act.put]) (by simp [Act.eval, Act.put]) (hB _ _ _) ?_)
  go_wp2
  go_ret
  refine ⟨G, rfl, HGN.out, HGM.out, cur2, HSZ.out, HTK.out, ?_, ?_⟩
  · exact setRow_heap _ _ cur1 _ _ _ (setRow_heap _ _ ROW _ _ _ (HNB.out ((W.alloc (.cells cs.toArray 23)).alloc (.cells ROW 23)).drew rfl))
  · have h : W.grownBy (((((W.alloc (.cells cs.toArray 23)).alloc (.cells ROW 23)).drew.setRow (W.heap.size + 1) cur1).drew).setRow (W.heap.size + 1) cur2) (some (W.heap.size + 1)) :=
      World.grownBy.trans (World.grownBy_alloc W (.cells cs.toArray 23) _) (World.grownBy.trans (World.grownBy_alloc _ (.cells ROW 23) _) (World.grownBy.trans (grownBy_drew_ _ _) (World.grownBy.trans (grownBy_setRow_ _ _ _) (World.grownBy.trans (grownBy_drew_ _ _) (grownBy_setRow_ _ _ _)))))
    exact ⟨h.os, h.tape, h.output, h.size, fun k hk _ => h.block k hk (fun e => by cases e; omega)⟩
theorem Reps.each {α : Type} {R : α → List Value → Prop} {size : Nat} {ps : List α} {cs : List Value} {Q : Value → Prop} (h : Reps R size ps cs) (hs : 0 < size) (hR : ∀ p c, R p c → ∀ u ∈ c, Q u) : ∀ u ∈ cs, Q u := by
  intro u hu
  obtain ⟨j, hj, rfl⟩ := List.getElem_of_mem hu
  have hq : j / size < ps.length := by
    rw [Nat.div_lt_iff_lt_mul hs, ← h.1]
    exact hj
  have hd := Nat.div_add_mod j size
  have hm := Nat.mod_lt j hs
  rw [Nat.mul_comm] at hd
  have h2 := h.2 (j / size) ps[j / size] (List.getElem?_eq_getElem hq)
  refine hR _ _ h2 _ ?_
  have e : ((cs.drop (j / size * size)).take size)[j % size]? = some cs[j] := by
    rw [List.getElem?_take, if_pos hm, List.getElem?_drop, hd]
    exact List.getElem?_eq_getElem hj
  exact List.mem_of_getElem? e
theorem slices_Insert_Span.ins {w0 W : World} (base i : Nat) (v : Value) (xs : List S23) (p : S23) (cs : List Value) (ok okp : Nat → Prop) (hi : i ≤ xs.length)
    (hp : k23.M W base okp p cs) (hokp : ∀ k, okp k → ok k ∧ some k ≠ v.ownBlock) (hfresh : ∀ k, W.heap.size ≤ k → ok k)
    (HO : k23.R 23 W base ok v xs) (HB : Below base w0 W) (hbase : base ≤ W.heap.size) (hl : xs.length < 4294967296) :
    Calls Try.prog 39 #[v, .int .i64 (i : Int), .slice (some ⟨W.heap.size, 0, none⟩) 1 1] (W.alloc (.cells cs.toArray 23)) fun e w' => ∃ v1, e = .returned v1 ∧ k23.R 23 w' base ok v1 (xs.take i ++ p :: xs.drop i) ∧ Below base w0 w' ∧ W.grownBy w' v.ownBlock := by
  rcases Nat.eq_or_lt_of_le hi with rfl | hi
  · rw [List.take_length, List.drop_length]
    exact slices_Insert_Span.at_end base v xs p cs ok okp hp hokp hfresh HO HB hbase hl
  have hcs : cs.length = 4 := k23.K_len (k23.K_of_M hp)
  have hc1 : ∀ u ∈ cs, u.oneCell' = true := k23.K_one (k23.K_of_M hp)
  obtain ⟨h0, inner, ⟨hlen, hcase⟩, hr⟩ := HO
  have hin1 : ∀ u ∈ inner, u.oneCell' = true := Reps.each hr (by decide) (fun p c hm => k23.K_one (k23.K_of_M hm))
  rcases hcase with ⟨_, hz⟩ | ⟨g, cap, cur, rfl, hbg, hg, hnc, hcm, hsz, htk⟩
  · omega
  have hsz : cur.size = cap * 4 := hsz
  have htk : cur.toList.take (xs.length * 4) = inner := htk
  have hlen : inner.length = xs.length * 4 := hlen
  have hl1 : (xs.take i ++ p :: xs.drop i).length = xs.length + 1 := by
    rw [List.length_append, List.length_cons, List.length_take, List.length_drop]
    omega
  have hl2 : (inner.take (i * 4) ++ (cs ++ inner.drop (i * 4))).length = (xs.length + 1) * 4 := by
    rw [List.length_append, List.length_append, List.length_take, List.length_drop, hcs, hlen]
    omega
  by_cases hroom : xs.length + 1 ≤ cap
  · refine (slices_Insert_Span.room g xs.length cap i cur inner cs hi hroom (by unfold maxLen at hcm; omega) hg hsz htk hin1 hcs hc1).mono ?_
    rintro e w' ⟨rfl, cur2, hs2, ht2, hg2, hgr⟩
    refine ⟨_, rfl, ⟨fun k hk => h0 k hk, inner.take (i * 4) ++ (cs ++ inner.drop (i * 4)), ⟨by rw [hl1]; exact hl2, .inr ⟨g, cap, cur2, by rw [hl1], hbg, hg2, by rw [hl1]; exact hroom, hcm, hs2, by rw [hl1]; exact ht2⟩⟩, ?_⟩, HB.grown hgr hbase (fun k e => by cases e; exact hbg), hgr⟩
    exact Reps.ins (hr.imp_ fun _ _ hm => Kd.M_grown hm hgr (fun k hk => hk.2)) (Kd.M_grown (k23.M_mono (fun k hk => hokp k hk) hp) hgr (fun k hk => hk.2)) hcs i
  · refine (slices_Insert_Span.grow g xs.length cap i cur inner cs hi hnc (by omega) hl hg hsz htk hin1 hcs hc1).mono ?_
    rintro e w' ⟨G, rfl, hG1, hG2, cur2, hs2, ht2, hg2, hgr⟩
    have hk : ∀ {q : S23} {c : List Value} {o : Nat → Prop}, (∀ k, o k → ok k) → k23.M W base o q c → k23.M w' base (fun k => ok k ∧ some k ≠ (Value.slice (some ⟨W.heap.size + 1, 0, none⟩) (xs.length + 1) G).ownBlock) q c := fun ho hm =>
      Kd.M_grown (k23.M_mono (fun k hk => ⟨ho k hk.1, fun e => by
        have := hk.2.2.1
        have e2 : k = W.heap.size + 1 := by simpa [Value.ownBlock] using e
        omega⟩) (k23.M_bound hm)) hgr (fun k hk => by simp)
    refine ⟨_, rfl, ⟨fun k hk => ?_, inner.take (i * 4) ++ (cs ++ inner.drop (i * 4)), ⟨by rw [hl1]; exact hl2, .inr ⟨W.heap.size + 1, G, cur2, by rw [hl1], by omega, hg2, by rw [hl1]; exact hG1, hG2, hs2, by rw [hl1]; exact ht2⟩⟩, ?_⟩, HB.grown hgr hbase (fun k e => by cases e), ⟨hgr.os, hgr.tape, hgr.output, hgr.size, fun k hk _ => hgr.block k hk (by simp)⟩⟩
    · have e2 : W.heap.size + 1 = k := by simpa [Value.ownBlock] using hk
      exact hfresh k (by omega)
    · exact Reps.ins (hr.imp_ fun _ _ hm => hk (fun k h => h.1) hm) (hk (fun k h => (hokp k h).1) hp) hcs i

end Go.Proofs.Ytehknkgplldiiaa.PIs
