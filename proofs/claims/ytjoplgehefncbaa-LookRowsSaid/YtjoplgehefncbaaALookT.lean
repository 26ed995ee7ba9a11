/- look.Text: signs in UTF-8: strings.Builder, by hand. -/
import Derived.Test.YtjoplgehefncbaaALook
import Derived.Test.YtjoplgehefncbaaATxt
set_option linter.all false
set_option maxRecDepth 100000
namespace Go.Abs.Lk
open Go.RowKit Go.Proofs Go.Abs.Tab Go.Abs.Dest Go.Abs.Span Go.Abs.Coll Go.Abs.Hx Go.Abs.Mt Go.Abs.Utf Go.Abs.Txt
attribute [local go_sem] Oper.semAt_some
theorem decC {u : List Int} {v : Value} {S : Nat → Prop} {w : World} (hu : u.length ≤ 1000000000) (hS : ∀ b, S b → b < w.heap.size) (h : RV0 w S (aI u) v) : Calls Try.prog 15 #[v] w fun e w' => ∃ x S2, e = .returned x ∧ RV0 w' S2 (aI (decU u)) x ∧ (∀ b, S2 b → b < w'.heap.size) ∧ Below w.heap.size w w' := by
  refine ((dec16 u hu).2 w S [v] hS ⟨rfl, fun i a x h1 h2 => ?_⟩).mono ?_
  · match i, h1, h2 with
    | 0, h1, h2 =>
      obtain rfl := Option.some.inj h1
      obtain rfl := Option.some.inj h2
      exact h
  · rintro e w' ⟨x, S', rfl, hr, _, hs', hb⟩
    refine ⟨x, fun b => S' b ∨ x.ownBlock = some b, rfl, row_sl (ρ := []) hr (fun b q => .inl q) (fun b q => .inr q), fun b q => ?_, hb⟩
    rcases q with q | q
    · exact (hs' b q).1
    · obtain ⟨⟨inner, hown, _⟩, _⟩ := hr
      rcases hown.2 with ⟨rfl, _⟩ | ⟨g, cap, cur, rfl, hbg, hg, _⟩
      · cases q
      · simp [Value.ownBlock] at q
        subst q
        exact (Array.getElem?_eq_some_iff.1 hg).1
theorem txtC {u : List Int} {v : Value} {S : Nat → Prop} {w : World} (hu : u.length < 4398046511104) (hS : ∀ b, S b → b < w.heap.size) (h : RV0 w S (aI u) v) : Calls Try.prog 17 #[v] w fun e w' => e = .returned (.string (encB u)) ∧ Below w.heap.size w w' := by
  refine ((text u hu).2 w S [v] hS ⟨rfl, fun i a x h1 h2 => ?_⟩).mono ?_
  · match i, h1, h2 with
    | 0, h1, h2 =>
      obtain rfl := Option.some.inj h1
      obtain rfl := Option.some.inj h2
      exact h
  · rintro e w' ⟨x, S', rfl, hr, _, _, hb⟩
    cases hr
    exact ⟨rfl, hb⟩
def oneS (rp : Int) (s : Sg) : List Int := if s.has = true then decU s.u else [rp]
def encS (rp : Int) (l : List Sg) : List UInt8 := l.flatMap fun s => enc (oneS rp s)
def txtS (rp : Int) (l : List Sg) : ByteArray := ⟨(encS rp l).toArray⟩
theorem encS_len (rp : Int) : ∀ (l : List Sg), (∀ s ∈ l, s.u.length ≤ 1000000) → (encS rp l).length ≤ 4000004 * l.length
  | [], _ => by simp [encS]
  | s :: l, h => by
    have ih := encS_len rp l (fun x hx => h x (List.mem_cons_of_mem _ hx))
    have h1 := enc_len (oneS rp s)
    have h2 : (oneS rp s).length ≤ 1000001 := by
      unfold oneS
      have := decU_len s.u
      have := h s List.mem_cons_self
      split
      · omega
      · simp
    unfold encS at ih ⊢
    rw [List.flatMap_cons, List.length_append, List.length_cons]
    omega
theorem sgCells {w : World} {S : Nat → Prop} {l : List Sg} {v : Value} (h : RV0 w S (aG l) v) : ∃ A c, v = .slice A l.length c ∧ l.length ≤ c ∧ ∀ i, i < l.length → ∃ ad uv, A = some ad ∧ S ad.block ∧ RV0 w S (aI (l.getD i default).u) uv ∧ ∀ j x, ([.int .i64 (l.getD i default).p.at_, .int .i64 (l.getD i default).p.n, .bool (l.getD i default).p.full, .int .i64 (l.getD i default).p.cn, .int .i64 (l.getD i default).p.cv, .int .i64 (l.getD i default).kind, .int .i64 (l.getD i default).cid, uv, .bool (l.getD i default).has] : List Value)[j]? = some x → w.cell? (ad.add (i * 9 + j)) = some x := by
  generalize ha : aG l = a at h
  cases h with
  | sl sz n el A cap g hcap hmax hl hm hr =>
    unfold aG at ha
    injection ha with h1 h2 h3
    subst h1 h2 h3
    refine ⟨A, cap, rfl, hcap, fun i hi => ?_⟩
    obtain ⟨ad, e1, e2, _⟩ := hm i 0 hi (by omega)
    have hc : ∀ j, j < 9 → w.cell? (ad.add (i * 9 + j)) = some (g i j) := fun j hj => by
      obtain ⟨ad', q1, _, q3⟩ := hm i j hi hj
      rw [e1] at q1
      cases q1
      exact q3
    have r0 := hr i 0 _ hi rfl
    have r1 := hr i 1 _ hi rfl
    have r2 := hr i 2 _ hi rfl
    have r3 := hr i 3 _ hi rfl
    have r4 := hr i 4 _ hi rfl
    have r5 := hr i 5 _ hi rfl
    have r6 := hr i 6 _ hi rfl
    have r7 := hr i 7 _ hi rfl
    have r8 := hr i 8 _ hi rfl
    refine ⟨ad, g i 7, e1, e2, r7, fun j x hx => ?_⟩
    have hj : j < 9 := (List.getElem?_eq_some_iff.1 hx).1
    rw [hc j hj]
    have hj' : j = 0 ∨ j = 1 ∨ j = 2 ∨ j = 3 ∨ j = 4 ∨ j = 5 ∨ j = 6 ∨ j = 7 ∨ j = 8 := by omega
    clear hm hc hr
    rcases hj' with rfl | rfl | rfl | rfl | rfl | rfl | rfl | rfl | rfl
    all_goals obtain rfl := Option.some.inj hx
    · generalize g i 0 = y at r0; cases r0; rfl
    · generalize g i 1 = y at r1; cases r1; rfl
    · generalize g i 2 = y at r2; cases r2; rfl
    · generalize g i 3 = y at r3; cases r3; rfl
    · generalize g i 4 = y at r4; cases r4; rfl
    · generalize g i 5 = y at r5; cases r5; rfl
    · generalize g i 6 = y at r6; cases r6; rfl
    · rfl
    · generalize g i 8 = y at r8; cases r8; rfl
  | _ => exact absurd ha (by unfold aG; intro h; cases h)
theorem intRow1 {w : World} {b : Nat} {c : Nat} {x : Int} (hc : 1 ≤ c) (hm : c ≤ maxLen) (h : w.cell? ⟨b, 0, none⟩ = some (.int .i64 x)) : RV0 w (fun k => k = b) (aI [x]) (.slice (some ⟨b, 0, none⟩) 1 c) := by
  refine .sl 1 1 _ _ c (fun _ _ => .int .i64 x) hc hm (fun i hi => ⟨rfl, rfl⟩) (fun i j hi hj => ?_) (fun i j a hi h1 => ?_)
  · obtain rfl : i = 0 := by omega
    obtain rfl : j = 0 := by omega
    exact ⟨_, rfl, rfl, h⟩
  · obtain rfl : i = 0 := by omega
    cases j with
    | zero =>
      obtain rfl := Option.some.inj h1
      exact .int _ _
    | succ j => simp [els, ci] at h1
theorem b_alloc {B : Nat} {a w : World} (h : Below B a w) (hB : B ≤ a.heap.size) (o : Obj) : Below B a (w.alloc o) := h.alloc (Nat.le_trans hB h.size) o
theorem enc_one (rp : Int) (s : Sg) (h : s.u.length ≤ 1000000) : (encB (oneS rp s)).size ≤ 4000004 := by
  have h1 := enc_len (oneS rp s)
  have h2 : (oneS rp s).length ≤ 1000001 := by
    unfold oneS
    have := decU_len s.u
    split
    · omega
    · simp
  show (enc (oneS rp s)).toArray.size ≤ _
  rw [List.size_toArray]
  omega
theorem strCells_enc (l : List Int) : Lib.strCells (encB l) = Lib.byteCells (enc l) := rfl
theorem txtNew (rp : Int) (wr : World) (o1 : Obj) : Calls Try.prog 17 #[.slice (some ⟨wr.heap.size + 1, 0, none⟩) 1 1] ((wr.alloc o1).alloc (.cells #[.int .i64 rp] 3)) fun e w' => e = .returned (.string (encB [rp])) ∧ Below ((wr.alloc o1).alloc (.cells #[.int .i64 rp] 3)).heap.size ((wr.alloc o1).alloc (.cells #[.int .i64 rp] 3)) w' := by
  have hsz : (wr.alloc o1).heap.size = wr.heap.size + 1 := Array.size_push ..
  have hsz2 : ((wr.alloc o1).alloc (.cells #[.int .i64 rp] 3)).heap.size = wr.heap.size + 2 := (Array.size_push ..).trans (congrArg (· + 1) hsz)
  have hnew := heap_alloc_new (wr.alloc o1) (.cells #[.int .i64 rp] 3)
  rw [hsz] at hnew
  refine txtC (u := [rp]) (S := fun k => k = wr.heap.size + 1) (by show 1 < 4398046511104; omega) (fun b q => by rw [hsz2]; omega) (intRow1 (Nat.le_refl _) (by decide) ?_)
  unfold World.cell?
  rw [hnew]
  rfl
set_option maxHeartbeats 8000000 in
theorem lookTextC (A0 : Option Addr) (c0 : Nat) (rp : Int) (l0 : List Sg) (S : Nat → Prop) (w : World) (hS : ∀ b, S b → b < w.heap.size) (hv : RV0 w S (aG l0) (.slice A0 l0.length c0)) (hl : l0.length ≤ 1000000) (hu : ∀ s ∈ l0, s.u.length ≤ 1000000) :
    Calls Try.prog 10 #[.slice A0 l0.length c0, .int .i64 rp] w fun e w' => e = .returned (.string (txtS rp l0)) ∧ Below w.heap.size w w' := by
  obtain ⟨A1, c1, e, hc, hcell⟩ := sgCells hv
  injection e with e1 e2 e3
  subst e1 e3
  have HL := Aside0.mk hl
  have HC := Aside0.mk hcell
  have HU := Aside0.mk hu
  have HS := Aside0.mk hS
  clear hl hcell hc hu hS hv
  go_enter Try.func10, Try.ntmps10
  go_wp2
  go_loopg [11] (l0.length + 1) (fun kq v8 w' => ∃ (i : Nat), v8 = .int .i64 (i : Nat) ∧ Aside0 (i ≤ l0.length ∧ l0.length + 1 ≤ kq + i) ∧ Aside0 (Lib.IsBuilderF 60 5 w.heap.size w.heap.size (Lib.byteCells (encS rp (l0.take i))) w') ∧ Aside0 (Below w.heap.size w w'))
  case atStart => exact ⟨0, rfl, ⟨by omega⟩, ⟨Lib.IsBuilderF.of (Lib.fresh_isBuilder 60 5 w)⟩, ⟨(Below.refl _ w).alloc (Nat.le_refl _) _⟩⟩
  case round =>
    obtain ⟨i, rfl, HI, HO, HB⟩ := hrel
    cases gk with
    | zero => have := HI.out; omega
    | succ k1 =>
      by_cases hi : i < l0.length
      · obtain ⟨ad, uv, ead, hsb, hru, hcl⟩ := HC.out i hi
        subst ead
        have hw : ∀ p : Addr, p.block = ad.block → wr.cell? p = w.cell? p := fun p hp => World.cell?_of_block (by rw [hp]; exact HB.out.block _ (HS.out _ hsb))
        obtain ⟨sg, hsg⟩ : ∃ sg, sg = l0.getD i default := ⟨_, rfl⟩
        rw [← hsg] at hru hcl
        have hab : ∀ n, (ad.add n).block = ad.block := fun n => by unfold Addr.add; split <;> rfl
        have hao : (ad.add (i * 9)).off = ad.off + i * 9 := by unfold Addr.add; split <;> first | rfl | (rename_i h; omega)
        have hadd : ∀ j, 0 < j → (⟨(ad.add (i * 9)).block, (ad.add (i * 9)).off + j, none⟩ : Addr) = ad.add (i * 9 + j) := fun j hj => by
          rw [hab, hao]
          unfold Addr.add
          rw [if_neg (by omega), Nat.add_assoc]
        have hx0 : wr.cell? (ad.add (i * 9)) = some (.int .i64 sg.p.at_) := (hw _ (hab _)).trans (hcl 0 _ rfl)
        have hx1 : wr.cell? ⟨(ad.add (i * 9)).block, (ad.add (i * 9)).off + 1, none⟩ = some (.int .i64 sg.p.n) := by rw [hadd 1 (by omega)]; exact (hw _ (hab _)).trans (hcl 1 _ rfl)
        have hx2 : wr.cell? ⟨(ad.add (i * 9)).block, (ad.add (i * 9)).off + 2, none⟩ = some (.bool sg.p.full) := by rw [hadd 2 (by omega)]; exact (hw _ (hab _)).trans (hcl 2 _ rfl)
        have hx3 : wr.cell? ⟨(ad.add (i * 9)).block, (ad.add (i * 9)).off + 3, none⟩ = some (.int .i64 sg.p.cn) := by rw [hadd 3 (by omega)]; exact (hw _ (hab _)).trans (hcl 3 _ rfl)
        have hx4 : wr.cell? ⟨(ad.add (i * 9)).block, (ad.add (i * 9)).off + 4, none⟩ = some (.int .i64 sg.p.cv) := by rw [hadd 4 (by omega)]; exact (hw _ (hab _)).trans (hcl 4 _ rfl)
        have hx5 : wr.cell? ⟨(ad.add (i * 9)).block, (ad.add (i * 9)).off + 5, none⟩ = some (.int .i64 sg.kind) := by rw [hadd 5 (by omega)]; exact (hw _ (hab _)).trans (hcl 5 _ rfl)
        have hx6 : wr.cell? ⟨(ad.add (i * 9)).block, (ad.add (i * 9)).off + 6, none⟩ = some (.int .i64 sg.cid) := by rw [hadd 6 (by omega)]; exact (hw _ (hab _)).trans (hcl 6 _ rfl)
        have hx7 : wr.cell? ⟨(ad.add (i * 9)).block, (ad.add (i * 9)).off + 7, none⟩ = some uv := by rw [hadd 7 (by omega)]; exact (hw _ (hab _)).trans (hcl 7 _ rfl)
        have hx8 : wr.cell? ⟨(ad.add (i * 9)).block, (ad.add (i * 9)).off + 8, none⟩ = some (.bool sg.has) := by rw [hadd 8 (by omega)]; exact (hw _ (hab _)).trans (hcl 8 _ rfl)
        have htk : encS rp (l0.take (i + 1)) = encS rp (l0.take i) ++ enc (oneS rp sg) := by
          rw [List.take_succ_eq_append_getElem hi, hsg]
          unfold encS
          rw [List.flatMap_append]
          simp [List.getD, hi]
        have hsu : sg.u.length ≤ 1000000 := by
          rw [hsg]
          have : l0.getD i default = l0[i] := by simp [List.getD, hi]
          rw [this]
          exact HU.out _ (List.getElem_mem hi)
        obtain ⟨Au, cu, rfl, _⟩ := intCells hru
        have p0 : (0 ≤ (i : Int)) = True := eq_true (by omega)
        have p1 : ((i : Int) < (l0.length : Int)) = True := eq_true (by omega)
        have HTK := Aside0.mk htk
        have HLi := Aside0.mk hi
        have HSU := Aside0.mk hsu
        have HRU := Aside0.mk hru
        clear htk hsu hsg hcl hru hw hadd hab hao hsb
        have hln := encS_len rp (l0.take i) (fun x hx => HU.out x (List.mem_of_mem_take hx))
        rw [List.length_take] at hln
        have HLN := Aside0.mk (show (encS rp (l0.take i)).length ≤ 4000004 * i by omega)
        have HEN := Aside0.mk (enc_one rp sg HSU.out)
        clear hln
        have HBA := Aside0.mk (show ∀ o1 o2, Below w.heap.size w ((wr.alloc o1).alloc o2) from fun o1 o2 => b_alloc (b_alloc HB.out (Nat.le_refl _) o1) (Nat.le_refl _) o2)
        have HOA := Aside0.mk (show ∀ o1 o2, Lib.IsBuilderF 60 5 w.heap.size w.heap.size (Lib.byteCells (encS rp (l0.take i))) ((wr.alloc o1).alloc o2) from fun o1 o2 => (HO.out.alloc o1).alloc o2)
        cases hb : sg.has with
        | true =>
          rw [hb] at hx8
          have ho1 : oneS rp sg = decU sg.u := if_pos hb
          have HO1 := Aside0.mk ho1
          clear ho1
          go_wp2_with (first | (go_at_call 15; refine (decC (u := sg.u) (S := S) (by have := HSU.out; omega) (fun b q => Nat.lt_of_lt_of_le (HS.out b q) (HBA.out _ _).size) (HRU.out.mono (fun _ q => q) (fun b q => (HBA.out _ _).block b (HS.out b q)))).mono ?_; rintro e w1 ⟨x, S2, rfl, hx, hs2, hb1⟩; have HX := Aside0.mk hx; have HS2 := Aside0.mk hs2; have HB1 := Aside0.mk hb1; clear hx hs2 hb1) | (go_at_call 17; refine (txtC (u := decU sg.u) (S := S2) (by have := HSU.out; have := decU_len sg.u; omega) HS2.out HX.out).mono ?_; rw [← HO1.out]; rintro e w2 ⟨rfl, hb2⟩; have HB2 := Aside0.mk hb2; have HBM := Aside0.mk ((HBA.out _ _).trans (HB1.out.mono (HBA.out _ _).size)); have HBN := Aside0.mk (HBM.out.trans (HB2.out.mono HBM.out.size)); have HOB := Aside0.mk (isB_below (isB_below (HOA.out _ _) HB1.out) HB2.out); clear hb2) | (go_at_call 16; refine (Try.Builder_WriteString_k w.heap.size w.heap.size (Lib.byteCells (encS rp (l0.take i))) (encB (oneS rp sg)) _ HOB.out (by rw [Lib.byteCells_length]; have := HL.out; have := HLN.out; have := HEN.out; omega) HBN.out.size).mono ?_; rintro e W1 ⟨rfl, h1, b1, _⟩))
          go_roundg k1
          case measure => have := HI.out; omega
          case rel => exact ⟨i + 1, (by first | rfl | (have := HL.out; have := HLi.out; congr 1; unfold wrap64; omega) | (have := HL.out; have := HLi.out; simp [wrap64]; omega)), ⟨by have := HI.out; omega⟩, ⟨by rw [HTK.out, Lib.byteCells_append, ← strCells_enc]; exact Or.inr h1⟩, ⟨HBN.out.trans b1⟩⟩
        | false =>
          rw [hb] at hx8
          have ho1 : oneS rp sg = [rp] := if_neg (by rw [hb]; decide)
          have HO1 := Aside0.mk ho1
          clear ho1
          go_wp2_with (first | (go_at_call 17; refine (txtNew rp wr _).mono ?_; rw [← HO1.out]; rintro e w2 ⟨rfl, hb2⟩; have HB2 := Aside0.mk hb2; have HBN := Aside0.mk ((HBA.out _ _).trans (HB2.out.mono (HBA.out _ _).size)); have HOB := Aside0.mk (isB_below (HOA.out _ _) HB2.out); clear hb2) | (go_at_call 16; refine (Try.Builder_WriteString_k w.heap.size w.heap.size (Lib.byteCells (encS rp (l0.take i))) (encB (oneS rp sg)) _ HOB.out (by rw [Lib.byteCells_length]; have := HL.out; have := HLN.out; have := HEN.out; omega) HBN.out.size).mono ?_; rintro e W1 ⟨rfl, h1, b1, _⟩))
          go_roundg k1
          case measure => have := HI.out; omega
          case rel => exact ⟨i + 1, (by first | rfl | (have := HL.out; have := HLi.out; congr 1; unfold wrap64; omega) | (have := HL.out; have := HLi.out; simp [wrap64]; omega)), ⟨by have := HI.out; omega⟩, ⟨by rw [HTK.out, Lib.byteCells_append, ← strCells_enc]; exact Or.inr h1⟩, ⟨HBN.out.trans b1⟩⟩
      · obtain rfl : i = l0.length := by have := HI.out; omega
        have ho := HO.out
        rw [List.take_length] at ho
        clear HO
        have HO := Aside0.mk ho
        clear ho
        go_wp2_with (go_at_call 18; refine (Try.Builder_String_any_k w.heap.size w.heap.size (encS rp l0) _ HO.out (HB.out.size)).mono ?_; rintro e W1 ⟨rfl, _, b1, _⟩)
        go_ret
        exact ⟨rfl, HB.out.trans b1⟩
def STxtS : Sp := ⟨List Sg × Int, fun (l, rp) => l.length ≤ 1000000 ∧ ∀ s ∈ l, s.u.length ≤ 1000000, fun (l, rp) => [aG l, .int .i64 rp], fun (l, rp) => .st (.str (txtS rp l))⟩
theorem lookText : SpOK Try.prog 10 STxtS := fun ⟨l, rp⟩ ⟨hl, hu⟩ => by
  refine ⟨⟨_, Try.func10, rfl, rfl⟩, fun w S vs hS hv => ?_⟩
  obtain ⟨hl1, hv2⟩ := hv
  match vs, hl1, hv2 with
  | [v, u], hl1, hv2 =>
    have h0 := hv2 0 _ _ rfl rfl
    have h1 := hv2 1 _ _ rfl rfl
    cases h1
    obtain ⟨A, c, rfl, _, _⟩ := sgCells h0
    refine (lookTextC A c rp l S w hS h0 hl hu).mono ?_
    rintro e w' ⟨rfl, hb⟩
    exact ⟨_, S, rfl, .str _, fun _ q => q, fun b q => ⟨Nat.lt_of_lt_of_le (hS b q) hb.size, .inl q⟩, hb⟩
end Go.Abs.Lk
