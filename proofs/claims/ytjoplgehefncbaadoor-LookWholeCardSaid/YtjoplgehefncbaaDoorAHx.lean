/- Bytes and codes; codespaces one by one. -/
import Derived.Test.YtjoplgehefncbaaDoorATbl
set_option linter.all false
set_option maxRecDepth 100000
namespace Go.Abs.Hx
open Go.RowKit Go.Proofs Go.Abs.Tab Go.Abs.Coll
def c8 (x : Int) : List AV := [.int .u8 x]
theorem c8_emb : Emb c8 1 := fun x => ⟨rfl, ⟨⟨rfl⟩, trivial⟩, rfl⟩
abbrev a8 (l : List Int) : AV := aL c8 1 l
/-- One more element, told in another way. -/
theorem snoc_sub {α : Type} [Inhabited α] {f : α → List AV} {sz : Nat} (hf : Emb f sz) {l : List α} {x : α} {n : Nat} {c : List AV} (hn : n = l.length) (hc : subs0 (f x) c) : ∀ i, i < (l ++ [x]).length → cond (ones (els f (l ++ [x]) i)) (subs0 (els f (l ++ [x]) i) (catEl n (els f l) (elt [c]) i)) False := fun i hi => by
  subst hn
  rw [List.length_append, List.length_singleton] at hi
  unfold catEl
  rcases Nat.lt_or_ge i l.length with q | q
  · have e2 : els f (l ++ [x]) i = f (l.getD i default) := by simp [els, List.getD, List.getElem?_append_left q]
    rw [e2, show Nat.blt i l.length = true from Nat.ble_eq_true_of_le q, cond_true, (hf _).1, cond_true]
    exact (hf _).2.1
  · obtain rfl : i = l.length := by omega
    have e2 : els f (l ++ [x]) l.length = f x := by simp [els, List.getD]
    have e3 : Nat.blt l.length l.length = false := by
      cases hb : Nat.blt l.length l.length with
      | false => rfl
      | true => exact absurd (Nat.le_of_ble_eq_true hb) (Nat.lt_irrefl _)
    rw [e2, e3, cond_false, Nat.sub_self, (hf _).1, cond_true]
    exact hc
def B8 (b : List Int) : Prop := ∀ x ∈ b, 0 ≤ x ∧ x ≤ 255
theorem B8.get {b : List Int} (h : B8 b) (i : Nat) : 0 ≤ b.getD i default ∧ b.getD i default ≤ 255 := by
  rcases Nat.lt_or_ge i b.length with q | q
  · have := h _ (List.getElem_mem q)
    simpa [List.getD, q] using this
  · have : b.getD i default = 0 := by
      rw [List.getD, List.getElem?_eq_none q]
      rfl
    omega
def valI (b : List Int) : Int := b.foldl (fun v x => v * 256 + x) 0
theorem valI_next {b : List Int} {k : Nat} (hk : k < b.length) : valI (b.take (k + 1)) = valI (b.take k) * 256 + b.getD k default := by
  unfold valI
  rw [List.take_succ_eq_append_getElem hk, List.foldl_append]
  simp [List.getD, hk]
theorem valI_rng {b : List Int} (h : B8 b) : ∀ k, 0 ≤ valI (b.take k) ∧ valI (b.take k) < 256 ^ k
  | 0 => by simp [valI]
  | k + 1 => by
    have ih := valI_rng h k
    rcases Nat.lt_or_ge k b.length with q | q
    · have hb := h.get k
      rw [valI_next q, Int.pow_succ]
      omega
    · rw [List.take_of_length_le (by omega)]
      rw [List.take_of_length_le q] at ih
      rw [Int.pow_succ]
      omega
def valOk (b : List Int) : Bool := decide (1 ≤ b.length ∧ b.length ≤ 4)
def valN (b : List Int) : Int := if valOk b = true then b.length else 0
def valV (b : List Int) : Int := if valOk b = true then valI b else 0
theorem orW {v x : Int} (h0 : 0 ≤ v) (h1 : v < 16777216) (h2 : 0 ≤ x) (h3 : x ≤ 255) : IntKind.i64.wrap ((BitVec.ofInt IntKind.i64.bits (IntKind.i64.wrap (v * 2 ^ min (Int.toNat 8) IntKind.i64.bits)) ||| BitVec.ofInt IntKind.i64.bits x).toNat : Int) = v * 256 + x := by
  have e1 : IntKind.i64.wrap (v * 2 ^ min (Int.toNat 8) IntKind.i64.bits) = v * 256 := by
    rw [show (2 : Int) ^ min (Int.toNat 8) IntKind.i64.bits = 256 from rfl]
    exact iw (by omega) (by omega)
  rw [e1]
  have e2 : (BitVec.ofInt IntKind.i64.bits (v * 256)).toNat = 2 ^ 8 * v.toNat := by
    rw [BitVec.toNat_ofInt, show IntKind.i64.bits = 64 from rfl]
    omega
  have e3 : (BitVec.ofInt IntKind.i64.bits x).toNat = x.toNat := by
    rw [BitVec.toNat_ofInt, show IntKind.i64.bits = 64 from rfl]
    omega
  rw [BitVec.toNat_or, e2, e3, ← Nat.two_pow_add_eq_or_of_lt (by omega)]
  rw [iw (by omega) (by omega)]
  omega
def SVal : Sp := ⟨List Int, fun b => b.length < 4611686018427387904 ∧ B8 b, fun b => [a8 b], fun b => .st (.tup [aCode (valN b) (valV b), .sb (valOk b)])⟩
set_option maxHeartbeats 4000000 in
theorem hexVal : SpOK Tryd.prog 16 SVal := fun (b : List Int) ⟨hl, h8⟩ => by
  have hC := base
  have hrng := valI_rng h8
  ((refine Fn.ofF hC Tryd.func16 Tryd.ntmps16 rfl rfl rfl ?_); (repeat' first | (with_reducible exact trivial) | (with_reducible rfl) | (refine And.intro ?_ ?_) | (refine Need.mk ?_) | exact True.intro | (first | (refine ⟨_, Told.refl _, ?_, ?_⟩) | (refine ⟨⟨_, _⟩, Told.refl _, ?_, ?_⟩) | (refine ⟨⟨_, _, _⟩, Told.refl _, ?_, ?_⟩) | (refine ⟨⟨_, _, _, _⟩, Told.refl _, ?_, ?_⟩) | (refine ⟨⟨_, _, _, _, _⟩, Told.refl _, ?_, ?_⟩) | (refine ⟨(), Told.refl _, ?_, ?_⟩)) | (with_reducible intro _) | (refine fun (_ : Bool) => ?_)))
  any_goals
    have h1 : b.length < 1 ∨ 4 < b.length := by ((try dsimp only at *); (try simp only [decide_eq_true_eq, decide_eq_false_iff_not, beq_iff_eq, bne_iff_ne, beq_eq_false_iff_ne, bne_eq_false_iff_eq, ne_eq, Decidable.not_not, ge_iff_le, gt_iff_lt, Bool.not_eq_true', Bool.not_eq_false', Int.not_lt, Int.not_le, Nat.not_lt, Nat.not_le] at *)); omega
    have hv : valOk b = false := decide_eq_false (by omega)
    first
      | (unfold valN; rw [hv]; rfl)
      | (unfold valV; rw [hv]; rfl)
      | (rw [hv]; done)
  have hlen : 1 ≤ b.length ∧ b.length ≤ 4 := by ((try dsimp only at *); (try simp only [decide_eq_true_eq, decide_eq_false_iff_not, beq_iff_eq, bne_iff_ne, beq_eq_false_iff_ne, bne_eq_false_iff_eq, ne_eq, Decidable.not_not, ge_iff_le, gt_iff_lt, Bool.not_eq_true', Bool.not_eq_false', Int.not_lt, Int.not_le, Nat.not_lt, Nat.not_le] at *)); omega
  have hv : valOk b = true := decide_eq_true hlen
  have e1 : valN b = b.length := if_pos hv
  have e2 : valV b = valI b := if_pos hv
  refine AW.loop (I := fun k : Nat => ⟨34, [(2, .ptr 0 0), (4, .ptr 1 0), (19, a8 b), (20, .int .i64 b.length), (21, .int .i64 k)], [.box 37 [.int .i64 0, .int .i64 0], .box 37 [.int .i64 b.length, .int .i64 (valI (b.take k))]]⟩) (fun k => k ≤ b.length) (fun k => b.length - k) 0 (Nat.zero_le _) ?_ ?_
  · (repeat' first | (with_reducible exact trivial) | (with_reducible rfl) | (refine And.intro ?_ ?_) | (refine Need.mk ?_) | exact True.intro | (first | (refine ⟨_, Told.refl _, ?_, ?_⟩) | (refine ⟨⟨_, _⟩, Told.refl _, ?_, ?_⟩) | (refine ⟨⟨_, _, _⟩, Told.refl _, ?_, ?_⟩) | (refine ⟨⟨_, _, _, _⟩, Told.refl _, ?_, ?_⟩) | (refine ⟨⟨_, _, _, _, _⟩, Told.refl _, ?_, ?_⟩) | (refine ⟨(), Told.refl _, ?_, ?_⟩)) | (with_reducible intro _) | (refine fun (_ : Bool) => ?_))
    all_goals rfl
  · intro k hk
    rcases Nat.lt_or_ge k b.length with hlt | hge
    · have hd : decide ((k : Int) < (b.length : Int)) = true := decide_eq_true (by omega)
      have hw := iw (n := (k : Int) + 1) (by omega) (by omega)
      have hg := h8.get k
      have hr := hrng k
      have hr2 : valI (b.take k) < 16777216 := by
        have hc : k = 0 ∨ k = 1 ∨ k = 2 ∨ k = 3 := by omega
        have h2 : (256 : Int) ^ k ≤ 16777216 := by rcases hc with rfl | rfl | rfl | rfl <;> decide
        omega
      have ho := orW hr.1 hr2 hg.1 hg.2
      have hnx := valI_next hlt
      ((refine AW.byF ‹_› ?_); (repeat' first | (with_reducible exact trivial) | (with_reducible rfl) | (refine And.intro ?_ ?_) | (refine Need.mk ?_) | exact True.intro | (first | (refine ⟨_, Told.refl _, ?_, ?_⟩) | (refine ⟨⟨_, _⟩, Told.refl _, ?_, ?_⟩) | (refine ⟨⟨_, _, _⟩, Told.refl _, ?_, ?_⟩) | (refine ⟨⟨_, _, _, _⟩, Told.refl _, ?_, ?_⟩) | (refine ⟨⟨_, _, _, _, _⟩, Told.refl _, ?_, ?_⟩) | (refine ⟨(), Told.refl _, ?_, ?_⟩)) | (with_reducible intro _) | (refine fun (_ : Bool) => ?_)))
      all_goals first | (exact absurd ‹decide ((k : Int) < (b.length : Int)) = false› (by rw [hd]; decide)) | skip
      any_goals (refine Exists.intro (k + 1) (And.intro ?_ (And.intro ?_ ?_)); all_goals (repeat' first | (with_reducible exact trivial) | (with_reducible rfl) | (refine And.intro ?_ ?_) | (refine Need.mk ?_) | exact True.intro | (first | (refine ⟨_, Told.refl _, ?_, ?_⟩) | (refine ⟨⟨_, _⟩, Told.refl _, ?_, ?_⟩) | (refine ⟨⟨_, _, _⟩, Told.refl _, ?_, ?_⟩) | (refine ⟨⟨_, _, _, _⟩, Told.refl _, ?_, ?_⟩) | (refine ⟨⟨_, _, _, _, _⟩, Told.refl _, ?_, ?_⟩) | (refine ⟨(), Told.refl _, ?_, ?_⟩)) | (with_reducible intro _) | (refine fun (_ : Bool) => ?_)))
      all_goals first
        | omega
        | (rw [hw]; omega)
        | (rw [hnx, Int.toNat_natCast, iw (n := b.getD k default) (by omega) (by omega)]; exact ho)
       
    · obtain rfl : k = b.length := by omega
      have hd : decide ((b.length : Int) < (b.length : Int)) = false := decide_eq_false (by omega)
      ((refine AW.byF ‹_› ?_); (repeat' first | (with_reducible exact trivial) | (with_reducible rfl) | (refine And.intro ?_ ?_) | (refine Need.mk ?_) | exact True.intro | (first | (refine ⟨_, Told.refl _, ?_, ?_⟩) | (refine ⟨⟨_, _⟩, Told.refl _, ?_, ?_⟩) | (refine ⟨⟨_, _, _⟩, Told.refl _, ?_, ?_⟩) | (refine ⟨⟨_, _, _, _⟩, Told.refl _, ?_, ?_⟩) | (refine ⟨⟨_, _, _, _, _⟩, Told.refl _, ?_, ?_⟩) | (refine ⟨(), Told.refl _, ?_, ?_⟩)) | (with_reducible intro _) | (refine fun (_ : Bool) => ?_)))
      all_goals first | (exact absurd ‹decide ((b.length : Int) < (b.length : Int)) = true› (by rw [hd]; decide)) | skip
      all_goals first
        | exact e1.symm
        | (rw [e2, List.take_length]; done)
        | exact hv.symm
       
def byteAt (v : Int) (k : Nat) : Int := v / 256 ^ k % 256
def bytesC (n v : Int) : List Int := if saneC n v = true then (List.range n.toNat).map (fun i => byteAt v (n.toNat - 1 - i)) else []
theorem bytesC_len (n v : Int) : (bytesC n v).length = if saneC n v = true then n.toNat else 0 := by
  unfold bytesC
  split <;> simp
theorem byteAt_rng (v : Int) (k : Nat) : 0 ≤ byteAt v k ∧ byteAt v k ≤ 255 := by
  unfold byteAt
  omega
theorem bytesC_8 (n v : Int) : B8 (bytesC n v) := by
  unfold bytesC
  split
  · intro x hx
    obtain ⟨i, _, rfl⟩ := List.mem_map.1 hx
    exact byteAt_rng v _
  · intro x hx
    cases hx
def bytesK (n v : Int) (k : Nat) : List Int := (List.range k).map (fun i => byteAt v (n.toNat - 1 - i))
theorem bytesK_succ (n v : Int) (k : Nat) : bytesK n v (k + 1) = bytesK n v k ++ [byteAt v (n.toNat - 1 - k)] := by simp [bytesK, List.range_succ]
theorem shrW {v : Int} {k : Nat} (hk : k ≤ 3) : IntKind.u8.wrap (v.fdiv (2 ^ min (IntKind.u64.wrap (IntKind.i64.wrap (8 * (k : Int)))).toNat IntKind.i64.bits)) = byteAt v k := by
  have hc : k = 0 ∨ k = 1 ∨ k = 2 ∨ k = 3 := by omega
  unfold byteAt
  rcases hc with rfl | rfl | rfl | rfl
  · rw [show (2 : Int) ^ min (IntKind.u64.wrap (IntKind.i64.wrap (8 * ((0 : Nat) : Int)))).toNat IntKind.i64.bits = 1 by decide, Int.fdiv_eq_ediv_of_nonneg _ (by decide), IntKind.wrap_u8]
    rfl
  · rw [show (2 : Int) ^ min (IntKind.u64.wrap (IntKind.i64.wrap (8 * ((1 : Nat) : Int)))).toNat IntKind.i64.bits = 256 by decide, Int.fdiv_eq_ediv_of_nonneg _ (by decide), IntKind.wrap_u8]
    rfl
  · rw [show (2 : Int) ^ min (IntKind.u64.wrap (IntKind.i64.wrap (8 * ((2 : Nat) : Int)))).toNat IntKind.i64.bits = 65536 by decide, Int.fdiv_eq_ediv_of_nonneg _ (by decide), IntKind.wrap_u8]
    rfl
  · rw [show (2 : Int) ^ min (IntKind.u64.wrap (IntKind.i64.wrap (8 * ((3 : Nat) : Int)))).toNat IntKind.i64.bits = 16777216 by decide, Int.fdiv_eq_ediv_of_nonneg _ (by decide), IntKind.wrap_u8]
    rfl
def SBytes : Sp := ⟨Int × Int, fun _ => True, fun (n, v) => [aCode n v], fun (n, v) => .row 5 1 (bytesC n v).length (els c8 (bytesC n v))⟩
set_option maxHeartbeats 4000000 in
theorem hexBytes : SpOK Tryd.prog 62 SBytes := fun ⟨n, v⟩ _ => by
  have hC : COK Tryd.prog (cfg [(59, SSane)]) := Ty.ty.cfg ⟨hexSane, trivial⟩
  ((refine Fn.ofF hC Tryd.func62 Tryd.ntmps62 rfl rfl rfl ?_); (repeat' first | (with_reducible exact trivial) | (with_reducible rfl) | (refine And.intro ?_ ?_) | (refine Need.mk ?_) | exact True.intro | (first | (refine ⟨_, Told.refl _, ?_, ?_⟩) | (refine ⟨⟨_, _⟩, Told.refl _, ?_, ?_⟩) | (refine ⟨⟨_, _, _⟩, Told.refl _, ?_, ?_⟩) | (refine ⟨⟨_, _, _, _⟩, Told.refl _, ?_, ?_⟩) | (refine ⟨⟨_, _, _, _, _⟩, Told.refl _, ?_, ?_⟩) | (refine ⟨(), Told.refl _, ?_, ?_⟩)) | (with_reducible intro _) | (refine fun (_ : Bool) => ?_)))
  · have hs : ¬ saneC n v = true := by simpa using ‹(!saneC n v) = true›
    rw [bytesC_len, if_neg hs]
  have hs : saneC n v = true := by simpa using ‹(!saneC n v) = false›
  have hn := (saneC_iff n v).1 hs
  have hn : 1 ≤ n ∧ n ≤ 4 := by omega
  have e1 : bytesC n v = bytesK n v n.toNat := if_pos hs
  have hw1 := iw (n := n - 1) (by omega) (by omega)
  refine AW.loop (I := fun k : Nat => ⟨26, [(1, .ptr 0 0), (3, .own 1), (4, .int .i64 (n - 1 - k))], [.box 37 [.int .i64 n, .int .i64 v], .row 5 1 k (els c8 (bytesK n v k))]⟩) (fun k => (k : Int) ≤ n) (fun k => n.toNat - k) 0 (by show ((0 : Nat) : Int) ≤ n; omega) ?_ ?_
  · (repeat' first | (with_reducible exact trivial) | (with_reducible rfl) | (refine And.intro ?_ ?_) | (refine Need.mk ?_) | exact True.intro | (first | (refine ⟨_, Told.refl _, ?_, ?_⟩) | (refine ⟨⟨_, _⟩, Told.refl _, ?_, ?_⟩) | (refine ⟨⟨_, _, _⟩, Told.refl _, ?_, ?_⟩) | (refine ⟨⟨_, _, _, _⟩, Told.refl _, ?_, ?_⟩) | (refine ⟨⟨_, _, _, _, _⟩, Told.refl _, ?_, ?_⟩) | (refine ⟨(), Told.refl _, ?_, ?_⟩)) | (with_reducible intro _) | (refine fun (_ : Bool) => ?_))
    all_goals first | rfl | (rw [hw1]; show n - 1 = n - 1 - ((0 : Nat) : Int); omega)
  · intro k hk
    rcases Int.lt_or_le k n with hlt | hge
    · have hd : decide (n - 1 - (k : Int) ≥ 0) = true := decide_eq_true (by omega)
      have hw := iw (n := n - 1 - (k : Int) - 1) (by omega) (by omega)
      have hk2 : n - 1 - (k : Int) = ((n.toNat - 1 - k : Nat) : Int) := by omega
      have hsh := shrW (v := v) (k := n.toNat - 1 - k) (by omega)
      rw [← hk2] at hsh
      have hm := bytesK_succ n v k
      ((refine AW.byF ‹_› ?_); (repeat' first | (with_reducible exact trivial) | (with_reducible rfl) | (refine And.intro ?_ ?_) | (refine Need.mk ?_) | exact True.intro | (first | (refine ⟨_, Told.refl _, ?_, ?_⟩) | (refine ⟨⟨_, _⟩, Told.refl _, ?_, ?_⟩) | (refine ⟨⟨_, _, _⟩, Told.refl _, ?_, ?_⟩) | (refine ⟨⟨_, _, _, _⟩, Told.refl _, ?_, ?_⟩) | (refine ⟨⟨_, _, _, _, _⟩, Told.refl _, ?_, ?_⟩) | (refine ⟨(), Told.refl _, ?_, ?_⟩)) | (with_reducible intro _) | (refine fun (_ : Bool) => ?_)))
      all_goals first | (exact absurd ‹decide (n - 1 - (k : Int) ≥ 0) = false› (by rw [hd]; decide)) | skip
      any_goals (refine Exists.intro (k + 1) (And.intro ?_ (And.intro ?_ ?_)); all_goals (repeat' first | (with_reducible exact trivial) | (with_reducible rfl) | (refine And.intro ?_ ?_) | (refine Need.mk ?_) | exact True.intro | (first | (refine ⟨_, Told.refl _, ?_, ?_⟩) | (refine ⟨⟨_, _⟩, Told.refl _, ?_, ?_⟩) | (refine ⟨⟨_, _, _⟩, Told.refl _, ?_, ?_⟩) | (refine ⟨⟨_, _, _, _⟩, Told.refl _, ?_, ?_⟩) | (refine ⟨⟨_, _, _, _, _⟩, Told.refl _, ?_, ?_⟩) | (refine ⟨(), Told.refl _, ?_, ?_⟩)) | (with_reducible intro _) | (refine fun (_ : Bool) => ?_)))
      all_goals first
        | omega
        | (rw [hw]; omega)
        | (rw [IntKind.wrap_i64, IntKind.wrap_u64]; omega)
        | (show (k + 1) * 1 ≤ _; omega)
        | (rename_i i hi
           rw [hm]
           have hl : (bytesK n v k).length = k := by simp [bytesK]
           have hi : i < (bytesK n v k ++ [byteAt v (n.toNat - 1 - k)]).length := by rw [List.length_append, hl]; exact hi
           refine els_of c8_emb (n := 0) (fun j hj => ?_) i hi
           have := cat_snoc (f := c8) (l := bytesK n v k) (x := byteAt v (n.toNat - 1 - k)) hl.symm j hj
           rw [← this, ← hsh]
           rfl)
       
    · obtain rfl : n = (k : Int) := by omega
      have hd : decide ((k : Int) - 1 - (k : Int) ≥ 0) = false := decide_eq_false (by omega)
      have e2 : bytesC (k : Int) v = bytesK (k : Int) v k := e1
      ((refine AW.byF ‹_› ?_); (repeat' first | (with_reducible exact trivial) | (with_reducible rfl) | (refine And.intro ?_ ?_) | (refine Need.mk ?_) | exact True.intro | (first | (refine ⟨_, Told.refl _, ?_, ?_⟩) | (refine ⟨⟨_, _⟩, Told.refl _, ?_, ?_⟩) | (refine ⟨⟨_, _, _⟩, Told.refl _, ?_, ?_⟩) | (refine ⟨⟨_, _, _, _⟩, Told.refl _, ?_, ?_⟩) | (refine ⟨⟨_, _, _, _, _⟩, Told.refl _, ?_, ?_⟩) | (refine ⟨(), Told.refl _, ?_, ?_⟩)) | (with_reducible intro _) | (refine fun (_ : Bool) => ?_)))
      all_goals first | (exact absurd ‹decide ((k : Int) - 1 - (k : Int) ≥ 0) = true› (by rw [hd]; decide)) | skip
      all_goals first
        | (rw [e2]; simp [bytesK]; done)
        | (rw [e2]; done)
def lo (r : Rct) : List Int := bytesC r.n r.lo
def hi (r : Rct) : List Int := bytesC r.n r.hi
def okR (r : Rct) : Bool := decide (1 ≤ (lo r).length ∧ 1 ≤ (hi r).length ∧ ∀ k, k < (lo r).length → (lo r).getD k default ≤ (hi r).getD k default)
theorem lo_len (r : Rct) : (lo r).length ≤ 4 := by
  unfold lo
  rw [bytesC_len]
  split
  · rename_i h
    have := (saneC_iff _ _).1 h
    omega
  · omega
theorem len_eq (r : Rct) (h1 : 1 ≤ (lo r).length) (h2 : 1 ≤ (hi r).length) : (hi r).length = (lo r).length ∧ ((lo r).length : Int) = r.n := by
  unfold lo hi at *
  rw [bytesC_len] at *
  rw [bytesC_len] at *
  split at h1
  · split at h2
    · rename_i h3 h4
      rw [if_pos h3, if_pos h4]
      have := (saneC_iff _ _).1 h3
      omega
    · omega
  · omega
def loK (r : Rct) : List Int := if okR r = true then lo r else []
def hiK (r : Rct) : List Int := if okR r = true then hi r else []
def SOf : Sp := ⟨Rct, fun _ => True, fun r => [.agg (cR r)], fun r => .st (.tup [.agg [a8 (loK r), a8 (hiK r)], .sb (okR r)])⟩
set_option maxHeartbeats 4000000 in
theorem rectOf : SpOK Tryd.prog 45 SOf := fun (r : Rct) _ => by
  have hC : COK Tryd.prog (cfg [(62, SBytes)]) := Ty.ty.cfg ⟨hexBytes, trivial⟩
  have hlo : lo r = bytesC r.n r.lo := rfl
  have hhi : hi r = bytesC r.n r.hi := rfl
  have hno : okR r = false → loK r = [] ∧ hiK r = [] := fun h => ⟨if_neg (by rw [h]; decide), if_neg (by rw [h]; decide)⟩
  have hbad : (lo r).length = 0 ∨ (hi r).length = 0 → okR r = false := fun h => decide_eq_false (by omega)
  ((refine Fn.ofF hC Tryd.func45 Tryd.ntmps45 rfl rfl rfl ?_); (repeat' first | (with_reducible exact trivial) | (with_reducible rfl) | (refine And.intro ?_ ?_) | (refine Need.mk ?_) | exact True.intro | (first | (refine ⟨_, Told.refl _, ?_, ?_⟩) | (refine ⟨⟨_, _⟩, Told.refl _, ?_, ?_⟩) | (refine ⟨⟨_, _, _⟩, Told.refl _, ?_, ?_⟩) | (refine ⟨⟨_, _, _, _⟩, Told.refl _, ?_, ?_⟩) | (refine ⟨⟨_, _, _, _, _⟩, Told.refl _, ?_, ?_⟩) | (refine ⟨(), Told.refl _, ?_, ?_⟩)) | (with_reducible intro _) | (refine fun (_ : Bool) => ?_)))
  any_goals
    have hb : okR r = false := hbad (by
      rw [hlo, hhi]
      ((try dsimp only at *); (try simp only [decide_eq_true_eq, decide_eq_false_iff_not, beq_iff_eq, bne_iff_ne, beq_eq_false_iff_ne, bne_eq_false_iff_eq, ne_eq, Decidable.not_not, ge_iff_le, gt_iff_lt, Bool.not_eq_true', Bool.not_eq_false', Int.not_lt, Int.not_le, Nat.not_lt, Nat.not_le] at *))
      omega)
    first
      | (rw [(hno hb).1]; rfl)
      | (rw [(hno hb).2]; rfl)
      | exact hb.symm
  have h1 : 1 ≤ (lo r).length := by rw [hlo]; ((try dsimp only at *); (try simp only [decide_eq_true_eq, decide_eq_false_iff_not, beq_iff_eq, bne_iff_ne, beq_eq_false_iff_ne, bne_eq_false_iff_eq, ne_eq, Decidable.not_not, ge_iff_le, gt_iff_lt, Bool.not_eq_true', Bool.not_eq_false', Int.not_lt, Int.not_le, Nat.not_lt, Nat.not_le] at *)); omega
  have h2 : 1 ≤ (hi r).length := by rw [hhi]; ((try dsimp only at *); (try simp only [decide_eq_true_eq, decide_eq_false_iff_not, beq_iff_eq, bne_iff_ne, beq_eq_false_iff_ne, bne_eq_false_iff_eq, ne_eq, Decidable.not_not, ge_iff_le, gt_iff_lt, Bool.not_eq_true', Bool.not_eq_false', Int.not_lt, Int.not_le, Nat.not_lt, Nat.not_le] at *)); omega
  have hl := lo_len r
  obtain ⟨hle, hln⟩ := len_eq r h1 h2
  rw [← hlo, ← hhi]
  have h8 := bytesC_8 r.n r.lo
  have g8 := bytesC_8 r.n r.hi
  rw [← hlo] at h8
  rw [← hhi] at g8
  refine AW.loop (I := fun k : Nat => ⟨50, [(2, .ptr 1 0), (4, .ptr 2 0), (32, .int .i64 (lo r).length), (33, .int .i64 k)], [.dead, .box 102 [.nil, .nil], .box 102 [a8 (lo r), a8 (hi r)]]⟩) (fun k => k ≤ (lo r).length ∧ ∀ j, j < k → (lo r).getD j default ≤ (hi r).getD j default) (fun k => (lo r).length - k) 0 ⟨Nat.zero_le _, fun j hj => by omega⟩ ?_ ?_
  · (repeat' first | (with_reducible exact trivial) | (with_reducible rfl) | (refine And.intro ?_ ?_) | (refine Need.mk ?_) | exact True.intro | (first | (refine ⟨_, Told.refl _, ?_, ?_⟩) | (refine ⟨⟨_, _⟩, Told.refl _, ?_, ?_⟩) | (refine ⟨⟨_, _, _⟩, Told.refl _, ?_, ?_⟩) | (refine ⟨⟨_, _, _, _⟩, Told.refl _, ?_, ?_⟩) | (refine ⟨⟨_, _, _, _, _⟩, Told.refl _, ?_, ?_⟩) | (refine ⟨(), Told.refl _, ?_, ?_⟩)) | (with_reducible intro _) | (refine fun (_ : Bool) => ?_))
    all_goals first | rfl
  · intro k ⟨hk, hok⟩
    rcases Nat.lt_or_ge k (lo r).length with hlt | hge
    · have hd : decide ((k : Int) < ((lo r).length : Int)) = true := decide_eq_true (by omega)
      have hw := iw (n := (k : Int) + 1) (by omega) (by omega)
      ((refine AW.byF ‹_› ?_); (repeat' first | (with_reducible exact trivial) | (with_reducible rfl) | (refine And.intro ?_ ?_) | (refine Need.mk ?_) | exact True.intro | (first | (refine ⟨_, Told.refl _, ?_, ?_⟩) | (refine ⟨⟨_, _⟩, Told.refl _, ?_, ?_⟩) | (refine ⟨⟨_, _, _⟩, Told.refl _, ?_, ?_⟩) | (refine ⟨⟨_, _, _, _⟩, Told.refl _, ?_, ?_⟩) | (refine ⟨⟨_, _, _, _, _⟩, Told.refl _, ?_, ?_⟩) | (refine ⟨(), Told.refl _, ?_, ?_⟩)) | (with_reducible intro _) | (refine fun (_ : Bool) => ?_)))
      all_goals first | (exact absurd ‹decide ((k : Int) < ((lo r).length : Int)) = false› (by rw [hd]; decide)) | skip
      all_goals first
        | omega
        | (have q := of_decide_eq_true ‹decide ((lo r).getD (k : Int).toNat default > (hi r).getD (k : Int).toNat default) = true›
           rw [Int.toNat_natCast] at q
           have hb : okR r = false := decide_eq_false (fun h => by have := h.2.2 k hlt; omega)
           first
             | (rw [(hno hb).1]; rfl)
             | (rw [(hno hb).2]; rfl)
             | exact hb.symm)
        | skip
      have q := of_decide_eq_false ‹decide ((lo r).getD (k : Int).toNat default > (hi r).getD (k : Int).toNat default) = false›
      rw [Int.toNat_natCast] at q
      refine Exists.intro (k + 1) (And.intro ?_ (And.intro ?_ ?_))
      · refine ⟨by omega, fun j hj => ?_⟩
        by_cases e : j = k
        · rw [e]; omega
        · exact hok j (by omega)
      · omega
      · (repeat' first | (with_reducible exact trivial) | (with_reducible rfl) | (refine And.intro ?_ ?_) | (refine Need.mk ?_) | exact True.intro | (first | (refine ⟨_, Told.refl _, ?_, ?_⟩) | (refine ⟨⟨_, _⟩, Told.refl _, ?_, ?_⟩) | (refine ⟨⟨_, _, _⟩, Told.refl _, ?_, ?_⟩) | (refine ⟨⟨_, _, _, _⟩, Told.refl _, ?_, ?_⟩) | (refine ⟨⟨_, _, _, _, _⟩, Told.refl _, ?_, ?_⟩) | (refine ⟨(), Told.refl _, ?_, ?_⟩)) | (with_reducible intro _) | (refine fun (_ : Bool) => ?_))
        all_goals first | rfl | (rw [hw]; omega)
    · obtain rfl : k = (lo r).length := by omega
      have hd : decide (((lo r).length : Int) < ((lo r).length : Int)) = false := decide_eq_false (by omega)
      have ho : okR r = true := decide_eq_true ⟨h1, h2, hok⟩
      have e1 : loK r = lo r := if_pos ho
      have e2 : hiK r = hi r := if_pos ho
      ((refine AW.byF ‹_› ?_); (repeat' first | (with_reducible exact trivial) | (with_reducible rfl) | (refine And.intro ?_ ?_) | (refine Need.mk ?_) | exact True.intro | (first | (refine ⟨_, Told.refl _, ?_, ?_⟩) | (refine ⟨⟨_, _⟩, Told.refl _, ?_, ?_⟩) | (refine ⟨⟨_, _, _⟩, Told.refl _, ?_, ?_⟩) | (refine ⟨⟨_, _, _, _⟩, Told.refl _, ?_, ?_⟩) | (refine ⟨⟨_, _, _, _, _⟩, Told.refl _, ?_, ?_⟩) | (refine ⟨(), Told.refl _, ?_, ?_⟩)) | (with_reducible intro _) | (refine fun (_ : Bool) => ?_)))
      all_goals first | (exact absurd ‹decide (((lo r).length : Int) < ((lo r).length : Int)) = true› (by rw [hd]; decide)) | skip
      all_goals first
        | (rw [e1]; done)
        | (rw [e2]; done)
        | exact ho.symm
def SRS : Sp := ⟨Rct, fun _ => True, fun r => [.agg (cR r)], fun r => .st (.sb (okR r))⟩
set_option maxHeartbeats 4000000 in
theorem rectSane : SpOK Tryd.prog 25 SRS := fun (r : Rct) _ => by
  have hC : COK Tryd.prog (cfg [(45, SOf)]) := Ty.ty.cfg ⟨rectOf, trivial⟩
  ((refine Fn.ofF hC Tryd.func25 Tryd.ntmps25 rfl rfl rfl ?_); (repeat' first | (with_reducible exact trivial) | (with_reducible rfl) | (refine And.intro ?_ ?_) | (refine Need.mk ?_) | exact True.intro | (first | (refine ⟨_, Told.refl _, ?_, ?_⟩) | (refine ⟨⟨_, _⟩, Told.refl _, ?_, ?_⟩) | (refine ⟨⟨_, _, _⟩, Told.refl _, ?_, ?_⟩) | (refine ⟨⟨_, _, _, _⟩, Told.refl _, ?_, ?_⟩) | (refine ⟨⟨_, _, _, _, _⟩, Told.refl _, ?_, ?_⟩) | (refine ⟨(), Told.refl _, ?_, ?_⟩)) | (with_reducible intro _) | (refine fun (_ : Bool) => ?_)))
/-- How many bytes fit. -/
def inK (r : Rct) (b : List Int) (k : Nat) : Bool := decide ((lo r).getD k default ≤ b.getD k default ∧ b.getD k default ≤ (hi r).getD k default)
def fitTo (r : Rct) (b : List Int) : Nat → Nat → Nat
  | 0, k => k
  | m + 1, k => if inK r b k = true then fitTo r b m (k + 1) else k
def fits (r : Rct) (b : List Int) : Nat := if okR r = true then fitTo r b (min b.length r.n.toNat) 0 else 0
theorem fitTo_step {r : Rct} {b : List Int} : ∀ (k m : Nat), k ≤ m → (∀ j, j < k → inK r b j = true) → fitTo r b m 0 = fitTo r b (m - k) k
  | 0, m, _, _ => rfl
  | k + 1, m, hk, h => by
    rw [fitTo_step k m (by omega) (fun j hj => h j (by omega))]
    obtain ⟨d, hd⟩ : ∃ d, m - k = d + 1 := ⟨m - k - 1, by omega⟩
    rw [hd, fitTo, if_pos (h k (by omega)), show m - (k + 1) = d by omega]
theorem fitTo_stop {r : Rct} {b : List Int} {k m : Nat} (hk : k < m) (h : ∀ j, j < k → inK r b j = true) (hn : inK r b k = false) : fitTo r b m 0 = k := by
  rw [fitTo_step k m (by omega) h]
  obtain ⟨d, hd⟩ : ∃ d, m - k = d + 1 := ⟨m - k - 1, by omega⟩
  rw [hd, fitTo, if_neg (by rw [hn]; decide)]
theorem fitTo_all {r : Rct} {b : List Int} {m : Nat} (h : ∀ j, j < m → inK r b j = true) : fitTo r b m 0 = m := by
  rw [fitTo_step m m (Nat.le_refl _) h, Nat.sub_self]
  rfl
theorem ok_len {r : Rct} (h : okR r = true) : ((lo r).length : Int) = r.n ∧ ((hi r).length : Int) = r.n ∧ 1 ≤ r.n ∧ r.n ≤ 4 := by
  have h := of_decide_eq_true h
  have := len_eq r h.1 h.2.1
  have := lo_len r
  omega
def SFits : Sp := ⟨Rct × List Int, fun (r, b) => b.length < 4611686018427387904, fun (r, b) => [.agg (cR r), a8 b], fun (r, b) => .st (.int .i64 (fits r b))⟩
set_option maxHeartbeats 4000000 in
theorem rectFits : SpOK Tryd.prog 26 SFits := fun ⟨r, b⟩ hl => by
  have hC : COK Tryd.prog (cfg [(45, SOf)]) := Ty.ty.cfg ⟨rectOf, trivial⟩
  have hl : b.length < 4611686018427387904 := hl
  have hm : okR r = true → (if r.n < (b.length : Int) then r.n else (b.length : Int)) = ((min b.length r.n.toNat : Nat) : Int) := fun h => by
    have := ok_len h
    split <;> omega
  obtain ⟨M, hM⟩ : ∃ M, M = min b.length r.n.toNat := ⟨_, rfl⟩
  rw [← hM] at hm
  ((refine Fn.ofF hC Tryd.func26 Tryd.ntmps26 rfl rfl rfl ?_); (repeat' first | (with_reducible exact trivial) | (with_reducible rfl) | (refine And.intro ?_ ?_) | (refine Need.mk ?_) | exact True.intro | (first | (refine ⟨_, Told.refl _, ?_, ?_⟩) | (refine ⟨⟨_, _⟩, Told.refl _, ?_, ?_⟩) | (refine ⟨⟨_, _, _⟩, Told.refl _, ?_, ?_⟩) | (refine ⟨⟨_, _, _, _⟩, Told.refl _, ?_, ?_⟩) | (refine ⟨⟨_, _, _, _, _⟩, Told.refl _, ?_, ?_⟩) | (refine ⟨(), Told.refl _, ?_, ?_⟩)) | (with_reducible intro _) | (refine fun (_ : Bool) => ?_)))
  · have hb : okR r = false := by simpa using ‹(!okR r) = true›
    have : fits r b = 0 := if_neg (by rw [hb]; decide)
    rw [this]
    rfl
  all_goals
    have ho : okR r = true := by simpa using ‹(!okR r) = false›
    have hr := ok_len ho
  · omega
  · omega
  · split <;> omega
  have hm := hm ho
  have e1 : loK r = lo r := if_pos ho
  have e2 : hiK r = hi r := if_pos ho
  have ef : fits r b = fitTo r b M 0 := by rw [hM]; exact if_pos ho
  have hMl : M ≤ b.length ∧ (M : Int) ≤ r.n := by omega
  rw [e1, e2]
  simp only [hm]
  refine AW.loop (I := fun k : Nat => ⟨52, [(1, a8 b), (2, .ptr 0 0), (5, .ptr 1 0), (22, .sl 1 M (fun i => els c8 b i)), (23, .int .i64 M), (24, .int .i64 k)], [.box 48 (cR r), .box 102 [a8 (lo r), a8 (hi r)]]⟩) (fun k => k ≤ M ∧ ∀ j, j < k → inK r b j = true) (fun k => M - k) 0 ⟨Nat.zero_le _, fun j hj => by omega⟩ ?_ ?_
  · (repeat' first | (with_reducible exact trivial) | (with_reducible rfl) | (refine And.intro ?_ ?_) | (refine Need.mk ?_) | exact True.intro | (first | (refine ⟨_, Told.refl _, ?_, ?_⟩) | (refine ⟨⟨_, _⟩, Told.refl _, ?_, ?_⟩) | (refine ⟨⟨_, _, _⟩, Told.refl _, ?_, ?_⟩) | (refine ⟨⟨_, _, _, _⟩, Told.refl _, ?_, ?_⟩) | (refine ⟨⟨_, _, _, _, _⟩, Told.refl _, ?_, ?_⟩) | (refine ⟨(), Told.refl _, ?_, ?_⟩)) | (with_reducible intro _) | (refine fun (_ : Bool) => ?_))
    all_goals first | rfl | omega | (rw [show Int.toNat 0 + _ = _ from Nat.zero_add _]; done)
  · intro k ⟨hk, hok⟩
    rcases Nat.lt_or_ge k M with hlt | hge
    · have hd : decide ((k : Int) < (M : Int)) = true := decide_eq_true (by omega)
      have hw := iw (n := (k : Int) + 1) (by omega) (by omega)
      ((refine AW.byF ‹_› ?_); (repeat' first | (with_reducible exact trivial) | (with_reducible rfl) | (refine And.intro ?_ ?_) | (refine Need.mk ?_) | exact True.intro | (first | (refine ⟨_, Told.refl _, ?_, ?_⟩) | (refine ⟨⟨_, _⟩, Told.refl _, ?_, ?_⟩) | (refine ⟨⟨_, _, _⟩, Told.refl _, ?_, ?_⟩) | (refine ⟨⟨_, _, _, _⟩, Told.refl _, ?_, ?_⟩) | (refine ⟨⟨_, _, _, _, _⟩, Told.refl _, ?_, ?_⟩) | (refine ⟨(), Told.refl _, ?_, ?_⟩)) | (with_reducible intro _) | (refine fun (_ : Bool) => ?_)))
      all_goals first | (exact absurd ‹decide ((k : Int) < (M : Int)) = false› (by rw [hd]; decide)) | skip
      all_goals first
        | omega
        | (have q := of_decide_eq_true ‹decide (b.getD (k : Int).toNat default < (lo r).getD (k : Int).toNat default) = true›
           rw [Int.toNat_natCast] at q
           rw [ef, fitTo_stop hlt hok (decide_eq_false (by omega))]
           done)
        | (have q := of_decide_eq_true ‹decide (b.getD (k : Int).toNat default > (hi r).getD (k : Int).toNat default) = true›
           rw [Int.toNat_natCast] at q
           rw [ef, fitTo_stop hlt hok (decide_eq_false (by omega))]
           done)
        | skip
      have q := of_decide_eq_false ‹decide (b.getD (k : Int).toNat default < (lo r).getD (k : Int).toNat default) = false›
      have q2 := of_decide_eq_false ‹decide (b.getD (k : Int).toNat default > (hi r).getD (k : Int).toNat default) = false›
      rw [Int.toNat_natCast] at q q2
      refine Exists.intro (k + 1) (And.intro ?_ (And.intro ?_ ?_))
      · refine ⟨by omega, fun j hj => ?_⟩
        by_cases e : j = k
        · rw [e]; exact decide_eq_true (by omega)
        · exact hok j (by omega)
      · omega
      · (repeat' first | (with_reducible exact trivial) | (with_reducible rfl) | (refine And.intro ?_ ?_) | (refine Need.mk ?_) | exact True.intro | (first | (refine ⟨_, Told.refl _, ?_, ?_⟩) | (refine ⟨⟨_, _⟩, Told.refl _, ?_, ?_⟩) | (refine ⟨⟨_, _, _⟩, Told.refl _, ?_, ?_⟩) | (refine ⟨⟨_, _, _, _⟩, Told.refl _, ?_, ?_⟩) | (refine ⟨⟨_, _, _, _, _⟩, Told.refl _, ?_, ?_⟩) | (refine ⟨(), Told.refl _, ?_, ?_⟩)) | (with_reducible intro _) | (refine fun (_ : Bool) => ?_))
        all_goals first | rfl | (rw [hw]; omega)
    · obtain rfl : k = M := by omega
      have hd : decide ((k : Int) < (k : Int)) = false := decide_eq_false (by omega)
      have ef2 := ef.trans (fitTo_all hok)
      ((refine AW.byF ‹_› ?_); (repeat' first | (with_reducible exact trivial) | (with_reducible rfl) | (refine And.intro ?_ ?_) | (refine Need.mk ?_) | exact True.intro | (first | (refine ⟨_, Told.refl _, ?_, ?_⟩) | (refine ⟨⟨_, _⟩, Told.refl _, ?_, ?_⟩) | (refine ⟨⟨_, _, _⟩, Told.refl _, ?_, ?_⟩) | (refine ⟨⟨_, _, _, _⟩, Told.refl _, ?_, ?_⟩) | (refine ⟨⟨_, _, _, _, _⟩, Told.refl _, ?_, ?_⟩) | (refine ⟨(), Told.refl _, ?_, ?_⟩)) | (with_reducible intro _) | (refine fun (_ : Bool) => ?_)))
      all_goals first | (exact absurd ‹decide ((k : Int) < (k : Int)) = true› (by rw [hd]; decide)) | skip
      all_goals (rw [hm, ef2])
/-- Is a code in one? -/
def inR (r : Rct) (n v : Int) : Bool := okR r && saneC n v && (n == r.n) && ((fits r (bytesC n v) : Int) == r.n)
def SIn : Sp := ⟨Rct × Int × Int, fun _ => True, fun (r, n, v) => [.agg (cR r), aCode n v], fun (r, n, v) => .st (.sb (inR r n v))⟩
set_option maxHeartbeats 4000000 in
theorem rectIn : SpOK Tryd.prog 44 SIn := fun ⟨r, n, v⟩ _ => by
  have hC : COK Tryd.prog (cfg [(25, SRS), (59, SSane), (62, SBytes), (26, SFits)]) := Ty.ty.cfg ⟨rectSane, hexSane, hexBytes, rectFits, trivial⟩
  have hbl : (bytesC n v).length < 4611686018427387904 := by
    rw [bytesC_len]
    split
    · rename_i h
      have := (saneC_iff n v).1 h
      omega
    · omega
  have hi : inR r n v = (okR r && saneC n v && (n == r.n) && ((fits r (bytesC n v) : Int) == r.n)) := rfl
  ((refine Fn.ofF hC Tryd.func44 Tryd.ntmps44 rfl rfl rfl ?_); (repeat' first | (with_reducible exact trivial) | (with_reducible rfl) | (refine And.intro ?_ ?_) | (refine Need.mk ?_) | exact True.intro | (first | (refine ⟨_, Told.refl _, ?_, ?_⟩) | (refine ⟨⟨_, _⟩, Told.refl _, ?_, ?_⟩) | (refine ⟨⟨_, _, _⟩, Told.refl _, ?_, ?_⟩) | (refine ⟨⟨_, _, _, _⟩, Told.refl _, ?_, ?_⟩) | (refine ⟨⟨_, _, _, _, _⟩, Told.refl _, ?_, ?_⟩) | (refine ⟨(), Told.refl _, ?_, ?_⟩)) | (with_reducible intro _) | (refine fun (_ : Bool) => ?_)))
  all_goals first
    | exact hbl
    | (rw [hi]; simp_all; done)
   
end Go.Abs.Hx
