/- LookIs by the engine (merged). -/
import Derived.Test.YtjoplgehefncbaaGreatAHx
import Derived.Test.YtjoplgehefncbaaGreatADestR
import Derived.Test.YtjoplgehefncbaaGreatAMatch
import Derived.Test.YtjoplgehefncbaaGreatASpanB
import Derived.Test.YtjoplgehefncbaaGreatADestOrder
import Derived.Test.YtjoplgehefncbaaGreatALook
import Derived.Test.YtjoplgehefncbaaGreatATxt
import Derived.Test.YtjoplgehefncbaaGreatATblOpen
import Derived.Test.YtjoplgehefncbaaGreatAHxOpen
set_option linter.all false
set_option maxRecDepth 100000
namespace Go.Abs.Hx
open Go.RowKit Go.Proofs Go.Abs.Tab Go.Abs.Coll
set_option maxHeartbeats 4000000 in
theorem rval : SpOK Tryz.prog 56 SVal := fun (b : List Int) ⟨hl, h8⟩ => by
  have hC := base
  have hl : b.length < 4611686018427387904 := hl
  have hrng := valI_rng h8
  ((refine Fn.ofF hC Tryz.func56 Tryz.ntmps56 rfl rfl rfl ?_); (repeat' first | (with_reducible exact trivial) | (with_reducible rfl) | (refine And.intro ?_ ?_) | (refine Need.mk ?_) | exact True.intro | (first | (refine ⟨_, Told.refl _, ?_, ?_⟩) | (refine ⟨⟨_, _⟩, Told.refl _, ?_, ?_⟩) | (refine ⟨⟨_, _, _⟩, Told.refl _, ?_, ?_⟩) | (refine ⟨⟨_, _, _, _⟩, Told.refl _, ?_, ?_⟩) | (refine ⟨⟨_, _, _, _, _⟩, Told.refl _, ?_, ?_⟩) | (refine ⟨(), Told.refl _, ?_, ?_⟩)) | (with_reducible intro _) | (refine fun (_ : Bool) => ?_)))
  any_goals
    have h1 : b.length < 1 ∨ 4 < b.length := by ((try dsimp only at *); (try simp only [decide_eq_true_eq, decide_eq_false_iff_not, beq_iff_eq, bne_iff_ne, beq_eq_false_iff_ne, bne_eq_false_iff_eq, ne_eq, Decidable.not_not, ge_iff_le, gt_iff_lt, Bool.not_eq_true', Bool.not_eq_false', Int.not_lt, Int.not_le, Nat.not_lt, Nat.not_le] at *)); omega
    have hv : valOk b = false := decide_eq_false (by omega)
    first
      | (unfold valN; rw [hv]; rfl)
      | (unfold valV; rw [hv]; rfl)
      | (rw [hv]; done)
  have hlen : 1 ≤ b.length ∧ b.length ≤ 4 := by ((try dsimp only at *); (try simp only [decide_eq_true_eq, decide_eq_false_iff_not, beq_iff_eq, bne_iff_ne, beq_eq_false_iff_ne, bne_eq_false_iff_eq, ne_eq, Decidable.not_not, ge_iff_le, gt_iff_lt, Bool.not_eq_true', Bool.not_eq_false', Int.not_lt, Int.not_le, Nat.not_lt, Nat.not_le] at *)); omega
  have hv : valOk b = true := decide_eq_true hlen
  have e1 : valN b = b.length := if_pos hv
  have e2 : valV b = valI b := if_pos hv
  refine AW.loop (I := fun k : Nat => ⟨33, [(0, a8 b), (2, .ptr 0 0), (4, .int .i64 (valI (b.take k))), (5, .int .i64 k)], [.box 28 [.int .i64 0, .int .i64 0]]⟩) (fun k => k ≤ b.length) (fun k => b.length - k) 0 (Nat.zero_le _) ?_ ?_
  · (repeat' first | (with_reducible exact trivial) | (with_reducible rfl) | (refine And.intro ?_ ?_) | (refine Need.mk ?_) | exact True.intro | (first | (refine ⟨_, Told.refl _, ?_, ?_⟩) | (refine ⟨⟨_, _⟩, Told.refl _, ?_, ?_⟩) | (refine ⟨⟨_, _, _⟩, Told.refl _, ?_, ?_⟩) | (refine ⟨⟨_, _, _, _⟩, Told.refl _, ?_, ?_⟩) | (refine ⟨⟨_, _, _, _, _⟩, Told.refl _, ?_, ?_⟩) | (refine ⟨(), Told.refl _, ?_, ?_⟩)) | (with_reducible intro _) | (refine fun (_ : Bool) => ?_))
    all_goals rfl
  · intro k hk
    rcases Nat.lt_or_ge k b.length with hlt | hge
    · have hd : decide ((k : Int) < (b.length : Int)) = true := decide_eq_true (by omega)
      have hw := iw (n := (k : Int) + 1) (by omega) (by omega)
      have hg := h8.get k
      have hr := hrng k
      have hr2 : valI (b.take k) < 16777216 := by
        have hc : k = 0 ∨ k = 1 ∨ k = 2 ∨ k = 3 := by omega
        have h2 : (256 : Int) ^ k ≤ 16777216 := by rcases hc with rfl | rfl | rfl | rfl <;> decide
        omega
      have hnx := valI_next hlt
      ((refine AW.byF ‹_› ?_); (repeat' first | (with_reducible exact trivial) | (with_reducible rfl) | (refine And.intro ?_ ?_) | (refine Need.mk ?_) | exact True.intro | (first | (refine ⟨_, Told.refl _, ?_, ?_⟩) | (refine ⟨⟨_, _⟩, Told.refl _, ?_, ?_⟩) | (refine ⟨⟨_, _, _⟩, Told.refl _, ?_, ?_⟩) | (refine ⟨⟨_, _, _, _⟩, Told.refl _, ?_, ?_⟩) | (refine ⟨⟨_, _, _, _, _⟩, Told.refl _, ?_, ?_⟩) | (refine ⟨(), Told.refl _, ?_, ?_⟩)) | (with_reducible intro _) | (refine fun (_ : Bool) => ?_)))
      all_goals first | (exact absurd ‹decide ((k : Int) < (b.length : Int)) = false› (by rw [hd]; decide)) | skip
      any_goals (first | (refine Exists.intro ((k + 1 : Nat)) (And.intro ?_ (And.intro ?_ ?_)); all_goals (repeat' first | (with_reducible exact trivial) | (with_reducible rfl) | (refine And.intro ?_ ?_) | (refine Need.mk ?_) | exact True.intro | (first | (refine ⟨_, Told.refl _, ?_, ?_⟩) | (refine ⟨⟨_, _⟩, Told.refl _, ?_, ?_⟩) | (refine ⟨⟨_, _, _⟩, Told.refl _, ?_, ?_⟩) | (refine ⟨⟨_, _, _, _⟩, Told.refl _, ?_, ?_⟩) | (refine ⟨⟨_, _, _, _, _⟩, Told.refl _, ?_, ?_⟩) | (refine ⟨(), Told.refl _, ?_, ?_⟩)) | (with_reducible intro _) | (refine fun (_ : Bool) => ?_))) | fail)
      all_goals try simp only [Int.toNat_natCast] at *
      all_goals first
        | omega
        | (rw [hw]; omega)
        | (rw [hnx, iw (n := b.getD k default) (by omega) (by omega), iw (n := valI (b.take k) * 256) (by omega) (by omega), iw (by omega) (by omega)]; done)
    · obtain rfl : k = b.length := by omega
      have hd : decide ((b.length : Int) < (b.length : Int)) = false := decide_eq_false (by omega)
      ((refine AW.byF ‹_› ?_); (repeat' first | (with_reducible exact trivial) | (with_reducible rfl) | (refine And.intro ?_ ?_) | (refine Need.mk ?_) | exact True.intro | (first | (refine ⟨_, Told.refl _, ?_, ?_⟩) | (refine ⟨⟨_, _⟩, Told.refl _, ?_, ?_⟩) | (refine ⟨⟨_, _, _⟩, Told.refl _, ?_, ?_⟩) | (refine ⟨⟨_, _, _, _⟩, Told.refl _, ?_, ?_⟩) | (refine ⟨⟨_, _, _, _, _⟩, Told.refl _, ?_, ?_⟩) | (refine ⟨(), Told.refl _, ?_, ?_⟩)) | (with_reducible intro _) | (refine fun (_ : Bool) => ?_)))
      all_goals first | (exact absurd ‹decide ((b.length : Int) < (b.length : Int)) = true› (by rw [hd]; decide)) | skip
      all_goals first
        | exact e1.symm
        | (rw [e2, List.take_length]; done)
        | exact hv.symm
/-- The bytes behind a place; 0 ahead of it. -/
def bytesD (n v : Int) (m : Nat) : List Int := (List.range n.toNat).map (fun i => if i < m then 0 else byteAt v (n.toNat - 1 - i))
theorem bytesD_len (n v : Int) (m : Nat) : (bytesD n v m).length = n.toNat := by simp [bytesD]
theorem bytesD_all (n v : Int) : bytesD n v n.toNat = List.replicate n.toNat 0 := by
  refine List.ext_getElem (by simp [bytesD]) fun i h1 h2 => ?_
  rw [bytesD_len] at h1
  simp only [bytesD, List.getElem_map, List.getElem_range, if_pos h1, List.getElem_replicate]
theorem bytesD_set (n v : Int) (m : Nat) (hm : m < n.toNat) : (bytesD n v (m + 1)).set m (byteAt v (n.toNat - 1 - m)) = bytesD n v m := by
  refine List.ext_getElem (by simp [bytesD]) fun i h1 h2 => ?_
  rw [bytesD_len] at h2
  rw [List.getElem_set]
  simp only [bytesD, List.getElem_map, List.getElem_range]
  by_cases e : m = i
  · subst e
    simp
  · rw [if_neg e]
    by_cases q : i < m
    · rw [if_pos q, if_pos (by omega)]
    · rw [if_neg q, if_neg (by omega)]
/-- What is left of a value, so many bytes taken. -/
def rest (v : Int) (k : Nat) : Int := v / 256 ^ k
theorem rest_next (v : Int) (k : Nat) (h : 0 ≤ v) : rest v (k + 1) = (rest v k) / 256 := by
  unfold rest
  rw [Int.pow_succ, Int.ediv_ediv_of_nonneg (Int.pow_nonneg (by decide))]
theorem rest_rng {v : Int} (h : 0 ≤ v) (h2 : v < 4294967296) (k : Nat) : 0 ≤ rest v k ∧ rest v k < 4294967296 := by
  unfold rest
  exact ⟨Int.ediv_nonneg h (Int.pow_nonneg (by decide)), Int.lt_of_le_of_lt (Int.ediv_le_self _ h) h2⟩
set_option maxHeartbeats 4000000 in
theorem rbytes : SpOK Tryz.prog 147 SBytes := fun ⟨n, v⟩ _ => by
  have hC : COK Tryz.prog (cfg [(115, SSane)]) := Ty.ty.cfg ⟨refSane, trivial⟩
  ((refine Fn.ofF hC Tryz.func147 Tryz.ntmps147 rfl rfl rfl ?_); (repeat' first | (with_reducible exact trivial) | (with_reducible rfl) | (refine And.intro ?_ ?_) | (refine Need.mk ?_) | exact True.intro | (first | (refine ⟨_, Told.refl _, ?_, ?_⟩) | (refine ⟨⟨_, _⟩, Told.refl _, ?_, ?_⟩) | (refine ⟨⟨_, _, _⟩, Told.refl _, ?_, ?_⟩) | (refine ⟨⟨_, _, _, _⟩, Told.refl _, ?_, ?_⟩) | (refine ⟨⟨_, _, _, _, _⟩, Told.refl _, ?_, ?_⟩) | (refine ⟨(), Told.refl _, ?_, ?_⟩)) | (with_reducible intro _) | (refine fun (_ : Bool) => ?_)))
  · have hs : ¬ saneC n v = true := by simpa using ‹(!saneC n v) = true›
    rw [bytesC_len, if_neg hs]
  all_goals
    have hs : saneC n v = true := by simpa using ‹(!saneC n v) = false›
    have hn := (saneC_iff n v).1 hs
    have hn : (1 ≤ n ∧ n ≤ 4) ∧ 0 ≤ v ∧ v < 4294967296 := by omega
  · omega
  · omega
  · show (1 : Int) * n ≤ 281474976710656
    omega
  have e1 : bytesC n v = bytesD n v 0 := by
    unfold bytesC bytesD
    rw [if_pos hs]
    simp
  have hw1 := iw (n := n - 1) (by omega) (by omega)
  refine AW.loop (I := fun k : Nat => ⟨30, [(1, .ptr 0 0), (3, .own 1), (4, .int .i64 (rest v k)), (5, .int .i64 (n - 1 - k))], [.box 28 [.int .i64 n, .int .i64 v], .row 5 1 n.toNat (els c8 (bytesD n v (n.toNat - k)))]⟩) (fun k => (k : Int) ≤ n) (fun k => n.toNat - k) 0 (by show ((0 : Nat) : Int) ≤ n; omega) ?_ ?_
  · (repeat' first | (with_reducible exact trivial) | (with_reducible rfl) | (refine And.intro ?_ ?_) | (refine Need.mk ?_) | exact True.intro | (first | (refine ⟨_, Told.refl _, ?_, ?_⟩) | (refine ⟨⟨_, _⟩, Told.refl _, ?_, ?_⟩) | (refine ⟨⟨_, _, _⟩, Told.refl _, ?_, ?_⟩) | (refine ⟨⟨_, _, _, _⟩, Told.refl _, ?_, ?_⟩) | (refine ⟨⟨_, _, _, _, _⟩, Told.refl _, ?_, ?_⟩) | (refine ⟨(), Told.refl _, ?_, ?_⟩)) | (with_reducible intro _) | (refine fun (_ : Bool) => ?_))
    all_goals first
      | rfl
      | (rw [hw1]; show n - 1 = n - 1 - ((0 : Nat) : Int); omega)
      | (show v = v / 256 ^ 0; simp; done)
      | (rename_i i hi
         have e : bytesD n v (n.toNat - 0) = List.replicate n.toNat 0 := bytesD_all n v
         have e2 : (bytesD n v (n.toNat - 0)).getD i default = 0 := by
           rw [e]
           simp [List.getD, hi]
         show _ = (bytesD n v (n.toNat - 0)).getD i default
         rw [e2])
  · intro k hk
    rcases Int.lt_or_le k n with hlt | hge
    · have hd : decide (n - 1 - (k : Int) ≥ 0) = true := decide_eq_true (by omega)
      have hw := iw (n := n - 1 - (k : Int) - 1) (by omega) (by omega)
      have hk2 : n - 1 - (k : Int) = ((n.toNat - 1 - k : Nat) : Int) := by omega
      have hrr := rest_rng hn.2.1 hn.2.2 k
      have hrn := rest_next v k hn.2.1
      have hq : IntKind.i64.wrap ((rest v k).tdiv 256) = rest v (k + 1) := by
        rw [Int.tdiv_eq_ediv_of_nonneg hrr.1, iw (by omega) (by omega), hrn]
      have hm : IntKind.u8.wrap ((rest v k).tmod 256) = byteAt v k := by
        rw [Int.tmod_eq_emod_of_nonneg hrr.1, IntKind.wrap_u8]
        show rest v k % 256 % 256 = rest v k % 256
        omega
      have hset := bytesD_set n v (n.toNat - 1 - k) (by omega)
      rw [show n.toNat - 1 - k + 1 = n.toNat - k by omega, show n.toNat - 1 - (n.toNat - 1 - k) = k by omega] at hset
      have hix : (n - 1 - (k : Int)).toNat = n.toNat - 1 - k := by omega
      ((refine AW.byF ‹_› ?_); (repeat' first | (with_reducible exact trivial) | (with_reducible rfl) | (refine And.intro ?_ ?_) | (refine Need.mk ?_) | exact True.intro | (first | (refine ⟨_, Told.refl _, ?_, ?_⟩) | (refine ⟨⟨_, _⟩, Told.refl _, ?_, ?_⟩) | (refine ⟨⟨_, _, _⟩, Told.refl _, ?_, ?_⟩) | (refine ⟨⟨_, _, _, _⟩, Told.refl _, ?_, ?_⟩) | (refine ⟨⟨_, _, _, _, _⟩, Told.refl _, ?_, ?_⟩) | (refine ⟨(), Told.refl _, ?_, ?_⟩)) | (with_reducible intro _) | (refine fun (_ : Bool) => ?_)))
      all_goals first | (exact absurd ‹decide (n - 1 - (k : Int) ≥ 0) = false› (by rw [hd]; decide)) | skip
      any_goals (first | (refine Exists.intro ((k + 1 : Nat)) (And.intro ?_ (And.intro ?_ ?_)); all_goals (repeat' first | (with_reducible exact trivial) | (with_reducible rfl) | (refine And.intro ?_ ?_) | (refine Need.mk ?_) | exact True.intro | (first | (refine ⟨_, Told.refl _, ?_, ?_⟩) | (refine ⟨⟨_, _⟩, Told.refl _, ?_, ?_⟩) | (refine ⟨⟨_, _, _⟩, Told.refl _, ?_, ?_⟩) | (refine ⟨⟨_, _, _, _⟩, Told.refl _, ?_, ?_⟩) | (refine ⟨⟨_, _, _, _, _⟩, Told.refl _, ?_, ?_⟩) | (refine ⟨(), Told.refl _, ?_, ?_⟩)) | (with_reducible intro _) | (refine fun (_ : Bool) => ?_))) | fail)
      all_goals first
        | omega
        | (show (256 : Int) ≠ 0; decide)
        | exact hq
        | (rw [hw]; omega)
        | (show _ = n - 1 - ((k + 1 : Nat) : Int); rw [hw]; omega)
        | (rename_i i hi
           rw [hm, hix]
           have hp := put_set (f := c8) (l := bytesD n v (n.toNat - k)) (k := n.toNat - 1 - k) (x := byteAt v k) (by rw [bytesD_len]; omega)
           rw [hset, show n.toNat - 1 - k = n.toNat - (k + 1) by omega] at hp
           refine els_of c8_emb (n := 0) (fun j hj => ?_) i (by rw [bytesD_len]; exact hi)
           rw [show n.toNat - 1 - k = n.toNat - (k + 1) by omega]
           exact hp j hj)
    · obtain rfl : n = (k : Int) := by omega
      have hd : decide ((k : Int) - 1 - (k : Int) ≥ 0) = false := decide_eq_false (by omega)
      ((refine AW.byF ‹_› ?_); (repeat' first | (with_reducible exact trivial) | (with_reducible rfl) | (refine And.intro ?_ ?_) | (refine Need.mk ?_) | exact True.intro | (first | (refine ⟨_, Told.refl _, ?_, ?_⟩) | (refine ⟨⟨_, _⟩, Told.refl _, ?_, ?_⟩) | (refine ⟨⟨_, _, _⟩, Told.refl _, ?_, ?_⟩) | (refine ⟨⟨_, _, _, _⟩, Told.refl _, ?_, ?_⟩) | (refine ⟨⟨_, _, _, _, _⟩, Told.refl _, ?_, ?_⟩) | (refine ⟨(), Told.refl _, ?_, ?_⟩)) | (with_reducible intro _) | (refine fun (_ : Bool) => ?_)))
      all_goals first | (exact absurd ‹decide ((k : Int) - 1 - (k : Int) ≥ 0) = true› (by rw [hd]; decide)) | skip
      all_goals first
        | (rw [e1, bytesD_len]; done)
        | (rw [e1, show ((k : Int).toNat - k) = 0 by omega]; done)
end Go.Abs.Hx
set_option maxRecDepth 100000
namespace Go.Abs.Hx
open Go.RowKit Go.Proofs Go.Abs.Tab Go.Abs.Coll
def SLo : Sp := ⟨Rct, fun _ => True, fun r => [.agg (cR r)], fun r => .row 5 1 (lo r).length (els c8 (lo r))⟩
def SHi : Sp := ⟨Rct, fun _ => True, fun r => [.agg (cR r)], fun r => .row 5 1 (hi r).length (els c8 (hi r))⟩
theorem rlows : SpOK Tryz.prog 131 SLo := fun (r : Rct) _ => by
  have hC : COK Tryz.prog (cfg [(147, SBytes)]) := Ty.ty.cfg ⟨rbytes, trivial⟩
  ((refine Fn.ofF hC Tryz.func131 Tryz.ntmps131 rfl rfl rfl ?_); (repeat' first | (with_reducible exact trivial) | (with_reducible rfl) | (refine And.intro ?_ ?_) | (refine Need.mk ?_) | exact True.intro | (first | (refine ⟨_, Told.refl _, ?_, ?_⟩) | (refine ⟨⟨_, _⟩, Told.refl _, ?_, ?_⟩) | (refine ⟨⟨_, _, _⟩, Told.refl _, ?_, ?_⟩) | (refine ⟨⟨_, _, _, _⟩, Told.refl _, ?_, ?_⟩) | (refine ⟨⟨_, _, _, _, _⟩, Told.refl _, ?_, ?_⟩) | (refine ⟨(), Told.refl _, ?_, ?_⟩)) | (with_reducible intro _) | (refine fun (_ : Bool) => ?_)))
  all_goals rfl
theorem rhighs : SpOK Tryz.prog 132 SHi := fun (r : Rct) _ => by
  have hC : COK Tryz.prog (cfg [(147, SBytes)]) := Ty.ty.cfg ⟨rbytes, trivial⟩
  ((refine Fn.ofF hC Tryz.func132 Tryz.ntmps132 rfl rfl rfl ?_); (repeat' first | (with_reducible exact trivial) | (with_reducible rfl) | (refine And.intro ?_ ?_) | (refine Need.mk ?_) | exact True.intro | (first | (refine ⟨_, Told.refl _, ?_, ?_⟩) | (refine ⟨⟨_, _⟩, Told.refl _, ?_, ?_⟩) | (refine ⟨⟨_, _, _⟩, Told.refl _, ?_, ?_⟩) | (refine ⟨⟨_, _, _, _⟩, Told.refl _, ?_, ?_⟩) | (refine ⟨⟨_, _, _, _, _⟩, Told.refl _, ?_, ?_⟩) | (refine ⟨(), Told.refl _, ?_, ?_⟩)) | (with_reducible intro _) | (refine fun (_ : Bool) => ?_)))
  all_goals rfl
set_option maxHeartbeats 4000000 in
theorem rsaneR : SpOK Tryz.prog 98 SRS := fun (r : Rct) _ => by
  have hC : COK Tryz.prog (cfg [(131, SLo), (132, SHi)]) := Ty.ty.cfg ⟨rlows, rhighs, trivial⟩
  have hl := lo_len r
  ((refine Fn.ofF hC Tryz.func98 Tryz.ntmps98 rfl rfl rfl ?_); (repeat' first | (with_reducible exact trivial) | (with_reducible rfl) | (refine And.intro ?_ ?_) | (refine Need.mk ?_) | exact True.intro | (first | (refine ⟨_, Told.refl _, ?_, ?_⟩) | (refine ⟨⟨_, _⟩, Told.refl _, ?_, ?_⟩) | (refine ⟨⟨_, _, _⟩, Told.refl _, ?_, ?_⟩) | (refine ⟨⟨_, _, _, _⟩, Told.refl _, ?_, ?_⟩) | (refine ⟨⟨_, _, _, _, _⟩, Told.refl _, ?_, ?_⟩) | (refine ⟨(), Told.refl _, ?_, ?_⟩)) | (with_reducible intro _) | (refine fun (_ : Bool) => ?_)))
  any_goals
    have hb : (lo r).length = 0 ∨ (hi r).length = 0 := by ((try dsimp only at *); (try simp only [decide_eq_true_eq, decide_eq_false_iff_not, beq_iff_eq, bne_iff_ne, beq_eq_false_iff_ne, bne_eq_false_iff_eq, ne_eq, Decidable.not_not, ge_iff_le, gt_iff_lt, Bool.not_eq_true', Bool.not_eq_false', Int.not_lt, Int.not_le, Nat.not_lt, Nat.not_le] at *)); omega
    exact (decide_eq_false (by omega)).symm
  have h1 : 1 ≤ (lo r).length := by ((try dsimp only at *); (try simp only [decide_eq_true_eq, decide_eq_false_iff_not, beq_iff_eq, bne_iff_ne, beq_eq_false_iff_ne, bne_eq_false_iff_eq, ne_eq, Decidable.not_not, ge_iff_le, gt_iff_lt, Bool.not_eq_true', Bool.not_eq_false', Int.not_lt, Int.not_le, Nat.not_lt, Nat.not_le] at *)); omega
  have h2 : 1 ≤ (hi r).length := by ((try dsimp only at *); (try simp only [decide_eq_true_eq, decide_eq_false_iff_not, beq_iff_eq, bne_iff_ne, beq_eq_false_iff_ne, bne_eq_false_iff_eq, ne_eq, Decidable.not_not, ge_iff_le, gt_iff_lt, Bool.not_eq_true', Bool.not_eq_false', Int.not_lt, Int.not_le, Nat.not_lt, Nat.not_le] at *)); omega
  obtain ⟨hle, hln⟩ := len_eq r h1 h2
  refine AW.loop (I := fun k : Nat => ⟨33, [(1, .ptr 0 0), (3, .own 1), (4, .own 2), (5, .int .i64 k)], [.box 68 (cR r), .row 5 1 (lo r).length (els c8 (lo r)), .row 5 1 (hi r).length (els c8 (hi r))]⟩) (fun k => k ≤ (lo r).length ∧ ∀ j, j < k → (lo r).getD j default ≤ (hi r).getD j default) (fun k => (lo r).length - k) 0 ⟨Nat.zero_le _, fun j hj => by omega⟩ ?_ ?_
  · (repeat' first | (with_reducible exact trivial) | (with_reducible rfl) | (refine And.intro ?_ ?_) | (refine Need.mk ?_) | exact True.intro | (first | (refine ⟨_, Told.refl _, ?_, ?_⟩) | (refine ⟨⟨_, _⟩, Told.refl _, ?_, ?_⟩) | (refine ⟨⟨_, _, _⟩, Told.refl _, ?_, ?_⟩) | (refine ⟨⟨_, _, _, _⟩, Told.refl _, ?_, ?_⟩) | (refine ⟨⟨_, _, _, _, _⟩, Told.refl _, ?_, ?_⟩) | (refine ⟨(), Told.refl _, ?_, ?_⟩)) | (with_reducible intro _) | (refine fun (_ : Bool) => ?_))
    all_goals first | rfl
  · intro k ⟨hk, hok⟩
    rcases Nat.lt_or_ge k (lo r).length with hlt | hge
    · have hd : decide ((k : Int) < ((lo r).length : Int)) = true := decide_eq_true (by omega)
      have hw := iw (n := (k : Int) + 1) (by omega) (by omega)
      ((refine AW.byF ‹_› ?_); (repeat' first | (with_reducible exact trivial) | (with_reducible rfl) | (refine And.intro ?_ ?_) | (refine Need.mk ?_) | exact True.intro | (first | (refine ⟨_, Told.refl _, ?_, ?_⟩) | (refine ⟨⟨_, _⟩, Told.refl _, ?_, ?_⟩) | (refine ⟨⟨_, _, _⟩, Told.refl _, ?_, ?_⟩) | (refine ⟨⟨_, _, _, _⟩, Told.refl _, ?_, ?_⟩) | (refine ⟨⟨_, _, _, _, _⟩, Told.refl _, ?_, ?_⟩) | (refine ⟨(), Told.refl _, ?_, ?_⟩)) | (with_reducible intro _) | (refine fun (_ : Bool) => ?_)))
      all_goals first | (exact absurd ‹decide ((k : Int) < ((lo r).length : Int)) = false› (by rw [hd]; decide)) | skip
      any_goals (first | (refine Exists.intro ((k + 1 : Nat)) (And.intro ?_ (And.intro ?_ ?_)); all_goals (repeat' first | (with_reducible exact trivial) | (with_reducible rfl) | (refine And.intro ?_ ?_) | (refine Need.mk ?_) | exact True.intro | (first | (refine ⟨_, Told.refl _, ?_, ?_⟩) | (refine ⟨⟨_, _⟩, Told.refl _, ?_, ?_⟩) | (refine ⟨⟨_, _, _⟩, Told.refl _, ?_, ?_⟩) | (refine ⟨⟨_, _, _, _⟩, Told.refl _, ?_, ?_⟩) | (refine ⟨⟨_, _, _, _, _⟩, Told.refl _, ?_, ?_⟩) | (refine ⟨(), Told.refl _, ?_, ?_⟩)) | (with_reducible intro _) | (refine fun (_ : Bool) => ?_))) | fail)
      all_goals try simp only [Int.toNat_natCast] at *
      all_goals first
        | omega
        | (rw [hw]; rfl)
        | (have q := of_decide_eq_true ‹decide ((lo r).getD k default > (hi r).getD k default) = true›
           exact (decide_eq_false (fun h => by have := h.2.2 k hlt; omega)).symm)
        | (have q := of_decide_eq_false ‹decide ((lo r).getD k default > (hi r).getD k default) = false›
           rename_i j hj
           by_cases e : j = k
           · rw [e]; omega
           · exact hok j (by omega))
    · obtain rfl : k = (lo r).length := by omega
      have hd : decide (((lo r).length : Int) < ((lo r).length : Int)) = false := decide_eq_false (by omega)
      have ho : okR r = true := decide_eq_true ⟨h1, h2, hok⟩
      ((refine AW.byF ‹_› ?_); (repeat' first | (with_reducible exact trivial) | (with_reducible rfl) | (refine And.intro ?_ ?_) | (refine Need.mk ?_) | exact True.intro | (first | (refine ⟨_, Told.refl _, ?_, ?_⟩) | (refine ⟨⟨_, _⟩, Told.refl _, ?_, ?_⟩) | (refine ⟨⟨_, _, _⟩, Told.refl _, ?_, ?_⟩) | (refine ⟨⟨_, _, _, _⟩, Told.refl _, ?_, ?_⟩) | (refine ⟨⟨_, _, _, _, _⟩, Told.refl _, ?_, ?_⟩) | (refine ⟨(), Told.refl _, ?_, ?_⟩)) | (with_reducible intro _) | (refine fun (_ : Bool) => ?_)))
      all_goals first | (exact absurd ‹decide (((lo r).length : Int) < ((lo r).length : Int)) = true› (by rw [hd]; decide)) | skip
      all_goals exact ho.symm
set_option maxHeartbeats 8000000 in
theorem rfitsR : SpOK Tryz.prog 99 SFits := fun ⟨r, b⟩ hl => by
  have hC : COK Tryz.prog (cfg [(98, SRS), (131, SLo), (132, SHi)]) := Ty.ty.cfg ⟨rsaneR, rlows, rhighs, trivial⟩
  have hl : b.length < 4611686018427387904 := hl
  ((refine Fn.ofF hC Tryz.func99 Tryz.ntmps99 rfl rfl rfl ?_); (repeat' first | (with_reducible exact trivial) | (with_reducible rfl) | (refine And.intro ?_ ?_) | (refine Need.mk ?_) | exact True.intro | (first | (refine ⟨_, Told.refl _, ?_, ?_⟩) | (refine ⟨⟨_, _⟩, Told.refl _, ?_, ?_⟩) | (refine ⟨⟨_, _, _⟩, Told.refl _, ?_, ?_⟩) | (refine ⟨⟨_, _, _, _⟩, Told.refl _, ?_, ?_⟩) | (refine ⟨⟨_, _, _, _, _⟩, Told.refl _, ?_, ?_⟩) | (refine ⟨(), Told.refl _, ?_, ?_⟩)) | (with_reducible intro _) | (refine fun (_ : Bool) => ?_)))
  · have hb : okR r = false := by simpa using ‹(!okR r) = true›
    have : fits r b = 0 := if_neg (by rw [hb]; decide)
    rw [this]
    rfl
  have ho : okR r = true := by simpa using ‹(!okR r) = false›
  have hr := ok_len ho
  obtain ⟨M, hM⟩ : ∃ M, M = min b.length r.n.toNat := ⟨_, rfl⟩
  have ef : fits r b = fitTo r b M 0 := by rw [hM]; exact if_pos ho
  have hMl : M ≤ b.length ∧ (M : Int) ≤ r.n := by omega
  refine AW.loop (I := fun k : Nat => ⟨50, [(1, a8 b), (2, .ptr 0 0), (5, .own 1), (6, .own 2), (7, .int .i64 k)], [.box 68 (cR r), .row 5 1 (lo r).length (els c8 (lo r)), .row 5 1 (hi r).length (els c8 (hi r))]⟩) (fun k => k ≤ M ∧ ∀ j, j < k → inK r b j = true) (fun k => M - k) 0 ⟨Nat.zero_le _, fun j hj => by omega⟩ ?_ ?_
  · (repeat' first | (with_reducible exact trivial) | (with_reducible rfl) | (refine And.intro ?_ ?_) | (refine Need.mk ?_) | exact True.intro | (first | (refine ⟨_, Told.refl _, ?_, ?_⟩) | (refine ⟨⟨_, _⟩, Told.refl _, ?_, ?_⟩) | (refine ⟨⟨_, _, _⟩, Told.refl _, ?_, ?_⟩) | (refine ⟨⟨_, _, _, _⟩, Told.refl _, ?_, ?_⟩) | (refine ⟨⟨_, _, _, _, _⟩, Told.refl _, ?_, ?_⟩) | (refine ⟨(), Told.refl _, ?_, ?_⟩)) | (with_reducible intro _) | (refine fun (_ : Bool) => ?_))
    all_goals first | rfl
  · intro k ⟨hk, hok⟩
    rcases Nat.lt_or_ge k M with hlt | hge
    · have hd : decide ((k : Int) < (b.length : Int)) = true := decide_eq_true (by omega)
      have hd2 : decide ((k : Int) < r.n) = true := decide_eq_true (by omega)
      have hw := iw (n := (k : Int) + 1) (by omega) (by omega)
      ((refine AW.byF ‹_› ?_); (repeat' first | (with_reducible exact trivial) | (with_reducible rfl) | (refine And.intro ?_ ?_) | (refine Need.mk ?_) | exact True.intro | (first | (refine ⟨_, Told.refl _, ?_, ?_⟩) | (refine ⟨⟨_, _⟩, Told.refl _, ?_, ?_⟩) | (refine ⟨⟨_, _, _⟩, Told.refl _, ?_, ?_⟩) | (refine ⟨⟨_, _, _, _⟩, Told.refl _, ?_, ?_⟩) | (refine ⟨⟨_, _, _, _, _⟩, Told.refl _, ?_, ?_⟩) | (refine ⟨(), Told.refl _, ?_, ?_⟩)) | (with_reducible intro _) | (refine fun (_ : Bool) => ?_)))
      all_goals first | (exact absurd ‹decide ((k : Int) < (b.length : Int)) = false› (by rw [hd]; decide)) | (exact absurd ‹decide ((k : Int) < r.n) = false› (by rw [hd2]; decide)) | skip
      any_goals (first | (refine Exists.intro ((k + 1 : Nat)) (And.intro ?_ (And.intro ?_ ?_)); all_goals (repeat' first | (with_reducible exact trivial) | (with_reducible rfl) | (refine And.intro ?_ ?_) | (refine Need.mk ?_) | exact True.intro | (first | (refine ⟨_, Told.refl _, ?_, ?_⟩) | (refine ⟨⟨_, _⟩, Told.refl _, ?_, ?_⟩) | (refine ⟨⟨_, _, _⟩, Told.refl _, ?_, ?_⟩) | (refine ⟨⟨_, _, _, _⟩, Told.refl _, ?_, ?_⟩) | (refine ⟨⟨_, _, _, _, _⟩, Told.refl _, ?_, ?_⟩) | (refine ⟨(), Told.refl _, ?_, ?_⟩)) | (with_reducible intro _) | (refine fun (_ : Bool) => ?_))) | fail)
      all_goals try simp only [Int.toNat_natCast] at *
      all_goals first
        | omega
        | (rw [hw]; rfl)
        | (have q := of_decide_eq_false ‹decide (b.getD k default ≥ (lo r).getD k default) = false›
           rw [ef, fitTo_stop hlt hok (decide_eq_false (by omega))]
           done)
        | (have q := of_decide_eq_false ‹decide (b.getD k default ≤ (hi r).getD k default) = false›
           rw [ef, fitTo_stop hlt hok (decide_eq_false (by omega))]
           done)
        | (have q := of_decide_eq_true ‹decide (b.getD k default ≥ (lo r).getD k default) = true›
           have q2 := of_decide_eq_true ‹decide (b.getD k default ≤ (hi r).getD k default) = true›
           rename_i j hj
           by_cases e : j = k
           · rw [e]; exact decide_eq_true (by omega)
           · exact hok j (by omega))
    · obtain rfl : k = M := by omega
      have ef2 := ef.trans (fitTo_all hok)
      ((refine AW.byF ‹_› ?_); (repeat' first | (with_reducible exact trivial) | (with_reducible rfl) | (refine And.intro ?_ ?_) | (refine Need.mk ?_) | exact True.intro | (first | (refine ⟨_, Told.refl _, ?_, ?_⟩) | (refine ⟨⟨_, _⟩, Told.refl _, ?_, ?_⟩) | (refine ⟨⟨_, _, _⟩, Told.refl _, ?_, ?_⟩) | (refine ⟨⟨_, _, _, _⟩, Told.refl _, ?_, ?_⟩) | (refine ⟨⟨_, _, _, _, _⟩, Told.refl _, ?_, ?_⟩) | (refine ⟨(), Told.refl _, ?_, ?_⟩)) | (with_reducible intro _) | (refine fun (_ : Bool) => ?_)))
      all_goals first
        | (exfalso
           have q := of_decide_eq_true ‹decide ((k : Int) < (b.length : Int)) = true›
           have q2 := of_decide_eq_true ‹decide ((k : Int) < r.n) = true›
           omega)
        | (rw [ef2]; done)
theorem rinR : SpOK Tryz.prog 130 SIn := fun ⟨r, n, v⟩ _ => by
  have hC : COK Tryz.prog (cfg [(98, SRS), (115, SSane), (147, SBytes), (99, SFits)]) := Ty.ty.cfg ⟨rsaneR, refSane, rbytes, rfitsR, trivial⟩
  have hbl : (bytesC n v).length < 4611686018427387904 := by
    rw [bytesC_len]
    split
    · rename_i h
      have := (saneC_iff n v).1 h
      omega
    · omega
  have hi : inR r n v = (okR r && saneC n v && (n == r.n) && ((fits r (bytesC n v) : Int) == r.n)) := rfl
  ((refine Fn.ofF hC Tryz.func130 Tryz.ntmps130 rfl rfl rfl ?_); (repeat' first | (with_reducible exact trivial) | (with_reducible rfl) | (refine And.intro ?_ ?_) | (refine Need.mk ?_) | exact True.intro | (first | (refine ⟨_, Told.refl _, ?_, ?_⟩) | (refine ⟨⟨_, _⟩, Told.refl _, ?_, ?_⟩) | (refine ⟨⟨_, _, _⟩, Told.refl _, ?_, ?_⟩) | (refine ⟨⟨_, _, _, _⟩, Told.refl _, ?_, ?_⟩) | (refine ⟨⟨_, _, _, _, _⟩, Told.refl _, ?_, ?_⟩) | (refine ⟨(), Told.refl _, ?_, ?_⟩)) | (with_reducible intro _) | (refine fun (_ : Bool) => ?_)))
  all_goals first
    | exact hbl
    | (rw [hi]; simp_all; done)
end Go.Abs.Hx
set_option maxRecDepth 100000
namespace Go.Abs.Mt
open Go.RowKit Go.Proofs Go.Abs.Tab Go.Abs.Coll Go.Abs.Hx
theorem anyR_yes {l : List Rct} {n v : Int} {k : Nat} (hk : k < l.length) (h : inR (l.getD k default) n v = true) : anyR l n v = true := by
  rw [getR hk] at h
  exact List.any_eq_true.2 ⟨_, List.getElem_mem hk, h⟩
theorem anyR_no {l : List Rct} {n v : Int} (h : ∀ j, j < l.length → inR (l.getD j default) n v = false) : anyR l n v = false := by
  unfold anyR
  rw [List.any_eq_false]
  intro x hx
  obtain ⟨j, hj, rfl⟩ := List.getElem_of_mem hx
  have := h j hj
  rw [getR hj] at this
  rw [this]
  decide
set_option maxHeartbeats 8000000 in
theorem rin : SpOK Tryz.prog 97 SFull := fun ⟨l, b⟩ ⟨h1, h2, h3⟩ => by
  have hC : COK Tryz.prog (cfg [(56, SVal), (130, SIn)]) := Ty.ty.cfg ⟨rval, rinR, trivial⟩
  have h1 : l.length < 4611686018427387904 := h1
  have hf : fullB l b = (valOk b && anyR l (valN b) (valV b)) := rfl
  ((refine Fn.ofF hC Tryz.func97 Tryz.ntmps97 rfl rfl rfl ?_); (repeat' first | (with_reducible exact trivial) | (with_reducible rfl) | (refine And.intro ?_ ?_) | (refine Need.mk ?_) | exact True.intro | (first | (refine ⟨_, Told.refl _, ?_, ?_⟩) | (refine ⟨⟨_, _⟩, Told.refl _, ?_, ?_⟩) | (refine ⟨⟨_, _, _⟩, Told.refl _, ?_, ?_⟩) | (refine ⟨⟨_, _, _, _⟩, Told.refl _, ?_, ?_⟩) | (refine ⟨⟨_, _, _, _, _⟩, Told.refl _, ?_, ?_⟩) | (refine ⟨(), Told.refl _, ?_, ?_⟩)) | (with_reducible intro _) | (refine fun (_ : Bool) => ?_)))
  · exact h2
  · exact h3
  refine AW.loop (I := fun k : Nat => ⟨28, [(0, aR l), (5, .ptr 0 0), (6, .sb (valOk b)), (7, .int .i64 k)], [.box 28 [.int .i64 (valN b), .int .i64 (valV b)]]⟩) (fun k => k ≤ l.length ∧ ∀ j, j < k → inR (l.getD j default) (valN b) (valV b) = false) (fun k => l.length - k) 0 ⟨Nat.zero_le _, fun j hj => by omega⟩ ?_ ?_
  · (repeat' first | (with_reducible exact trivial) | (with_reducible rfl) | (refine And.intro ?_ ?_) | (refine Need.mk ?_) | exact True.intro | (first | (refine ⟨_, Told.refl _, ?_, ?_⟩) | (refine ⟨⟨_, _⟩, Told.refl _, ?_, ?_⟩) | (refine ⟨⟨_, _, _⟩, Told.refl _, ?_, ?_⟩) | (refine ⟨⟨_, _, _, _⟩, Told.refl _, ?_, ?_⟩) | (refine ⟨⟨_, _, _, _, _⟩, Told.refl _, ?_, ?_⟩) | (refine ⟨(), Told.refl _, ?_, ?_⟩)) | (with_reducible intro _) | (refine fun (_ : Bool) => ?_))
    all_goals first | rfl
  · intro k ⟨hk, hok⟩
    rcases Nat.lt_or_ge k l.length with hlt | hge
    · have hd : decide ((k : Int) < (l.length : Int)) = true := decide_eq_true (by omega)
      have hw := iw (n := (k : Int) + 1) (by omega) (by omega)
      ((refine AW.byF ‹_› ?_); (repeat' first | (with_reducible exact trivial) | (with_reducible rfl) | (refine And.intro ?_ ?_) | (refine Need.mk ?_) | exact True.intro | (first | (refine ⟨_, Told.refl _, ?_, ?_⟩) | (refine ⟨⟨_, _⟩, Told.refl _, ?_, ?_⟩) | (refine ⟨⟨_, _, _⟩, Told.refl _, ?_, ?_⟩) | (refine ⟨⟨_, _, _, _⟩, Told.refl _, ?_, ?_⟩) | (refine ⟨⟨_, _, _, _, _⟩, Told.refl _, ?_, ?_⟩) | (refine ⟨(), Told.refl _, ?_, ?_⟩)) | (with_reducible intro _) | (refine fun (_ : Bool) => ?_)))
      all_goals first | (exact absurd ‹decide ((k : Int) < (l.length : Int)) = false› (by rw [hd]; decide)) | skip
      any_goals (first | (refine Exists.intro ((k + 1 : Nat)) (And.intro ?_ (And.intro ?_ ?_)); all_goals (repeat' first | (with_reducible exact trivial) | (with_reducible rfl) | (refine And.intro ?_ ?_) | (refine Need.mk ?_) | exact True.intro | (first | (refine ⟨_, Told.refl _, ?_, ?_⟩) | (refine ⟨⟨_, _⟩, Told.refl _, ?_, ?_⟩) | (refine ⟨⟨_, _, _⟩, Told.refl _, ?_, ?_⟩) | (refine ⟨⟨_, _, _, _⟩, Told.refl _, ?_, ?_⟩) | (refine ⟨⟨_, _, _, _, _⟩, Told.refl _, ?_, ?_⟩) | (refine ⟨(), Told.refl _, ?_, ?_⟩)) | (with_reducible intro _) | (refine fun (_ : Bool) => ?_))) | fail)
      all_goals try simp only [Int.toNat_natCast] at *
      all_goals first
        | omega
        | (rw [hw]; rfl)
        | (rw [hf, ‹valOk b = true›, anyR_yes hlt ‹_›]; rfl)
        | (rw [hf, ‹valOk b = false›]; rfl)
        | (rename_i j hj
           by_cases e : j = k
           · rw [e]; assumption
           · exact hok j (by omega))
    · obtain rfl : k = l.length := by omega
      have hd : decide ((l.length : Int) < (l.length : Int)) = false := decide_eq_false (by omega)
      have hn := anyR_no hok
      ((refine AW.byF ‹_› ?_); (repeat' first | (with_reducible exact trivial) | (with_reducible rfl) | (refine And.intro ?_ ?_) | (refine Need.mk ?_) | exact True.intro | (first | (refine ⟨_, Told.refl _, ?_, ?_⟩) | (refine ⟨⟨_, _⟩, Told.refl _, ?_, ?_⟩) | (refine ⟨⟨_, _, _⟩, Told.refl _, ?_, ?_⟩) | (refine ⟨⟨_, _, _, _⟩, Told.refl _, ?_, ?_⟩) | (refine ⟨⟨_, _, _, _, _⟩, Told.refl _, ?_, ?_⟩) | (refine ⟨(), Told.refl _, ?_, ?_⟩)) | (with_reducible intro _) | (refine fun (_ : Bool) => ?_)))
      all_goals first | (exact absurd ‹decide ((l.length : Int) < (l.length : Int)) = true› (by rw [hd]; decide)) | skip
      all_goals (rw [hf, hn, Bool.and_false])
/-- The best one so far, with nothing to begin with. -/
def bst (l : List Ft) : Ft := l.foldl (fun a x => if x.b > a.b ∨ (x.b = a.b ∧ x.n < a.n) then x else a) ⟨-1, 1⟩
theorem bst_snoc (l : List Ft) (x : Ft) : bst (l ++ [x]) = if x.b > (bst l).b ∨ (x.b = (bst l).b ∧ x.n < (bst l).n) then x else bst l := by
  unfold bst
  rw [List.foldl_append]
  rfl
theorem bet_lt (x y : Ft) : bet x y < 0 ↔ x.b > y.b ∨ (x.b = y.b ∧ x.n < y.n) := by
  unfold bet orI cmpI
  rcases Int.lt_trichotomy y.b x.b with h | h | h
  · rw [if_pos h]
    have e : (([-1, if x.n < y.n then -1 else if x.n > y.n then 1 else 0] : List Int).find? (fun x => x != 0)) = some (-1) := rfl
    rw [e]
    simp only [Option.getD_some]
    omega
  · rw [if_neg (by omega), if_neg (by omega)]
    rcases Int.lt_trichotomy x.n y.n with g | g | g
    · rw [if_pos g]
      have e : (([0, -1] : List Int).find? (fun x => x != 0)) = some (-1) := rfl
      rw [e]
      simp only [Option.getD_some]
      omega
    · rw [if_neg (by omega), if_neg (by omega)]
      have e : (([0, 0] : List Int).find? (fun x => x != 0)) = none := rfl
      rw [e]
      simp only [Option.getD_none]
      omega
    · rw [if_neg (by omega), if_pos g]
      have e : (([0, 1] : List Int).find? (fun x => x != 0)) = some 1 := rfl
      rw [e]
      simp only [Option.getD_some]
      omega
  · rw [if_neg (by omega), if_pos h]
    have e : (([1, if x.n < y.n then -1 else if x.n > y.n then 1 else 0] : List Int).find? (fun x => x != 0)) = some 1 := rfl
    rw [e]
    simp only [Option.getD_some]
    omega
theorem bst_min : ∀ (k : Nat) (l : List Ft), (∀ x ∈ l, 0 ≤ x.b) → k < l.length → bst (l.take (k + 1)) = minTo l k
  | 0, l, hl, hk => by
    obtain ⟨x, l', rfl⟩ : ∃ x l', l = x :: l' := by cases l with | nil => cases hk | cons x l' => exact ⟨x, l', rfl⟩
    have := hl x List.mem_cons_self
    show (if x.b > -1 ∨ (x.b = -1 ∧ x.n < 1) then x else _) = x
    rw [if_pos (.inl (by omega))]
  | k + 1, l, hl, hk => by
    have e : l.getD (k + 1) default = l[k + 1] := by simp [List.getD, hk]
    rw [List.take_succ_eq_append_getElem hk, bst_snoc, bst_min k l hl (by omega), minTo, e]
    simp only [bet_lt]
theorem bst_best (l : List Ft) (h : ∀ x ∈ l, 0 ≤ x.b) : (bst l).n = (best l).n := by
  unfold best
  split
  · rename_i hl
    rw [List.length_eq_zero_iff.1 hl]
    rfl
  · rename_i hl
    have := bst_min (l.length - 1) l h (by omega)
    rw [show l.length - 1 + 1 = l.length by omega, List.take_length] at this
    rw [this]
    rfl
theorem fitsL_nn (l : List Rct) (b : List Int) : ∀ x ∈ fitsL l b, 0 ≤ x.b := by
  intro x hx
  unfold fitsL at hx
  obtain ⟨r, _, rfl⟩ := List.mem_map.1 hx
  exact Int.natCast_nonneg _
set_option maxHeartbeats 16000000 in
theorem rnext : SpOK Tryz.prog 55 SNext := fun ⟨l, b⟩ ⟨hl, hb, h8⟩ => by
  have hC : COK Tryz.prog (cfg [(97, SFull), (98, SRS), (99, SFits)]) := Ty.ty.cfg ⟨rin, rsaneR, rfitsR, trivial⟩
  have hl : l.length < 1000000000 := hl
  have hb : b.length < 1000000000 := hb
  obtain ⟨M, hM⟩ : ∃ M, M = min 4 b.length := ⟨_, rfl⟩
  have hMb : M ≤ 4 ∧ M ≤ b.length := by omega
  ((refine Fn.ofF hC Tryz.func55 Tryz.ntmps55 rfl rfl rfl ?_); (repeat' first | (with_reducible exact trivial) | (with_reducible rfl) | (refine And.intro ?_ ?_) | (refine Need.mk ?_) | exact True.intro | (first | (refine ⟨_, Told.refl _, ?_, ?_⟩) | (refine ⟨⟨_, _⟩, Told.refl _, ?_, ?_⟩) | (refine ⟨⟨_, _, _⟩, Told.refl _, ?_, ?_⟩) | (refine ⟨⟨_, _, _, _⟩, Told.refl _, ?_, ?_⟩) | (refine ⟨⟨_, _, _, _, _⟩, Told.refl _, ?_, ?_⟩) | (refine ⟨(), Told.refl _, ?_, ?_⟩)) | (with_reducible intro _) | (refine fun (_ : Bool) => ?_)))
  refine AW.loop (I := fun k : Nat => ⟨72, [(0, aR l), (1, a8 b), (6, .int .i64 (k + 1))], []⟩) (fun k => k ≤ M ∧ ∀ j, j < k → fullB l (b.take (j + 1)) = false) (fun k => M - k) 0 ⟨Nat.zero_le _, fun j hj => by omega⟩ ?_ ?_
  · (repeat' first | (with_reducible exact trivial) | (with_reducible rfl) | (refine And.intro ?_ ?_) | (refine Need.mk ?_) | exact True.intro | (first | (refine ⟨_, Told.refl _, ?_, ?_⟩) | (refine ⟨⟨_, _⟩, Told.refl _, ?_, ?_⟩) | (refine ⟨⟨_, _, _⟩, Told.refl _, ?_, ?_⟩) | (refine ⟨⟨_, _, _, _⟩, Told.refl _, ?_, ?_⟩) | (refine ⟨⟨_, _, _, _, _⟩, Told.refl _, ?_, ?_⟩) | (refine ⟨(), Told.refl _, ?_, ?_⟩)) | (with_reducible intro _) | (refine fun (_ : Bool) => ?_))
    all_goals first | rfl
  · intro k ⟨hk, hok⟩
    rcases Nat.lt_or_ge k M with hlt | hge
    · have hd : decide ((k : Int) + 1 ≤ 4) = true := decide_eq_true (by omega)
      have hd2 : decide ((k : Int) + 1 ≤ (b.length : Int)) = true := decide_eq_true (by omega)
      have hw := iw (n := (k : Int) + 1 + 1) (by omega) (by omega)
      ((refine AW.byF ‹_› ?_); (repeat' first | (with_reducible exact trivial) | (with_reducible rfl) | (refine And.intro ?_ ?_) | (refine Need.mk ?_) | exact True.intro | (first | (refine ⟨_, Told.refl _, ?_, ?_⟩) | (refine ⟨⟨_, _⟩, Told.refl _, ?_, ?_⟩) | (refine ⟨⟨_, _, _⟩, Told.refl _, ?_, ?_⟩) | (refine ⟨⟨_, _, _, _⟩, Told.refl _, ?_, ?_⟩) | (refine ⟨⟨_, _, _, _, _⟩, Told.refl _, ?_, ?_⟩) | (refine ⟨(), Told.refl _, ?_, ?_⟩)) | (with_reducible intro _) | (refine fun (_ : Bool) => ?_)))
      all_goals first | (exact absurd ‹decide ((k : Int) + 1 ≤ 4) = false› (by rw [hd]; decide)) | (exact absurd ‹decide ((k : Int) + 1 ≤ (b.length : Int)) = false› (by rw [hd2]; decide)) | skip
      all_goals first | omega | skip
      refine Exists.intro (l, b.take (k + 1)) (And.intro (Told.of (told_take l b (by omega) (by omega) (fun i => by rw [show (0 : Int).toNat + i = i from Nat.zero_add i]))) (And.intro ?_ ?_))
      · exact ⟨by show l.length < 4611686018427387904; omega, by show (b.take (k + 1)).length < 4611686018427387904; rw [List.length_take]; omega, B8.take h8 _⟩
      (repeat' first | (with_reducible exact trivial) | (with_reducible rfl) | (refine And.intro ?_ ?_) | (refine Need.mk ?_) | exact True.intro | (first | (refine ⟨_, Told.refl _, ?_, ?_⟩) | (refine ⟨⟨_, _⟩, Told.refl _, ?_, ?_⟩) | (refine ⟨⟨_, _, _⟩, Told.refl _, ?_, ?_⟩) | (refine ⟨⟨_, _, _, _⟩, Told.refl _, ?_, ?_⟩) | (refine ⟨⟨_, _, _, _, _⟩, Told.refl _, ?_, ?_⟩) | (refine ⟨(), Told.refl _, ?_, ?_⟩)) | (with_reducible intro _) | (refine fun (_ : Bool) => ?_))
      all_goals
        first
          | (have hc := code_some (l := l) (by omega) hok ‹fullB l (b.take (k + 1)) = true›
             first
               | (unfold nextN; rw [hc]; rfl)
               | (rw [hc]; rfl))
          | skip
      have q := ‹fullB l (b.take (k + 1)) = false›
      refine Exists.intro (k + 1) (And.intro ?_ (And.intro ?_ ?_))
      · refine ⟨by omega, fun j hj => ?_⟩
        by_cases e : j = k
        · rw [e]; exact q
        · exact hok j (by omega)
      · omega
      · (repeat' first | (with_reducible exact trivial) | (with_reducible rfl) | (refine And.intro ?_ ?_) | (refine Need.mk ?_) | exact True.intro | (first | (refine ⟨_, Told.refl _, ?_, ?_⟩) | (refine ⟨⟨_, _⟩, Told.refl _, ?_, ?_⟩) | (refine ⟨⟨_, _, _⟩, Told.refl _, ?_, ?_⟩) | (refine ⟨⟨_, _, _, _⟩, Told.refl _, ?_, ?_⟩) | (refine ⟨⟨_, _, _, _, _⟩, Told.refl _, ?_, ?_⟩) | (refine ⟨(), Told.refl _, ?_, ?_⟩)) | (with_reducible intro _) | (refine fun (_ : Bool) => ?_))
        all_goals first | rfl | (rw [hw]; rfl)
    · obtain rfl : k = M := by omega
      have hcn := code_none (l := l) (b := b) (by rw [← hM]; exact hok)
      have hn : nextN l b = minI (bst (fitsL l b)).n b.length := by
        rw [bst_best _ (fitsL_nn l b)]
        unfold nextN
        rw [hcn]
      ((refine AW.byF ‹_› ?_); (repeat' first | (with_reducible exact trivial) | (with_reducible rfl) | (refine And.intro ?_ ?_) | (refine Need.mk ?_) | exact True.intro | (first | (refine ⟨_, Told.refl _, ?_, ?_⟩) | (refine ⟨⟨_, _⟩, Told.refl _, ?_, ?_⟩) | (refine ⟨⟨_, _, _⟩, Told.refl _, ?_, ?_⟩) | (refine ⟨⟨_, _, _, _⟩, Told.refl _, ?_, ?_⟩) | (refine ⟨⟨_, _, _, _, _⟩, Told.refl _, ?_, ?_⟩) | (refine ⟨(), Told.refl _, ?_, ?_⟩)) | (with_reducible intro _) | (refine fun (_ : Bool) => ?_)))
      all_goals first
        | (exfalso
           have q := of_decide_eq_true ‹decide ((k : Int) + 1 ≤ 4) = true›
           have q2 := of_decide_eq_true ‹decide ((k : Int) + 1 ≤ (b.length : Int)) = true›
           omega)
        | skip
      all_goals
        refine AW.loop (I := fun i : Nat => ⟨72, [(0, aR l), (1, a8 b), (7, .int .i64 (bst (fitsL (l.take i) b)).b), (8, .int .i64 (bst (fitsL (l.take i) b)).n), (9, .int .i64 i)], []⟩) (fun i => i ≤ l.length) (fun i => l.length - i) 0 (Nat.zero_le _) ?_ ?_
        · (repeat' first | (with_reducible exact trivial) | (with_reducible rfl) | (refine And.intro ?_ ?_) | (refine Need.mk ?_) | exact True.intro | (first | (refine ⟨_, Told.refl _, ?_, ?_⟩) | (refine ⟨⟨_, _⟩, Told.refl _, ?_, ?_⟩) | (refine ⟨⟨_, _, _⟩, Told.refl _, ?_, ?_⟩) | (refine ⟨⟨_, _, _, _⟩, Told.refl _, ?_, ?_⟩) | (refine ⟨⟨_, _, _, _, _⟩, Told.refl _, ?_, ?_⟩) | (refine ⟨(), Told.refl _, ?_, ?_⟩)) | (with_reducible intro _) | (refine fun (_ : Bool) => ?_))
          all_goals first | rfl | done
        · intro i hi
          rcases Nat.lt_or_ge i l.length with hlt | hge
          · have hd : decide ((i : Int) < (l.length : Int)) = true := decide_eq_true (by omega)
            have hw := iw (n := (i : Int) + 1) (by omega) (by omega)
            have hnx := fitsL_next (b := b) hlt
            have hs := bst_snoc (fitsL (l.take i) b) ⟨fits (l.getD i default) b, (l.getD i default).n⟩
            ((refine AW.byF ‹_› ?_); (repeat' first | (with_reducible exact trivial) | (with_reducible rfl) | (refine And.intro ?_ ?_) | (refine Need.mk ?_) | exact True.intro | (first | (refine ⟨_, Told.refl _, ?_, ?_⟩) | (refine ⟨⟨_, _⟩, Told.refl _, ?_, ?_⟩) | (refine ⟨⟨_, _, _⟩, Told.refl _, ?_, ?_⟩) | (refine ⟨⟨_, _, _, _⟩, Told.refl _, ?_, ?_⟩) | (refine ⟨⟨_, _, _, _, _⟩, Told.refl _, ?_, ?_⟩) | (refine ⟨(), Told.refl _, ?_, ?_⟩)) | (with_reducible intro _) | (refine fun (_ : Bool) => ?_)))
            all_goals first | (exact absurd ‹decide ((i : Int) < (l.length : Int)) = false› (by rw [hd]; decide)) | skip
            any_goals (first | (refine Exists.intro ((i + 1 : Nat)) (And.intro ?_ (And.intro ?_ ?_)); all_goals (repeat' first | (with_reducible exact trivial) | (with_reducible rfl) | (refine And.intro ?_ ?_) | (refine Need.mk ?_) | exact True.intro | (first | (refine ⟨_, Told.refl _, ?_, ?_⟩) | (refine ⟨⟨_, _⟩, Told.refl _, ?_, ?_⟩) | (refine ⟨⟨_, _, _⟩, Told.refl _, ?_, ?_⟩) | (refine ⟨⟨_, _, _, _⟩, Told.refl _, ?_, ?_⟩) | (refine ⟨⟨_, _, _, _, _⟩, Told.refl _, ?_, ?_⟩) | (refine ⟨(), Told.refl _, ?_, ?_⟩)) | (with_reducible intro _) | (refine fun (_ : Bool) => ?_))) | fail)
            all_goals try simp only [Int.toNat_natCast] at *
            all_goals first
              | omega
              | (show b.length < 4611686018427387904; omega)
              | (rw [hw]; rfl)
              | (have q : ¬ okR (l.getD i default) = true := by simpa using ‹(!okR (l.getD i default)) = true›
                 rw [if_neg q] at hnx
                 rw [hnx])
              | (have q : okR (l.getD i default) = true := by simpa using ‹(!okR (l.getD i default)) = false›
                 rw [if_pos q] at hnx
                 rw [hnx, hs]
                 ((try dsimp only at *); (try simp only [decide_eq_true_eq, decide_eq_false_iff_not, beq_iff_eq, bne_iff_ne, beq_eq_false_iff_ne, bne_eq_false_iff_eq, ne_eq, Decidable.not_not, ge_iff_le, gt_iff_lt, Bool.not_eq_true', Bool.not_eq_false', Int.not_lt, Int.not_le, Nat.not_lt, Nat.not_le] at *))
                 first
                   | (rw [if_pos (by first | omega | (dsimp only; omega))]; done)
                   | (rw [if_neg (by first | omega | (dsimp only; omega))]; done))
          · obtain rfl : i = l.length := by omega
            have hd : decide ((l.length : Int) < (l.length : Int)) = false := decide_eq_false (by omega)
            rw [List.take_length]
            ((refine AW.byF ‹_› ?_); (repeat' first | (with_reducible exact trivial) | (with_reducible rfl) | (refine And.intro ?_ ?_) | (refine Need.mk ?_) | exact True.intro | (first | (refine ⟨_, Told.refl _, ?_, ?_⟩) | (refine ⟨⟨_, _⟩, Told.refl _, ?_, ?_⟩) | (refine ⟨⟨_, _, _⟩, Told.refl _, ?_, ?_⟩) | (refine ⟨⟨_, _, _, _⟩, Told.refl _, ?_, ?_⟩) | (refine ⟨⟨_, _, _, _, _⟩, Told.refl _, ?_, ?_⟩) | (refine ⟨(), Told.refl _, ?_, ?_⟩)) | (with_reducible intro _) | (refine fun (_ : Bool) => ?_)))
            all_goals first | (exact absurd ‹decide ((l.length : Int) < (l.length : Int)) = true› (by rw [hd]; decide)) | skip
            all_goals first
              | exact hn.symm
              | (rw [hcn]; rfl)
def SAllR : Sp := ⟨List Rct × List Int, fun (l, s) => l.length < 1000000000 ∧ s.length < 1000000000 ∧ B8 s, fun (l, s) => [aR l, a8 s], fun (l, s) => .row 34 5 (allAt l s 0).length (els cP (allAt l s 0))⟩
set_option maxHeartbeats 8000000 in
theorem rall : SpOK Tryz.prog 31 SAllR := fun ⟨l, s⟩ ⟨hl, hs, h8⟩ => by
  have hC : COK Tryz.prog (cfg [(55, SNext), (56, SVal)]) := Ty.ty.cfg ⟨rnext, rval, trivial⟩
  ((refine Fn.ofF hC Tryz.func31 Tryz.ntmps31 rfl rfl rfl ?_); (repeat' first | (with_reducible exact trivial) | (with_reducible rfl) | (refine And.intro ?_ ?_) | (refine Need.mk ?_) | exact True.intro | (first | (refine ⟨_, Told.refl _, ?_, ?_⟩) | (refine ⟨⟨_, _⟩, Told.refl _, ?_, ?_⟩) | (refine ⟨⟨_, _, _⟩, Told.refl _, ?_, ?_⟩) | (refine ⟨⟨_, _, _, _⟩, Told.refl _, ?_, ?_⟩) | (refine ⟨⟨_, _, _, _, _⟩, Told.refl _, ?_, ?_⟩) | (refine ⟨(), Told.refl _, ?_, ?_⟩)) | (with_reducible intro _) | (refine fun (_ : Bool) => ?_)))
  refine AW.loop (I := fun x : Nat × List Pc => ⟨49, [(0, aR l), (1, a8 s), (5, .own 0), (6, .int .i64 x.1)], [.row 34 5 x.2.length (els cP x.2)]⟩) (fun x => x.1 ≤ s.length ∧ x.2.length ≤ x.1 ∧ allAt l s 0 = x.2 ++ allAt l s x.1) (fun x => s.length - x.1) (0, []) ⟨Nat.zero_le _, Nat.le_refl _, rfl⟩ ?_ ?_
  · (repeat' first | (with_reducible exact trivial) | (with_reducible rfl) | (refine And.intro ?_ ?_) | (refine Need.mk ?_) | exact True.intro | (first | (refine ⟨_, Told.refl _, ?_, ?_⟩) | (refine ⟨⟨_, _⟩, Told.refl _, ?_, ?_⟩) | (refine ⟨⟨_, _, _⟩, Told.refl _, ?_, ?_⟩) | (refine ⟨⟨_, _, _, _⟩, Told.refl _, ?_, ?_⟩) | (refine ⟨⟨_, _, _, _, _⟩, Told.refl _, ?_, ?_⟩) | (refine ⟨(), Told.refl _, ?_, ?_⟩)) | (with_reducible intro _) | (refine fun (_ : Bool) => ?_))
    all_goals first | rfl
  · rintro ⟨a, out⟩ ⟨h1, h2, h3⟩
    dsimp only at h1 h2 h3 ⊢
    rcases Nat.lt_or_ge a s.length with hlt | hge
    · have hd : decide ((a : Int) < (s.length : Int)) = true := decide_eq_true (by omega)
      obtain ⟨r1, r2, r3⟩ := stepN_rng (l := l) hlt
      have hst := allAt_step (l := l) hlt
      ((refine AW.byF ‹_› ?_); (repeat' first | (with_reducible exact trivial) | (with_reducible rfl) | (refine And.intro ?_ ?_) | (refine Need.mk ?_) | exact True.intro | (first | (refine ⟨_, Told.refl _, ?_, ?_⟩) | (refine ⟨⟨_, _⟩, Told.refl _, ?_, ?_⟩) | (refine ⟨⟨_, _, _⟩, Told.refl _, ?_, ?_⟩) | (refine ⟨⟨_, _, _, _⟩, Told.refl _, ?_, ?_⟩) | (refine ⟨⟨_, _, _, _, _⟩, Told.refl _, ?_, ?_⟩) | (refine ⟨(), Told.refl _, ?_, ?_⟩)) | (with_reducible intro _) | (refine fun (_ : Bool) => ?_)))
      all_goals first | (exact absurd ‹decide ((a : Int) < (s.length : Int)) = false› (by rw [hd]; decide)) | skip
      all_goals first | omega | skip
      refine Exists.intro (l, s.drop a) (And.intro (Told.of (told_drop l s (by omega) (fun i => by rw [Int.toNat_natCast]))) (And.intro ?_ ?_))
      · exact ⟨hl, by rw [List.length_drop]; omega, B8.drop h8 _⟩
      have hw := iw (n := (a : Int) + nextN l (s.drop a)) (by omega) (by omega)
      have hp : pcAt l s a = if (code l (s.drop a)).isSome = true then ⟨a, nextN l (s.drop a), true, valN ((s.drop a).take (stepN l s a)), valV ((s.drop a).take (stepN l s a))⟩ else ⟨a, nextN l (s.drop a), false, 0, 0⟩ := rfl
      have h5 : allAt l s 0 = (out ++ [pcAt l s a]) ++ allAt l s (a + stepN l s a) := by rw [h3, hst, List.append_assoc]; rfl
      (repeat' first | (with_reducible exact trivial) | (with_reducible rfl) | (refine And.intro ?_ ?_) | (refine Need.mk ?_) | exact True.intro | (first | (refine ⟨_, Told.refl _, ?_, ?_⟩) | (refine ⟨⟨_, _⟩, Told.refl _, ?_, ?_⟩) | (refine ⟨⟨_, _, _⟩, Told.refl _, ?_, ?_⟩) | (refine ⟨⟨_, _, _, _⟩, Told.refl _, ?_, ?_⟩) | (refine ⟨⟨_, _, _, _, _⟩, Told.refl _, ?_, ?_⟩) | (refine ⟨(), Told.refl _, ?_, ?_⟩)) | (with_reducible intro _) | (refine fun (_ : Bool) => ?_))
      all_goals first | (rw [hw]; omega) | omega | skip
      · have q := ‹(code l (s.drop a)).isSome = true›
        rw [if_pos q] at hp
        refine Exists.intro ((s.drop a).take (stepN l s a)) (And.intro (Told.of (told_cut s r2 (by rw [hw]; omega) (fun i => by rw [Int.toNat_natCast]))) (And.intro ?_ ?_))
        · exact ⟨by rw [List.length_take, List.length_drop]; omega, B8.take (B8.drop h8 _) _⟩
        (repeat' first | (with_reducible exact trivial) | (with_reducible rfl) | (refine And.intro ?_ ?_) | (refine Need.mk ?_) | exact True.intro | (first | (refine ⟨_, Told.refl _, ?_, ?_⟩) | (refine ⟨⟨_, _⟩, Told.refl _, ?_, ?_⟩) | (refine ⟨⟨_, _, _⟩, Told.refl _, ?_, ?_⟩) | (refine ⟨⟨_, _, _, _⟩, Told.refl _, ?_, ?_⟩) | (refine ⟨⟨_, _, _, _, _⟩, Told.refl _, ?_, ?_⟩) | (refine ⟨(), Told.refl _, ?_, ?_⟩)) | (with_reducible intro _) | (refine fun (_ : Bool) => ?_))
        · show (out.length + 1) * 40 ≤ _
          omega
        refine Exists.intro ((a + stepN l s a, out ++ [pcAt l s a]) : Nat × List Pc) (And.intro ?_ (And.intro ?_ ?_))
        · exact ⟨r2, by rw [List.length_append, List.length_singleton]; show out.length + 1 ≤ a + stepN l s a; omega, h5⟩
        · show s.length - (a + stepN l s a) < s.length - a
          omega
        · rw [hp]
          (repeat' first | (with_reducible exact trivial) | (with_reducible rfl) | (refine And.intro ?_ ?_) | (refine Need.mk ?_) | exact True.intro | (first | (refine ⟨_, Told.refl _, ?_, ?_⟩) | (refine ⟨⟨_, _⟩, Told.refl _, ?_, ?_⟩) | (refine ⟨⟨_, _, _⟩, Told.refl _, ?_, ?_⟩) | (refine ⟨⟨_, _, _, _⟩, Told.refl _, ?_, ?_⟩) | (refine ⟨⟨_, _, _, _, _⟩, Told.refl _, ?_, ?_⟩) | (refine ⟨(), Told.refl _, ?_, ?_⟩)) | (with_reducible intro _) | (refine fun (_ : Bool) => ?_))
          all_goals first
            | (rw [List.length_append]; rfl)
            | (rw [hw]; omega)
            | (rename_i z hz; refine snoc_sub cP_emb (l := out) rfl ?_ z hz; refine ⟨?_, ?_, ?_, ?_, ?_, trivial⟩ <;> first | exact ⟨rfl⟩ | exact ⟨q⟩)
      · show (out.length + 1) * 40 ≤ _
        omega
      · have q := ‹(code l (s.drop a)).isSome = false›
        rw [if_neg (by rw [q]; decide)] at hp
        refine Exists.intro ((a + stepN l s a, out ++ [pcAt l s a]) : Nat × List Pc) (And.intro ?_ (And.intro ?_ ?_))
        · exact ⟨r2, by rw [List.length_append, List.length_singleton]; show out.length + 1 ≤ a + stepN l s a; omega, h5⟩
        · show s.length - (a + stepN l s a) < s.length - a
          omega
        · rw [hp]
          (repeat' first | (with_reducible exact trivial) | (with_reducible rfl) | (refine And.intro ?_ ?_) | (refine Need.mk ?_) | exact True.intro | (first | (refine ⟨_, Told.refl _, ?_, ?_⟩) | (refine ⟨⟨_, _⟩, Told.refl _, ?_, ?_⟩) | (refine ⟨⟨_, _, _⟩, Told.refl _, ?_, ?_⟩) | (refine ⟨⟨_, _, _, _⟩, Told.refl _, ?_, ?_⟩) | (refine ⟨⟨_, _, _, _, _⟩, Told.refl _, ?_, ?_⟩) | (refine ⟨(), Told.refl _, ?_, ?_⟩)) | (with_reducible intro _) | (refine fun (_ : Bool) => ?_))
          all_goals first
            | (rw [List.length_append]; rfl)
            | (rw [hw]; omega)
            | (rename_i z hz; refine snoc_sub cP_emb (l := out) rfl ?_ z hz; refine ⟨?_, ?_, ?_, ?_, ?_, trivial⟩ <;> first | exact ⟨rfl⟩ | exact ⟨q⟩)
    · obtain rfl : a = s.length := by omega
      have hd : decide ((s.length : Int) < (s.length : Int)) = false := decide_eq_false (by omega)
      rw [allAt_end (Nat.le_refl _), List.append_nil] at h3
      ((refine AW.byF ‹_› ?_); (repeat' first | (with_reducible exact trivial) | (with_reducible rfl) | (refine And.intro ?_ ?_) | (refine Need.mk ?_) | exact True.intro | (first | (refine ⟨_, Told.refl _, ?_, ?_⟩) | (refine ⟨⟨_, _⟩, Told.refl _, ?_, ?_⟩) | (refine ⟨⟨_, _, _⟩, Told.refl _, ?_, ?_⟩) | (refine ⟨⟨_, _, _, _⟩, Told.refl _, ?_, ?_⟩) | (refine ⟨⟨_, _, _, _, _⟩, Told.refl _, ?_, ?_⟩) | (refine ⟨(), Told.refl _, ?_, ?_⟩)) | (with_reducible intro _) | (refine fun (_ : Bool) => ?_)))
      all_goals first | (exact absurd ‹decide ((s.length : Int) < (s.length : Int)) = true› (by rw [hd]; decide)) | skip
      all_goals rw [h3]
end Go.Abs.Mt
set_option maxRecDepth 100000
namespace Go.Abs.Span
open Go.RowKit Go.Proofs Go.Abs.Tab
theorem rmore : SpOK Tryz.prog 116 SRise := fun ⟨d, st⟩ _ => by
  have hC := base
  cases st
  · ((refine Fn.ofF hC Tryz.func116 Tryz.ntmps116 rfl rfl rfl ?_); (repeat' first | (with_reducible exact trivial) | (with_reducible rfl) | (refine And.intro ?_ ?_) | (refine Need.mk ?_) | exact True.intro | (first | (refine ⟨_, Told.refl _, ?_, ?_⟩) | (refine ⟨⟨_, _⟩, Told.refl _, ?_, ?_⟩) | (refine ⟨⟨_, _, _⟩, Told.refl _, ?_, ?_⟩) | (refine ⟨⟨_, _, _, _⟩, Told.refl _, ?_, ?_⟩) | (refine ⟨⟨_, _, _, _, _⟩, Told.refl _, ?_, ?_⟩) | (refine ⟨(), Told.refl _, ?_, ?_⟩)) | (with_reducible intro _) | (refine fun (_ : Bool) => ?_)))
    rfl
  · ((refine Fn.ofF hC Tryz.func116 Tryz.ntmps116 rfl rfl rfl ?_); (repeat' first | (with_reducible exact trivial) | (with_reducible rfl) | (refine And.intro ?_ ?_) | (refine Need.mk ?_) | exact True.intro | (first | (refine ⟨_, Told.refl _, ?_, ?_⟩) | (refine ⟨⟨_, _⟩, Told.refl _, ?_, ?_⟩) | (refine ⟨⟨_, _, _⟩, Told.refl _, ?_, ?_⟩) | (refine ⟨⟨_, _, _, _⟩, Told.refl _, ?_, ?_⟩) | (refine ⟨⟨_, _, _, _, _⟩, Told.refl _, ?_, ?_⟩) | (refine ⟨(), Told.refl _, ?_, ?_⟩)) | (with_reducible intro _) | (refine fun (_ : Bool) => ?_)))
    rfl
theorem rsaneS : SpOK Tryz.prog 82 SSaneS := fun ⟨s, st⟩ _ => by
  have hC : COK Tryz.prog (cfg [(115, SSane), (116, SRise)]) := Ty.ty.cfg ⟨refSane, rmore, trivial⟩
  ((refine Fn.ofF hC Tryz.func82 Tryz.ntmps82 rfl rfl rfl ?_); (repeat' first | (with_reducible exact trivial) | (with_reducible rfl) | (refine And.intro ?_ ?_) | (refine Need.mk ?_) | exact True.intro | (first | (refine ⟨_, Told.refl _, ?_, ?_⟩) | (refine ⟨⟨_, _⟩, Told.refl _, ?_, ?_⟩) | (refine ⟨⟨_, _, _⟩, Told.refl _, ?_, ?_⟩) | (refine ⟨⟨_, _, _, _⟩, Told.refl _, ?_, ?_⟩) | (refine ⟨⟨_, _, _, _, _⟩, Told.refl _, ?_, ?_⟩) | (refine ⟨(), Told.refl _, ?_, ?_⟩)) | (with_reducible intro _) | (refine fun (_ : Bool) => ?_)))
  all_goals first
    | (refine saneS_no fun h => ?_
       obtain ⟨k1, k2, k3, k4, k5⟩ := (saneS_iff st s).1 h
       ((try dsimp only at *); (try simp only [decide_eq_true_eq, decide_eq_false_iff_not, beq_iff_eq, bne_iff_ne, beq_eq_false_iff_ne, bne_eq_false_iff_eq, ne_eq, Decidable.not_not, ge_iff_le, gt_iff_lt, Bool.not_eq_true', Bool.not_eq_false', Int.not_lt, Int.not_le, Nat.not_lt, Nat.not_le] at *))
       first | omega | (simp_all; done))
    | skip
  have q1 : saneC s.n s.lo = true := by simpa using ‹(!saneC s.n s.lo) = false›
  have q2 : saneC s.n s.hi = true := by simpa using ‹(!saneC s.n s.hi) = false›
  have q3 := of_decide_eq_false ‹decide (s.lo > s.hi) = false›
  have q4 := of_decide_eq_true ‹decide (s.to ≥ 0) = true›
  have r1 := (saneC_iff _ _).1 q1
  have r2 := (saneC_iff _ _).1 q2
  rw [iw (n := s.hi - s.lo) (by omega) (by omega)]
  have hm : 0 ≤ more st (s.hi - s.lo) ∧ more st (s.hi - s.lo) ≤ s.hi - s.lo := by cases st <;> simp only [more, cond_true, cond_false] <;> omega
  rw [iw (by omega) (by omega), Bool.eq_iff_iff, decide_eq_true_eq, saneS_iff]
  exact ⟨fun h => ⟨q1, q2, by omega, q4, h⟩, fun h => h.2.2.2.2⟩
theorem rtoS : SpOK Tryz.prog 84 SToS := fun ⟨s, n, v, st⟩ _ => by
  have hC : COK Tryz.prog (cfg [(82, SSaneS), (115, SSane), (116, SRise)]) := Ty.ty.cfg ⟨rsaneS, refSane, rmore, trivial⟩
  have no : ¬ (saneS st s = true ∧ saneC n v = true ∧ n = s.n ∧ s.lo ≤ v ∧ v ≤ s.hi) → 0 = ((ES st).to s n v).getD 0 ∧ false = ((ES st).to s n v).isSome := fun h => by
    rw [to_no h]
    exact ⟨rfl, rfl⟩
  ((refine Fn.ofF hC Tryz.func84 Tryz.ntmps84 rfl rfl rfl ?_); (repeat' first | (with_reducible exact trivial) | (with_reducible rfl) | (refine And.intro ?_ ?_) | (refine Need.mk ?_) | exact True.intro | (first | (refine ⟨_, Told.refl _, ?_, ?_⟩) | (refine ⟨⟨_, _⟩, Told.refl _, ?_, ?_⟩) | (refine ⟨⟨_, _, _⟩, Told.refl _, ?_, ?_⟩) | (refine ⟨⟨_, _, _, _⟩, Told.refl _, ?_, ?_⟩) | (refine ⟨⟨_, _, _, _, _⟩, Told.refl _, ?_, ?_⟩) | (refine ⟨(), Told.refl _, ?_, ?_⟩)) | (with_reducible intro _) | (refine fun (_ : Bool) => ?_)))
  all_goals ((try dsimp only at *); (try simp only [decide_eq_true_eq, decide_eq_false_iff_not, beq_iff_eq, bne_iff_ne, beq_eq_false_iff_ne, bne_eq_false_iff_eq, ne_eq, Decidable.not_not, ge_iff_le, gt_iff_lt, Bool.not_eq_true', Bool.not_eq_false', Int.not_lt, Int.not_le, Nat.not_lt, Nat.not_le] at *))
  all_goals first
    | (first | refine (no fun q => ?_).1 | refine (no fun q => ?_).2
       obtain ⟨h1, h2, h3, h4, h5⟩ := q
       first | omega | (simp_all; done))
    | (have q1 := ‹saneS st s = true›
       have q3 := ‹n = s.n›
       have q4 := ‹s.lo ≤ v›
       have q5 := ‹v ≤ s.hi›
       have r := rngS q1
       have hm : 0 ≤ more st (v - s.lo) ∧ more st (v - s.lo) ≤ 4294967296 := by cases st <;> simp only [more, cond_true, cond_false] <;> omega
       have hm2 : 0 ≤ more st (s.hi - s.lo) := by cases st <;> simp only [more, cond_true, cond_false] <;> omega
       subst q3
       rw [to_yes q1 q4 q5]
       first
         | rfl
         | (rw [iw (n := v - s.lo) (by omega) (by omega), iw (by omega) (by omega)]; rfl))
theorem rjoinsS : SpOK Tryz.prog 83 SJoinsS := fun ⟨a, b, st⟩ ⟨ha, hb⟩ => by
  have hC : COK Tryz.prog (cfg [(116, SRise)]) := Ty.ty.cfg ⟨rmore, trivial⟩
  have ra := rngS ha
  have rb := rngS hb
  have e1 := iw (n := a.hi + 1) (by omega) (by omega)
  have e2 := iw (n := b.lo - a.lo) (by omega) (by omega)
  have hm : -4294967296 ≤ more st (b.lo - a.lo) ∧ more st (b.lo - a.lo) ≤ 4294967296 := by cases st <;> simp only [more, cond_true, cond_false] <;> omega
  have hm2 : 0 ≤ more st (a.hi - a.lo) := by cases st <;> simp only [more, cond_true, cond_false] <;> omega
  have e3 := iw (n := a.to + more st (b.lo - a.lo)) (by omega) (by omega)
  ((refine Fn.ofF hC Tryz.func83 Tryz.ntmps83 rfl rfl rfl ?_); (repeat' first | (with_reducible exact trivial) | (with_reducible rfl) | (refine And.intro ?_ ?_) | (refine Need.mk ?_) | exact True.intro | (first | (refine ⟨_, Told.refl _, ?_, ?_⟩) | (refine ⟨⟨_, _⟩, Told.refl _, ?_, ?_⟩) | (refine ⟨⟨_, _, _⟩, Told.refl _, ?_, ?_⟩) | (refine ⟨⟨_, _, _, _⟩, Told.refl _, ?_, ?_⟩) | (refine ⟨⟨_, _, _, _, _⟩, Told.refl _, ?_, ?_⟩) | (refine ⟨(), Told.refl _, ?_, ?_⟩)) | (with_reducible intro _) | (refine fun (_ : Bool) => ?_)))
  all_goals simp only [e1, e2, e3] at *
  all_goals unfold joinsS
  all_goals ((try dsimp only at *); (try simp only [decide_eq_true_eq, decide_eq_false_iff_not, beq_iff_eq, bne_iff_ne, beq_eq_false_iff_ne, bne_eq_false_iff_eq, ne_eq, Decidable.not_not, ge_iff_le, gt_iff_lt, Bool.not_eq_true', Bool.not_eq_false', Int.not_lt, Int.not_le, Nat.not_lt, Nat.not_le] at *))
  all_goals first
    | (rw [Bool.eq_iff_iff, beq_iff_eq, decide_eq_true_eq]; omega)
    | (symm; rw [decide_eq_false_iff_not]; omega)
    | (symm; rw [decide_eq_false_iff_not]; intro h; simp_all; done)
def SLastS : Sp := ⟨List Spn × Int × Int × Bool, fun (l, n, v, st) => l.length < 9223372036854775807, fun (l, n, v, st) => [aS l, aCode n v, .lit st], fun (l, n, v, st) => rI ((ES st).last l n v)⟩
theorem orI_some {α : Type} {o p : Option α} (h : o.isSome = true) : o.or p = o := by cases o; cases h; rfl
theorem orI_none {α : Type} {o p : Option α} (h : o.isSome = false) : o.or p = p := by cases o; rfl; cases h
set_option maxHeartbeats 4000000 in
theorem rlastS : SpOK Tryz.prog 46 SLastS := fun ⟨l, n, v, st⟩ hl => by
  have hC : COK Tryz.prog (cfg [(84, SToS)]) := Ty.ty.cfg ⟨rtoS, trivial⟩
  have hl : l.length < 9223372036854775807 := hl
  ((refine Fn.ofF hC Tryz.func46 Tryz.ntmps46 rfl rfl rfl ?_); (repeat' first | (with_reducible exact trivial) | (with_reducible rfl) | (refine And.intro ?_ ?_) | (refine Need.mk ?_) | exact True.intro | (first | (refine ⟨_, Told.refl _, ?_, ?_⟩) | (refine ⟨⟨_, _⟩, Told.refl _, ?_, ?_⟩) | (refine ⟨⟨_, _, _⟩, Told.refl _, ?_, ?_⟩) | (refine ⟨⟨_, _, _, _⟩, Told.refl _, ?_, ?_⟩) | (refine ⟨⟨_, _, _, _, _⟩, Told.refl _, ?_, ?_⟩) | (refine ⟨(), Told.refl _, ?_, ?_⟩)) | (with_reducible intro _) | (refine fun (_ : Bool) => ?_)))
  refine AW.loop (I := fun k : Nat => ⟨30, [(0, aS l), (2, .lit st), (4, .ptr 0 0), (8, .int .i64 ((k : Int) - 1))], [.box 28 [.int .i64 n, .int .i64 v]]⟩) (fun k => k ≤ l.length ∧ (ES st).last l n v = (ES st).last (l.take k) n v) (fun k => k) l.length ⟨Nat.le_refl _, by rw [List.take_length]⟩ ?_ ?_
  · (repeat' first | (with_reducible exact trivial) | (with_reducible rfl) | (refine And.intro ?_ ?_) | (refine Need.mk ?_) | exact True.intro | (first | (refine ⟨_, Told.refl _, ?_, ?_⟩) | (refine ⟨⟨_, _⟩, Told.refl _, ?_, ?_⟩) | (refine ⟨⟨_, _, _⟩, Told.refl _, ?_, ?_⟩) | (refine ⟨⟨_, _, _, _⟩, Told.refl _, ?_, ?_⟩) | (refine ⟨⟨_, _, _, _, _⟩, Told.refl _, ?_, ?_⟩) | (refine ⟨(), Told.refl _, ?_, ?_⟩)) | (with_reducible intro _) | (refine fun (_ : Bool) => ?_))
    all_goals first | rfl | exact iw (by omega) (by omega)
  · intro k ⟨hk, he⟩
    rcases k with _ | m
    · have hd : decide (((0 : Nat) : Int) - 1 ≥ 0) = false := by decide
      have he : (ES st).last l n v = none := he
      ((refine AW.byF ‹_› ?_); (repeat' first | (with_reducible exact trivial) | (with_reducible rfl) | (refine And.intro ?_ ?_) | (refine Need.mk ?_) | exact True.intro | (first | (refine ⟨_, Told.refl _, ?_, ?_⟩) | (refine ⟨⟨_, _⟩, Told.refl _, ?_, ?_⟩) | (refine ⟨⟨_, _, _⟩, Told.refl _, ?_, ?_⟩) | (refine ⟨⟨_, _, _, _⟩, Told.refl _, ?_, ?_⟩) | (refine ⟨⟨_, _, _, _, _⟩, Told.refl _, ?_, ?_⟩) | (refine ⟨(), Told.refl _, ?_, ?_⟩)) | (with_reducible intro _) | (refine fun (_ : Bool) => ?_)))
      all_goals first | (exact absurd ‹decide (((0 : Nat) : Int) - 1 ≥ 0) = true› (by rw [hd]; decide)) | skip
      all_goals (rw [he]; rfl)
    · have hd : decide (((m + 1 : Nat) : Int) - 1 ≥ 0) = true := decide_eq_true (by omega)
      have e : ((m + 1 : Nat) : Int) - 1 = (m : Int) := by omega
      have hw := iw (n := (m : Int) - 1) (by omega) (by omega)
      have hs : (ES st).last l n v = ((ES st).to (l.getD m default) n v).or ((ES st).last (l.take m) n v) := by rw [he, List.take_succ_eq_append_getElem (by omega), (ES st).last_snoc, getB (by omega)]
      ((refine AW.byF ‹_› ?_); (repeat' first | (with_reducible exact trivial) | (with_reducible rfl) | (refine And.intro ?_ ?_) | (refine Need.mk ?_) | exact True.intro | (first | (refine ⟨_, Told.refl _, ?_, ?_⟩) | (refine ⟨⟨_, _⟩, Told.refl _, ?_, ?_⟩) | (refine ⟨⟨_, _, _⟩, Told.refl _, ?_, ?_⟩) | (refine ⟨⟨_, _, _, _⟩, Told.refl _, ?_, ?_⟩) | (refine ⟨⟨_, _, _, _, _⟩, Told.refl _, ?_, ?_⟩) | (refine ⟨(), Told.refl _, ?_, ?_⟩)) | (with_reducible intro _) | (refine fun (_ : Bool) => ?_)))
      all_goals first | (exact absurd ‹decide (((m + 1 : Nat) : Int) - 1 ≥ 0) = false› (by rw [hd]; decide)) | skip
      any_goals (first | (refine Exists.intro ((m : Nat)) (And.intro ?_ (And.intro ?_ ?_)); all_goals (repeat' first | (with_reducible exact trivial) | (with_reducible rfl) | (refine And.intro ?_ ?_) | (refine Need.mk ?_) | exact True.intro | (first | (refine ⟨_, Told.refl _, ?_, ?_⟩) | (refine ⟨⟨_, _⟩, Told.refl _, ?_, ?_⟩) | (refine ⟨⟨_, _, _⟩, Told.refl _, ?_, ?_⟩) | (refine ⟨⟨_, _, _, _⟩, Told.refl _, ?_, ?_⟩) | (refine ⟨⟨_, _, _, _, _⟩, Told.refl _, ?_, ?_⟩) | (refine ⟨(), Told.refl _, ?_, ?_⟩)) | (with_reducible intro _) | (refine fun (_ : Bool) => ?_))) | fail)
      all_goals try simp only [e, hw, Int.toNat_natCast] at *
      all_goals first
        | omega
        | (have q : ((ES st).to (l.getD m default) n v).isSome = true := by assumption
           rw [hs, orI_some q]
           first | done | exact q.symm)
        | (have q : ((ES st).to (l.getD m default) n v).isSome = false := by assumption
           exact hs.trans (orI_none q))
theorem ok_at' {st : Bool} {t : List Spn} {k : Nat} (hk0 : 0 < k) (hp : saneS st (t.getD (k - 1) default) = true) : (ES st).okAt t k = true ↔ (saneS st (t.getD k default) = true ∧ ¬ (t.getD k default).n < (t.getD (k - 1) default).n ∧ ¬ ((t.getD k default).n = (t.getD (k - 1) default).n ∧ (t.getD k default).lo ≤ (t.getD (k - 1) default).hi) ∧ joinsS st (t.getD (k - 1) default) (t.getD k default) = false) := by
  have hne : (k == 0) = false := by simp; omega
  unfold En.okAt
  rw [hne, Bool.false_or, Bool.and_eq_true, Bool.and_eq_true, decide_eq_true_eq]
  show saneS st _ = true ∧ (((t.getD (k - 1) default).n < (t.getD k default).n ∨ ((t.getD (k - 1) default).n = (t.getD k default).n ∧ (t.getD (k - 1) default).hi < (t.getD k default).lo)) ∧ (!joinsS st _ _) = true) ↔ _
  rw [Bool.not_eq_true']
  constructor
  · rintro ⟨h1, h2, h3⟩
    exact ⟨h1, by omega, by omega, h3⟩
  · rintro ⟨h1, h2, h3, h4⟩
    exact ⟨h1, by omega, h4⟩
set_option maxHeartbeats 8000000 in
theorem rcanonS : SpOK Tryz.prog 45 SCanonS := fun ⟨t, st⟩ ht => by
  have hC : COK Tryz.prog (cfg [(82, SSaneS), (83, SJoinsS)]) := Ty.ty.cfg ⟨rsaneS, rjoinsS, trivial⟩
  have ht : t.length < 9223372036854775807 := ht
  ((refine Fn.ofF hC Tryz.func45 Tryz.ntmps45 rfl rfl rfl ?_); (repeat' first | (with_reducible exact trivial) | (with_reducible rfl) | (refine And.intro ?_ ?_) | (refine Need.mk ?_) | exact True.intro | (first | (refine ⟨_, Told.refl _, ?_, ?_⟩) | (refine ⟨⟨_, _⟩, Told.refl _, ?_, ?_⟩) | (refine ⟨⟨_, _, _⟩, Told.refl _, ?_, ?_⟩) | (refine ⟨⟨_, _, _, _⟩, Told.refl _, ?_, ?_⟩) | (refine ⟨⟨_, _, _, _, _⟩, Told.refl _, ?_, ?_⟩) | (refine ⟨(), Told.refl _, ?_, ?_⟩)) | (with_reducible intro _) | (refine fun (_ : Bool) => ?_)))
  refine AW.loop (I := fun k : Nat => ⟨76, [(0, aS t), (1, .lit st), (5, .int .i64 k)], []⟩) (fun k => k ≤ t.length ∧ ∀ j, j < k → (ES st).okAt t j = true) (fun k => t.length - k) 0 ⟨Nat.zero_le _, fun j hj => by omega⟩ ?_ ?_
  · (repeat' first | (with_reducible exact trivial) | (with_reducible rfl) | (refine And.intro ?_ ?_) | (refine Need.mk ?_) | exact True.intro | (first | (refine ⟨_, Told.refl _, ?_, ?_⟩) | (refine ⟨⟨_, _⟩, Told.refl _, ?_, ?_⟩) | (refine ⟨⟨_, _, _⟩, Told.refl _, ?_, ?_⟩) | (refine ⟨⟨_, _, _, _⟩, Told.refl _, ?_, ?_⟩) | (refine ⟨⟨_, _, _, _, _⟩, Told.refl _, ?_, ?_⟩) | (refine ⟨(), Told.refl _, ?_, ?_⟩)) | (with_reducible intro _) | (refine fun (_ : Bool) => ?_))
    all_goals rfl
  · intro k ⟨hk, hok⟩
    rcases Nat.lt_or_ge k t.length with hlt | hge
    · have hd : decide ((k : Int) < (t.length : Int)) = true := decide_eq_true (by omega)
      have hw := iw (n := (k : Int) + 1) (by omega) (by omega)
      rcases Nat.eq_zero_or_pos k with rfl | hk0
      · have hz := ok_zero (st := st) (t := t)
        ((refine AW.byF ‹_› ?_); (repeat' first | (with_reducible exact trivial) | (with_reducible rfl) | (refine And.intro ?_ ?_) | (refine Need.mk ?_) | exact True.intro | (first | (refine ⟨_, Told.refl _, ?_, ?_⟩) | (refine ⟨⟨_, _⟩, Told.refl _, ?_, ?_⟩) | (refine ⟨⟨_, _, _⟩, Told.refl _, ?_, ?_⟩) | (refine ⟨⟨_, _, _, _⟩, Told.refl _, ?_, ?_⟩) | (refine ⟨⟨_, _, _, _, _⟩, Told.refl _, ?_, ?_⟩) | (refine ⟨(), Told.refl _, ?_, ?_⟩)) | (with_reducible intro _) | (refine fun (_ : Bool) => ?_)))
        all_goals first | (exact absurd ‹decide (((0 : Nat) : Int) < (t.length : Int)) = false› (by rw [hd]; decide)) | skip
        any_goals (refine Exists.intro (1) (And.intro ?_ (And.intro ?_ ?_)); all_goals (repeat' first | (with_reducible exact trivial) | (with_reducible rfl) | (refine And.intro ?_ ?_) | (refine Need.mk ?_) | exact True.intro | (first | (refine ⟨_, Told.refl _, ?_, ?_⟩) | (refine ⟨⟨_, _⟩, Told.refl _, ?_, ?_⟩) | (refine ⟨⟨_, _, _⟩, Told.refl _, ?_, ?_⟩) | (refine ⟨⟨_, _, _, _⟩, Told.refl _, ?_, ?_⟩) | (refine ⟨⟨_, _, _, _, _⟩, Told.refl _, ?_, ?_⟩) | (refine ⟨(), Told.refl _, ?_, ?_⟩)) | (with_reducible intro _) | (refine fun (_ : Bool) => ?_)))
        all_goals ((try dsimp only at *); (try simp only [decide_eq_true_eq, decide_eq_false_iff_not, beq_iff_eq, bne_iff_ne, beq_eq_false_iff_ne, bne_eq_false_iff_eq, ne_eq, Decidable.not_not, ge_iff_le, gt_iff_lt, Bool.not_eq_true', Bool.not_eq_false', Int.not_lt, Int.not_le, Nat.not_lt, Nat.not_le] at *))
        all_goals try simp only [Int.toNat_natCast, hw] at *
        all_goals first
          | omega
          | exact canon_no (k := 0) (by omega) (fun q => by have := hz.1 q; simp_all)
          | exact ok_next hok (hz.2 ‹_›) _ ‹_›
          | (intros; first | rfl | (((try dsimp only at *); (try simp only [decide_eq_true_eq, decide_eq_false_iff_not, beq_iff_eq, bne_iff_ne, beq_eq_false_iff_ne, bne_eq_false_iff_eq, ne_eq, Decidable.not_not, ge_iff_le, gt_iff_lt, Bool.not_eq_true', Bool.not_eq_false', Int.not_lt, Int.not_le, Nat.not_lt, Nat.not_le] at *)) <;> (try simp only [IntKind.wrap_i64] at *) <;> omega))
      · have e1 : IntKind.i64.wrap ((k : Int) - 1) = ((k - 1 : Nat) : Int) := by rw [iw (by omega) (by omega)]; omega
        have hp := ok_sane (hok (k - 1) (by omega))
        have hiff := ok_at' hk0 hp
        ((refine AW.byF ‹_› ?_); (repeat' first | (with_reducible exact trivial) | (with_reducible rfl) | (refine And.intro ?_ ?_) | (refine Need.mk ?_) | exact True.intro | (first | (refine ⟨_, Told.refl _, ?_, ?_⟩) | (refine ⟨⟨_, _⟩, Told.refl _, ?_, ?_⟩) | (refine ⟨⟨_, _, _⟩, Told.refl _, ?_, ?_⟩) | (refine ⟨⟨_, _, _, _⟩, Told.refl _, ?_, ?_⟩) | (refine ⟨⟨_, _, _, _, _⟩, Told.refl _, ?_, ?_⟩) | (refine ⟨(), Told.refl _, ?_, ?_⟩)) | (with_reducible intro _) | (refine fun (_ : Bool) => ?_)))
        all_goals first | (exact absurd ‹decide ((k : Int) < (t.length : Int)) = false› (by rw [hd]; decide)) | skip
        any_goals (refine Exists.intro (k + 1) (And.intro ?_ (And.intro ?_ ?_)); all_goals (repeat' first | (with_reducible exact trivial) | (with_reducible rfl) | (refine And.intro ?_ ?_) | (refine Need.mk ?_) | exact True.intro | (first | (refine ⟨_, Told.refl _, ?_, ?_⟩) | (refine ⟨⟨_, _⟩, Told.refl _, ?_, ?_⟩) | (refine ⟨⟨_, _, _⟩, Told.refl _, ?_, ?_⟩) | (refine ⟨⟨_, _, _, _⟩, Told.refl _, ?_, ?_⟩) | (refine ⟨⟨_, _, _, _, _⟩, Told.refl _, ?_, ?_⟩) | (refine ⟨(), Told.refl _, ?_, ?_⟩)) | (with_reducible intro _) | (refine fun (_ : Bool) => ?_)))
        all_goals ((try dsimp only at *); (try simp only [decide_eq_true_eq, decide_eq_false_iff_not, beq_iff_eq, bne_iff_ne, beq_eq_false_iff_ne, bne_eq_false_iff_eq, ne_eq, Decidable.not_not, ge_iff_le, gt_iff_lt, Bool.not_eq_true', Bool.not_eq_false', Int.not_lt, Int.not_le, Nat.not_lt, Nat.not_le] at *))
        all_goals try simp only [e1, hw, Int.toNat_natCast] at *
        all_goals first
          | omega
          | exact hp
          | assumption
          | exact canon_no (k := k) (by omega) (fun q => by have := hiff.1 q; first | omega | simp_all)
          | (refine ok_next hok (hiff.2 ⟨‹_›, by omega, by omega, ?_⟩) _ ‹_›; first | assumption | (simp_all; done))
          | skip
    · obtain rfl : k = t.length := by omega
      have hd : decide ((t.length : Int) < (t.length : Int)) = false := decide_eq_false (by omega)
      ((refine AW.byF ‹_› ?_); (repeat' first | (with_reducible exact trivial) | (with_reducible rfl) | (refine And.intro ?_ ?_) | (refine Need.mk ?_) | exact True.intro | (first | (refine ⟨_, Told.refl _, ?_, ?_⟩) | (refine ⟨⟨_, _⟩, Told.refl _, ?_, ?_⟩) | (refine ⟨⟨_, _, _⟩, Told.refl _, ?_, ?_⟩) | (refine ⟨⟨_, _, _, _⟩, Told.refl _, ?_, ?_⟩) | (refine ⟨⟨_, _, _, _, _⟩, Told.refl _, ?_, ?_⟩) | (refine ⟨(), Told.refl _, ?_, ?_⟩)) | (with_reducible intro _) | (refine fun (_ : Bool) => ?_)))
      all_goals first | (exact absurd ‹decide ((t.length : Int) < (t.length : Int)) = true› (by rw [hd]; decide)) | skip
      exact canon_all hok
def SFindRS : Sp := ⟨List Spn × Int × Int × Bool, fun (t, n, v, st) => t.length < 9223372036854775807, fun (t, n, v, st) => [aS t, aCode n v, .lit st], fun (t, n, v, st) => rI ((ES st).find t n v)⟩
theorem lastS_tab {st : Bool} {t : List Spn} (h : (ES st).Tab t) (n c : Int) : (ES st).last t n c = (ES st).get t n c := (ES st).get_lastL h.2.1 h.1 n c
theorem rfindS : SpOK Tryz.prog 27 SFindRS := fun ⟨t, n, v, st⟩ hl => by
  have hC : COK Tryz.prog (cfg [(45, SCanonS), (46, SLastS)]) := Ty.ty.cfg ⟨rcanonS, rlastS, trivial⟩
  have hl : t.length < 9223372036854775807 := hl
  have hy : (ES st).canon t = true → (ES st).find t n v = (ES st).last t n v := fun h => by
    rw [find_yes h]
    exact (lastS_tab (((ES st).canon_iff t).1 h) n v).symm
  ((refine Fn.ofF hC Tryz.func27 Tryz.ntmps27 rfl rfl rfl ?_); (repeat' first | (with_reducible exact trivial) | (with_reducible rfl) | (refine And.intro ?_ ?_) | (refine Need.mk ?_) | exact True.intro | (first | (refine ⟨_, Told.refl _, ?_, ?_⟩) | (refine ⟨⟨_, _⟩, Told.refl _, ?_, ?_⟩) | (refine ⟨⟨_, _, _⟩, Told.refl _, ?_, ?_⟩) | (refine ⟨⟨_, _, _, _⟩, Told.refl _, ?_, ?_⟩) | (refine ⟨⟨_, _, _, _, _⟩, Told.refl _, ?_, ?_⟩) | (refine ⟨(), Told.refl _, ?_, ?_⟩)) | (with_reducible intro _) | (refine fun (_ : Bool) => ?_)))
  · exact hl
  · rename_i h
    rw [find_no (by simpa using h)]
    rfl
  · rename_i h
    rw [find_no (by simpa using h)]
    rfl
  · exact hl
  all_goals rw [hy (by simpa using ‹(!(ES st).canon t) = false›)]
end Go.Abs.Span
set_option maxRecDepth 100000
namespace Go.Abs.Dest
open Go.RowKit Go.Proofs Go.Abs.Tab
def SLastR : Sp := ⟨List Bf × Int × Int, fun (l, n, v) => l.length < 9223372036854775807, fun (l, n, v) => [aB l, aCode n v], fun (l, n, v) => rO (EB.last l n v)⟩
theorem or_some {α : Type} {o p : Option α} (h : o.isSome = true) : o.or p = o := by cases o; cases h; rfl
theorem or_none {α : Type} {o p : Option α} (h : o.isSome = false) : o.or p = p := by cases o; rfl; cases h
set_option maxHeartbeats 4000000 in
theorem rlast : SpOK Tryz.prog 52 SLastR := fun ⟨l, n, v⟩ hl => by
  have hC : COK Tryz.prog (cfg [(92, STo)]) := Ty.ty.cfg ⟨rto, trivial⟩
  have hl : l.length < 9223372036854775807 := hl
  ((refine Fn.ofF hC Tryz.func52 Tryz.ntmps52 rfl rfl rfl ?_); (repeat' first | (with_reducible exact trivial) | (with_reducible rfl) | (refine And.intro ?_ ?_) | (refine Need.mk ?_) | exact True.intro | (first | (refine ⟨_, Told.refl _, ?_, ?_⟩) | (refine ⟨⟨_, _⟩, Told.refl _, ?_, ?_⟩) | (refine ⟨⟨_, _, _⟩, Told.refl _, ?_, ?_⟩) | (refine ⟨⟨_, _, _, _⟩, Told.refl _, ?_, ?_⟩) | (refine ⟨⟨_, _, _, _, _⟩, Told.refl _, ?_, ?_⟩) | (refine ⟨(), Told.refl _, ?_, ?_⟩)) | (with_reducible intro _) | (refine fun (_ : Bool) => ?_)))
  refine AW.loop (I := fun k : Nat => ⟨27, [(0, aB l), (3, .ptr 0 0), (6, .int .i64 ((k : Int) - 1))], [.box 28 [.int .i64 n, .int .i64 v]]⟩) (fun k => k ≤ l.length ∧ EB.last l n v = EB.last (l.take k) n v) (fun k => k) l.length ⟨Nat.le_refl _, by rw [List.take_length]⟩ ?_ ?_
  · (repeat' first | (with_reducible exact trivial) | (with_reducible rfl) | (refine And.intro ?_ ?_) | (refine Need.mk ?_) | exact True.intro | (first | (refine ⟨_, Told.refl _, ?_, ?_⟩) | (refine ⟨⟨_, _⟩, Told.refl _, ?_, ?_⟩) | (refine ⟨⟨_, _, _⟩, Told.refl _, ?_, ?_⟩) | (refine ⟨⟨_, _, _, _⟩, Told.refl _, ?_, ?_⟩) | (refine ⟨⟨_, _, _, _, _⟩, Told.refl _, ?_, ?_⟩) | (refine ⟨(), Told.refl _, ?_, ?_⟩)) | (with_reducible intro _) | (refine fun (_ : Bool) => ?_))
    all_goals first | rfl | exact iw (by omega) (by omega)
  · intro k ⟨hk, he⟩
    rcases k with _ | m
    · have hd : decide (((0 : Nat) : Int) - 1 ≥ 0) = false := by decide
      have he : EB.last l n v = none := he
      ((refine AW.byF ‹_› ?_); (repeat' first | (with_reducible exact trivial) | (with_reducible rfl) | (refine And.intro ?_ ?_) | (refine Need.mk ?_) | exact True.intro | (first | (refine ⟨_, Told.refl _, ?_, ?_⟩) | (refine ⟨⟨_, _⟩, Told.refl _, ?_, ?_⟩) | (refine ⟨⟨_, _, _⟩, Told.refl _, ?_, ?_⟩) | (refine ⟨⟨_, _, _, _⟩, Told.refl _, ?_, ?_⟩) | (refine ⟨⟨_, _, _, _, _⟩, Told.refl _, ?_, ?_⟩) | (refine ⟨(), Told.refl _, ?_, ?_⟩)) | (with_reducible intro _) | (refine fun (_ : Bool) => ?_)))
      all_goals first | (exact absurd ‹decide (((0 : Nat) : Int) - 1 ≥ 0) = true› (by rw [hd]; decide)) | skip
      all_goals (rw [he]; rfl)
    · have hd : decide (((m + 1 : Nat) : Int) - 1 ≥ 0) = true := decide_eq_true (by omega)
      have e : ((m + 1 : Nat) : Int) - 1 = (m : Int) := by omega
      have hw := iw (n := (m : Int) - 1) (by omega) (by omega)
      have hs : EB.last l n v = (EB.to (l.getD m default) n v).or (EB.last (l.take m) n v) := by rw [he, List.take_succ_eq_append_getElem (by omega), EB.last_snoc, getB (by omega)]
      ((refine AW.byF ‹_› ?_); (repeat' first | (with_reducible exact trivial) | (with_reducible rfl) | (refine And.intro ?_ ?_) | (refine Need.mk ?_) | exact True.intro | (first | (refine ⟨_, Told.refl _, ?_, ?_⟩) | (refine ⟨⟨_, _⟩, Told.refl _, ?_, ?_⟩) | (refine ⟨⟨_, _, _⟩, Told.refl _, ?_, ?_⟩) | (refine ⟨⟨_, _, _, _⟩, Told.refl _, ?_, ?_⟩) | (refine ⟨⟨_, _, _, _, _⟩, Told.refl _, ?_, ?_⟩) | (refine ⟨(), Told.refl _, ?_, ?_⟩)) | (with_reducible intro _) | (refine fun (_ : Bool) => ?_)))
      all_goals first | (exact absurd ‹decide (((m + 1 : Nat) : Int) - 1 ≥ 0) = false› (by rw [hd]; decide)) | skip
      any_goals (refine Exists.intro (m) (And.intro ?_ (And.intro ?_ ?_)); all_goals (repeat' first | (with_reducible exact trivial) | (with_reducible rfl) | (refine And.intro ?_ ?_) | (refine Need.mk ?_) | exact True.intro | (first | (refine ⟨_, Told.refl _, ?_, ?_⟩) | (refine ⟨⟨_, _⟩, Told.refl _, ?_, ?_⟩) | (refine ⟨⟨_, _, _⟩, Told.refl _, ?_, ?_⟩) | (refine ⟨⟨_, _, _, _⟩, Told.refl _, ?_, ?_⟩) | (refine ⟨⟨_, _, _, _, _⟩, Told.refl _, ?_, ?_⟩) | (refine ⟨(), Told.refl _, ?_, ?_⟩)) | (with_reducible intro _) | (refine fun (_ : Bool) => ?_)))
      all_goals try simp only [e, hw, Int.toNat_natCast] at *
      all_goals first
        | omega
        | (have q : (EB.to (l.getD m default) n v).isSome = true := by assumption
           rw [hs, or_some q]
           first | done | exact q.symm)
        | (have q : (EB.to (l.getD m default) n v).isSome = false := by assumption
           exact hs.trans (or_none q))
def SFindR : Sp := ⟨List Bf × Int × Int, fun (t, n, v) => t.length < 9223372036854775807, fun (t, n, v) => [aB t, aCode n v], fun (t, n, v) => rO (EB.find t n v)⟩
theorem ok_at' {t : List Bf} {k : Nat} (hk0 : 0 < k) (hp : sane (t.getD (k - 1) default) = true) : EB.okAt t k = true ↔ (sane (t.getD k default) = true ∧ ¬ (t.getD k default).n < (t.getD (k - 1) default).n ∧ ¬ ((t.getD k default).n = (t.getD (k - 1) default).n ∧ (t.getD k default).lo ≤ (t.getD (k - 1) default).hi) ∧ joins (t.getD (k - 1) default) (t.getD k default) = false) := by
  have hne : (k == 0) = false := by simp; omega
  unfold En.okAt
  rw [hne, Bool.false_or, Bool.and_eq_true, Bool.and_eq_true, decide_eq_true_eq]
  show sane _ = true ∧ (((t.getD (k - 1) default).n < (t.getD k default).n ∨ ((t.getD (k - 1) default).n = (t.getD k default).n ∧ (t.getD (k - 1) default).hi < (t.getD k default).lo)) ∧ (!joins _ _) = true) ↔ _
  rw [Bool.not_eq_true']
  constructor
  · rintro ⟨h1, h2, h3⟩
    exact ⟨h1, by omega, by omega, h3⟩
  · rintro ⟨h1, h2, h3, h4⟩
    exact ⟨h1, by omega, h4⟩
set_option maxHeartbeats 8000000 in
theorem rcanon : SpOK Tryz.prog 51 SCanon := fun (t : List Bf) ht => by
  have hC : COK Tryz.prog (cfg [(90, SBSane), (91, SJoins)]) := Ty.ty.cfg ⟨rsane, rjoins, trivial⟩
  have ht : t.length < 9223372036854775807 := ht
  ((refine Fn.ofF hC Tryz.func51 Tryz.ntmps51 rfl rfl rfl ?_); (repeat' first | (with_reducible exact trivial) | (with_reducible rfl) | (refine And.intro ?_ ?_) | (refine Need.mk ?_) | exact True.intro | (first | (refine ⟨_, Told.refl _, ?_, ?_⟩) | (refine ⟨⟨_, _⟩, Told.refl _, ?_, ?_⟩) | (refine ⟨⟨_, _, _⟩, Told.refl _, ?_, ?_⟩) | (refine ⟨⟨_, _, _, _⟩, Told.refl _, ?_, ?_⟩) | (refine ⟨⟨_, _, _, _, _⟩, Told.refl _, ?_, ?_⟩) | (refine ⟨(), Told.refl _, ?_, ?_⟩)) | (with_reducible intro _) | (refine fun (_ : Bool) => ?_)))
  refine AW.loop (I := fun k : Nat => ⟨72, [(0, aB t), (3, .int .i64 k)], []⟩) (fun k => k ≤ t.length ∧ ∀ j, j < k → EB.okAt t j = true) (fun k => t.length - k) 0 ⟨Nat.zero_le _, fun j hj => by omega⟩ ?_ ?_
  · (repeat' first | (with_reducible exact trivial) | (with_reducible rfl) | (refine And.intro ?_ ?_) | (refine Need.mk ?_) | exact True.intro | (first | (refine ⟨_, Told.refl _, ?_, ?_⟩) | (refine ⟨⟨_, _⟩, Told.refl _, ?_, ?_⟩) | (refine ⟨⟨_, _, _⟩, Told.refl _, ?_, ?_⟩) | (refine ⟨⟨_, _, _, _⟩, Told.refl _, ?_, ?_⟩) | (refine ⟨⟨_, _, _, _, _⟩, Told.refl _, ?_, ?_⟩) | (refine ⟨(), Told.refl _, ?_, ?_⟩)) | (with_reducible intro _) | (refine fun (_ : Bool) => ?_))
    all_goals rfl
  · intro k ⟨hk, hok⟩
    rcases Nat.lt_or_ge k t.length with hlt | hge
    · have hd : decide ((k : Int) < (t.length : Int)) = true := decide_eq_true (by omega)
      have hw := iw (n := (k : Int) + 1) (by omega) (by omega)
      rcases Nat.eq_zero_or_pos k with rfl | hk0
      · have hz := ok_zero (t := t)
        ((refine AW.byF ‹_› ?_); (repeat' first | (with_reducible exact trivial) | (with_reducible rfl) | (refine And.intro ?_ ?_) | (refine Need.mk ?_) | exact True.intro | (first | (refine ⟨_, Told.refl _, ?_, ?_⟩) | (refine ⟨⟨_, _⟩, Told.refl _, ?_, ?_⟩) | (refine ⟨⟨_, _, _⟩, Told.refl _, ?_, ?_⟩) | (refine ⟨⟨_, _, _, _⟩, Told.refl _, ?_, ?_⟩) | (refine ⟨⟨_, _, _, _, _⟩, Told.refl _, ?_, ?_⟩) | (refine ⟨(), Told.refl _, ?_, ?_⟩)) | (with_reducible intro _) | (refine fun (_ : Bool) => ?_)))
        all_goals first | (exact absurd ‹decide (((0 : Nat) : Int) < (t.length : Int)) = false› (by rw [hd]; decide)) | skip
        any_goals (refine Exists.intro (1) (And.intro ?_ (And.intro ?_ ?_)); all_goals (repeat' first | (with_reducible exact trivial) | (with_reducible rfl) | (refine And.intro ?_ ?_) | (refine Need.mk ?_) | exact True.intro | (first | (refine ⟨_, Told.refl _, ?_, ?_⟩) | (refine ⟨⟨_, _⟩, Told.refl _, ?_, ?_⟩) | (refine ⟨⟨_, _, _⟩, Told.refl _, ?_, ?_⟩) | (refine ⟨⟨_, _, _, _⟩, Told.refl _, ?_, ?_⟩) | (refine ⟨⟨_, _, _, _, _⟩, Told.refl _, ?_, ?_⟩) | (refine ⟨(), Told.refl _, ?_, ?_⟩)) | (with_reducible intro _) | (refine fun (_ : Bool) => ?_)))
        all_goals ((try dsimp only at *); (try simp only [decide_eq_true_eq, decide_eq_false_iff_not, beq_iff_eq, bne_iff_ne, beq_eq_false_iff_ne, bne_eq_false_iff_eq, ne_eq, Decidable.not_not, ge_iff_le, gt_iff_lt, Bool.not_eq_true', Bool.not_eq_false', Int.not_lt, Int.not_le, Nat.not_lt, Nat.not_le] at *))
        all_goals try simp only [Int.toNat_natCast, hw] at *
        all_goals first
          | omega
          | exact canon_no (k := 0) (by omega) (fun q => by have := hz.1 q; simp_all)
          | exact ok_next hok (hz.2 ‹_›) _ ‹_›
          | (intros; first | rfl | (((try dsimp only at *); (try simp only [decide_eq_true_eq, decide_eq_false_iff_not, beq_iff_eq, bne_iff_ne, beq_eq_false_iff_ne, bne_eq_false_iff_eq, ne_eq, Decidable.not_not, ge_iff_le, gt_iff_lt, Bool.not_eq_true', Bool.not_eq_false', Int.not_lt, Int.not_le, Nat.not_lt, Nat.not_le] at *)) <;> (try simp only [IntKind.wrap_i64] at *) <;> omega))
      · have e1 : IntKind.i64.wrap ((k : Int) - 1) = ((k - 1 : Nat) : Int) := by rw [iw (by omega) (by omega)]; omega
        have hp := ok_sane (hok (k - 1) (by omega))
        have hiff := ok_at' hk0 hp
        ((refine AW.byF ‹_› ?_); (repeat' first | (with_reducible exact trivial) | (with_reducible rfl) | (refine And.intro ?_ ?_) | (refine Need.mk ?_) | exact True.intro | (first | (refine ⟨_, Told.refl _, ?_, ?_⟩) | (refine ⟨⟨_, _⟩, Told.refl _, ?_, ?_⟩) | (refine ⟨⟨_, _, _⟩, Told.refl _, ?_, ?_⟩) | (refine ⟨⟨_, _, _, _⟩, Told.refl _, ?_, ?_⟩) | (refine ⟨⟨_, _, _, _, _⟩, Told.refl _, ?_, ?_⟩) | (refine ⟨(), Told.refl _, ?_, ?_⟩)) | (with_reducible intro _) | (refine fun (_ : Bool) => ?_)))
        all_goals first | (exact absurd ‹decide ((k : Int) < (t.length : Int)) = false› (by rw [hd]; decide)) | skip
        any_goals (refine Exists.intro (k + 1) (And.intro ?_ (And.intro ?_ ?_)); all_goals (repeat' first | (with_reducible exact trivial) | (with_reducible rfl) | (refine And.intro ?_ ?_) | (refine Need.mk ?_) | exact True.intro | (first | (refine ⟨_, Told.refl _, ?_, ?_⟩) | (refine ⟨⟨_, _⟩, Told.refl _, ?_, ?_⟩) | (refine ⟨⟨_, _, _⟩, Told.refl _, ?_, ?_⟩) | (refine ⟨⟨_, _, _, _⟩, Told.refl _, ?_, ?_⟩) | (refine ⟨⟨_, _, _, _, _⟩, Told.refl _, ?_, ?_⟩) | (refine ⟨(), Told.refl _, ?_, ?_⟩)) | (with_reducible intro _) | (refine fun (_ : Bool) => ?_)))
        all_goals ((try dsimp only at *); (try simp only [decide_eq_true_eq, decide_eq_false_iff_not, beq_iff_eq, bne_iff_ne, beq_eq_false_iff_ne, bne_eq_false_iff_eq, ne_eq, Decidable.not_not, ge_iff_le, gt_iff_lt, Bool.not_eq_true', Bool.not_eq_false', Int.not_lt, Int.not_le, Nat.not_lt, Nat.not_le] at *))
        all_goals try simp only [e1, hw, Int.toNat_natCast] at *
        all_goals first
          | omega
          | exact hp
          | assumption
          | exact canon_no (k := k) (by omega) (fun q => by have := hiff.1 q; first | omega | simp_all)
          | (refine ok_next hok (hiff.2 ⟨‹_›, by omega, by omega, ?_⟩) _ ‹_›; first | assumption | (simp_all; done))
          | skip
    · obtain rfl : k = t.length := by omega
      have hd : decide ((t.length : Int) < (t.length : Int)) = false := decide_eq_false (by omega)
      ((refine AW.byF ‹_› ?_); (repeat' first | (with_reducible exact trivial) | (with_reducible rfl) | (refine And.intro ?_ ?_) | (refine Need.mk ?_) | exact True.intro | (first | (refine ⟨_, Told.refl _, ?_, ?_⟩) | (refine ⟨⟨_, _⟩, Told.refl _, ?_, ?_⟩) | (refine ⟨⟨_, _, _⟩, Told.refl _, ?_, ?_⟩) | (refine ⟨⟨_, _, _, _⟩, Told.refl _, ?_, ?_⟩) | (refine ⟨⟨_, _, _, _, _⟩, Told.refl _, ?_, ?_⟩) | (refine ⟨(), Told.refl _, ?_, ?_⟩)) | (with_reducible intro _) | (refine fun (_ : Bool) => ?_)))
      all_goals first | (exact absurd ‹decide ((t.length : Int) < (t.length : Int)) = true› (by rw [hd]; decide)) | skip
      exact canon_all hok
theorem rfind : SpOK Tryz.prog 29 SFindR := fun ⟨t, n, v⟩ hl => by
  have hC : COK Tryz.prog (cfg [(51, SCanon), (52, SLastR)]) := Ty.ty.cfg ⟨rcanon, rlast, trivial⟩
  have hl : t.length < 9223372036854775807 := hl
  have hy : EB.canon t = true → EB.find t n v = EB.last t n v := fun h => by
    rw [find_yes h]
    exact (last_tab ((EB.canon_iff t).1 h) n v).symm
  ((refine Fn.ofF hC Tryz.func29 Tryz.ntmps29 rfl rfl rfl ?_); (repeat' first | (with_reducible exact trivial) | (with_reducible rfl) | (refine And.intro ?_ ?_) | (refine Need.mk ?_) | exact True.intro | (first | (refine ⟨_, Told.refl _, ?_, ?_⟩) | (refine ⟨⟨_, _⟩, Told.refl _, ?_, ?_⟩) | (refine ⟨⟨_, _, _⟩, Told.refl _, ?_, ?_⟩) | (refine ⟨⟨_, _, _, _⟩, Told.refl _, ?_, ?_⟩) | (refine ⟨⟨_, _, _, _, _⟩, Told.refl _, ?_, ?_⟩) | (refine ⟨(), Told.refl _, ?_, ?_⟩)) | (with_reducible intro _) | (refine fun (_ : Bool) => ?_)))
  · exact hl
  · rename_i h
    rw [find_no (by simpa using h)]
    rfl
  · rename_i h
    rw [find_no (by simpa using h)]
    rfl
  · exact hl
  all_goals rw [hy (by simpa using ‹(!EB.canon t) = false›)]
def SPut : Sp := ⟨List Int × Int, fun (l, v) => l.length ≤ 1000000000, fun (l, v) => [aI l, .int .i64 v], fun (l, v) => .row 3 1 (insU l v).length (els ci (insU l v))⟩
/-- What is behind, once done or not. -/
def restU (d : Bool) (l : List Int) (v : Int) : List Int := cond d l (insU l v)
end Go.Abs.Dest
set_option maxRecDepth 100000
namespace Go.Abs.Lk
open Go.RowKit Go.Proofs Go.Abs.Tab Go.Abs.Dest Go.Abs.Span Go.Abs.Coll Go.Abs.Hx Go.Abs.Mt
theorem rnum : SpOK Tryz.prog 9 SNum := fun ⟨t, n, v⟩ ⟨h1, h2⟩ => by
  have hC : COK Tryz.prog (cfg [(27, SFindRS)]) := Ty.ty.cfg ⟨rfindS, trivial⟩
  have h1 : t.cids.length < 4611686018427387904 := h1
  have h2 : t.nots.length < 4611686018427387904 := h2
  ((refine Fn.ofF hC Tryz.func9 Tryz.ntmps9 rfl rfl rfl ?_); (repeat' first | (with_reducible exact trivial) | (with_reducible rfl) | (refine And.intro ?_ ?_) | (refine Need.mk ?_) | exact True.intro | (first | (refine ⟨_, Told.refl _, ?_, ?_⟩) | (refine ⟨⟨_, _⟩, Told.refl _, ?_, ?_⟩) | (refine ⟨⟨_, _, _⟩, Told.refl _, ?_, ?_⟩) | (refine ⟨⟨_, _, _, _⟩, Told.refl _, ?_, ?_⟩) | (refine ⟨⟨_, _, _, _, _⟩, Told.refl _, ?_, ?_⟩) | (refine ⟨(), Told.refl _, ?_, ?_⟩)) | (with_reducible intro _) | (refine fun (_ : Bool) => ?_)))
  · show t.cids.length < 9223372036854775807
    omega
  all_goals
    cases hf : (ES true).find t.cids n v with
    | some x =>
      have hn : numT t n v = (x, 1) := by unfold numT; rw [hf]
      first
        | (rw [hn]; done)
        | (rw [hn]; first | rfl | (rw [hf]; done) | (rw [hf]; rfl))
        | (exact absurd ‹((ES true).find t.cids n v).isSome = false› (by rw [hf]; simp))
    | none =>
      first
        | (exact absurd ‹((ES true).find t.cids n v).isSome = true› (by rw [hf]; decide))
        | (show t.nots.length < 9223372036854775807; omega)
        | (cases hg : (ES false).find t.nots n v with
           | some x =>
             have hn : numT t n v = (x, 2) := by unfold numT; rw [hf, hg]
             first
               | (rw [hn]; done)
               | (rw [hn]; first | rfl | (rw [hg]; done) | (rw [hg]; rfl))
               | (exact absurd ‹((ES false).find t.nots n v).isSome = false› (by rw [hg]; simp))
           | none =>
             have hn : numT t n v = (0, 0) := by unfold numT; rw [hf, hg]
             first
               | (exact absurd ‹((ES false).find t.nots n v).isSome = true› (by rw [hg]; decide))
               | (rw [hn]; done))
theorem runiL : SpOK Tryz.prog 11 SUniL := fun ⟨t, n, v⟩ ht => by
  have hC : COK Tryz.prog (cfg [(29, SFindR)]) := Ty.ty.cfg ⟨rfind, trivial⟩
  have ht : t.bfs.length < 4611686018427387904 := ht
  ((refine Fn.ofF hC Tryz.func11 Tryz.ntmps11 rfl rfl rfl ?_); (repeat' first | (with_reducible exact trivial) | (with_reducible rfl) | (refine And.intro ?_ ?_) | (refine Need.mk ?_) | exact True.intro | (first | (refine ⟨_, Told.refl _, ?_, ?_⟩) | (refine ⟨⟨_, _⟩, Told.refl _, ?_, ?_⟩) | (refine ⟨⟨_, _, _⟩, Told.refl _, ?_, ?_⟩) | (refine ⟨⟨_, _, _, _⟩, Told.refl _, ?_, ?_⟩) | (refine ⟨⟨_, _, _, _, _⟩, Told.refl _, ?_, ?_⟩) | (refine ⟨(), Told.refl _, ?_, ?_⟩)) | (with_reducible intro _) | (refine fun (_ : Bool) => ?_)))
  show t.bfs.length < 9223372036854775807
  omega
def SLookR : Sp := ⟨Tbl × List Int, fun (t, s) => smallT t ∧ s.length < 1000000000 ∧ B8 s, fun (t, s) => [.agg (cT t), a8 s], fun (t, s) => .row 37 9 (sgs t s).length (els cG (sgs t s))⟩
set_option maxHeartbeats 16000000 in
theorem rlook : SpOK Tryz.prog 16 SLookR := fun ⟨t, s⟩ ⟨ht, hs, h8⟩ => by
  have hC : COK Tryz.prog (cfg [(31, SAllR), (9, SNum), (11, SUniL)]) := Ty.ty.cfg ⟨rall, rnum, runiL, trivial⟩
  obtain ⟨t1, t2, t3, t4⟩ := ht
  have hlen := allAt_len (l := t.spaces) (s := s) (s.length - 0) 0 rfl
  have t2' : t.cids.length < 4611686018427387904 := by omega
  have t3' : t.nots.length < 4611686018427387904 := by omega
  have t4' : t.bfs.length < 4611686018427387904 := by omega
  obtain ⟨L, hL⟩ : ∃ L, L = allAt t.spaces s 0 := ⟨_, rfl⟩
  rw [← hL] at hlen
  ((refine Fn.ofF hC Tryz.func16 Tryz.ntmps16 rfl rfl rfl ?_); (repeat' first | (with_reducible exact trivial) | (with_reducible rfl) | (refine And.intro ?_ ?_) | (refine Need.mk ?_) | exact True.intro | (first | (refine ⟨_, Told.refl _, ?_, ?_⟩) | (refine ⟨⟨_, _⟩, Told.refl _, ?_, ?_⟩) | (refine ⟨⟨_, _, _⟩, Told.refl _, ?_, ?_⟩) | (refine ⟨⟨_, _, _, _⟩, Told.refl _, ?_, ?_⟩) | (refine ⟨⟨_, _, _, _, _⟩, Told.refl _, ?_, ?_⟩) | (refine ⟨(), Told.refl _, ?_, ?_⟩)) | (with_reducible intro _) | (refine fun (_ : Bool) => ?_)))
  any_goals first | exact t1 | exact hs | exact h8
  refine AW.loop (I := fun k : Nat => ⟨67, [(2, .ptr 0 0), (5, .own 1), (6, .own 2), (7, .int .i64 k)], [.box 26 (cT t), .row 34 5 L.length (els cP L), .row 37 9 ((L.take k).map (sgOf t)).length (els cG ((L.take k).map (sgOf t)))]⟩) (fun k => k ≤ L.length) (fun k => L.length - k) 0 (Nat.zero_le _) ?_ ?_
  · clear hlen
    subst hL
    (repeat' first | (with_reducible exact trivial) | (with_reducible rfl) | (refine And.intro ?_ ?_) | (refine Need.mk ?_) | exact True.intro | (first | (refine ⟨_, Told.refl _, ?_, ?_⟩) | (refine ⟨⟨_, _⟩, Told.refl _, ?_, ?_⟩) | (refine ⟨⟨_, _, _⟩, Told.refl _, ?_, ?_⟩) | (refine ⟨⟨_, _, _, _⟩, Told.refl _, ?_, ?_⟩) | (refine ⟨⟨_, _, _, _, _⟩, Told.refl _, ?_, ?_⟩) | (refine ⟨(), Told.refl _, ?_, ?_⟩)) | (with_reducible intro _) | (refine fun (_ : Bool) => ?_))
    all_goals first | rfl
  · intro k hk
    rcases Nat.lt_or_ge k L.length with hlt | hge
    · have hd : decide ((k : Int) < (L.length : Int)) = true := decide_eq_true (by omega)
      have hw := iw (n := (k : Int) + 1) (by omega) (by omega)
      have hnx := map_next (t := t) hlt
      have hml : ((L.take k).map (sgOf t)).length ≤ L.length := by rw [List.length_map, List.length_take]; omega
      ((refine AW.byF ‹_› ?_); (repeat' first | (with_reducible exact trivial) | (with_reducible rfl) | (refine And.intro ?_ ?_) | (refine Need.mk ?_) | exact True.intro | (first | (refine ⟨_, Told.refl _, ?_, ?_⟩) | (refine ⟨⟨_, _⟩, Told.refl _, ?_, ?_⟩) | (refine ⟨⟨_, _, _⟩, Told.refl _, ?_, ?_⟩) | (refine ⟨⟨_, _, _, _⟩, Told.refl _, ?_, ?_⟩) | (refine ⟨⟨_, _, _, _, _⟩, Told.refl _, ?_, ?_⟩) | (refine ⟨(), Told.refl _, ?_, ?_⟩)) | (with_reducible intro _) | (refine fun (_ : Bool) => ?_)))
      all_goals first | (exact absurd ‹decide ((k : Int) < (L.length : Int)) = false› (by rw [hd]; decide)) | skip
      any_goals (first | (refine Exists.intro ((k + 1 : Nat)) (And.intro ?_ (And.intro ?_ ?_)); all_goals (repeat' first | (with_reducible exact trivial) | (with_reducible rfl) | (refine And.intro ?_ ?_) | (refine Need.mk ?_) | exact True.intro | (first | (refine ⟨_, Told.refl _, ?_, ?_⟩) | (refine ⟨⟨_, _⟩, Told.refl _, ?_, ?_⟩) | (refine ⟨⟨_, _, _⟩, Told.refl _, ?_, ?_⟩) | (refine ⟨⟨_, _, _, _⟩, Told.refl _, ?_, ?_⟩) | (refine ⟨⟨_, _, _, _, _⟩, Told.refl _, ?_, ?_⟩) | (refine ⟨(), Told.refl _, ?_, ?_⟩)) | (with_reducible intro _) | (refine fun (_ : Bool) => ?_))) | fail)
      all_goals try simp only [Int.toNat_natCast] at *
      all_goals first
        | omega
        | exact t4'
        | exact t2'
        | exact t3'
        | exact ⟨t2', t3'⟩
        | (show (((L.take k).map (sgOf t)).length + 1) * 88 ≤ _; omega)
        | (rw [hw]; rfl)
        | (rw [hnx, List.length_append]; rfl)
        | (have q := ‹(L.getD k default).full = true›
           have hp : sgOf t (L.getD k default) = ⟨L.getD k default, (numT t (L.getD k default).cn (L.getD k default).cv).2, (numT t (L.getD k default).cn (L.getD k default).cv).1, (EB.find t.bfs (L.getD k default).cn (L.getD k default).cv).getD [], (EB.find t.bfs (L.getD k default).cn (L.getD k default).cv).isSome⟩ := if_pos q
           rename_i z hz
           rw [hnx, hp] at hz ⊢
           refine snoc_sub cG_emb rfl ?_ z hz
           refine ⟨⟨rfl⟩, ⟨rfl⟩, ⟨rfl⟩, ⟨rfl⟩, ⟨rfl⟩, ⟨rfl⟩, ⟨rfl⟩, ?_, ⟨rfl⟩, trivial⟩
           exact ⟨⟨rfl⟩, els_of ci_emb (n := 0) (fun _ _ => rfl)⟩)
        | (have q := ‹(L.getD k default).full = false›
           have hp : sgOf t (L.getD k default) = ⟨L.getD k default, 0, 0, [], false⟩ := if_neg (by rw [q]; decide)
           rename_i z hz
           rw [hnx, hp] at hz ⊢
           refine snoc_sub cG_emb rfl ?_ z hz
           exact ⟨⟨rfl⟩, ⟨rfl⟩, ⟨rfl⟩, ⟨rfl⟩, ⟨rfl⟩, ⟨rfl⟩, ⟨rfl⟩, ⟨rfl⟩, ⟨rfl⟩, trivial⟩)
    · obtain rfl : k = L.length := by omega
      have hd : decide ((L.length : Int) < (L.length : Int)) = false := decide_eq_false (by omega)
      have hr : (L.take L.length).map (sgOf t) = sgs t s := by rw [List.take_length, hL]; rfl
      ((refine AW.byF ‹_› ?_); (repeat' first | (with_reducible exact trivial) | (with_reducible rfl) | (refine And.intro ?_ ?_) | (refine Need.mk ?_) | exact True.intro | (first | (refine ⟨_, Told.refl _, ?_, ?_⟩) | (refine ⟨⟨_, _⟩, Told.refl _, ?_, ?_⟩) | (refine ⟨⟨_, _, _⟩, Told.refl _, ?_, ?_⟩) | (refine ⟨⟨_, _, _, _⟩, Told.refl _, ?_, ?_⟩) | (refine ⟨⟨_, _, _, _, _⟩, Told.refl _, ?_, ?_⟩) | (refine ⟨(), Told.refl _, ?_, ?_⟩)) | (with_reducible intro _) | (refine fun (_ : Bool) => ?_)))
      all_goals first | (exact absurd ‹decide ((L.length : Int) < (L.length : Int)) = true› (by rw [hd]; decide)) | skip
      all_goals rw [hr]
end Go.Abs.Lk
set_option maxRecDepth 100000
namespace Go.Abs.Lk
open Go.RowKit Go.Proofs Go.Abs.Tab Go.Abs.Dest Go.Abs.Span Go.Abs.Coll Go.Abs.Hx Go.Abs.Mt Go.Abs.Utf Go.Abs.Txt
attribute [local go_sem] Oper.semAt_some
theorem decC {u : List Int} {v : Value} {S : Nat → Prop} {w : World} (hu : u.length ≤ 1000000000) (hS : ∀ b, S b → b < w.heap.size) (h : RV0 w S (aI u) v) : Calls Tryz.prog 32 #[v] w fun e w' => ∃ x S2, e = .returned x ∧ RV0 w' S2 (aI (decU u)) x ∧ (∀ b, S2 b → b < w'.heap.size) ∧ Below w.heap.size w w' := by
  refine ((dec16 u hu).2 w S [v] hS ⟨rfl, fun i a x h1 h2 => ?_⟩).mono ?_
  · match i, h1, h2 with
    | 0, h1, h2 =>
      obtain rfl := Option.some.inj h1
      obtain rfl := Option.some.inj h2
      exact h
  · rintro e w' ⟨x, S', rfl, hr, _, hs', hb⟩
    refine ⟨x, fun b => S' b ∨ x.ownBlock = some b, rfl, row_sl (ρ := []) hr (fun b q => .inl q) (fun b q => .inr q), fun b q => ?_, hb⟩
    rcases q with q | q
    · exact (hs' b q).1
    · obtain ⟨⟨inner, hown, _⟩, _⟩ := hr
      rcases hown.2 with ⟨rfl, _⟩ | ⟨g, cap, cur, rfl, hbg, hg, _⟩
      · cases q
      · simp [Value.ownBlock] at q
        subst q
        exact (Array.getElem?_eq_some_iff.1 hg).1
theorem txtC {u : List Int} {v : Value} {S : Nat → Prop} {w : World} (hu : u.length < 4398046511104) (hS : ∀ b, S b → b < w.heap.size) (h : RV0 w S (aI u) v) : Calls Tryz.prog 34 #[v] w fun e w' => e = .returned (.string (encB u)) ∧ Below w.heap.size w w' := by
  refine ((text u hu).2 w S [v] hS ⟨rfl, fun i a x h1 h2 => ?_⟩).mono ?_
  · match i, h1, h2 with
    | 0, h1, h2 =>
      obtain rfl := Option.some.inj h1
      obtain rfl := Option.some.inj h2
      exact h
  · rintro e w' ⟨x, S', rfl, hr, _, _, hb⟩
    cases hr
    exact ⟨rfl, hb⟩
def oneS (rp : Int) (s : Sg) : List Int := if s.has = true then decU s.u else [rp]
def encS (rp : Int) (l : List Sg) : List UInt8 := l.flatMap fun s => enc (oneS rp s)
def txtS (rp : Int) (l : List Sg) : ByteArray := ⟨(encS rp l).toArray⟩
theorem encS_len (rp : Int) : ∀ (l : List Sg), (∀ s ∈ l, s.u.length ≤ 1000000) → (encS rp l).length ≤ 4000004 * l.length
  | [], _ => by simp [encS]
  | s :: l, h => by
    have ih := encS_len rp l (fun x hx => h x (List.mem_cons_of_mem _ hx))
    have h1 := enc_len (oneS rp s)
    have h2 : (oneS rp s).length ≤ 1000001 := by
      unfold oneS
      have := decU_len s.u
      have := h s List.mem_cons_self
      split
      · omega
      · simp
    unfold encS at ih ⊢
    rw [List.flatMap_cons, List.length_append, List.length_cons]
    omega
theorem sgCells {w : World} {S : Nat → Prop} {l : List Sg} {v : Value} (h : RV0 w S (aG l) v) : ∃ A c, v = .slice A l.length c ∧ l.length ≤ c ∧ ∀ i, i < l.length → ∃ ad uv, A = some ad ∧ S ad.block ∧ RV0 w S (aI (l.getD i default).u) uv ∧ ∀ j x, ([.int .i64 (l.getD i default).p.at_, .int .i64 (l.getD i default).p.n, .bool (l.getD i default).p.full, .int .i64 (l.getD i default).p.cn, .int .i64 (l.getD i default).p.cv, .int .i64 (l.getD i default).kind, .int .i64 (l.getD i default).cid, uv, .bool (l.getD i default).has] : List Value)[j]? = some x → w.cell? (ad.add (i * 9 + j)) = some x := by
  generalize ha : aG l = a at h
  cases h with
  | sl sz n el A cap g hcap hmax hl hm hr =>
    unfold aG at ha
    injection ha with h1 h2 h3
    subst h1 h2 h3
    refine ⟨A, cap, rfl, hcap, fun i hi => ?_⟩
    obtain ⟨ad, e1, e2, _⟩ := hm i 0 hi (by omega)
    have hc : ∀ j, j < 9 → w.cell? (ad.add (i * 9 + j)) = some (g i j) := fun j hj => by
      obtain ⟨ad', q1, _, q3⟩ := hm i j hi hj
      rw [e1] at q1
      cases q1
      exact q3
    have r0 := hr i 0 _ hi rfl
    have r1 := hr i 1 _ hi rfl
    have r2 := hr i 2 _ hi rfl
    have r3 := hr i 3 _ hi rfl
    have r4 := hr i 4 _ hi rfl
    have r5 := hr i 5 _ hi rfl
    have r6 := hr i 6 _ hi rfl
    have r7 := hr i 7 _ hi rfl
    have r8 := hr i 8 _ hi rfl
    refine ⟨ad, g i 7, e1, e2, r7, fun j x hx => ?_⟩
    have hj : j < 9 := (List.getElem?_eq_some_iff.1 hx).1
    rw [hc j hj]
    have hj' : j = 0 ∨ j = 1 ∨ j = 2 ∨ j = 3 ∨ j = 4 ∨ j = 5 ∨ j = 6 ∨ j = 7 ∨ j = 8 := by omega
    clear hm hc hr
    rcases hj' with rfl | rfl | rfl | rfl | rfl | rfl | rfl | rfl | rfl
    all_goals obtain rfl := Option.some.inj hx
    · generalize g i 0 = y at r0; cases r0; rfl
    · generalize g i 1 = y at r1; cases r1; rfl
    · generalize g i 2 = y at r2; cases r2; rfl
    · generalize g i 3 = y at r3; cases r3; rfl
    · generalize g i 4 = y at r4; cases r4; rfl
    · generalize g i 5 = y at r5; cases r5; rfl
    · generalize g i 6 = y at r6; cases r6; rfl
    · rfl
    · generalize g i 8 = y at r8; cases r8; rfl
  | _ => exact absurd ha (by unfold aG; intro h; cases h)
theorem intRow1 {w : World} {b : Nat} {c : Nat} {x : Int} (hc : 1 ≤ c) (hm : c ≤ maxLen) (h : w.cell? ⟨b, 0, none⟩ = some (.int .i64 x)) : RV0 w (fun k => k = b) (aI [x]) (.slice (some ⟨b, 0, none⟩) 1 c) := by
  refine .sl 1 1 _ _ c (fun _ _ => .int .i64 x) hc hm (fun i hi => ⟨rfl, rfl⟩) (fun i j hi hj => ?_) (fun i j a hi h1 => ?_)
  · obtain rfl : i = 0 := by omega
    obtain rfl : j = 0 := by omega
    exact ⟨_, rfl, rfl, h⟩
  · obtain rfl : i = 0 := by omega
    cases j with
    | zero =>
      obtain rfl := Option.some.inj h1
      exact .int _ _
    | succ j => simp [els, ci] at h1
theorem b_alloc {B : Nat} {a w : World} (h : Below B a w) (hB : B ≤ a.heap.size) (o : Obj) : Below B a (w.alloc o) := h.alloc (Nat.le_trans hB h.size) o
theorem enc_one (rp : Int) (s : Sg) (h : s.u.length ≤ 1000000) : (encB (oneS rp s)).size ≤ 4000004 := by
  have h1 := enc_len (oneS rp s)
  have h2 : (oneS rp s).length ≤ 1000001 := by
    unfold oneS
    have := decU_len s.u
    split
    · omega
    · simp
  show (enc (oneS rp s)).toArray.size ≤ _
  rw [List.size_toArray]
  omega
theorem strCells_enc (l : List Int) : Lib.strCells (encB l) = Lib.byteCells (enc l) := rfl
theorem txtNew (rp : Int) (wr : World) (o1 : Obj) : Calls Tryz.prog 34 #[.slice (some ⟨wr.heap.size + 1, 0, none⟩) 1 1] ((wr.alloc o1).alloc (.cells #[.int .i64 rp] 3)) fun e w' => e = .returned (.string (encB [rp])) ∧ Below ((wr.alloc o1).alloc (.cells #[.int .i64 rp] 3)).heap.size ((wr.alloc o1).alloc (.cells #[.int .i64 rp] 3)) w' := by
  have hsz : (wr.alloc o1).heap.size = wr.heap.size + 1 := Array.size_push ..
  have hsz2 : ((wr.alloc o1).alloc (.cells #[.int .i64 rp] 3)).heap.size = wr.heap.size + 2 := (Array.size_push ..).trans (congrArg (· + 1) hsz)
  have hnew := heap_alloc_new (wr.alloc o1) (.cells #[.int .i64 rp] 3)
  rw [hsz] at hnew
  refine txtC (u := [rp]) (S := fun k => k = wr.heap.size + 1) (by show 1 < 4398046511104; omega) (fun b q => by rw [hsz2]; omega) (intRow1 (Nat.le_refl _) (by decide) ?_)
  unfold World.cell?
  rw [hnew]
  rfl
set_option maxHeartbeats 8000000 in
theorem lookTextC (A0 : Option Addr) (c0 : Nat) (rp : Int) (l0 : List Sg) (S : Nat → Prop) (w : World) (hS : ∀ b, S b → b < w.heap.size) (hv : RV0 w S (aG l0) (.slice A0 l0.length c0)) (hl : l0.length ≤ 1000000) (hu : ∀ s ∈ l0, s.u.length ≤ 1000000) :
    Calls Tryz.prog 17 #[.slice A0 l0.length c0, .int .i64 rp] w fun e w' => e = .returned (.string (txtS rp l0)) ∧ Below w.heap.size w w' := by
  obtain ⟨A1, c1, e, hc, hcell⟩ := sgCells hv
  injection e with e1 e2 e3
  subst e1 e3
  have HL := Aside0.mk hl
  have HC := Aside0.mk hcell
  have HU := Aside0.mk hu
  have HS := Aside0.mk hS
  clear hl hcell hc hu hS hv
  go_enter Tryz.func17, Tryz.ntmps17
  go_wp2
  go_loopg [11] (l0.length + 1) (fun kq v8 w' => ∃ (i : Nat), v8 = .int .i64 (i : Nat) ∧ Aside0 (i ≤ l0.length ∧ l0.length + 1 ≤ kq + i) ∧ Aside0 (Lib.IsBuilderF 86 5 w.heap.size w.heap.size (Lib.byteCells (encS rp (l0.take i))) w') ∧ Aside0 (Below w.heap.size w w'))
  case atStart => exact ⟨0, rfl, ⟨by omega⟩, ⟨Lib.IsBuilderF.of (Lib.fresh_isBuilder 86 5 w)⟩, ⟨(Below.refl _ w).alloc (Nat.le_refl _) _⟩⟩
  case round =>
    obtain ⟨i, rfl, HI, HO, HB⟩ := hrel
    cases gk with
    | zero => have := HI.out; omega
    | succ k1 =>
      by_cases hi : i < l0.length
      · obtain ⟨ad, uv, ead, hsb, hru, hcl⟩ := HC.out i hi
        subst ead
        have hw : ∀ p : Addr, p.block = ad.block → wr.cell? p = w.cell? p := fun p hp => World.cell?_of_block (by rw [hp]; exact HB.out.block _ (HS.out _ hsb))
        obtain ⟨sg, hsg⟩ : ∃ sg, sg = l0.getD i default := ⟨_, rfl⟩
        rw [← hsg] at hru hcl
        have hab : ∀ n, (ad.add n).block = ad.block := fun n => by unfold Addr.add; split <;> rfl
        have hao : (ad.add (i * 9)).off = ad.off + i * 9 := by unfold Addr.add; split <;> first | rfl | (rename_i h; omega)
        have hadd : ∀ j, 0 < j → (⟨(ad.add (i * 9)).block, (ad.add (i * 9)).off + j, none⟩ : Addr) = ad.add (i * 9 + j) := fun j hj => by
          rw [hab, hao]
          unfold Addr.add
          rw [if_neg (by omega), Nat.add_assoc]
        have hx0 : wr.cell? (ad.add (i * 9)) = some (.int .i64 sg.p.at_) := (hw _ (hab _)).trans (hcl 0 _ rfl)
        have hx1 : wr.cell? ⟨(ad.add (i * 9)).block, (ad.add (i * 9)).off + 1, none⟩ = some (.int .i64 sg.p.n) := by rw [hadd 1 (by omega)]; exact (hw _ (hab _)).trans (hcl 1 _ rfl)
        have hx2 : wr.cell? ⟨(ad.add (i * 9)).block, (ad.add (i * 9)).off + 2, none⟩ = some (.bool sg.p.full) := by rw [hadd 2 (by omega)]; exact (hw _ (hab _)).trans (hcl 2 _ rfl)
        have hx3 : wr.cell? ⟨(ad.add (i * 9)).block, (ad.add (i * 9)).off + 3, none⟩ = some (.int .i64 sg.p.cn) := by rw [hadd 3 (by omega)]; exact (hw _ (hab _)).trans (hcl 3 _ rfl)
        have hx4 : wr.cell? ⟨(ad.add (i * 9)).block, (ad.add (i * 9)).off + 4, none⟩ = some (.int .i64 sg.p.cv) := by rw [hadd 4 (by omega)]; exact (hw _ (hab _)).trans (hcl 4 _ rfl)
        have hx5 : wr.cell? ⟨(ad.add (i * 9)).block, (ad.add (i * 9)).off + 5, none⟩ = some (.int .i64 sg.kind) := by rw [hadd 5 (by omega)]; exact (hw _ (hab _)).trans (hcl 5 _ rfl)
        have hx6 : wr.cell? ⟨(ad.add (i * 9)).block, (ad.add (i * 9)).off + 6, none⟩ = some (.int .i64 sg.cid) := by rw [hadd 6 (by omega)]; exact (hw _ (hab _)).trans (hcl 6 _ rfl)
        have hx7 : wr.cell? ⟨(ad.add (i * 9)).block, (ad.add (i * 9)).off + 7, none⟩ = some uv := by rw [hadd 7 (by omega)]; exact (hw _ (hab _)).trans (hcl 7 _ rfl)
        have hx8 : wr.cell? ⟨(ad.add (i * 9)).block, (ad.add (i * 9)).off + 8, none⟩ = some (.bool sg.has) := by rw [hadd 8 (by omega)]; exact (hw _ (hab _)).trans (hcl 8 _ rfl)
        have htk : encS rp (l0.take (i + 1)) = encS rp (l0.take i) ++ enc (oneS rp sg) := by
          rw [List.take_succ_eq_append_getElem hi, hsg]
          unfold encS
          rw [List.flatMap_append]
          simp [List.getD, hi]
        have hsu : sg.u.length ≤ 1000000 := by
          rw [hsg]
          have : l0.getD i default = l0[i] := by simp [List.getD, hi]
          rw [this]
          exact HU.out _ (List.getElem_mem hi)
        obtain ⟨Au, cu, rfl, _⟩ := intCells hru
        have p0 : (0 ≤ (i : Int)) = True := eq_true (by omega)
        have p1 : ((i : Int) < (l0.length : Int)) = True := eq_true (by omega)
        have HTK := Aside0.mk htk
        have HLi := Aside0.mk hi
        have HSU := Aside0.mk hsu
        have HRU := Aside0.mk hru
        clear htk hsu hsg hcl hru hw hadd hab hao hsb
        have hln := encS_len rp (l0.take i) (fun x hx => HU.out x (List.mem_of_mem_take hx))
        rw [List.length_take] at hln
        have HLN := Aside0.mk (show (encS rp (l0.take i)).length ≤ 4000004 * i by omega)
        have HEN := Aside0.mk (enc_one rp sg HSU.out)
        clear hln
        have HBA := Aside0.mk (show ∀ o1 o2, Below w.heap.size w ((wr.alloc o1).alloc o2) from fun o1 o2 => b_alloc (b_alloc HB.out (Nat.le_refl _) o1) (Nat.le_refl _) o2)
        have HOA := Aside0.mk (show ∀ o1 o2, Lib.IsBuilderF 86 5 w.heap.size w.heap.size (Lib.byteCells (encS rp (l0.take i))) ((wr.alloc o1).alloc o2) from fun o1 o2 => (HO.out.alloc o1).alloc o2)
        cases hb : sg.has with
        | true =>
          rw [hb] at hx8
          have ho1 : oneS rp sg = decU sg.u := if_pos hb
          have HO1 := Aside0.mk ho1
          clear ho1
          go_wp2_with (first | (go_at_call 32; refine (decC (u := sg.u) (S := S) (by have := HSU.out; omega) (fun b q => Nat.lt_of_lt_of_le (HS.out b q) (HBA.out _ _).size) (HRU.out.mono (fun _ q => q) (fun b q => (HBA.out _ _).block b (HS.out b q)))).mono ?_; rintro e w1 ⟨x, S2, rfl, hx, hs2, hb1⟩; have HX := Aside0.mk hx; have HS2 := Aside0.mk hs2; have HB1 := Aside0.mk hb1; clear hx hs2 hb1) | (go_at_call 34; refine (txtC (u := decU sg.u) (S := S2) (by have := HSU.out; have := decU_len sg.u; omega) HS2.out HX.out).mono ?_; rw [← HO1.out]; rintro e w2 ⟨rfl, hb2⟩; have HB2 := Aside0.mk hb2; have HBM := Aside0.mk ((HBA.out _ _).trans (HB1.out.mono (HBA.out _ _).size)); have HBN := Aside0.mk (HBM.out.trans (HB2.out.mono HBM.out.size)); have HOB := Aside0.mk (isB_below (isB_below (HOA.out _ _) HB1.out) HB2.out); clear hb2) | (go_at_call 33; refine (Tryz.Builder_WriteString_k w.heap.size w.heap.size (Lib.byteCells (encS rp (l0.take i))) (encB (oneS rp sg)) _ HOB.out (by rw [Lib.byteCells_length]; have := HL.out; have := HLN.out; have := HEN.out; omega) HBN.out.size).mono ?_; rintro e W1 ⟨rfl, h1, b1, _⟩))
          go_roundg k1
          case measure => have := HI.out; omega
          case rel => exact ⟨i + 1, (by first | rfl | (have := HL.out; have := HLi.out; congr 1; unfold wrap64; omega) | (have := HL.out; have := HLi.out; simp [wrap64]; omega)), ⟨by have := HI.out; omega⟩, ⟨by rw [HTK.out, Lib.byteCells_append, ← strCells_enc]; exact Or.inr h1⟩, ⟨HBN.out.trans b1⟩⟩
        | false =>
          rw [hb] at hx8
          have ho1 : oneS rp sg = [rp] := if_neg (by rw [hb]; decide)
          have HO1 := Aside0.mk ho1
          clear ho1
          go_wp2_with (first | (go_at_call 34; refine (txtNew rp wr _).mono ?_; rw [← HO1.out]; rintro e w2 ⟨rfl, hb2⟩; have HB2 := Aside0.mk hb2; have HBN := Aside0.mk ((HBA.out _ _).trans (HB2.out.mono (HBA.out _ _).size)); have HOB := Aside0.mk (isB_below (HOA.out _ _) HB2.out); clear hb2) | (go_at_call 33; refine (Tryz.Builder_WriteString_k w.heap.size w.heap.size (Lib.byteCells (encS rp (l0.take i))) (encB (oneS rp sg)) _ HOB.out (by rw [Lib.byteCells_length]; have := HL.out; have := HLN.out; have := HEN.out; omega) HBN.out.size).mono ?_; rintro e W1 ⟨rfl, h1, b1, _⟩))
          go_roundg k1
          case measure => have := HI.out; omega
          case rel => exact ⟨i + 1, (by first | rfl | (have := HL.out; have := HLi.out; congr 1; unfold wrap64; omega) | (have := HL.out; have := HLi.out; simp [wrap64]; omega)), ⟨by have := HI.out; omega⟩, ⟨by rw [HTK.out, Lib.byteCells_append, ← strCells_enc]; exact Or.inr h1⟩, ⟨HBN.out.trans b1⟩⟩
      · obtain rfl : i = l0.length := by have := HI.out; omega
        have ho := HO.out
        rw [List.take_length] at ho
        clear HO
        have HO := Aside0.mk ho
        clear ho
        go_wp2_with (go_at_call 35; refine (Tryz.Builder_String_any_k w.heap.size w.heap.size (encS rp l0) _ HO.out (HB.out.size)).mono ?_; rintro e W1 ⟨rfl, _, b1, _⟩)
        go_ret
        exact ⟨rfl, HB.out.trans b1⟩
def STxtS : Sp := ⟨List Sg × Int, fun (l, rp) => l.length ≤ 1000000 ∧ ∀ s ∈ l, s.u.length ≤ 1000000, fun (l, rp) => [aG l, .int .i64 rp], fun (l, rp) => .st (.str (txtS rp l))⟩
theorem lookText : SpOK Tryz.prog 17 STxtS := fun ⟨l, rp⟩ ⟨hl, hu⟩ => by
  refine ⟨⟨_, Tryz.func17, rfl, rfl⟩, fun w S vs hS hv => ?_⟩
  obtain ⟨hl1, hv2⟩ := hv
  match vs, hl1, hv2 with
  | [v, u], hl1, hv2 =>
    have h0 := hv2 0 _ _ rfl rfl
    have h1 := hv2 1 _ _ rfl rfl
    cases h1
    obtain ⟨A, c, rfl, _, _⟩ := sgCells h0
    refine (lookTextC A c rp l S w hS h0 hl hu).mono ?_
    rintro e w' ⟨rfl, hb⟩
    exact ⟨_, S, rfl, .str _, fun _ q => q, fun b q => ⟨Nat.lt_of_lt_of_le (hS b q) hb.size, .inl q⟩, hb⟩
end Go.Abs.Lk
set_option maxRecDepth 100000
namespace Go.Abs.Lk
open Go.RowKit Go.Proofs Go.Abs.Tab Go.Abs.Dest Go.Abs.Span Go.Abs.Coll Go.Abs.Hx Go.Abs.Mt Go.Abs.Utf Go.Abs.Txt
theorem aL_refl {α : Type} [Inhabited α] {f : α → List AV} {sz : Nat} (hf : Emb f sz) (l : List α) : sub0 (aL f sz l) (aL f sz l) := by
  show cond (Nat.beq sz sz) _ False
  rw [Nat.beq_refl]
  exact ⟨⟨rfl⟩, els_of hf (n := 0) (fun _ _ => rfl)⟩
theorem aL_lit {α : Type} [Inhabited α] {f : α → List AV} {sz : Nat} (hf : Emb f sz) (l : List α) : sub0 (aL f sz l) (.sl sz l.length (elt (l.map f))) := (lit_sub hf l).1
set_option maxHeartbeats 4000000 in
theorem table12 : SpOK Tryz.prog 8 STab := fun (t : Tbl) _ => by
  have hC := base
  ((refine Fn.ofF hC Tryz.func8 Tryz.ntmps8 rfl rfl rfl ?_); (repeat' first | (with_reducible exact trivial) | (with_reducible rfl) | (refine And.intro ?_ ?_) | (refine Need.mk ?_) | exact True.intro | (first | (refine ⟨_, Told.refl _, ?_, ?_⟩) | (refine ⟨⟨_, _⟩, Told.refl _, ?_, ?_⟩) | (refine ⟨⟨_, _, _⟩, Told.refl _, ?_, ?_⟩) | (refine ⟨⟨_, _, _, _⟩, Told.refl _, ?_, ?_⟩) | (refine ⟨⟨_, _, _, _, _⟩, Told.refl _, ?_, ?_⟩) | (refine ⟨(), Told.refl _, ?_, ?_⟩)) | (with_reducible intro _) | (refine fun (_ : Bool) => ?_)))
def SAwakeL : Sp := ⟨Unit, fun _ => True, fun _ => [], fun _ => .st (.lit true)⟩
def tL : Tbl := ⟨ByteArray.empty, 0, [⟨1, 0, 255⟩], [⟨1, 65, 66, 7⟩], [], [⟨1, 65, 65, [913]⟩]⟩
def SLookA (L : List Sg) : Sp := ⟨Unit, fun _ => True, fun _ => [.agg (cT tL), a8 [65, 66]], fun _ => .row 63 9 L.length (els cG L)⟩
set_option maxHeartbeats 16000000 in
theorem awake12 : SpOK Tryz.prog 5 SAwakeL := fun _ _ => by
  obtain ⟨L, hL⟩ : ∃ L, L = sgs tL [65, 66] := ⟨_, rfl⟩
  have hA : SpOK Tryz.prog 15 (SLookA L) := fun _ _ => by
    have := look (tL, [65, 66]) ⟨⟨by decide, by decide, by decide, by decide⟩, by decide, fun x hx => by
      simp only [List.mem_cons, List.not_mem_nil, or_false] at hx
      rcases hx with rfl | rfl <;> decide⟩
    rw [hL]
    exact this
  have hC : COK Tryz.prog (cfg [(15, SLookA L), (17, STxtS)]) := Ty.ty.cfg ⟨hA, lookText, trivial⟩
  have h0 : (sgs tL [65, 66]).length = 2 := by decide +kernel
  have h1 : ((sgs tL [65, 66]).getD 0 default).has = true := by decide +kernel
  have h2 : ((sgs tL [65, 66]).getD 0 default).cid = 7 := by decide +kernel
  have h3 : ((sgs tL [65, 66]).getD 0 default).kind = 1 := by decide +kernel
  have h4 : ((sgs tL [65, 66]).getD 1 default).has = false := by decide +kernel
  have h5 : ((sgs tL [65, 66]).getD 1 default).cid = 8 := by decide +kernel
  have h6 : (txtS 63 (sgs tL [65, 66]) == (⟨#[206, 145, 63]⟩ : ByteArray)) = true := by decide +kernel
  have h7 : ∀ s ∈ sgs tL [65, 66], s.u.length ≤ 1000000 := by decide +kernel
  rw [beq_toListBytes] at h6
  rw [← hL] at h0 h1 h2 h3 h4 h5 h6 h7
  ((refine Fn.ofF hC Tryz.func5 Tryz.ntmps5 rfl rfl rfl ?_); (repeat' first | (with_reducible exact trivial) | (with_reducible rfl) | (refine And.intro ?_ ?_) | (refine Need.mk ?_) | exact True.intro | (first | (refine ⟨_, Told.refl _, ?_, ?_⟩) | (refine ⟨⟨_, _⟩, Told.refl _, ?_, ?_⟩) | (refine ⟨⟨_, _, _⟩, Told.refl _, ?_, ?_⟩) | (refine ⟨⟨_, _, _, _⟩, Told.refl _, ?_, ?_⟩) | (refine ⟨⟨_, _, _, _, _⟩, Told.refl _, ?_, ?_⟩) | (refine ⟨(), Told.refl _, ?_, ?_⟩)) | (with_reducible intro _) | (refine fun (_ : Bool) => ?_)))
  refine Exists.intro () (And.intro (Told.of ?_) (And.intro ?_ ?_))
  · refine ⟨⟨⟨rfl⟩, ⟨rfl⟩, aL_lit cR_emb [⟨1, 0, 255⟩], aL_lit cSp_emb [⟨1, 65, 66, 7⟩], ⟨rfl⟩, ⟨⟨rfl⟩, fun i hi => ?_⟩, trivial⟩, aL_lit c8_emb [65, 66], trivial⟩
    have hi : i < 1 := hi
    obtain rfl : i = 0 := by omega
    exact ⟨⟨rfl⟩, ⟨rfl⟩, ⟨rfl⟩, aL_lit ci_emb [913], trivial⟩
  · trivial
  (repeat' first | (with_reducible exact trivial) | (with_reducible rfl) | (refine And.intro ?_ ?_) | (refine Need.mk ?_) | exact True.intro | (first | (refine ⟨_, Told.refl _, ?_, ?_⟩) | (refine ⟨⟨_, _⟩, Told.refl _, ?_, ?_⟩) | (refine ⟨⟨_, _, _⟩, Told.refl _, ?_, ?_⟩) | (refine ⟨⟨_, _, _, _⟩, Told.refl _, ?_, ?_⟩) | (refine ⟨⟨_, _, _, _, _⟩, Told.refl _, ?_, ?_⟩) | (refine ⟨(), Told.refl _, ?_, ?_⟩)) | (with_reducible intro _) | (refine fun (_ : Bool) => ?_))
  all_goals first
    | omega
    | exact h7 _ ‹_›
    | exact h6
    | (exact absurd ‹((L.length : Int) == 2) = false› (by rw [h0]; decide))
    | (exact absurd ‹(L.getD (Int.toNat 0) default).has = false› (by rw [show (L.getD (Int.toNat 0) default).has = true from h1]; decide))
    | (exact absurd ‹((L.getD (Int.toNat 0) default).cid == 7) = false› (by rw [show (L.getD (Int.toNat 0) default).cid = 7 from h2]; decide))
    | (exact absurd ‹((L.getD (Int.toNat 0) default).kind == 1) = false› (by rw [show (L.getD (Int.toNat 0) default).kind = 1 from h3]; decide))
    | (exact absurd ‹(!(L.getD (Int.toNat 1) default).has) = false› (by rw [show (L.getD (Int.toNat 1) default).has = false from h4]; decide))
    | (exact absurd ‹((L.getD (Int.toNat 1) default).cid == 8) = false› (by rw [show (L.getD (Int.toNat 1) default).cid = 8 from h5]; decide))
theorem findS_nil (st : Bool) (n v : Int) : (ES st).find [] n v = none := by
  unfold En.find
  split <;> rfl
def SKinds : Sp := ⟨Tbl × Int × Int, fun _ => True, fun (t, n, v) => [.agg (cT t), aCode n v], fun _ => .st (.lit true)⟩
end Go.Abs.Lk
set_option maxRecDepth 100000
namespace Go.Abs.Txt
open Go.RowKit Go.Proofs Go.Abs.Utf Go.Abs.Hx
def pairR (a b : Int) : Int := IntKind.i64.wrap (IntKind.i64.wrap (IntKind.i64.wrap (65536 + IntKind.i64.wrap (IntKind.i64.wrap (a - 55296) * 1024)) + b) - 56320)
theorem pairRW {a b : Int} (h1 : highB a = true) (h2 : lowB b = true) : pairR a b = 65536 + (a - 55296) * 1024 + b - 56320 := by
  unfold pairR
  unfold highB at h1
  unfold lowB at h2
  rw [decide_eq_true_eq] at h1 h2
  simp only [IntKind.wrap_i64]
  omega
theorem drop_cons {l : List Int} {i : Nat} (h : i < l.length) : l.drop i = l.getD i default :: l.drop (i + 1) := by
  rw [List.drop_eq_getElem_cons h]
  simp [List.getD, h]
set_option maxHeartbeats 4000000 in
theorem rdec16 : SpOK Tryz.prog 37 SDec := fun (l : List Int) hl => by
  have hC : COK Tryz.prog (cfg [(65, SHigh), (66, SLow), (64, SGd)]) := Ty.ty.cfg ⟨rhigh, rlow, rgdf, trivial⟩
  have hl : l.length ≤ 1000000000 := hl
  ((refine Fn.ofF hC Tryz.func37 Tryz.ntmps37 rfl rfl rfl ?_); (repeat' first | (with_reducible exact trivial) | (with_reducible rfl) | (refine And.intro ?_ ?_) | (refine Need.mk ?_) | exact True.intro | (first | (refine ⟨_, Told.refl _, ?_, ?_⟩) | (refine ⟨⟨_, _⟩, Told.refl _, ?_, ?_⟩) | (refine ⟨⟨_, _, _⟩, Told.refl _, ?_, ?_⟩) | (refine ⟨⟨_, _, _, _⟩, Told.refl _, ?_, ?_⟩) | (refine ⟨⟨_, _, _, _, _⟩, Told.refl _, ?_, ?_⟩) | (refine ⟨(), Told.refl _, ?_, ?_⟩)) | (with_reducible intro _) | (refine fun (_ : Bool) => ?_)))
  refine AW.loop (I := fun x : Nat × List Int => ⟨67, [(0, aI l), (3, .own 0), (4, .int .i64 x.1)], [.row 3 1 x.2.length (els ci x.2)]⟩) (fun x => x.1 ≤ l.length ∧ x.2.length ≤ x.1 ∧ decU l = x.2 ++ decU (l.drop x.1)) (fun x => l.length - x.1) (0, []) ⟨Nat.zero_le _, Nat.le_refl _, rfl⟩ ?_ ?_
  · (repeat' first | (with_reducible exact trivial) | (with_reducible rfl) | (refine And.intro ?_ ?_) | (refine Need.mk ?_) | exact True.intro | (first | (refine ⟨_, Told.refl _, ?_, ?_⟩) | (refine ⟨⟨_, _⟩, Told.refl _, ?_, ?_⟩) | (refine ⟨⟨_, _, _⟩, Told.refl _, ?_, ?_⟩) | (refine ⟨⟨_, _, _, _⟩, Told.refl _, ?_, ?_⟩) | (refine ⟨⟨_, _, _, _, _⟩, Told.refl _, ?_, ?_⟩) | (refine ⟨(), Told.refl _, ?_, ?_⟩)) | (with_reducible intro _) | (refine fun (_ : Bool) => ?_))
    all_goals rfl
  · rintro ⟨i, out⟩ ⟨h1, h2, h3⟩
    dsimp only at h1 h2 h3 ⊢
    rcases Nat.lt_or_ge i l.length with hlt | hge
    · have hd : decide ((i : Int) < (l.length : Int)) = true := decide_eq_true (by omega)
      have hw := iw (n := (i : Int) + 1) (by omega) (by omega)
      have hw2 := iw (n := (i : Int) + 1 + 1) (by omega) (by omega)
      have ht : ((i : Int) + 1).toNat = i + 1 := by omega
      have hwk : ∀ j : Nat, j ≤ 1000000001 → IntKind.i64.wrap ((j : Int) + 1) = ((j + 1 : Nat) : Int) := fun j hj => by rw [iw (by omega) (by omega)]; omega
      have hda := drop_cons hlt
      by_cases hp : i + 1 < l.length ∧ highB (l.getD i default) = true ∧ lowB (l.getD (i + 1) default) = true
      · have h5 : decU l = (out ++ [pairR (l.getD i default) (l.getD (i + 1) default)]) ++ decU (l.drop (i + 2)) := by
          rw [h3, hda, drop_cons hp.1, decU_pair hp.2.1 hp.2.2, pairRW hp.2.1 hp.2.2, List.append_assoc]
          rfl
        have hd2 : decide ((i : Int) + 1 < (l.length : Int)) = true := decide_eq_true (by omega)
        ((refine AW.byF ‹_› ?_); (repeat' first | (with_reducible exact trivial) | (with_reducible rfl) | (refine And.intro ?_ ?_) | (refine Need.mk ?_) | exact True.intro | (first | (refine ⟨_, Told.refl _, ?_, ?_⟩) | (refine ⟨⟨_, _⟩, Told.refl _, ?_, ?_⟩) | (refine ⟨⟨_, _, _⟩, Told.refl _, ?_, ?_⟩) | (refine ⟨⟨_, _, _, _⟩, Told.refl _, ?_, ?_⟩) | (refine ⟨⟨_, _, _, _, _⟩, Told.refl _, ?_, ?_⟩) | (refine ⟨(), Told.refl _, ?_, ?_⟩)) | (with_reducible intro _) | (refine fun (_ : Bool) => ?_)))
        all_goals try simp only [hw, ht, Int.toNat_natCast] at *
        all_goals first | (exact absurd ‹decide ((i : Int) < (l.length : Int)) = false› (by rw [hd]; decide)) | (exact absurd ‹decide ((i : Int) + 1 < (l.length : Int)) = false› (by rw [hd2]; decide)) | (exact absurd ‹highB (l.getD i default) = false› (by rw [hp.2.1]; decide)) | (exact absurd ‹lowB (l.getD (i + 1) default) = false› (by rw [hp.2.2]; decide)) | skip
        any_goals (refine Exists.intro ((i + 2, out ++ [pairR (l.getD i default) (l.getD (i + 1) default)]) : Nat × List Int) (And.intro ?_ (And.intro ?_ ?_)); all_goals (repeat' first | (with_reducible exact trivial) | (with_reducible rfl) | (refine And.intro ?_ ?_) | (refine Need.mk ?_) | exact True.intro | (first | (refine ⟨_, Told.refl _, ?_, ?_⟩) | (refine ⟨⟨_, _⟩, Told.refl _, ?_, ?_⟩) | (refine ⟨⟨_, _, _⟩, Told.refl _, ?_, ?_⟩) | (refine ⟨⟨_, _, _, _⟩, Told.refl _, ?_, ?_⟩) | (refine ⟨⟨_, _, _, _, _⟩, Told.refl _, ?_, ?_⟩) | (refine ⟨(), Told.refl _, ?_, ?_⟩)) | (with_reducible intro _) | (refine fun (_ : Bool) => ?_)))
        all_goals try simp only [hw, hw2, ht, Int.toNat_natCast] at *
        all_goals first
          | exact h5
          | (rename_i i hi; exact els_of ci_emb (n := 0) (cat_snoc rfl) i hi)
          | (rw [List.length_append]; rfl)
          | omega
          | (rw [List.length_append, List.length_singleton]; omega)
          | (rw [hwk i (by omega), hwk (i + 1) (by omega)]; done)
          | (rw [hwk i (by omega)]; done)
          | (refine ⟨by omega, ?_, h5⟩; rw [List.length_append, List.length_singleton]; omega)
          | (show (out.length + 1) * 8 ≤ _; omega)
          | (show l.length - (i + 2) < l.length - i; omega)
      · have h5 : decU l = (out ++ [oneU (l.getD i default)]) ++ decU (l.drop (i + 1)) := by
          rw [h3, hda, decU_one (fun b' r' e hh => by
            by_cases q : i + 1 < l.length
            · rw [drop_cons q] at e
              injection e with e1 e2
              subst e1
              exact hp ⟨q, hh⟩
            · rw [List.drop_eq_nil_of_le (by omega)] at e
              cases e), List.append_assoc]
          rfl
        ((refine AW.byF ‹_› ?_); (repeat' first | (with_reducible exact trivial) | (with_reducible rfl) | (refine And.intro ?_ ?_) | (refine Need.mk ?_) | exact True.intro | (first | (refine ⟨_, Told.refl _, ?_, ?_⟩) | (refine ⟨⟨_, _⟩, Told.refl _, ?_, ?_⟩) | (refine ⟨⟨_, _, _⟩, Told.refl _, ?_, ?_⟩) | (refine ⟨⟨_, _, _, _⟩, Told.refl _, ?_, ?_⟩) | (refine ⟨⟨_, _, _, _, _⟩, Told.refl _, ?_, ?_⟩) | (refine ⟨(), Told.refl _, ?_, ?_⟩)) | (with_reducible intro _) | (refine fun (_ : Bool) => ?_)))
        all_goals try simp only [hw, ht, Int.toNat_natCast] at *
        all_goals first | (exact absurd ‹decide ((i : Int) < (l.length : Int)) = false› (by rw [hd]; decide)) | (exact absurd (And.intro (by have := of_decide_eq_true ‹decide ((i : Int) + 1 < (l.length : Int)) = true›; omega) (And.intro ‹highB (l.getD i default) = true› ‹lowB (l.getD (i + 1) default) = true›)) hp) | skip
        any_goals (refine Exists.intro ((i + 1, out ++ [oneU (l.getD i default)]) : Nat × List Int) (And.intro ?_ (And.intro ?_ ?_)); all_goals (repeat' first | (with_reducible exact trivial) | (with_reducible rfl) | (refine And.intro ?_ ?_) | (refine Need.mk ?_) | exact True.intro | (first | (refine ⟨_, Told.refl _, ?_, ?_⟩) | (refine ⟨⟨_, _⟩, Told.refl _, ?_, ?_⟩) | (refine ⟨⟨_, _, _⟩, Told.refl _, ?_, ?_⟩) | (refine ⟨⟨_, _, _, _⟩, Told.refl _, ?_, ?_⟩) | (refine ⟨⟨_, _, _, _, _⟩, Told.refl _, ?_, ?_⟩) | (refine ⟨(), Told.refl _, ?_, ?_⟩)) | (with_reducible intro _) | (refine fun (_ : Bool) => ?_)))
        all_goals try simp only [hw, ht, Int.toNat_natCast] at *
        all_goals first
          | exact h5
          | (rename_i j hi
             have q := of_decide_eq_true ‹decide (l.getD i default > 65535) = true›
             have e : oneU (l.getD i default) = 65533 := if_pos q
             rw [e] at hi ⊢
             exact els_of ci_emb (n := 0) (cat_snoc rfl) j hi)
          | (rename_i j hi
             have q := of_decide_eq_false ‹decide (l.getD i default > 65535) = false›
             have e : oneU (l.getD i default) = gd (l.getD i default) := if_neg q
             rw [e] at hi ⊢
             exact els_of ci_emb (n := 0) (cat_snoc rfl) j hi)
          | (have q := of_decide_eq_true ‹decide ((i : Int) + 1 < (l.length : Int)) = true›; omega)
          | (rw [List.length_append]; rfl)
          | omega
          | (rw [List.length_append, List.length_singleton]; omega)
          | (rw [hwk i (by omega), hwk (i + 1) (by omega)]; done)
          | (rw [hwk i (by omega)]; done)
          | (refine ⟨by omega, ?_, h5⟩; rw [List.length_append, List.length_singleton]; omega)
          | (show (out.length + 1) * 8 ≤ _; omega)
    · obtain rfl : i = l.length := by omega
      have hd : decide ((l.length : Int) < (l.length : Int)) = false := decide_eq_false (by omega)
      have h4 : decU l = out := by rw [h3, List.drop_length]; simp [decU]
      ((refine AW.byF ‹_› ?_); (repeat' first | (with_reducible exact trivial) | (with_reducible rfl) | (refine And.intro ?_ ?_) | (refine Need.mk ?_) | exact True.intro | (first | (refine ⟨_, Told.refl _, ?_, ?_⟩) | (refine ⟨⟨_, _⟩, Told.refl _, ?_, ?_⟩) | (refine ⟨⟨_, _, _⟩, Told.refl _, ?_, ?_⟩) | (refine ⟨⟨_, _, _, _⟩, Told.refl _, ?_, ?_⟩) | (refine ⟨⟨_, _, _, _, _⟩, Told.refl _, ?_, ?_⟩) | (refine ⟨(), Told.refl _, ?_, ?_⟩)) | (with_reducible intro _) | (refine fun (_ : Bool) => ?_)))
      all_goals first | (exact absurd ‹decide ((l.length : Int) < (l.length : Int)) = true› (by rw [hd]; decide)) | skip
      all_goals rw [h4]
end Go.Abs.Txt
set_option maxRecDepth 100000
namespace Go.Abs.Txt
open Go.RowKit Go.Proofs Go.Abs.Utf Go.Abs.Hx
def encZ (l : List Int) : List Int := l.flatMap fun x => Lib.encodeRuneZ (gd x)
theorem bStr_eq (ns : List Int) : bStr ns = ⟨(ns.map fun n => UInt8.ofNat n.toNat).toArray⟩ := by
  have key : ∀ (l : List Int) (r : ByteArray), l.foldl (fun r n => r.push (UInt8.ofNat n.toNat)) r = ⟨r.data ++ (l.map fun n => UInt8.ofNat n.toNat).toArray⟩ := by
    intro l
    induction l with
    | nil => intro r; simp
    | cons x l ih =>
      intro r
      rw [List.foldl_cons, ih]
      simp [ByteArray.push]
  unfold bStr
  rw [key]
  rw [show ByteArray.empty.data = #[] from rfl, Array.empty_append]
theorem elStr_a8 (l : List Int) : elStr l.length (els c8 l) = bStr l := by
  unfold elStr
  congr 1
  apply List.ext_getElem
  · simp
  · intro i h1 h2
    have h3 : i < l.length := h2
    simp only [List.getElem_map, List.getElem_range]
    show (u8v (c8 (l.getD i default))).getD 0 = l[i]
    have : l.getD i default = l[i] := by simp [List.getD, h3]
    rw [this]
    rfl
theorem encB_Z (l : List Int) : encB l = bStr (encZ l) := by
  rw [bStr_eq]
  unfold encB enc encZ
  congr 2
  induction l with
  | nil => rfl
  | cons x l ih =>
    rw [List.flatMap_cons, List.flatMap_cons, List.map_append, ← ih]
    rfl
theorem encZ_next {l : List Int} {k : Nat} (hk : k < l.length) : encZ (l.take (k + 1)) = encZ (l.take k) ++ Lib.encodeRuneZ (gd (l.getD k default)) := by
  unfold encZ
  rw [List.take_succ_eq_append_getElem hk, List.flatMap_append]
  simp [List.getD, hk]
theorem encZ_len (l : List Int) : (encZ l).length ≤ 4 * l.length := by
  induction l with
  | nil => exact Nat.le_refl _
  | cons x l ih =>
    have := (Lib.encodeRuneZ_length (gd x)).2
    unfold encZ at ih ⊢
    rw [List.flatMap_cons, List.length_append, List.length_cons]
    omega
theorem gd_good (n : Int) : goodB (gd n) = true := by
  unfold gd
  split
  · assumption
  · decide
theorem fD {n : Int} (h : 0 ≤ n) (h2 : n ≤ 1114111) (k : Nat) : IntKind.i64.wrap (n.tdiv (k : Int)) = n / (k : Int) := by
  have q := Int.ediv_nonneg h (Int.natCast_nonneg k)
  have q2 : n / (k : Int) ≤ n := Int.ediv_le_self _ h
  rw [Int.tdiv_eq_ediv_of_nonneg h, iw (by omega) (by omega)]
theorem fM {n : Int} (h : 0 ≤ n) : n.tmod 64 = n % 64 := Int.tmod_eq_emod_of_nonneg h
theorem fW {n : Int} (h : 0 ≤ n) (h2 : n ≤ 255) : IntKind.u8.wrap (IntKind.i64.wrap n) = n := by
  simp only [IntKind.wrap_u8, IntKind.wrap_i64]
  omega
theorem form1 {n : Int} (h0 : 0 ≤ n) (h1 : n ≤ 127) : Lib.encodeRuneZ n = [IntKind.u8.wrap n] := by
  rw [Lib.encodeRuneZ_one h0 h1]
  congr 1
  rw [IntKind.wrap_u8]
  omega
theorem form2 {n : Int} (h0 : 128 ≤ n) (h1 : n ≤ 2047) : Lib.encodeRuneZ n = [IntKind.u8.wrap (IntKind.i64.wrap (192 + IntKind.i64.wrap (n.tdiv (64 : Nat)))), IntKind.u8.wrap (IntKind.i64.wrap (128 + n.tmod 64))] := by
  rw [Lib.encodeRuneZ_two h0 h1, fD (by omega) (by omega), fM (by omega), fW (by omega) (by omega), fW (by omega) (by omega)]
  rfl
theorem form3 {n : Int} (h0 : 0 ≤ n) (h1 : n ≤ 65535) (h : (2048 ≤ n ∧ n < 55296) ∨ (57343 < n ∧ n ≤ 65535)) : Lib.encodeRuneZ n = [IntKind.u8.wrap (IntKind.i64.wrap (224 + IntKind.i64.wrap (n.tdiv (4096 : Nat)))), IntKind.u8.wrap (IntKind.i64.wrap (128 + (IntKind.i64.wrap (n.tdiv (64 : Nat))).tmod 64)), IntKind.u8.wrap (IntKind.i64.wrap (128 + n.tmod 64))] := by
  rw [Lib.encodeRuneZ_three h, fD (by omega) (by omega), fD (by omega) (by omega), fM (by omega), fM (by omega), fW (by omega) (by omega), fW (by omega) (by omega), fW (by omega) (by omega)]
  rfl
theorem form4 {n : Int} (h0 : 65536 ≤ n) (h1 : n ≤ 1114111) : Lib.encodeRuneZ n = [IntKind.u8.wrap (IntKind.i64.wrap (240 + IntKind.i64.wrap (n.tdiv (262144 : Nat)))), IntKind.u8.wrap (IntKind.i64.wrap (128 + (IntKind.i64.wrap (n.tdiv (4096 : Nat))).tmod 64)), IntKind.u8.wrap (IntKind.i64.wrap (128 + (IntKind.i64.wrap (n.tdiv (64 : Nat))).tmod 64)), IntKind.u8.wrap (IntKind.i64.wrap (128 + n.tmod 64))] := by
  rw [Lib.encodeRuneZ_four h0 h1, fD (by omega) (by omega), fD (by omega) (by omega), fD (by omega) (by omega), fM (by omega), fM (by omega), fM (by omega), fW (by omega) (by omega), fW (by omega) (by omega), fW (by omega) (by omega), fW (by omega) (by omega)]
  rfl
def SForm : Sp := ⟨Int, fun n => goodB n = true, fun n => [.int .i64 n], fun n => .row 5 1 (Lib.encodeRuneZ n).length (els c8 (Lib.encodeRuneZ n))⟩
set_option maxHeartbeats 4000000 in
theorem rform : SpOK Tryz.prog 63 SForm := fun (n : Int) hn => by
  have hC := base
  have hn : goodB n = true := hn
  unfold goodB at hn
  rw [decide_eq_true_eq] at hn
  ((refine Fn.ofF hC Tryz.func63 Tryz.ntmps63 rfl rfl rfl ?_); (repeat' first | (with_reducible exact trivial) | (with_reducible rfl) | (refine And.intro ?_ ?_) | (refine Need.mk ?_) | exact True.intro | (first | (refine ⟨_, Told.refl _, ?_, ?_⟩) | (refine ⟨⟨_, _⟩, Told.refl _, ?_, ?_⟩) | (refine ⟨⟨_, _, _⟩, Told.refl _, ?_, ?_⟩) | (refine ⟨⟨_, _, _, _⟩, Told.refl _, ?_, ?_⟩) | (refine ⟨⟨_, _, _, _, _⟩, Told.refl _, ?_, ?_⟩) | (refine ⟨(), Told.refl _, ?_, ?_⟩)) | (with_reducible intro _) | (refine fun (_ : Bool) => ?_)))
  all_goals first
    | (show (64 : Int) ≠ 0; decide)
    | (show (4096 : Int) ≠ 0; decide)
    | (show (262144 : Int) ≠ 0; decide)
    | skip
  all_goals first
    | (have q := of_decide_eq_true ‹decide (n < 128) = true›; have e := form1 hn.1 (by omega); clear q; (first | (rename_i i hi; rw [e] at hi ⊢; exact els_of c8_emb (n := 0) (elt_list _) i hi) | (rw [e]; rfl)))
    | (have q := of_decide_eq_false ‹decide (n < 128) = false›; have q2 := of_decide_eq_true ‹decide (n < 2048) = true›; have e := form2 (n := n) (by omega) (by omega); clear q q2; (first | (rename_i i hi; rw [e] at hi ⊢; exact els_of c8_emb (n := 0) (elt_list _) i hi) | (rw [e]; rfl)))
    | (have q := of_decide_eq_false ‹decide (n < 2048) = false›; have q2 := of_decide_eq_true ‹decide (n < 65536) = true›; have e := form3 (n := n) (by omega) (by omega) (by omega); clear q q2; (first | (rename_i i hi; rw [e] at hi ⊢; exact els_of c8_emb (n := 0) (elt_list _) i hi) | (rw [e]; rfl)))
    | (have q := of_decide_eq_false ‹decide (n < 65536) = false›; have e := form4 (n := n) (by omega) (by omega); clear q; (first | (rename_i i hi; rw [e] at hi ⊢; exact els_of c8_emb (n := 0) (elt_list _) i hi) | (rw [e]; rfl)))
def STextZ : Sp := ⟨List Int, fun l => l.length ≤ 1000000000, fun l => [aI l], fun l => .st (.str (encB l))⟩
set_option maxHeartbeats 4000000 in
theorem rtext : SpOK Tryz.prog 36 STextZ := fun (l : List Int) hl => by
  have hC : COK Tryz.prog (cfg [(64, SGd), (63, SForm)]) := Ty.ty.cfg ⟨rgdf, rform, trivial⟩
  have hl : l.length ≤ 1000000000 := hl
  ((refine Fn.ofF hC Tryz.func36 Tryz.ntmps36 rfl rfl rfl ?_); (repeat' first | (with_reducible exact trivial) | (with_reducible rfl) | (refine And.intro ?_ ?_) | (refine Need.mk ?_) | exact True.intro | (first | (refine ⟨_, Told.refl _, ?_, ?_⟩) | (refine ⟨⟨_, _⟩, Told.refl _, ?_, ?_⟩) | (refine ⟨⟨_, _, _⟩, Told.refl _, ?_, ?_⟩) | (refine ⟨⟨_, _, _, _⟩, Told.refl _, ?_, ?_⟩) | (refine ⟨⟨_, _, _, _, _⟩, Told.refl _, ?_, ?_⟩) | (refine ⟨(), Told.refl _, ?_, ?_⟩)) | (with_reducible intro _) | (refine fun (_ : Bool) => ?_)))
  refine AW.loop (I := fun k : Nat => ⟨21, [(0, aI l), (3, .own 0), (4, .int .i64 k)], [.row 5 1 (encZ (l.take k)).length (els c8 (encZ (l.take k)))]⟩) (fun k => k ≤ l.length) (fun k => l.length - k) 0 (Nat.zero_le _) ?_ ?_
  · (repeat' first | (with_reducible exact trivial) | (with_reducible rfl) | (refine And.intro ?_ ?_) | (refine Need.mk ?_) | exact True.intro | (first | (refine ⟨_, Told.refl _, ?_, ?_⟩) | (refine ⟨⟨_, _⟩, Told.refl _, ?_, ?_⟩) | (refine ⟨⟨_, _, _⟩, Told.refl _, ?_, ?_⟩) | (refine ⟨⟨_, _, _, _⟩, Told.refl _, ?_, ?_⟩) | (refine ⟨⟨_, _, _, _, _⟩, Told.refl _, ?_, ?_⟩) | (refine ⟨(), Told.refl _, ?_, ?_⟩)) | (with_reducible intro _) | (refine fun (_ : Bool) => ?_))
    all_goals rfl
  · intro k hk
    rcases Nat.lt_or_ge k l.length with hlt | hge
    · have hd : decide ((k : Int) < (l.length : Int)) = true := decide_eq_true (by omega)
      have hw := iw (n := (k : Int) + 1) (by omega) (by omega)
      have hnx := encZ_next hlt
      have hz := encZ_len (l.take k)
      have hr := (Lib.encodeRuneZ_length (gd (l.getD k default))).2
      have ht : (l.take k).length = k := by rw [List.length_take]; omega
      have hg := gd_good (l.getD k default)
      ((refine AW.byF ‹_› ?_); (repeat' first | (with_reducible exact trivial) | (with_reducible rfl) | (refine And.intro ?_ ?_) | (refine Need.mk ?_) | exact True.intro | (first | (refine ⟨_, Told.refl _, ?_, ?_⟩) | (refine ⟨⟨_, _⟩, Told.refl _, ?_, ?_⟩) | (refine ⟨⟨_, _, _⟩, Told.refl _, ?_, ?_⟩) | (refine ⟨⟨_, _, _, _⟩, Told.refl _, ?_, ?_⟩) | (refine ⟨⟨_, _, _, _, _⟩, Told.refl _, ?_, ?_⟩) | (refine ⟨(), Told.refl _, ?_, ?_⟩)) | (with_reducible intro _) | (refine fun (_ : Bool) => ?_)))
      all_goals first | (exact absurd ‹decide ((k : Int) < (l.length : Int)) = false› (by rw [hd]; decide)) | skip
      all_goals try simp only [hw, Int.toNat_natCast] at *
      any_goals (refine Exists.intro (k + 1) (And.intro ?_ (And.intro ?_ ?_)); all_goals (repeat' first | (with_reducible exact trivial) | (with_reducible rfl) | (refine And.intro ?_ ?_) | (refine Need.mk ?_) | exact True.intro | (first | (refine ⟨_, Told.refl _, ?_, ?_⟩) | (refine ⟨⟨_, _⟩, Told.refl _, ?_, ?_⟩) | (refine ⟨⟨_, _, _⟩, Told.refl _, ?_, ?_⟩) | (refine ⟨⟨_, _, _, _⟩, Told.refl _, ?_, ?_⟩) | (refine ⟨⟨_, _, _, _, _⟩, Told.refl _, ?_, ?_⟩) | (refine ⟨(), Told.refl _, ?_, ?_⟩)) | (with_reducible intro _) | (refine fun (_ : Bool) => ?_)))
      all_goals try simp only [hw, Int.toNat_natCast] at *
      all_goals first
        | omega
        | exact hg
        | (rename_i i hi; rw [hnx] at hi ⊢; exact els_of c8_emb (n := 0) (cat_app rfl) i hi)
        | (rw [hnx, List.length_append]; done)
        | (rw [iw (by omega) (by omega)]; rfl)
    · obtain rfl : k = l.length := by omega
      have hd : decide ((l.length : Int) < (l.length : Int)) = false := decide_eq_false (by omega)
      have h4 : elStr (encZ l).length (els c8 (encZ l)) = encB l := by rw [elStr_a8, encB_Z]
      rw [List.take_length]
      ((refine AW.byF ‹_› ?_); (repeat' first | (with_reducible exact trivial) | (with_reducible rfl) | (refine And.intro ?_ ?_) | (refine Need.mk ?_) | exact True.intro | (first | (refine ⟨_, Told.refl _, ?_, ?_⟩) | (refine ⟨⟨_, _⟩, Told.refl _, ?_, ?_⟩) | (refine ⟨⟨_, _, _⟩, Told.refl _, ?_, ?_⟩) | (refine ⟨⟨_, _, _, _⟩, Told.refl _, ?_, ?_⟩) | (refine ⟨⟨_, _, _, _, _⟩, Told.refl _, ?_, ?_⟩) | (refine ⟨(), Told.refl _, ?_, ?_⟩)) | (with_reducible intro _) | (refine fun (_ : Bool) => ?_)))
      all_goals first | (exact absurd ‹decide ((l.length : Int) < (l.length : Int)) = true› (by rw [hd]; decide)) | skip
      all_goals first
        | rw [h4]
        | rfl
end Go.Abs.Txt
set_option maxRecDepth 100000
namespace Go.Abs.Lk
open Go.RowKit Go.Proofs Go.Abs.Tab Go.Abs.Dest Go.Abs.Span Go.Abs.Coll Go.Abs.Hx Go.Abs.Mt Go.Abs.Utf Go.Abs.Txt
theorem getSg {l : List Sg} {i : Nat} (h : i < l.length) : l.getD i default = l[i] := by simp [List.getD, h]
theorem take_nextG {L : List Sg} {k : Nat} (hk : k < L.length) : L.take (k + 1) = L.take k ++ [L.getD k default] := by
  rw [List.take_succ_eq_append_getElem hk, getSg hk]
def SSigns : Sp := ⟨List Sg, fun L => L.length ≤ 1000000, fun L => [aG L], fun L => .row 63 9 L.length (els cG L)⟩
def SSeen : Sp := ⟨List Sg, fun L => L.length ≤ 1000000, fun L => [aG L], fun L => .row 37 9 L.length (els cG L)⟩
set_option maxHeartbeats 16000000 in
theorem signsL : SpOK Tryz.prog 18 SSigns := fun (L : List Sg) hl => by
  have hC := base
  have hl : L.length ≤ 1000000 := hl
  ((refine Fn.ofF hC Tryz.func18 Tryz.ntmps18 rfl rfl rfl ?_); (repeat' first | (with_reducible exact trivial) | (with_reducible rfl) | (refine And.intro ?_ ?_) | (refine Need.mk ?_) | exact True.intro | (first | (refine ⟨_, Told.refl _, ?_, ?_⟩) | (refine ⟨⟨_, _⟩, Told.refl _, ?_, ?_⟩) | (refine ⟨⟨_, _, _⟩, Told.refl _, ?_, ?_⟩) | (refine ⟨⟨_, _, _, _⟩, Told.refl _, ?_, ?_⟩) | (refine ⟨⟨_, _, _, _, _⟩, Told.refl _, ?_, ?_⟩) | (refine ⟨(), Told.refl _, ?_, ?_⟩)) | (with_reducible intro _) | (refine fun (_ : Bool) => ?_)))
  refine AW.loop (I := fun k : Nat => ⟨51, [(0, aG L), (3, .own 0), (4, .int .i64 k)], [.row 63 9 (L.take k).length (els cG (L.take k))]⟩) (fun k => k ≤ L.length) (fun k => L.length - k) 0 (Nat.zero_le _) ?_ ?_
  · (repeat' first | (with_reducible exact trivial) | (with_reducible rfl) | (refine And.intro ?_ ?_) | (refine Need.mk ?_) | exact True.intro | (first | (refine ⟨_, Told.refl _, ?_, ?_⟩) | (refine ⟨⟨_, _⟩, Told.refl _, ?_, ?_⟩) | (refine ⟨⟨_, _, _⟩, Told.refl _, ?_, ?_⟩) | (refine ⟨⟨_, _, _, _⟩, Told.refl _, ?_, ?_⟩) | (refine ⟨⟨_, _, _, _, _⟩, Told.refl _, ?_, ?_⟩) | (refine ⟨(), Told.refl _, ?_, ?_⟩)) | (with_reducible intro _) | (refine fun (_ : Bool) => ?_))
    all_goals first | rfl
  · intro k hk
    rcases Nat.lt_or_ge k L.length with hlt | hge
    · have hd : decide ((k : Int) < (L.length : Int)) = true := decide_eq_true (by omega)
      have hw := iw (n := (k : Int) + 1) (by omega) (by omega)
      have hnx := take_nextG hlt
      have hml : (L.take k).length ≤ L.length := by rw [List.length_take]; omega
      ((refine AW.byF ‹_› ?_); (repeat' first | (with_reducible exact trivial) | (with_reducible rfl) | (refine And.intro ?_ ?_) | (refine Need.mk ?_) | exact True.intro | (first | (refine ⟨_, Told.refl _, ?_, ?_⟩) | (refine ⟨⟨_, _⟩, Told.refl _, ?_, ?_⟩) | (refine ⟨⟨_, _, _⟩, Told.refl _, ?_, ?_⟩) | (refine ⟨⟨_, _, _, _⟩, Told.refl _, ?_, ?_⟩) | (refine ⟨⟨_, _, _, _, _⟩, Told.refl _, ?_, ?_⟩) | (refine ⟨(), Told.refl _, ?_, ?_⟩)) | (with_reducible intro _) | (refine fun (_ : Bool) => ?_)))
      all_goals first | (exact absurd ‹decide ((k : Int) < (L.length : Int)) = false› (by rw [hd]; decide)) | skip
      any_goals (first | (refine Exists.intro ((k + 1 : Nat)) (And.intro ?_ (And.intro ?_ ?_)); all_goals (repeat' first | (with_reducible exact trivial) | (with_reducible rfl) | (refine And.intro ?_ ?_) | (refine Need.mk ?_) | exact True.intro | (first | (refine ⟨_, Told.refl _, ?_, ?_⟩) | (refine ⟨⟨_, _⟩, Told.refl _, ?_, ?_⟩) | (refine ⟨⟨_, _, _⟩, Told.refl _, ?_, ?_⟩) | (refine ⟨⟨_, _, _, _⟩, Told.refl _, ?_, ?_⟩) | (refine ⟨⟨_, _, _, _, _⟩, Told.refl _, ?_, ?_⟩) | (refine ⟨(), Told.refl _, ?_, ?_⟩)) | (with_reducible intro _) | (refine fun (_ : Bool) => ?_))) | fail)
      all_goals try simp only [Int.toNat_natCast] at *
      all_goals first
        | omega
        | (show ((L.take k).length + 1) * 88 ≤ _; omega)
        | (rw [hw]; rfl)
        | (rw [hnx, List.length_append]; rfl)
        | (rename_i z hz
           rw [hnx] at hz ⊢
           exact els_of cG_emb (n := 0) (cat_snoc rfl) z hz)
    · obtain rfl : k = L.length := by omega
      have hd : decide ((L.length : Int) < (L.length : Int)) = false := decide_eq_false (by omega)
      ((refine AW.byF ‹_› ?_); (repeat' first | (with_reducible exact trivial) | (with_reducible rfl) | (refine And.intro ?_ ?_) | (refine Need.mk ?_) | exact True.intro | (first | (refine ⟨_, Told.refl _, ?_, ?_⟩) | (refine ⟨⟨_, _⟩, Told.refl _, ?_, ?_⟩) | (refine ⟨⟨_, _, _⟩, Told.refl _, ?_, ?_⟩) | (refine ⟨⟨_, _, _, _⟩, Told.refl _, ?_, ?_⟩) | (refine ⟨⟨_, _, _, _, _⟩, Told.refl _, ?_, ?_⟩) | (refine ⟨(), Told.refl _, ?_, ?_⟩)) | (with_reducible intro _) | (refine fun (_ : Bool) => ?_)))
      all_goals first | (exact absurd ‹decide ((L.length : Int) < (L.length : Int)) = true› (by rw [hd]; decide)) | skip
      all_goals rw [List.take_length]
set_option maxHeartbeats 16000000 in
theorem seenL : SpOK Tryz.prog 14 SSeen := fun (L : List Sg) hl => by
  have hC := base
  have hl : L.length ≤ 1000000 := hl
  ((refine Fn.ofF hC Tryz.func14 Tryz.ntmps14 rfl rfl rfl ?_); (repeat' first | (with_reducible exact trivial) | (with_reducible rfl) | (refine And.intro ?_ ?_) | (refine Need.mk ?_) | exact True.intro | (first | (refine ⟨_, Told.refl _, ?_, ?_⟩) | (refine ⟨⟨_, _⟩, Told.refl _, ?_, ?_⟩) | (refine ⟨⟨_, _, _⟩, Told.refl _, ?_, ?_⟩) | (refine ⟨⟨_, _, _, _⟩, Told.refl _, ?_, ?_⟩) | (refine ⟨⟨_, _, _, _, _⟩, Told.refl _, ?_, ?_⟩) | (refine ⟨(), Told.refl _, ?_, ?_⟩)) | (with_reducible intro _) | (refine fun (_ : Bool) => ?_)))
  refine AW.loop (I := fun k : Nat => ⟨51, [(0, aG L), (3, .own 0), (4, .int .i64 k)], [.row 37 9 (L.take k).length (els cG (L.take k))]⟩) (fun k => k ≤ L.length) (fun k => L.length - k) 0 (Nat.zero_le _) ?_ ?_
  · (repeat' first | (with_reducible exact trivial) | (with_reducible rfl) | (refine And.intro ?_ ?_) | (refine Need.mk ?_) | exact True.intro | (first | (refine ⟨_, Told.refl _, ?_, ?_⟩) | (refine ⟨⟨_, _⟩, Told.refl _, ?_, ?_⟩) | (refine ⟨⟨_, _, _⟩, Told.refl _, ?_, ?_⟩) | (refine ⟨⟨_, _, _, _⟩, Told.refl _, ?_, ?_⟩) | (refine ⟨⟨_, _, _, _, _⟩, Told.refl _, ?_, ?_⟩) | (refine ⟨(), Told.refl _, ?_, ?_⟩)) | (with_reducible intro _) | (refine fun (_ : Bool) => ?_))
    all_goals first | rfl
  · intro k hk
    rcases Nat.lt_or_ge k L.length with hlt | hge
    · have hd : decide ((k : Int) < (L.length : Int)) = true := decide_eq_true (by omega)
      have hw := iw (n := (k : Int) + 1) (by omega) (by omega)
      have hnx := take_nextG hlt
      have hml : (L.take k).length ≤ L.length := by rw [List.length_take]; omega
      ((refine AW.byF ‹_› ?_); (repeat' first | (with_reducible exact trivial) | (with_reducible rfl) | (refine And.intro ?_ ?_) | (refine Need.mk ?_) | exact True.intro | (first | (refine ⟨_, Told.refl _, ?_, ?_⟩) | (refine ⟨⟨_, _⟩, Told.refl _, ?_, ?_⟩) | (refine ⟨⟨_, _, _⟩, Told.refl _, ?_, ?_⟩) | (refine ⟨⟨_, _, _, _⟩, Told.refl _, ?_, ?_⟩) | (refine ⟨⟨_, _, _, _, _⟩, Told.refl _, ?_, ?_⟩) | (refine ⟨(), Told.refl _, ?_, ?_⟩)) | (with_reducible intro _) | (refine fun (_ : Bool) => ?_)))
      all_goals first | (exact absurd ‹decide ((k : Int) < (L.length : Int)) = false› (by rw [hd]; decide)) | skip
      any_goals (first | (refine Exists.intro ((k + 1 : Nat)) (And.intro ?_ (And.intro ?_ ?_)); all_goals (repeat' first | (with_reducible exact trivial) | (with_reducible rfl) | (refine And.intro ?_ ?_) | (refine Need.mk ?_) | exact True.intro | (first | (refine ⟨_, Told.refl _, ?_, ?_⟩) | (refine ⟨⟨_, _⟩, Told.refl _, ?_, ?_⟩) | (refine ⟨⟨_, _, _⟩, Told.refl _, ?_, ?_⟩) | (refine ⟨⟨_, _, _, _⟩, Told.refl _, ?_, ?_⟩) | (refine ⟨⟨_, _, _, _, _⟩, Told.refl _, ?_, ?_⟩) | (refine ⟨(), Told.refl _, ?_, ?_⟩)) | (with_reducible intro _) | (refine fun (_ : Bool) => ?_))) | fail)
      all_goals try simp only [Int.toNat_natCast] at *
      all_goals first
        | omega
        | (show ((L.take k).length + 1) * 88 ≤ _; omega)
        | (rw [hw]; rfl)
        | (rw [hnx, List.length_append]; rfl)
        | (rename_i z hz
           rw [hnx] at hz ⊢
           exact els_of cG_emb (n := 0) (cat_snoc rfl) z hz)
    · obtain rfl : k = L.length := by omega
      have hd : decide ((L.length : Int) < (L.length : Int)) = false := decide_eq_false (by omega)
      ((refine AW.byF ‹_› ?_); (repeat' first | (with_reducible exact trivial) | (with_reducible rfl) | (refine And.intro ?_ ?_) | (refine Need.mk ?_) | exact True.intro | (first | (refine ⟨_, Told.refl _, ?_, ?_⟩) | (refine ⟨⟨_, _⟩, Told.refl _, ?_, ?_⟩) | (refine ⟨⟨_, _, _⟩, Told.refl _, ?_, ?_⟩) | (refine ⟨⟨_, _, _, _⟩, Told.refl _, ?_, ?_⟩) | (refine ⟨⟨_, _, _, _, _⟩, Told.refl _, ?_, ?_⟩) | (refine ⟨(), Told.refl _, ?_, ?_⟩)) | (with_reducible intro _) | (refine fun (_ : Bool) => ?_)))
      all_goals first | (exact absurd ‹decide ((L.length : Int) < (L.length : Int)) = true› (by rw [hd]; decide)) | skip
      all_goals rw [List.take_length]
def SSameG : Sp := ⟨List Sg, fun a => a.length ≤ 1000000 ∧ ∀ s ∈ a, s.u.length ≤ 1000000, fun a => [aG a, aG a], fun _ => .st (.lit true)⟩
set_option maxHeartbeats 16000000 in
theorem rsameG : SpOK Tryz.prog 13 SSameG := fun (a : List Sg) ⟨ha, hu⟩ => by
  have hC : COK Tryz.prog (cfg [(12, SSame)]) := Ty.ty.cfg ⟨refSame, trivial⟩
  have ha : a.length ≤ 1000000 := ha
  ((refine Fn.ofF hC Tryz.func13 Tryz.ntmps13 rfl rfl rfl ?_); (repeat' first | (with_reducible exact trivial) | (with_reducible rfl) | (refine And.intro ?_ ?_) | (refine Need.mk ?_) | exact True.intro | (first | (refine ⟨_, Told.refl _, ?_, ?_⟩) | (refine ⟨⟨_, _⟩, Told.refl _, ?_, ?_⟩) | (refine ⟨⟨_, _, _⟩, Told.refl _, ?_, ?_⟩) | (refine ⟨⟨_, _, _, _⟩, Told.refl _, ?_, ?_⟩) | (refine ⟨⟨_, _, _, _, _⟩, Told.refl _, ?_, ?_⟩) | (refine ⟨(), Told.refl _, ?_, ?_⟩)) | (with_reducible intro _) | (refine fun (_ : Bool) => ?_)))
  · exfalso
    have q := ‹((a.length : Int) != (a.length : Int)) = true›
    simp at q
  refine AW.loop (I := fun k : Nat => ⟨81, [(0, aG a), (1, aG a), (5, .int .i64 k)], []⟩) (fun k => k ≤ a.length) (fun k => a.length - k) 0 (Nat.zero_le _) ?_ ?_
  · (repeat' first | (with_reducible exact trivial) | (with_reducible rfl) | (refine And.intro ?_ ?_) | (refine Need.mk ?_) | exact True.intro | (first | (refine ⟨_, Told.refl _, ?_, ?_⟩) | (refine ⟨⟨_, _⟩, Told.refl _, ?_, ?_⟩) | (refine ⟨⟨_, _, _⟩, Told.refl _, ?_, ?_⟩) | (refine ⟨⟨_, _, _, _⟩, Told.refl _, ?_, ?_⟩) | (refine ⟨⟨_, _, _, _, _⟩, Told.refl _, ?_, ?_⟩) | (refine ⟨(), Told.refl _, ?_, ?_⟩)) | (with_reducible intro _) | (refine fun (_ : Bool) => ?_))
    all_goals rfl
  · intro k hk
    rcases Nat.lt_or_ge k a.length with hlt | hge
    · have hd : decide ((k : Int) < (a.length : Int)) = true := decide_eq_true (by omega)
      have hw := iw (n := (k : Int) + 1) (by omega) (by omega)
      have hul := hu (a.getD k default) (by rw [getSg hlt]; exact List.getElem_mem hlt)
      ((refine AW.byF ‹_› ?_); (repeat' first | (with_reducible exact trivial) | (with_reducible rfl) | (refine And.intro ?_ ?_) | (refine Need.mk ?_) | exact True.intro | (first | (refine ⟨_, Told.refl _, ?_, ?_⟩) | (refine ⟨⟨_, _⟩, Told.refl _, ?_, ?_⟩) | (refine ⟨⟨_, _, _⟩, Told.refl _, ?_, ?_⟩) | (refine ⟨⟨_, _, _, _⟩, Told.refl _, ?_, ?_⟩) | (refine ⟨⟨_, _, _, _, _⟩, Told.refl _, ?_, ?_⟩) | (refine ⟨(), Told.refl _, ?_, ?_⟩)) | (with_reducible intro _) | (refine fun (_ : Bool) => ?_)))
      all_goals first | (exact absurd ‹decide ((k : Int) < (a.length : Int)) = false› (by rw [hd]; decide)) | skip
      any_goals (first | (refine Exists.intro ((k + 1 : Nat)) (And.intro ?_ (And.intro ?_ ?_)); all_goals (repeat' first | (with_reducible exact trivial) | (with_reducible rfl) | (refine And.intro ?_ ?_) | (refine Need.mk ?_) | exact True.intro | (first | (refine ⟨_, Told.refl _, ?_, ?_⟩) | (refine ⟨⟨_, _⟩, Told.refl _, ?_, ?_⟩) | (refine ⟨⟨_, _, _⟩, Told.refl _, ?_, ?_⟩) | (refine ⟨⟨_, _, _, _⟩, Told.refl _, ?_, ?_⟩) | (refine ⟨⟨_, _, _, _, _⟩, Told.refl _, ?_, ?_⟩) | (refine ⟨(), Told.refl _, ?_, ?_⟩)) | (with_reducible intro _) | (refine fun (_ : Bool) => ?_))) | fail)
      all_goals try simp only [Int.toNat_natCast] at *
      all_goals first
        | omega
        | (rw [hw]; rfl)
        | (show (a.getD k default).u.length < 9223372036854775807; omega)
        | (exfalso; simp [eqA, bval] at *; done)
    · obtain rfl : k = a.length := by omega
      have hd : decide ((a.length : Int) < (a.length : Int)) = false := decide_eq_false (by omega)
      ((refine AW.byF ‹_› ?_); (repeat' first | (with_reducible exact trivial) | (with_reducible rfl) | (refine And.intro ?_ ?_) | (refine Need.mk ?_) | exact True.intro | (first | (refine ⟨_, Told.refl _, ?_, ?_⟩) | (refine ⟨⟨_, _⟩, Told.refl _, ?_, ?_⟩) | (refine ⟨⟨_, _, _⟩, Told.refl _, ?_, ?_⟩) | (refine ⟨⟨_, _, _, _⟩, Told.refl _, ?_, ?_⟩) | (refine ⟨⟨_, _, _, _, _⟩, Told.refl _, ?_, ?_⟩) | (refine ⟨(), Told.refl _, ?_, ?_⟩)) | (with_reducible intro _) | (refine fun (_ : Bool) => ?_)))
      all_goals first | (exact absurd ‹decide ((a.length : Int) < (a.length : Int)) = true› (by rw [hd]; decide)) | skip
theorem txtS_next {rp : Int} {L : List Sg} {k : Nat} (hk : k < L.length) : txtS rp (L.take (k + 1)) = txtS rp (L.take k) ++ encB (oneS rp (L.getD k default)) := by
  have e : encS rp (L.take (k + 1)) = encS rp (L.take k) ++ enc (oneS rp (L.getD k default)) := by
    rw [take_nextG hk]
    unfold encS
    rw [List.flatMap_append]
    simp
  unfold txtS encB
  rw [e]
  apply ByteArray.ext
  simp
set_option maxHeartbeats 16000000 in
theorem rtextS : SpOK Tryz.prog 19 STxtS := fun ⟨l, rp⟩ ⟨hl, hu⟩ => by
  have hC : COK Tryz.prog (cfg [(37, SDec), (36, STextZ)]) := Ty.ty.cfg ⟨rdec16, rtext, trivial⟩
  have hl : l.length ≤ 1000000 := hl
  ((refine Fn.ofF hC Tryz.func19 Tryz.ntmps19 rfl rfl rfl ?_); (repeat' first | (with_reducible exact trivial) | (with_reducible rfl) | (refine And.intro ?_ ?_) | (refine Need.mk ?_) | exact True.intro | (first | (refine ⟨_, Told.refl _, ?_, ?_⟩) | (refine ⟨⟨_, _⟩, Told.refl _, ?_, ?_⟩) | (refine ⟨⟨_, _, _⟩, Told.refl _, ?_, ?_⟩) | (refine ⟨⟨_, _, _, _⟩, Told.refl _, ?_, ?_⟩) | (refine ⟨⟨_, _, _, _, _⟩, Told.refl _, ?_, ?_⟩) | (refine ⟨(), Told.refl _, ?_, ?_⟩)) | (with_reducible intro _) | (refine fun (_ : Bool) => ?_)))
  refine AW.loop (I := fun k : Nat => ⟨33, [(0, aG l), (1, .int .i64 rp), (5, .str (txtS rp (l.take k))), (6, .int .i64 k)], []⟩) (fun k => k ≤ l.length) (fun k => l.length - k) 0 (Nat.zero_le _) ?_ ?_
  · (repeat' first | (with_reducible exact trivial) | (with_reducible rfl) | (refine And.intro ?_ ?_) | (refine Need.mk ?_) | exact True.intro | (first | (refine ⟨_, Told.refl _, ?_, ?_⟩) | (refine ⟨⟨_, _⟩, Told.refl _, ?_, ?_⟩) | (refine ⟨⟨_, _, _⟩, Told.refl _, ?_, ?_⟩) | (refine ⟨⟨_, _, _, _⟩, Told.refl _, ?_, ?_⟩) | (refine ⟨⟨_, _, _, _, _⟩, Told.refl _, ?_, ?_⟩) | (refine ⟨(), Told.refl _, ?_, ?_⟩)) | (with_reducible intro _) | (refine fun (_ : Bool) => ?_))
    all_goals first | rfl
  · intro k hk
    rcases Nat.lt_or_ge k l.length with hlt | hge
    · have hd : decide ((k : Int) < (l.length : Int)) = true := decide_eq_true (by omega)
      have hw := iw (n := (k : Int) + 1) (by omega) (by omega)
      have hul := hu (l.getD k default) (by rw [getSg hlt]; exact List.getElem_mem hlt)
      have hdl := decU_len (l.getD k default).u
      have hnx := txtS_next (rp := rp) hlt
      have hsz := encS_len rp (l.take k) (fun x hx => hu x (List.mem_of_mem_take hx))
      have hsz2 : (txtS rp (l.take k)).size = (encS rp (l.take k)).length := by unfold txtS; simp [ByteArray.size]
      have hln : (l.take k).length ≤ 1000000 := by rw [List.length_take]; omega
      have he1 := enc_len (decU (l.getD k default).u)
      have he2 : (encB (decU (l.getD k default).u)).size = (enc (decU (l.getD k default).u)).length := by unfold encB; simp [ByteArray.size]
      have he3 := enc_len [rp]
      have he4 : (encB [rp]).size = (enc [rp]).length := by unfold encB; simp [ByteArray.size]
      ((refine AW.byF ‹_› ?_); (repeat' first | (with_reducible exact trivial) | (with_reducible rfl) | (refine And.intro ?_ ?_) | (refine Need.mk ?_) | exact True.intro | (first | (refine ⟨_, Told.refl _, ?_, ?_⟩) | (refine ⟨⟨_, _⟩, Told.refl _, ?_, ?_⟩) | (refine ⟨⟨_, _, _⟩, Told.refl _, ?_, ?_⟩) | (refine ⟨⟨_, _, _, _⟩, Told.refl _, ?_, ?_⟩) | (refine ⟨⟨_, _, _, _, _⟩, Told.refl _, ?_, ?_⟩) | (refine ⟨(), Told.refl _, ?_, ?_⟩)) | (with_reducible intro _) | (refine fun (_ : Bool) => ?_)))
      all_goals first | (exact absurd ‹decide ((k : Int) < (l.length : Int)) = false› (by rw [hd]; decide)) | skip
      any_goals (first | (refine Exists.intro [rp] (And.intro (Told.of (lit_sub ci_emb [rp])) (And.intro (by show 1 ≤ 1000000000; decide) ?_)); (repeat' first | (with_reducible exact trivial) | (with_reducible rfl) | (refine And.intro ?_ ?_) | (refine Need.mk ?_) | exact True.intro | (first | (refine ⟨_, Told.refl _, ?_, ?_⟩) | (refine ⟨⟨_, _⟩, Told.refl _, ?_, ?_⟩) | (refine ⟨⟨_, _, _⟩, Told.refl _, ?_, ?_⟩) | (refine ⟨⟨_, _, _, _⟩, Told.refl _, ?_, ?_⟩) | (refine ⟨⟨_, _, _, _, _⟩, Told.refl _, ?_, ?_⟩) | (refine ⟨(), Told.refl _, ?_, ?_⟩)) | (with_reducible intro _) | (refine fun (_ : Bool) => ?_))) | fail)
      any_goals (first | (refine Exists.intro ((k + 1 : Nat)) (And.intro ?_ (And.intro ?_ ?_)); all_goals (repeat' first | (with_reducible exact trivial) | (with_reducible rfl) | (refine And.intro ?_ ?_) | (refine Need.mk ?_) | exact True.intro | (first | (refine ⟨_, Told.refl _, ?_, ?_⟩) | (refine ⟨⟨_, _⟩, Told.refl _, ?_, ?_⟩) | (refine ⟨⟨_, _, _⟩, Told.refl _, ?_, ?_⟩) | (refine ⟨⟨_, _, _, _⟩, Told.refl _, ?_, ?_⟩) | (refine ⟨⟨_, _, _, _, _⟩, Told.refl _, ?_, ?_⟩) | (refine ⟨(), Told.refl _, ?_, ?_⟩)) | (with_reducible intro _) | (refine fun (_ : Bool) => ?_))) | fail)
      all_goals try simp only [Int.toNat_natCast, List.length_singleton] at *
      all_goals first
        | omega
        | (rw [hw]; rfl)
        | (show (l.getD k default).u.length ≤ 1000000000; omega)
        | (show (decU (l.getD k default).u).length ≤ 1000000000; omega)
        | (have q := ‹(l.getD k default).has = true›
           rw [hnx, show oneS rp (l.getD k default) = decU (l.getD k default).u from if_pos q]
           done)
        | (have q := ‹(l.getD k default).has = false›
           rw [hnx, show oneS rp (l.getD k default) = [rp] from if_neg (by rw [q]; decide)]
           done)
    · obtain rfl : k = l.length := by omega
      have hd : decide ((l.length : Int) < (l.length : Int)) = false := decide_eq_false (by omega)
      ((refine AW.byF ‹_› ?_); (repeat' first | (with_reducible exact trivial) | (with_reducible rfl) | (refine And.intro ?_ ?_) | (refine Need.mk ?_) | exact True.intro | (first | (refine ⟨_, Told.refl _, ?_, ?_⟩) | (refine ⟨⟨_, _⟩, Told.refl _, ?_, ?_⟩) | (refine ⟨⟨_, _, _⟩, Told.refl _, ?_, ?_⟩) | (refine ⟨⟨_, _, _, _⟩, Told.refl _, ?_, ?_⟩) | (refine ⟨⟨_, _, _, _, _⟩, Told.refl _, ?_, ?_⟩) | (refine ⟨(), Told.refl _, ?_, ?_⟩)) | (with_reducible intro _) | (refine fun (_ : Bool) => ?_)))
      all_goals first | (exact absurd ‹decide ((l.length : Int) < (l.length : Int)) = true› (by rw [hd]; decide)) | skip
      all_goals rw [List.take_length]
end Go.Abs.Lk
set_option maxRecDepth 100000
namespace Go.Abs.Lk
open Go.RowKit Go.Proofs Go.Abs.Tab Go.Abs.Dest Go.Abs.Span Go.Abs.Coll Go.Abs.Hx Go.Abs.Mt Go.Abs.Utf Go.Abs.Txt
theorem find_rng {l : List Bf} {n v : Int} {a : List Int} (h : EB.find l n v = some a) : a.length ≤ 64 ∧ ∀ x ∈ a, 0 ≤ x ∧ x ≤ 65535 := by
  have hc : EB.canon l = true := by
    unfold En.find at h
    split at h
    · assumption
    · cases h
  have htab := (EB.canon_iff l).1 hc
  rw [EB.find_tab htab] at h
  obtain ⟨b, hb, ⟨h1, h2, h3⟩, rfl⟩ := Tb.get_mem _ h
  have h2 : b.lo ≤ v := h2
  have h3 : v ≤ b.hi := h3
  have r := rngB (htab.1 b hb)
  show (fur b.to (v - b.lo)).length ≤ 64 ∧ ∀ x ∈ fur b.to (v - b.lo), _
  refine ⟨by rw [fur_len]; omega, fun x hx => ?_⟩
  rcases mem_fur hx with q | q
  · exact r.2.2.2.1 x q
  · omega
def wfPc (p : Pc) : Prop := wfI p.at_ ∧ wfI p.n ∧ True ∧ wfI p.cn ∧ wfI p.cv
def wfSg (s : Sg) : Prop := wfPc s.p ∧ wfI s.kind ∧ wfI s.cid ∧ wfIs s.u ∧ True
theorem opBoolL : OpA Tryz.prog 4 (fun b : Bool => [.sb b]) (fun _ => True) := OpA.bool Tryz.underlying4
theorem opPc : OpA Tryz.prog 34 cP wfPc :=
  OpA.iso (OpA.struct (n := 1 + (1 + (1 + 2))) Tryz.underlying34 (OpAF.cons opInt rfl (by kernel_rfl) (OpAF.cons opInt rfl (by kernel_rfl) (OpAF.cons opBoolL rfl (by kernel_rfl) (OpAF.one opCode rfl (by kernel_rfl))))) (by kernel_rfl)) (fun a => ⟨a.1, a.2.1, a.2.2.1, a.2.2.2.1, a.2.2.2.2⟩) (fun _ => rfl) (fun _ h => h)
theorem opSg : OpA Tryz.prog 37 cG wfSg :=
  OpA.iso (OpA.struct (n := 5 + (1 + (1 + (1 + 1)))) Tryz.underlying37 (OpAF.cons opPc rfl (by kernel_rfl) (OpAF.cons opInt rfl (by kernel_rfl) (OpAF.cons opInt rfl (by kernel_rfl) (OpAF.cons opInts rfl (by kernel_rfl) (OpAF.one opBoolL rfl (by kernel_rfl)))))) (by kernel_rfl)) (fun a => ⟨a.1, a.2.1, a.2.2.1, a.2.2.2.1, a.2.2.2.2⟩) (fun _ => rfl) (fun _ h => h)
theorem opSgs : OpA Tryz.prog 30 (fun l : List Sg => [aG l]) (fun l => l.length ≤ maxLen ∧ ∀ x ∈ l, wfSg x) := OpA.slice Tryz.underlying30 (by kernel_rfl) cG_emb opSg
theorem sgs_len' (t : Tbl) (s : List Int) : (sgs t s).length ≤ s.length := by
  unfold sgs
  rw [List.length_map]
  exact allAt_len (s.length - 0) 0 rfl
theorem sgs_u (t : Tbl) (s : List Int) : ∀ x ∈ sgs t s, x.u.length ≤ 64 := by
  intro x hx
  obtain ⟨p, _, rfl⟩ := List.mem_map.1 hx
  unfold sgOf
  split
  · show ((EB.find t.bfs p.cn p.cv).getD []).length ≤ 64
    cases h : EB.find t.bfs p.cn p.cv with
    | none => exact Nat.zero_le _
    | some a => exact (find_rng h).1
  · exact Nat.zero_le _
def SLookIs : Sp := ⟨Tbl × (Int × Int) × List Int × List Sg × Int, fun (t, _, s, l, rp) => B8 s, fun (t, c, s, l, rp) => [.agg (cT t), aCode c.1 c.2, a8 s, aG l, .int .i64 rp], fun _ => .st (.lit true)⟩
set_option maxHeartbeats 16000000 in
theorem lookIs : SpOK Tryz.prog 3 SLookIs := fun ⟨t, (n, v), s, l, rp⟩ h8 => by
  have hC : COK Tryz.prog (cfg [(5, SAwakeL), (6, SFewT), (8, STab), (7, SNum), (9, SNum), (10, SUniL), (11, SUniL), (12, SSame), (15, SLook), (14, SSeen), (16, SLookR), (13, SSameG), (18, SSigns), (17, STxtS), (19, STxtS)]) := Ty.ty.cfg ⟨awake12, rfewT, table12, num, rnum, uniL, runiL, refSame, look, seenL, rlook, rsameG, signsL, lookText, rtextS, trivial⟩
  have h8 : B8 s := h8
  have hsl := sgs_len' t s
  have hsu := sgs_u t s
  have hfl : ((EB.find t.bfs n v).getD []).length ≤ 64 := by
    cases h : EB.find t.bfs n v with
    | none => exact Nat.zero_le _
    | some a => exact (find_rng h).1
  ((refine Fn.ofF hC Tryz.func3 Tryz.ntmps3 rfl rfl rfl ?_); (repeat' first | (with_reducible exact trivial) | (with_reducible rfl) | (refine And.intro ?_ ?_) | (refine Need.mk ?_) | exact True.intro | (first | (refine ⟨_, Told.refl _, ?_, ?_⟩) | (refine ⟨⟨_, _⟩, Told.refl _, ?_, ?_⟩) | (refine ⟨⟨_, _, _⟩, Told.refl _, ?_, ?_⟩) | (refine ⟨⟨_, _, _, _⟩, Told.refl _, ?_, ?_⟩) | (refine ⟨⟨_, _, _, _, _⟩, Told.refl _, ?_, ?_⟩) | (refine ⟨(), Told.refl _, ?_, ?_⟩)) | (with_reducible intro _) | (refine fun (_ : Bool) => ?_)))
  have hf := (fewT_iff t).1 (by simpa using ‹(!fewT t) = false›)
  have hsn := of_decide_eq_false ‹decide ((s.length : Int) > 200) = false›
  have hln := of_decide_eq_false ‹decide ((l.length : Int) > 60) = false›
  obtain ⟨⟨f1, f2, f3, f4⟩, f5, f6⟩ := hf
  have hsm : smallT t := ⟨by omega, by omega, by omega, by omega⟩
  refine AW.loop (I := fun k : Nat => ⟨118, [(2, a8 s), (3, aG l), (4, .int .i64 rp), (5, .ptr 0 0), (6, .ptr 1 0), (11, .lit true), (12, .int .i64 k)], [.box 26 (cT t), .box 28 [.int .i64 n, .int .i64 v]]⟩) (fun k => k ≤ l.length ∧ ∀ j, j < k → (l.getD j default).u.length ≤ 100) (fun k => l.length - k) 0 ⟨Nat.zero_le _, fun j hj => by omega⟩ ?_ ?_
  · (repeat' first | (with_reducible exact trivial) | (with_reducible rfl) | (refine And.intro ?_ ?_) | (refine Need.mk ?_) | exact True.intro | (first | (refine ⟨_, Told.refl _, ?_, ?_⟩) | (refine ⟨⟨_, _⟩, Told.refl _, ?_, ?_⟩) | (refine ⟨⟨_, _, _⟩, Told.refl _, ?_, ?_⟩) | (refine ⟨⟨_, _, _, _⟩, Told.refl _, ?_, ?_⟩) | (refine ⟨⟨_, _, _, _, _⟩, Told.refl _, ?_, ?_⟩) | (refine ⟨(), Told.refl _, ?_, ?_⟩)) | (with_reducible intro _) | (refine fun (_ : Bool) => ?_))
    all_goals rfl
  · intro k ⟨hk, hok⟩
    rcases Nat.lt_or_ge k l.length with hlt | hge
    · have hd : decide ((k : Int) < (l.length : Int)) = true := decide_eq_true (by omega)
      have hw := iw (n := (k : Int) + 1) (by omega) (by omega)
      ((refine AW.byF ‹_› ?_); (repeat' first | (with_reducible exact trivial) | (with_reducible rfl) | (refine And.intro ?_ ?_) | (refine Need.mk ?_) | exact True.intro | (first | (refine ⟨_, Told.refl _, ?_, ?_⟩) | (refine ⟨⟨_, _⟩, Told.refl _, ?_, ?_⟩) | (refine ⟨⟨_, _, _⟩, Told.refl _, ?_, ?_⟩) | (refine ⟨⟨_, _, _, _⟩, Told.refl _, ?_, ?_⟩) | (refine ⟨⟨_, _, _, _, _⟩, Told.refl _, ?_, ?_⟩) | (refine ⟨(), Told.refl _, ?_, ?_⟩)) | (with_reducible intro _) | (refine fun (_ : Bool) => ?_)))
      all_goals first | (exact absurd ‹decide ((k : Int) < (l.length : Int)) = false› (by rw [hd]; decide)) | skip
      any_goals (first | (refine Exists.intro ((k + 1 : Nat)) (And.intro ?_ (And.intro ?_ ?_)); all_goals (repeat' first | (with_reducible exact trivial) | (with_reducible rfl) | (refine And.intro ?_ ?_) | (refine Need.mk ?_) | exact True.intro | (first | (refine ⟨_, Told.refl _, ?_, ?_⟩) | (refine ⟨⟨_, _⟩, Told.refl _, ?_, ?_⟩) | (refine ⟨⟨_, _, _⟩, Told.refl _, ?_, ?_⟩) | (refine ⟨⟨_, _, _, _⟩, Told.refl _, ?_, ?_⟩) | (refine ⟨⟨_, _, _, _, _⟩, Told.refl _, ?_, ?_⟩) | (refine ⟨(), Told.refl _, ?_, ?_⟩)) | (with_reducible intro _) | (refine fun (_ : Bool) => ?_))) | fail)
      all_goals try simp only [Int.toNat_natCast] at *
      all_goals first
        | omega
        | (rw [hw]; rfl)
        | (have hj := ‹(_ : Nat) < k + 1›
           have q := of_decide_eq_false ‹decide (((l.getD k default).u.length : Int) > 100) = false›
           rcases Nat.lt_succ_iff_lt_or_eq.1 hj with e | e
           · exact hok _ e
           · rw [e]; omega)
    · obtain rfl : k = l.length := by omega
      have hd : decide ((l.length : Int) < (l.length : Int)) = false := decide_eq_false (by omega)
      have hul : ∀ x ∈ l, x.u.length ≤ 1000000 := fun x hx => by
        obtain ⟨j, hj, rfl⟩ := List.getElem_of_mem hx
        have := hok j hj
        rw [getSg hj] at this
        omega
      have hsu2 : ∀ x ∈ sgs t s, x.u.length ≤ 1000000 := fun x hx => by have := hsu x hx; omega
      ((refine AW.byF ‹_› ?_); (repeat' first | (with_reducible exact trivial) | (with_reducible rfl) | (refine And.intro ?_ ?_) | (refine Need.mk ?_) | exact True.intro | (first | (refine ⟨_, Told.refl _, ?_, ?_⟩) | (refine ⟨⟨_, _⟩, Told.refl _, ?_, ?_⟩) | (refine ⟨⟨_, _, _⟩, Told.refl _, ?_, ?_⟩) | (refine ⟨⟨_, _, _, _⟩, Told.refl _, ?_, ?_⟩) | (refine ⟨⟨_, _, _, _, _⟩, Told.refl _, ?_, ?_⟩) | (refine ⟨(), Told.refl _, ?_, ?_⟩)) | (with_reducible intro _) | (refine fun (_ : Bool) => ?_)))
      all_goals first | (exact absurd ‹decide ((l.length : Int) < (l.length : Int)) = true› (by rw [hd]; decide)) | skip
      all_goals first
        | omega
        | exact h8
        | exact hsm
        | exact hul
        | exact hul _ ‹_›
        | exact hsu2
        | exact hsu2 _ ‹_›
        | exact ⟨by omega, by omega⟩
        | (show t.bfs.length < 4611686018427387904; omega)
        | (show t.cids.length < 4611686018427387904; omega)
        | (show t.nots.length < 4611686018427387904; omega)
        | (show ((EB.find t.bfs n v).getD []).length < 9223372036854775807; omega)
        | (show (sgs t s).length ≤ 1000000; omega)
        | (show l.length ≤ 1000000; omega)
        | (simp at *; done)
        | (simp_all; done)
end Go.Abs.Lk
