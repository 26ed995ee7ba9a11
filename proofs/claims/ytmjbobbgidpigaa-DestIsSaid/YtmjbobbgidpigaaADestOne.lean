/- DestOne by the engine. -/
import Derived.Test.YtmjbobbgidpigaaADestAwake
import Derived.Test.YtmjbobbgidpigaaADestSing
set_option linter.all false
set_option maxRecDepth 100000
namespace Go.Abs.Dest
open Go.RowKit Go.Proofs Go.Abs.Tab
theorem and_low (p : Nat) (hp : p ≤ 16) (n : Int) : IntKind.i64.wrap ((BitVec.ofInt IntKind.i64.bits n &&& BitVec.ofInt IntKind.i64.bits ((2 : Int) ^ p - 1)).toNat : Nat) = n % (2 : Int) ^ p := by
  have hc : p = 0 ∨ p = 1 ∨ p = 2 ∨ p = 3 ∨ p = 4 ∨ p = 5 ∨ p = 6 ∨ p = 7 ∨ p = 8 ∨ p = 9 ∨ p = 10 ∨ p = 11 ∨ p = 12 ∨ p = 13 ∨ p = 14 ∨ p = 15 ∨ p = 16 := by omega
  have h127 : (BitVec.ofInt 64 ((2 : Int) ^ p - 1)).toNat = 2 ^ p - 1 := by
    rcases hc with rfl | rfl | rfl | rfl | rfl | rfl | rfl | rfl | rfl | rfl | rfl | rfl | rfl | rfl | rfl | rfl | rfl <;> decide +kernel
  have key : (BitVec.ofInt 64 n &&& BitVec.ofInt 64 ((2 : Int) ^ p - 1)).toNat = (n % ((2 ^ 64 : Nat) : Int)).toNat % 2 ^ p := by
    rw [BitVec.toNat_and, BitVec.toNat_ofInt, h127, Nat.and_two_pow_sub_one_eq_mod]
  show IntKind.i64.wrap ((BitVec.ofInt 64 n &&& BitVec.ofInt 64 ((2 : Int) ^ p - 1)).toNat : Nat) = n % (2 : Int) ^ p
  rw [key, IntKind.wrap_i64]
  rcases hc with rfl | rfl | rfl | rfl | rfl | rfl | rfl | rfl | rfl | rfl | rfl | rfl | rfl | rfl | rfl | rfl | rfl <;> simp <;> omega
def SDestOne : Sp := ⟨Bf × Int × Int × Int, fun _ => True, fun (b, n, cn, cv) => [.agg (cBf b), .int .i64 n, aCode cn cv], fun _ => .st (.lit true)⟩
set_option maxHeartbeats 16000000 in
theorem destOne : SpOK Try.prog 3 SDestOne := fun ⟨b, n, cn, cv⟩ hb => by
  have hC : COK Try.prog (cfg [(9, SAwake), (10, SBSane), (11, STo), (13, SBuild), (12, SFind), (14, SSameB), (15, SSame)]) := Ty.ty.cfg ⟨awake, saneB, toB, build, find, rsame, refSame, trivial⟩
  ((refine Fn.ofF hC Try.func3 Try.ntmps3 rfl rfl rfl ?_); (repeat' first | (with_reducible exact trivial) | (with_reducible rfl) | (refine And.intro ?_ ?_) | (refine Need.mk ?_) | exact True.intro | (first | (refine ⟨_, Told.refl _, ?_, ?_⟩) | (refine ⟨⟨_, _⟩, Told.refl _, ?_, ?_⟩) | (refine ⟨⟨_, _, _⟩, Told.refl _, ?_, ?_⟩) | (refine ⟨⟨_, _, _, _⟩, Told.refl _, ?_, ?_⟩) | (refine ⟨⟨_, _, _, _, _⟩, Told.refl _, ?_, ?_⟩) | (refine ⟨(), Told.refl _, ?_, ?_⟩)) | (with_reducible intro _) | (refine fun (_ : Bool) => ?_)))
  rename_i q1 q2
  have hs : sane b = true := by simpa using q2
  have r := rngB hs
  obtain ⟨hi, hhi⟩ : ∃ hi, hi = (if IntKind.i64.wrap (b.lo + IntKind.i64.wrap ((BitVec.ofInt IntKind.i64.bits n &&& BitVec.ofInt IntKind.i64.bits 31).toNat : Int)) < b.hi then IntKind.i64.wrap (b.lo + IntKind.i64.wrap ((BitVec.ofInt IntKind.i64.bits n &&& BitVec.ofInt IntKind.i64.bits 31).toNat : Int)) else b.hi) := ⟨_, rfl⟩
  have hm : IntKind.i64.wrap ((BitVec.ofInt IntKind.i64.bits n &&& BitVec.ofInt IntKind.i64.bits 31).toNat : Int) = n % 32 := and_low 5 (by decide) n
  have hhr : b.lo ≤ hi ∧ hi ≤ b.hi ∧ hi ≤ b.lo + 31 := by
    rw [hm] at hhi
    have h1 := Int.emod_nonneg n (show (32 : Int) ≠ 0 by decide)
    have h2 := Int.emod_lt_of_pos n (show (0 : Int) < 32 by decide)
    rw [iw (by omega) (by omega)] at hhi
    split at hhi <;> omega
  have hX : sane ⟨b.n, b.lo, hi, b.to⟩ = true := by
    have := part_sane hs (Int.le_refl b.lo) hhr.1 hhr.2.1
    rwa [Int.sub_self, fur_zero] at this
  refine AW.loop (I := fun j : Nat => ⟨114, [(3, .ptr 0 0), (5, .ptr 1 0), (7, .lit true), (8, .ptr 2 0), (9, .own 3), (10, .int .i64 (hi - j))], [.box 24 (cBf b), .box 26 [.int .i64 cn, .int .i64 cv], .box 24 (cBf ⟨b.n, b.lo, hi, b.to⟩), .row 24 4 (downs ⟨b.n, b.lo, hi, b.to⟩ j).length (els cBf (downs ⟨b.n, b.lo, hi, b.to⟩ j))]⟩) (fun j => (j : Int) ≤ hi - b.lo + 1) (fun j => (hi - b.lo + 1 - j).toNat) 0 ?_ ?_ ?_
  · show ((0 : Nat) : Int) ≤ hi - b.lo + 1
    omega
  · (repeat' first | (with_reducible exact trivial) | (with_reducible rfl) | (refine And.intro ?_ ?_) | (refine Need.mk ?_) | exact True.intro | (first | (refine ⟨_, Told.refl _, ?_, ?_⟩) | (refine ⟨⟨_, _⟩, Told.refl _, ?_, ?_⟩) | (refine ⟨⟨_, _, _⟩, Told.refl _, ?_, ?_⟩) | (refine ⟨⟨_, _, _, _⟩, Told.refl _, ?_, ?_⟩) | (refine ⟨⟨_, _, _, _, _⟩, Told.refl _, ?_, ?_⟩) | (refine ⟨(), Told.refl _, ?_, ?_⟩)) | (with_reducible intro _) | (refine fun (_ : Bool) => ?_))
    · exact hhi.symm
    · rfl
    · rw [← hhi]
      omega
  · intro j hj
    have hj : (j : Int) ≤ hi - b.lo + 1 := hj
    have hdl : (downs ⟨b.n, b.lo, hi, b.to⟩ j).length = j := by simp [downs]
    have hnx := downs_next ⟨b.n, b.lo, hi, b.to⟩ j
    rcases Int.lt_or_le (hi - j) b.lo with hlt | hge
    · have hd : decide (hi - (j : Int) ≥ b.lo) = false := decide_eq_false (by omega)
      have hbd := build_downs hX (k := j) (by dsimp only; omega)
      ((refine AW.byF ‹_› ?_); (repeat' first | (with_reducible exact trivial) | (with_reducible rfl) | (refine And.intro ?_ ?_) | (refine Need.mk ?_) | exact True.intro | (first | (refine ⟨_, Told.refl _, ?_, ?_⟩) | (refine ⟨⟨_, _⟩, Told.refl _, ?_, ?_⟩) | (refine ⟨⟨_, _, _⟩, Told.refl _, ?_, ?_⟩) | (refine ⟨⟨_, _, _, _⟩, Told.refl _, ?_, ?_⟩) | (refine ⟨⟨_, _, _, _, _⟩, Told.refl _, ?_, ?_⟩) | (refine ⟨(), Told.refl _, ?_, ?_⟩)) | (with_reducible intro _) | (refine fun (_ : Bool) => ?_)))
      all_goals first | (exact absurd ‹decide (hi - (j : Int) ≥ b.lo) = true› (by rw [hd]; decide)) | skip
      · dsimp only
        omega
      (repeat' first | (with_reducible exact trivial) | (with_reducible rfl) | (refine And.intro ?_ ?_) | (refine Need.mk ?_) | exact True.intro | (first | (refine ⟨_, Told.refl _, ?_, ?_⟩) | (refine ⟨⟨_, _⟩, Told.refl _, ?_, ?_⟩) | (refine ⟨⟨_, _, _⟩, Told.refl _, ?_, ?_⟩) | (refine ⟨⟨_, _, _, _⟩, Told.refl _, ?_, ?_⟩) | (refine ⟨⟨_, _, _, _, _⟩, Told.refl _, ?_, ?_⟩) | (refine ⟨(), Told.refl _, ?_, ?_⟩)) | (with_reducible intro _) | (refine fun (_ : Bool) => ?_))
      have lit : subs0 (cBf ⟨b.n, 0, 255, [7]⟩) [.int .i64 b.n, .int .i64 0, .int .i64 255, .sl 1 1 (elt [[.int .i64 7]])] := ⟨⟨rfl⟩, ⟨rfl⟩, ⟨rfl⟩, (lit_sub ci_emb [7]).1, trivial⟩
      refine Exists.intro [⟨b.n, 0, 255, [7]⟩, ⟨b.n, b.lo, hi, b.to⟩] (And.intro (Told.of ?_) (And.intro ?_ ?_))
      · (repeat' first | (with_reducible exact trivial) | (with_reducible rfl) | (refine And.intro ?_ ?_) | (refine Need.mk ?_) | exact True.intro | (first | (refine ⟨_, Told.refl _, ?_, ?_⟩) | (refine ⟨⟨_, _⟩, Told.refl _, ?_, ?_⟩) | (refine ⟨⟨_, _, _⟩, Told.refl _, ?_, ?_⟩) | (refine ⟨⟨_, _, _, _⟩, Told.refl _, ?_, ?_⟩) | (refine ⟨⟨_, _, _, _, _⟩, Told.refl _, ?_, ?_⟩) | (refine ⟨(), Told.refl _, ?_, ?_⟩)) | (with_reducible intro _) | (refine fun (_ : Bool) => ?_))
        · rfl
        · rename_i i hi'
          have hi' : i < 2 := hi'
          have hc : i = 0 ∨ i = 1 := by omega
          rcases hc with rfl | rfl
          · exact lit
          · exact (cBf_emb ⟨b.n, b.lo, hi, b.to⟩).2.1
      · show 2 ≤ 100000000
        omega
      · have hbl := (EB.build_ok [⟨b.n, 0, 255, [7]⟩, ⟨b.n, b.lo, hi, b.to⟩]).2.1
        have hbl : (EB.build [⟨b.n, 0, 255, [7]⟩, ⟨b.n, b.lo, hi, b.to⟩]).length ≤ 4 := hbl
        have hfb : EB.find (EB.build [⟨b.n, 0, 255, [7]⟩, ⟨b.n, b.lo, hi, b.to⟩]) cn cv = (EB.to ⟨b.n, b.lo, hi, b.to⟩ cn cv).or (EB.last [⟨b.n, 0, 255, [7]⟩] cn cv) := by
          rw [EB.find_build]
          exact EB.last_snoc [⟨b.n, 0, 255, [7]⟩] ⟨b.n, b.lo, hi, b.to⟩ cn cv
        (repeat' first | (with_reducible exact trivial) | (with_reducible rfl) | (refine And.intro ?_ ?_) | (refine Need.mk ?_) | exact True.intro | (first | (refine ⟨_, Told.refl _, ?_, ?_⟩) | (refine ⟨⟨_, _⟩, Told.refl _, ?_, ?_⟩) | (refine ⟨⟨_, _, _⟩, Told.refl _, ?_, ?_⟩) | (refine ⟨⟨_, _, _, _⟩, Told.refl _, ?_, ?_⟩) | (refine ⟨⟨_, _, _, _, _⟩, Told.refl _, ?_, ?_⟩) | (refine ⟨(), Told.refl _, ?_, ?_⟩)) | (with_reducible intro _) | (refine fun (_ : Bool) => ?_))
        · show _ < 4611686018427387904
          omega
        · show (downs _ j).length ≤ 100000000
          omega
        refine Exists.intro (EB.build (downs ⟨b.n, b.lo, hi, b.to⟩ j), [⟨b.n, b.lo, hi, b.to⟩]) (And.intro (Told.of ?_) (And.intro ?_ ?_))
        · (repeat' first | (with_reducible exact trivial) | (with_reducible rfl) | (refine And.intro ?_ ?_) | (refine Need.mk ?_) | exact True.intro | (first | (refine ⟨_, Told.refl _, ?_, ?_⟩) | (refine ⟨⟨_, _⟩, Told.refl _, ?_, ?_⟩) | (refine ⟨⟨_, _, _⟩, Told.refl _, ?_, ?_⟩) | (refine ⟨⟨_, _, _, _⟩, Told.refl _, ?_, ?_⟩) | (refine ⟨⟨_, _, _, _, _⟩, Told.refl _, ?_, ?_⟩) | (refine ⟨(), Told.refl _, ?_, ?_⟩)) | (with_reducible intro _) | (refine fun (_ : Bool) => ?_))
          · rfl
          · rename_i i hi'
            exact els_of cBf_emb (n := 0) (elt_list [(⟨b.n, b.lo, hi, b.to⟩ : Bf)]) i hi'
        · rw [hbd]
          refine ⟨by show 1 < 9223372036854775807; omega, fun x hx => ?_⟩
          obtain rfl := List.mem_singleton.1 hx
          have := r.2.2.1
          show b.to.length < _
          omega
        · have some_of : (!(EB.to ⟨b.n, b.lo, hi, b.to⟩ cn cv).isSome) = false → ∃ w, EB.to ⟨b.n, b.lo, hi, b.to⟩ cn cv = some w ∧ EB.find (EB.build [⟨b.n, 0, 255, [7]⟩, ⟨b.n, b.lo, hi, b.to⟩]) cn cv = some w ∧ w.length ≤ 64 := fun h => by
            obtain ⟨w, hw'⟩ := Option.isSome_iff_exists.1 (show (EB.to ⟨b.n, b.lo, hi, b.to⟩ cn cv).isSome = true by simpa using h)
            refine ⟨w, hw', by rw [hfb, hw']; rfl, ?_⟩
            unfold En.to at hw'
            split at hw'
            · obtain rfl := Option.some.inj hw'
              show (fur b.to _).length ≤ 64
              rw [fur_len]
              exact r.2.2.1.2
            · cases hw'
          (repeat' first | (with_reducible exact trivial) | (with_reducible rfl) | (refine And.intro ?_ ?_) | (refine Need.mk ?_) | exact True.intro | (first | (refine ⟨_, Told.refl _, ?_, ?_⟩) | (refine ⟨⟨_, _⟩, Told.refl _, ?_, ?_⟩) | (refine ⟨⟨_, _, _⟩, Told.refl _, ?_, ?_⟩) | (refine ⟨⟨_, _, _, _⟩, Told.refl _, ?_, ?_⟩) | (refine ⟨⟨_, _, _, _, _⟩, Told.refl _, ?_, ?_⟩) | (refine ⟨(), Told.refl _, ?_, ?_⟩)) | (with_reducible intro _) | (refine fun (_ : Bool) => ?_))
          · rename_i h1 h2
            obtain ⟨w, e1, e2, e3⟩ := some_of h1
            rw [e1, e2]
            show w.length < 9223372036854775807
            omega
          · rename_i h1 h2
            obtain ⟨w, e1, e2, e3⟩ := some_of h1
            rw [e1, e2]
            exact beq_self_eq_true w
          · rename_i h1 h2
            obtain ⟨w, e1, e2, e3⟩ := some_of h1
            rw [e2] at h2
            cases h2
          · rename_i h
            rw [hbd, decide_eq_true rfl] at h
            cases h
    · have hd : decide (hi - (j : Int) ≥ b.lo) = true := decide_eq_true (by omega)
      have hto : EB.to ⟨b.n, b.lo, hi, b.to⟩ b.n (hi - j) = some (fur b.to (hi - j - b.lo)) := to_yes (b := ⟨b.n, b.lo, hi, b.to⟩) hX (by dsimp only; omega) (by dsimp only; omega)
      have hw := iw (n := hi - (j : Int) - 1) (by omega) (by omega)
      ((refine AW.byF ‹_› ?_); (repeat' first | (with_reducible exact trivial) | (with_reducible rfl) | (refine And.intro ?_ ?_) | (refine Need.mk ?_) | exact True.intro | (first | (refine ⟨_, Told.refl _, ?_, ?_⟩) | (refine ⟨⟨_, _⟩, Told.refl _, ?_, ?_⟩) | (refine ⟨⟨_, _, _⟩, Told.refl _, ?_, ?_⟩) | (refine ⟨⟨_, _, _, _⟩, Told.refl _, ?_, ?_⟩) | (refine ⟨⟨_, _, _, _, _⟩, Told.refl _, ?_, ?_⟩) | (refine ⟨(), Told.refl _, ?_, ?_⟩)) | (with_reducible intro _) | (refine fun (_ : Bool) => ?_)))
      all_goals first | (exact absurd ‹decide (hi - (j : Int) ≥ b.lo) = false› (by rw [hd]; decide)) | skip
      any_goals (refine Exists.intro (j + 1) (And.intro ?_ (And.intro ?_ ?_)); all_goals (repeat' first | (with_reducible exact trivial) | (with_reducible rfl) | (refine And.intro ?_ ?_) | (refine Need.mk ?_) | exact True.intro | (first | (refine ⟨_, Told.refl _, ?_, ?_⟩) | (refine ⟨⟨_, _⟩, Told.refl _, ?_, ?_⟩) | (refine ⟨⟨_, _, _⟩, Told.refl _, ?_, ?_⟩) | (refine ⟨⟨_, _, _, _⟩, Told.refl _, ?_, ?_⟩) | (refine ⟨⟨_, _, _, _, _⟩, Told.refl _, ?_, ?_⟩) | (refine ⟨(), Told.refl _, ?_, ?_⟩)) | (with_reducible intro _) | (refine fun (_ : Bool) => ?_)))
      · rename_i h
        rw [hto] at h
        cases h
      · rw [hdl]
        dsimp only
        omega
      · omega
      · omega
      · rw [hnx, List.length_append]
        rfl
      · rename_i i hi'
        rw [hnx] at hi' ⊢
        refine els_of cBf_emb (n := 0) (fun i hi' => ?_) i hi'
        show catEl (downs ⟨b.n, b.lo, hi, b.to⟩ j).length (els cBf (downs ⟨b.n, b.lo, hi, b.to⟩ j)) (elt [cBf ⟨b.n, hi - j, hi - j, (EB.to ⟨b.n, b.lo, hi, b.to⟩ b.n (hi - j)).getD []⟩]) i = _
        rw [hto]
        exact cat_snoc' rfl (fun _ _ => rfl) i hi'
      · rw [hw]
        omega
end Go.Abs.Dest
