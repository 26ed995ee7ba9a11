/- Units and values. -/
import Derived.Test.YtmgjojgfocbjfaaDoorAbsCodes
set_option linter.all false
set_option maxRecDepth 100000
namespace Go.Abs.Utf
open Go.RowKit Go.Proofs
def goodB (x : Int) : Bool := decide (0 ≤ x ∧ x ≤ 1114111 ∧ (x < 55296 ∨ 57343 < x))
def gd (x : Int) : Int := if goodB x = true then x else 65533
def highB (x : Int) : Bool := decide (55296 ≤ x ∧ x ≤ 56319)
def lowB (x : Int) : Bool := decide (56320 ≤ x ∧ x ≤ 57343)
def oneU (x : Int) : Int := if x > 65535 then 65533 else gd x
def decU : List Int → List Int
  | [] => []
  | [a] => [oneU a]
  | a :: b :: r => if highB a = true ∧ lowB b = true then (65536 + (a - 55296) * 1024 + b - 56320) :: decU r else oneU a :: decU (b :: r)
theorem decU_pair {a b : Int} {r : List Int} (h1 : highB a = true) (h2 : lowB b = true) : decU (a :: b :: r) = (65536 + (a - 55296) * 1024 + b - 56320) :: decU r := by
  rw [decU, if_pos ⟨h1, h2⟩]
theorem decU_one {a : Int} {r : List Int} (h : ∀ b r', r = b :: r' → ¬ (highB a = true ∧ lowB b = true)) : decU (a :: r) = oneU a :: decU r := by
  cases r with
  | nil => simp [decU]
  | cons b r => rw [decU, if_neg (h b r rfl)]
theorem decU_len : ∀ l : List Int, (decU l).length ≤ l.length
  | [] => Nat.le_refl _
  | [a] => Nat.le_refl _
  | a :: b :: r => by
    have h1 := decU_len r
    have h2 := decU_len (b :: r)
    rw [decU]
    split
    · simp only [List.length_cons]
      omega
    · simp only [List.length_cons] at *
      omega
def SGood : Sp := ⟨Int, fun _ => True, fun n => [.int .i64 n], fun n => .st (.sb (goodB n))⟩
def SGd : Sp := ⟨Int, fun _ => True, fun n => [.int .i64 n], fun n => .st (.int .i64 (gd n))⟩
def SHigh : Sp := ⟨Int, fun _ => True, fun n => [.int .i64 n], fun n => .st (.sb (highB n))⟩
def SLow : Sp := ⟨Int, fun _ => True, fun n => [.int .i64 n], fun n => .st (.sb (lowB n))⟩
def SOneU : Sp := ⟨Int, fun _ => True, fun n => [.int .i64 n], fun n => .st (.int .i64 (oneU n))⟩
theorem good : SpOK Tryd.prog 33 SGood := fun (n : Int) _ => by
  have hC := base
  ((refine Fn.ofF hC Tryd.func33 Tryd.ntmps33 rfl rfl rfl ?_); (repeat' first | (with_reducible exact trivial) | (with_reducible rfl) | (refine And.intro ?_ ?_) | (refine Need.mk ?_) | exact True.intro | (first | (refine ⟨_, Told.refl _, ?_, ?_⟩) | (refine ⟨⟨_, _⟩, Told.refl _, ?_, ?_⟩) | (refine ⟨⟨_, _, _⟩, Told.refl _, ?_, ?_⟩) | (refine ⟨⟨_, _, _, _⟩, Told.refl _, ?_, ?_⟩) | (refine ⟨⟨_, _, _, _, _⟩, Told.refl _, ?_, ?_⟩) | (refine ⟨(), Told.refl _, ?_, ?_⟩)) | (with_reducible intro _) | (refine fun (_ : Bool) => ?_)))
  all_goals
    unfold goodB
    ((try dsimp only at *); (try simp only [decide_eq_true_eq, decide_eq_false_iff_not, beq_iff_eq, bne_iff_ne, beq_eq_false_iff_ne, bne_eq_false_iff_eq, ne_eq, Decidable.not_not, ge_iff_le, gt_iff_lt, Bool.not_eq_true', Bool.not_eq_false', Int.not_lt, Int.not_le, Nat.not_lt, Nat.not_le] at *))
    first
      | (rw [decide_eq_true (by omega)]; exact decide_eq_true (by omega))
      | (symm; rw [decide_eq_false_iff_not]; omega)
      | (rw [Bool.eq_iff_iff, decide_eq_true_eq, decide_eq_true_eq]; omega)
      | (symm; rw [decide_eq_true_eq]; omega)
theorem gdf : SpOK Tryd.prog 19 SGd := fun (n : Int) _ => by
  have hC : COK Tryd.prog (cfg [(33, SGood)]) := Ty.ty.cfg ⟨good, trivial⟩
  ((refine Fn.ofF hC Tryd.func19 Tryd.ntmps19 rfl rfl rfl ?_); (repeat' first | (with_reducible exact trivial) | (with_reducible rfl) | (refine And.intro ?_ ?_) | (refine Need.mk ?_) | exact True.intro | (first | (refine ⟨_, Told.refl _, ?_, ?_⟩) | (refine ⟨⟨_, _⟩, Told.refl _, ?_, ?_⟩) | (refine ⟨⟨_, _, _⟩, Told.refl _, ?_, ?_⟩) | (refine ⟨⟨_, _, _, _⟩, Told.refl _, ?_, ?_⟩) | (refine ⟨⟨_, _, _, _, _⟩, Told.refl _, ?_, ?_⟩) | (refine ⟨(), Told.refl _, ?_, ?_⟩)) | (with_reducible intro _) | (refine fun (_ : Bool) => ?_)))
  all_goals
    unfold gd
    first
      | (rw [if_pos ‹_›]; done)
      | (rw [if_neg (by simp [‹goodB n = false›])]; done)
theorem high : SpOK Tryd.prog 21 SHigh := fun (n : Int) _ => by
  have hC := base
  ((refine Fn.ofF hC Tryd.func21 Tryd.ntmps21 rfl rfl rfl ?_); (repeat' first | (with_reducible exact trivial) | (with_reducible rfl) | (refine And.intro ?_ ?_) | (refine Need.mk ?_) | exact True.intro | (first | (refine ⟨_, Told.refl _, ?_, ?_⟩) | (refine ⟨⟨_, _⟩, Told.refl _, ?_, ?_⟩) | (refine ⟨⟨_, _, _⟩, Told.refl _, ?_, ?_⟩) | (refine ⟨⟨_, _, _, _⟩, Told.refl _, ?_, ?_⟩) | (refine ⟨⟨_, _, _, _, _⟩, Told.refl _, ?_, ?_⟩) | (refine ⟨(), Told.refl _, ?_, ?_⟩)) | (with_reducible intro _) | (refine fun (_ : Bool) => ?_)))
  all_goals
    unfold highB
    ((try dsimp only at *); (try simp only [decide_eq_true_eq, decide_eq_false_iff_not, beq_iff_eq, bne_iff_ne, beq_eq_false_iff_ne, bne_eq_false_iff_eq, ne_eq, Decidable.not_not, ge_iff_le, gt_iff_lt, Bool.not_eq_true', Bool.not_eq_false', Int.not_lt, Int.not_le, Nat.not_lt, Nat.not_le] at *))
    first
      | (symm; rw [decide_eq_false_iff_not]; omega)
      | (rw [Bool.eq_iff_iff, decide_eq_true_eq, decide_eq_true_eq]; omega)
theorem low : SpOK Tryd.prog 22 SLow := fun (n : Int) _ => by
  have hC := base
  ((refine Fn.ofF hC Tryd.func22 Tryd.ntmps22 rfl rfl rfl ?_); (repeat' first | (with_reducible exact trivial) | (with_reducible rfl) | (refine And.intro ?_ ?_) | (refine Need.mk ?_) | exact True.intro | (first | (refine ⟨_, Told.refl _, ?_, ?_⟩) | (refine ⟨⟨_, _⟩, Told.refl _, ?_, ?_⟩) | (refine ⟨⟨_, _, _⟩, Told.refl _, ?_, ?_⟩) | (refine ⟨⟨_, _, _, _⟩, Told.refl _, ?_, ?_⟩) | (refine ⟨⟨_, _, _, _, _⟩, Told.refl _, ?_, ?_⟩) | (refine ⟨(), Told.refl _, ?_, ?_⟩)) | (with_reducible intro _) | (refine fun (_ : Bool) => ?_)))
  all_goals
    unfold lowB
    ((try dsimp only at *); (try simp only [decide_eq_true_eq, decide_eq_false_iff_not, beq_iff_eq, bne_iff_ne, beq_eq_false_iff_ne, bne_eq_false_iff_eq, ne_eq, Decidable.not_not, ge_iff_le, gt_iff_lt, Bool.not_eq_true', Bool.not_eq_false', Int.not_lt, Int.not_le, Nat.not_lt, Nat.not_le] at *))
    first
      | (symm; rw [decide_eq_false_iff_not]; omega)
      | (rw [Bool.eq_iff_iff, decide_eq_true_eq, decide_eq_true_eq]; omega)
theorem oneF : SpOK Tryd.prog 23 SOneU := fun (n : Int) _ => by
  have hC : COK Tryd.prog (cfg [(19, SGd)]) := Ty.ty.cfg ⟨gdf, trivial⟩
  ((refine Fn.ofF hC Tryd.func23 Tryd.ntmps23 rfl rfl rfl ?_); (repeat' first | (with_reducible exact trivial) | (with_reducible rfl) | (refine And.intro ?_ ?_) | (refine Need.mk ?_) | exact True.intro | (first | (refine ⟨_, Told.refl _, ?_, ?_⟩) | (refine ⟨⟨_, _⟩, Told.refl _, ?_, ?_⟩) | (refine ⟨⟨_, _, _⟩, Told.refl _, ?_, ?_⟩) | (refine ⟨⟨_, _, _, _⟩, Told.refl _, ?_, ?_⟩) | (refine ⟨⟨_, _, _, _, _⟩, Told.refl _, ?_, ?_⟩) | (refine ⟨(), Told.refl _, ?_, ?_⟩)) | (with_reducible intro _) | (refine fun (_ : Bool) => ?_)))
  all_goals
    unfold oneU
    ((try dsimp only at *); (try simp only [decide_eq_true_eq, decide_eq_false_iff_not, beq_iff_eq, bne_iff_ne, beq_eq_false_iff_ne, bne_eq_false_iff_eq, ne_eq, Decidable.not_not, ge_iff_le, gt_iff_lt, Bool.not_eq_true', Bool.not_eq_false', Int.not_lt, Int.not_le, Nat.not_lt, Nat.not_le] at *))
    first
      | (rw [if_pos (by omega)]; done)
      | (rw [if_neg (by omega)]; done)
def SDec : Sp := ⟨List Int, fun l => l.length ≤ 1000000000, fun l => [aI l], fun l => .row 3 1 (decU l).length (els ci (decU l))⟩
theorem getD_drop (l : List Int) (k i : Nat) : (l.drop k).getD i default = l.getD (k + i) default := by
  simp [List.getD, List.getElem?_drop]
def pairX (a b : Int) : Int := IntKind.i64.wrap (IntKind.i64.wrap (IntKind.i64.wrap (65536 + IntKind.i64.wrap (IntKind.i64.wrap (a - 55296) * 2 ^ min (Int.toNat 10) IntKind.i64.bits)) + b) - 56320)
theorem pairW {a b : Int} (h1 : highB a = true) (h2 : lowB b = true) : pairX a b = 65536 + (a - 55296) * 1024 + b - 56320 := by
  unfold pairX
  unfold highB at h1
  unfold lowB at h2
  rw [decide_eq_true_eq] at h1 h2
  rw [show (2 : Int) ^ min (Int.toNat 10) IntKind.i64.bits = 1024 from rfl]
  simp only [IntKind.wrap_i64]
  omega
set_option maxHeartbeats 4000000 in
theorem dec16 : SpOK Tryd.prog 10 SDec := fun (l : List Int) hl => by
  have hC : COK Tryd.prog (cfg [(21, SHigh), (22, SLow), (23, SOneU)]) := Ty.ty.cfg ⟨high, low, oneF, trivial⟩
  have hl : l.length ≤ 1000000000 := hl
  ((refine Fn.ofF hC Tryd.func10 Tryd.ntmps10 rfl rfl rfl ?_); (repeat' first | (with_reducible exact trivial) | (with_reducible rfl) | (refine And.intro ?_ ?_) | (refine Need.mk ?_) | exact True.intro | (first | (refine ⟨_, Told.refl _, ?_, ?_⟩) | (refine ⟨⟨_, _⟩, Told.refl _, ?_, ?_⟩) | (refine ⟨⟨_, _, _⟩, Told.refl _, ?_, ?_⟩) | (refine ⟨⟨_, _, _, _⟩, Told.refl _, ?_, ?_⟩) | (refine ⟨⟨_, _, _, _, _⟩, Told.refl _, ?_, ?_⟩) | (refine ⟨(), Told.refl _, ?_, ?_⟩)) | (with_reducible intro _) | (refine fun (_ : Bool) => ?_)))
  refine AW.loop (I := fun x : List Int × List Int => ⟨48, [(0, aI x.1), (3, .own 0)], [.row 3 1 x.2.length (els ci x.2)]⟩) (fun x => x.1.length + x.2.length ≤ l.length ∧ decU l = x.2 ++ decU x.1) (fun x => x.1.length) (l, []) ⟨Nat.le_refl _, rfl⟩ ?_ ?_
  · (repeat' first | (with_reducible exact trivial) | (with_reducible rfl) | (refine And.intro ?_ ?_) | (refine Need.mk ?_) | exact True.intro | (first | (refine ⟨_, Told.refl _, ?_, ?_⟩) | (refine ⟨⟨_, _⟩, Told.refl _, ?_, ?_⟩) | (refine ⟨⟨_, _, _⟩, Told.refl _, ?_, ?_⟩) | (refine ⟨⟨_, _, _, _⟩, Told.refl _, ?_, ?_⟩) | (refine ⟨⟨_, _, _, _, _⟩, Told.refl _, ?_, ?_⟩) | (refine ⟨(), Told.refl _, ?_, ?_⟩)) | (with_reducible intro _) | (refine fun (_ : Bool) => ?_))
    all_goals rfl
  · rintro ⟨u, out⟩ ⟨h1, h2⟩
    dsimp only at h1 h2 ⊢
    rcases u with _ | ⟨a, u⟩
    · have h3 : decU l = out := by rw [h2]; simp [decU]
      ((refine AW.byF ‹_› ?_); (repeat' first | (with_reducible exact trivial) | (with_reducible rfl) | (refine And.intro ?_ ?_) | (refine Need.mk ?_) | exact True.intro | (first | (refine ⟨_, Told.refl _, ?_, ?_⟩) | (refine ⟨⟨_, _⟩, Told.refl _, ?_, ?_⟩) | (refine ⟨⟨_, _, _⟩, Told.refl _, ?_, ?_⟩) | (refine ⟨⟨_, _, _, _⟩, Told.refl _, ?_, ?_⟩) | (refine ⟨⟨_, _, _, _, _⟩, Told.refl _, ?_, ?_⟩) | (refine ⟨(), Told.refl _, ?_, ?_⟩)) | (with_reducible intro _) | (refine fun (_ : Bool) => ?_)))
      all_goals first | (exact absurd ‹decide ((([] : List Int).length : Int) > 0) = true› (by decide)) | skip
      all_goals rw [h3]
    · have hdl := decU_len (a :: u)
      have hd : decide (((a :: u).length : Int) > 0) = true := by simp
      have hd2 : ∀ i : Nat, (a :: u).getD (1 + i) default = u.getD i default := fun i => by rw [Nat.add_comm]; rfl
      rcases u with _ | ⟨b, u⟩
      · have h5 : decU l = (out ++ [oneU a]) ++ decU [] := by rw [h2]; simp [decU]
        ((refine AW.byF ‹_› ?_); (repeat' first | (with_reducible exact trivial) | (with_reducible rfl) | (refine And.intro ?_ ?_) | (refine Need.mk ?_) | exact True.intro | (first | (refine ⟨_, Told.refl _, ?_, ?_⟩) | (refine ⟨⟨_, _⟩, Told.refl _, ?_, ?_⟩) | (refine ⟨⟨_, _, _⟩, Told.refl _, ?_, ?_⟩) | (refine ⟨⟨_, _, _, _⟩, Told.refl _, ?_, ?_⟩) | (refine ⟨⟨_, _, _, _, _⟩, Told.refl _, ?_, ?_⟩) | (refine ⟨(), Told.refl _, ?_, ?_⟩)) | (with_reducible intro _) | (refine fun (_ : Bool) => ?_)))
        all_goals first | (exact absurd ‹decide ((([a] : List Int).length : Int) > 1) = true› (by simp)) | (exact absurd ‹decide ((([a] : List Int).length : Int) > 0) = false› (by rw [hd]; decide)) | skip
        any_goals (refine Exists.intro (([], out ++ [oneU a]) : List Int × List Int) (And.intro ?_ (And.intro ?_ ?_)); all_goals (repeat' first | (with_reducible exact trivial) | (with_reducible rfl) | (refine And.intro ?_ ?_) | (refine Need.mk ?_) | exact True.intro | (first | (refine ⟨_, Told.refl _, ?_, ?_⟩) | (refine ⟨⟨_, _⟩, Told.refl _, ?_, ?_⟩) | (refine ⟨⟨_, _, _⟩, Told.refl _, ?_, ?_⟩) | (refine ⟨⟨_, _, _, _⟩, Told.refl _, ?_, ?_⟩) | (refine ⟨⟨_, _, _, _, _⟩, Told.refl _, ?_, ?_⟩) | (refine ⟨(), Told.refl _, ?_, ?_⟩)) | (with_reducible intro _) | (refine fun (_ : Bool) => ?_)))
        all_goals first
          | (exact h5)
          | (rename_i i hi; exact els_of ci_emb (n := 0) (cat_snoc rfl) i hi)
          | (rw [List.length_append]; rfl)
          | (rename_i i hi; exact absurd hi (Nat.not_lt_zero _))
          | omega | (simp only [List.length_cons, List.length_nil, List.length_append] at h1 ⊢; omega) | (simp only [List.length_cons, List.length_nil, List.length_append]; omega) | (simp only [List.length_cons, List.length_nil, List.length_append] at h1 hl hdl ⊢; dsimp only [] at *; omega)
      · have hd3 : decide (((a :: b :: u).length : Int) > 1) = true := by
          rw [decide_eq_true_eq]
          simp only [List.length_cons]
          omega
        by_cases hp : highB a = true ∧ lowB b = true
        · have h5 : decU l = (out ++ [pairX a b]) ++ decU u := by
            rw [h2, decU_pair hp.1 hp.2, pairW hp.1 hp.2, List.append_assoc]
            rfl
          ((refine AW.byF ‹_› ?_); (repeat' first | (with_reducible exact trivial) | (with_reducible rfl) | (refine And.intro ?_ ?_) | (refine Need.mk ?_) | exact True.intro | (first | (refine ⟨_, Told.refl _, ?_, ?_⟩) | (refine ⟨⟨_, _⟩, Told.refl _, ?_, ?_⟩) | (refine ⟨⟨_, _, _⟩, Told.refl _, ?_, ?_⟩) | (refine ⟨⟨_, _, _, _⟩, Told.refl _, ?_, ?_⟩) | (refine ⟨⟨_, _, _, _, _⟩, Told.refl _, ?_, ?_⟩) | (refine ⟨(), Told.refl _, ?_, ?_⟩)) | (with_reducible intro _) | (refine fun (_ : Bool) => ?_)))
          all_goals first | (exact absurd ‹decide (((a :: b :: u).length : Int) > 1) = false› (by rw [hd3]; decide)) | (exact absurd ‹decide (((a :: b :: u).length : Int) > 0) = false› (by rw [hd]; decide)) | skip
          all_goals first | (exact absurd ‹highB ((a :: b :: u).getD (Int.toNat 0) default) = false› (by rw [show (a :: b :: u).getD (Int.toNat 0) default = a from rfl, hp.1]; decide)) | (exact absurd ‹lowB ((a :: b :: u).getD (Int.toNat 1) default) = false› (by rw [show (a :: b :: u).getD (Int.toNat 1) default = b from rfl, hp.2]; decide)) | skip
          any_goals (refine Exists.intro ((u, out ++ [pairX a b]) : List Int × List Int) (And.intro ?_ (And.intro ?_ ?_)); all_goals (repeat' first | (with_reducible exact trivial) | (with_reducible rfl) | (refine And.intro ?_ ?_) | (refine Need.mk ?_) | exact True.intro | (first | (refine ⟨_, Told.refl _, ?_, ?_⟩) | (refine ⟨⟨_, _⟩, Told.refl _, ?_, ?_⟩) | (refine ⟨⟨_, _, _⟩, Told.refl _, ?_, ?_⟩) | (refine ⟨⟨_, _, _, _⟩, Told.refl _, ?_, ?_⟩) | (refine ⟨⟨_, _, _, _, _⟩, Told.refl _, ?_, ?_⟩) | (refine ⟨(), Told.refl _, ?_, ?_⟩)) | (with_reducible intro _) | (refine fun (_ : Bool) => ?_)))
          all_goals first
            | (exact h5)
            | (rename_i i hi; exact els_of ci_emb (n := 0) (cat_snoc rfl) i hi)
            | (rw [List.length_append]; rfl)
            | (rw [show Int.toNat 1 + _ = _ + 1 from Nat.add_comm _ _]; rfl)
            | (rw [show Int.toNat 2 + _ = _ + 1 + 1 from Nat.add_comm _ _]; rfl)
            | omega | (simp only [List.length_cons, List.length_nil, List.length_append] at h1 ⊢; omega) | (simp only [List.length_cons, List.length_nil, List.length_append]; omega) | (simp only [List.length_cons, List.length_nil, List.length_append] at h1 hl hdl ⊢; dsimp only [] at *; omega)
        · have h5 : decU l = (out ++ [oneU a]) ++ decU (b :: u) := by
            rw [h2, decU_one (fun b' r' e hh => by
              injection e with e1 e2
              subst e1
              exact hp hh), List.append_assoc]
            rfl
          ((refine AW.byF ‹_› ?_); (repeat' first | (with_reducible exact trivial) | (with_reducible rfl) | (refine And.intro ?_ ?_) | (refine Need.mk ?_) | exact True.intro | (first | (refine ⟨_, Told.refl _, ?_, ?_⟩) | (refine ⟨⟨_, _⟩, Told.refl _, ?_, ?_⟩) | (refine ⟨⟨_, _, _⟩, Told.refl _, ?_, ?_⟩) | (refine ⟨⟨_, _, _, _⟩, Told.refl _, ?_, ?_⟩) | (refine ⟨⟨_, _, _, _, _⟩, Told.refl _, ?_, ?_⟩) | (refine ⟨(), Told.refl _, ?_, ?_⟩)) | (with_reducible intro _) | (refine fun (_ : Bool) => ?_)))
          all_goals first | (exact absurd ‹decide (((a :: b :: u).length : Int) > 1) = false› (by rw [hd3]; decide)) | (exact absurd ‹decide (((a :: b :: u).length : Int) > 0) = false› (by rw [hd]; decide)) | skip
          all_goals first | (exact absurd (And.intro ‹highB ((a :: b :: u).getD (Int.toNat 0) default) = true› ‹lowB ((a :: b :: u).getD (Int.toNat 1) default) = true›) hp) | skip
          any_goals (refine Exists.intro ((b :: u, out ++ [oneU a]) : List Int × List Int) (And.intro ?_ (And.intro ?_ ?_)); all_goals (repeat' first | (with_reducible exact trivial) | (with_reducible rfl) | (refine And.intro ?_ ?_) | (refine Need.mk ?_) | exact True.intro | (first | (refine ⟨_, Told.refl _, ?_, ?_⟩) | (refine ⟨⟨_, _⟩, Told.refl _, ?_, ?_⟩) | (refine ⟨⟨_, _, _⟩, Told.refl _, ?_, ?_⟩) | (refine ⟨⟨_, _, _, _⟩, Told.refl _, ?_, ?_⟩) | (refine ⟨⟨_, _, _, _, _⟩, Told.refl _, ?_, ?_⟩) | (refine ⟨(), Told.refl _, ?_, ?_⟩)) | (with_reducible intro _) | (refine fun (_ : Bool) => ?_)))
          all_goals first
            | (exact h5)
            | (rename_i i hi; exact els_of ci_emb (n := 0) (cat_snoc rfl) i hi)
            | (rw [List.length_append]; rfl)
            | (rw [show Int.toNat 1 + _ = _ + 1 from Nat.add_comm _ _]; rfl)
            | (rw [show Int.toNat 2 + _ = _ + 1 + 1 from Nat.add_comm _ _]; rfl)
            | omega | (simp only [List.length_cons, List.length_nil, List.length_append] at h1 ⊢; omega) | (simp only [List.length_cons, List.length_nil, List.length_append]; omega) | (simp only [List.length_cons, List.length_nil, List.length_append] at h1 hl hdl ⊢; dsimp only [] at *; omega)
end Go.Abs.Utf
