/- CollIs by the engine (merged). -/
import Derived.Test.YtmgjojgfocbjfaaATxt
import Derived.Test.YtmgjojgfocbjfaaAHx
import Derived.Test.YtmgjojgfocbjfaaADestOrder
import Derived.Test.YtmgjojgfocbjfaaACollBack
import Derived.Test.YtmgjojgfocbjfaaACounts
import Derived.Test.YtmgjojgfocbjfaaASane
import Derived.Test.YtmgjojgfocbjfaaADestR
set_option linter.all false
set_option maxRecDepth 100000
namespace Go.Abs.Txt
open Go.RowKit Go.Proofs Go.Abs.Utf Go.Abs.Hx
def pairR (a b : Int) : Int := IntKind.i64.wrap (IntKind.i64.wrap (IntKind.i64.wrap (65536 + IntKind.i64.wrap (IntKind.i64.wrap (a - 55296) * 1024)) + b) - 56320)
theorem pairRW {a b : Int} (h1 : highB a = true) (h2 : lowB b = true) : pairR a b = 65536 + (a - 55296) * 1024 + b - 56320 := by
  unfold pairR
  unfold highB at h1
  unfold lowB at h2
  rw [decide_eq_true_eq] at h1 h2
  simp only [IntKind.wrap_i64]
  omega
theorem drop_cons {l : List Int} {i : Nat} (h : i < l.length) : l.drop i = l.getD i default :: l.drop (i + 1) := by
  rw [List.drop_eq_getElem_cons h]
  simp [List.getD, h]
set_option maxHeartbeats 4000000 in
theorem rdec16 : SpOK Try.prog 35 SDec := fun (l : List Int) hl => by
  have hC : COK Try.prog (cfg [(61, SHigh), (62, SLow), (60, SGd)]) := Ty.ty.cfg ⟨rhigh, rlow, rgdf, trivial⟩
  have hl : l.length ≤ 1000000000 := hl
  ((refine Fn.ofF hC Try.func35 Try.ntmps35 rfl rfl rfl ?_); (repeat' first | (with_reducible exact trivial) | (with_reducible rfl) | (refine And.intro ?_ ?_) | (refine Need.mk ?_) | exact True.intro | (first | (refine ⟨_, Told.refl _, ?_, ?_⟩) | (refine ⟨⟨_, _⟩, Told.refl _, ?_, ?_⟩) | (refine ⟨⟨_, _, _⟩, Told.refl _, ?_, ?_⟩) | (refine ⟨⟨_, _, _, _⟩, Told.refl _, ?_, ?_⟩) | (refine ⟨⟨_, _, _, _, _⟩, Told.refl _, ?_, ?_⟩) | (refine ⟨(), Told.refl _, ?_, ?_⟩)) | (with_reducible intro _) | (refine fun (_ : Bool) => ?_)))
  refine AW.loop (I := fun x : Nat × List Int => ⟨67, [(0, aI l), (3, .own 0), (4, .int .i64 x.1)], [.row 3 1 x.2.length (els ci x.2)]⟩) (fun x => x.1 ≤ l.length ∧ x.2.length ≤ x.1 ∧ decU l = x.2 ++ decU (l.drop x.1)) (fun x => l.length - x.1) (0, []) ⟨Nat.zero_le _, Nat.le_refl _, rfl⟩ ?_ ?_
  · (repeat' first | (with_reducible exact trivial) | (with_reducible rfl) | (refine And.intro ?_ ?_) | (refine Need.mk ?_) | exact True.intro | (first | (refine ⟨_, Told.refl _, ?_, ?_⟩) | (refine ⟨⟨_, _⟩, Told.refl _, ?_, ?_⟩) | (refine ⟨⟨_, _, _⟩, Told.refl _, ?_, ?_⟩) | (refine ⟨⟨_, _, _, _⟩, Told.refl _, ?_, ?_⟩) | (refine ⟨⟨_, _, _, _, _⟩, Told.refl _, ?_, ?_⟩) | (refine ⟨(), Told.refl _, ?_, ?_⟩)) | (with_reducible intro _) | (refine fun (_ : Bool) => ?_))
    all_goals rfl
  · rintro ⟨i, out⟩ ⟨h1, h2, h3⟩
    dsimp only at h1 h2 h3 ⊢
    rcases Nat.lt_or_ge i l.length with hlt | hge
    · have hd : decide ((i : Int) < (l.length : Int)) = true := decide_eq_true (by omega)
      have hw := iw (n := (i : Int) + 1) (by omega) (by omega)
      have hw2 := iw (n := (i : Int) + 1 + 1) (by omega) (by omega)
      have ht : ((i : Int) + 1).toNat = i + 1 := by omega
      have hwk : ∀ j : Nat, j ≤ 1000000001 → IntKind.i64.wrap ((j : Int) + 1) = ((j + 1 : Nat) : Int) := fun j hj => by rw [iw (by omega) (by omega)]; omega
      have hda := drop_cons hlt
      by_cases hp : i + 1 < l.length ∧ highB (l.getD i default) = true ∧ lowB (l.getD (i + 1) default) = true
      · have h5 : decU l = (out ++ [pairR (l.getD i default) (l.getD (i + 1) default)]) ++ decU (l.drop (i + 2)) := by
          rw [h3, hda, drop_cons hp.1, decU_pair hp.2.1 hp.2.2, pairRW hp.2.1 hp.2.2, List.append_assoc]
          rfl
        have hd2 : decide ((i : Int) + 1 < (l.length : Int)) = true := decide_eq_true (by omega)
        ((refine AW.byF ‹_› ?_); (repeat' first | (with_reducible exact trivial) | (with_reducible rfl) | (refine And.intro ?_ ?_) | (refine Need.mk ?_) | exact True.intro | (first | (refine ⟨_, Told.refl _, ?_, ?_⟩) | (refine ⟨⟨_, _⟩, Told.refl _, ?_, ?_⟩) | (refine ⟨⟨_, _, _⟩, Told.refl _, ?_, ?_⟩) | (refine ⟨⟨_, _, _, _⟩, Told.refl _, ?_, ?_⟩) | (refine ⟨⟨_, _, _, _, _⟩, Told.refl _, ?_, ?_⟩) | (refine ⟨(), Told.refl _, ?_, ?_⟩)) | (with_reducible intro _) | (refine fun (_ : Bool) => ?_)))
        all_goals try simp only [hw, ht, Int.toNat_natCast] at *
        all_goals first | (exact absurd ‹decide ((i : Int) < (l.length : Int)) = false› (by rw [hd]; decide)) | (exact absurd ‹decide ((i : Int) + 1 < (l.length : Int)) = false› (by rw [hd2]; decide)) | (exact absurd ‹highB (l.getD i default) = false› (by rw [hp.2.1]; decide)) | (exact absurd ‹lowB (l.getD (i + 1) default) = false› (by rw [hp.2.2]; decide)) | skip
        any_goals (refine Exists.intro ((i + 2, out ++ [pairR (l.getD i default) (l.getD (i + 1) default)]) : Nat × List Int) (And.intro ?_ (And.intro ?_ ?_)); all_goals (repeat' first | (with_reducible exact trivial) | (with_reducible rfl) | (refine And.intro ?_ ?_) | (refine Need.mk ?_) | exact True.intro | (first | (refine ⟨_, Told.refl _, ?_, ?_⟩) | (refine ⟨⟨_, _⟩, Told.refl _, ?_, ?_⟩) | (refine ⟨⟨_, _, _⟩, Told.refl _, ?_, ?_⟩) | (refine ⟨⟨_, _, _, _⟩, Told.refl _, ?_, ?_⟩) | (refine ⟨⟨_, _, _, _, _⟩, Told.refl _, ?_, ?_⟩) | (refine ⟨(), Told.refl _, ?_, ?_⟩)) | (with_reducible intro _) | (refine fun (_ : Bool) => ?_)))
        all_goals try simp only [hw, hw2, ht, Int.toNat_natCast] at *
        all_goals first
          | exact h5
          | (rename_i i hi; exact els_of ci_emb (n := 0) (cat_snoc rfl) i hi)
          | (rw [List.length_append]; rfl)
          | omega
          | (rw [List.length_append, List.length_singleton]; omega)
          | (rw [hwk i (by omega), hwk (i + 1) (by omega)]; done)
          | (rw [hwk i (by omega)]; done)
          | (refine ⟨by omega, ?_, h5⟩; rw [List.length_append, List.length_singleton]; omega)
          | (show (out.length + 1) * 8 ≤ _; omega)
          | (show l.length - (i + 2) < l.length - i; omega)
      · have h5 : decU l = (out ++ [oneU (l.getD i default)]) ++ decU (l.drop (i + 1)) := by
          rw [h3, hda, decU_one (fun b' r' e hh => by
            by_cases q : i + 1 < l.length
            · rw [drop_cons q] at e
              injection e with e1 e2
              subst e1
              exact hp ⟨q, hh⟩
            · rw [List.drop_eq_nil_of_le (by omega)] at e
              cases e), List.append_assoc]
          rfl
        ((refine AW.byF ‹_› ?_); (repeat' first | (with_reducible exact trivial) | (with_reducible rfl) | (refine And.intro ?_ ?_) | (refine Need.mk ?_) | exact True.intro | (first | (refine ⟨_, Told.refl _, ?_, ?_⟩) | (refine ⟨⟨_, _⟩, Told.refl _, ?_, ?_⟩) | (refine ⟨⟨_, _, _⟩, Told.refl _, ?_, ?_⟩) | (refine ⟨⟨_, _, _, _⟩, Told.refl _, ?_, ?_⟩) | (refine ⟨⟨_, _, _, _, _⟩, Told.refl _, ?_, ?_⟩) | (refine ⟨(), Told.refl _, ?_, ?_⟩)) | (with_reducible intro _) | (refine fun (_ : Bool) => ?_)))
        all_goals try simp only [hw, ht, Int.toNat_natCast] at *
        all_goals first | (exact absurd ‹decide ((i : Int) < (l.length : Int)) = false› (by rw [hd]; decide)) | (exact absurd (And.intro (by have := of_decide_eq_true ‹decide ((i : Int) + 1 < (l.length : Int)) = true›; omega) (And.intro ‹highB (l.getD i default) = true› ‹lowB (l.getD (i + 1) default) = true›)) hp) | skip
        any_goals (refine Exists.intro ((i + 1, out ++ [oneU (l.getD i default)]) : Nat × List Int) (And.intro ?_ (And.intro ?_ ?_)); all_goals (repeat' first | (with_reducible exact trivial) | (with_reducible rfl) | (refine And.intro ?_ ?_) | (refine Need.mk ?_) | exact True.intro | (first | (refine ⟨_, Told.refl _, ?_, ?_⟩) | (refine ⟨⟨_, _⟩, Told.refl _, ?_, ?_⟩) | (refine ⟨⟨_, _, _⟩, Told.refl _, ?_, ?_⟩) | (refine ⟨⟨_, _, _, _⟩, Told.refl _, ?_, ?_⟩) | (refine ⟨⟨_, _, _, _, _⟩, Told.refl _, ?_, ?_⟩) | (refine ⟨(), Told.refl _, ?_, ?_⟩)) | (with_reducible intro _) | (refine fun (_ : Bool) => ?_)))
        all_goals try simp only [hw, ht, Int.toNat_natCast] at *
        all_goals first
          | exact h5
          | (rename_i j hi
             have q := of_decide_eq_true ‹decide (l.getD i default > 65535) = true›
             have e : oneU (l.getD i default) = 65533 := if_pos q
             rw [e] at hi ⊢
             exact els_of ci_emb (n := 0) (cat_snoc rfl) j hi)
          | (rename_i j hi
             have q := of_decide_eq_false ‹decide (l.getD i default > 65535) = false›
             have e : oneU (l.getD i default) = gd (l.getD i default) := if_neg q
             rw [e] at hi ⊢
             exact els_of ci_emb (n := 0) (cat_snoc rfl) j hi)
          | (have q := of_decide_eq_true ‹decide ((i : Int) + 1 < (l.length : Int)) = true›; omega)
          | (rw [List.length_append]; rfl)
          | omega
          | (rw [List.length_append, List.length_singleton]; omega)
          | (rw [hwk i (by omega), hwk (i + 1) (by omega)]; done)
          | (rw [hwk i (by omega)]; done)
          | (refine ⟨by omega, ?_, h5⟩; rw [List.length_append, List.length_singleton]; omega)
          | (show (out.length + 1) * 8 ≤ _; omega)
    · obtain rfl : i = l.length := by omega
      have hd : decide ((l.length : Int) < (l.length : Int)) = false := decide_eq_false (by omega)
      have h4 : decU l = out := by rw [h3, List.drop_length]; simp [decU]
      ((refine AW.byF ‹_› ?_); (repeat' first | (with_reducible exact trivial) | (with_reducible rfl) | (refine And.intro ?_ ?_) | (refine Need.mk ?_) | exact True.intro | (first | (refine ⟨_, Told.refl _, ?_, ?_⟩) | (refine ⟨⟨_, _⟩, Told.refl _, ?_, ?_⟩) | (refine ⟨⟨_, _, _⟩, Told.refl _, ?_, ?_⟩) | (refine ⟨⟨_, _, _, _⟩, Told.refl _, ?_, ?_⟩) | (refine ⟨⟨_, _, _, _, _⟩, Told.refl _, ?_, ?_⟩) | (refine ⟨(), Told.refl _, ?_, ?_⟩)) | (with_reducible intro _) | (refine fun (_ : Bool) => ?_)))
      all_goals first | (exact absurd ‹decide ((l.length : Int) < (l.length : Int)) = true› (by rw [hd]; decide)) | skip
      all_goals rw [h4]
end Go.Abs.Txt
set_option maxRecDepth 100000
namespace Go.Abs.Txt
open Go.RowKit Go.Proofs Go.Abs.Utf Go.Abs.Hx
def encZ (l : List Int) : List Int := l.flatMap fun x => Lib.encodeRuneZ (gd x)
theorem bStr_eq (ns : List Int) : bStr ns = ⟨(ns.map fun n => UInt8.ofNat n.toNat).toArray⟩ := by
  have key : ∀ (l : List Int) (r : ByteArray), l.foldl (fun r n => r.push (UInt8.ofNat n.toNat)) r = ⟨r.data ++ (l.map fun n => UInt8.ofNat n.toNat).toArray⟩ := by
    intro l
    induction l with
    | nil => intro r; simp
    | cons x l ih =>
      intro r
      rw [List.foldl_cons, ih]
      simp [ByteArray.push]
  unfold bStr
  rw [key]
  rw [show ByteArray.empty.data = #[] from rfl, Array.empty_append]
theorem elStr_a8 (l : List Int) : elStr l.length (els c8 l) = bStr l := by
  unfold elStr
  congr 1
  apply List.ext_getElem
  · simp
  · intro i h1 h2
    have h3 : i < l.length := h2
    simp only [List.getElem_map, List.getElem_range]
    show (u8v (c8 (l.getD i default))).getD 0 = l[i]
    have : l.getD i default = l[i] := by simp [List.getD, h3]
    rw [this]
    rfl
theorem encB_Z (l : List Int) : encB l = bStr (encZ l) := by
  rw [bStr_eq]
  unfold encB enc encZ
  congr 2
  induction l with
  | nil => rfl
  | cons x l ih =>
    rw [List.flatMap_cons, List.flatMap_cons, List.map_append, ← ih]
    rfl
theorem encZ_next {l : List Int} {k : Nat} (hk : k < l.length) : encZ (l.take (k + 1)) = encZ (l.take k) ++ Lib.encodeRuneZ (gd (l.getD k default)) := by
  unfold encZ
  rw [List.take_succ_eq_append_getElem hk, List.flatMap_append]
  simp [List.getD, hk]
theorem encZ_len (l : List Int) : (encZ l).length ≤ 4 * l.length := by
  induction l with
  | nil => exact Nat.le_refl _
  | cons x l ih =>
    have := (Lib.encodeRuneZ_length (gd x)).2
    unfold encZ at ih ⊢
    rw [List.flatMap_cons, List.length_append, List.length_cons]
    omega
theorem gd_good (n : Int) : goodB (gd n) = true := by
  unfold gd
  split
  · assumption
  · decide
theorem fD {n : Int} (h : 0 ≤ n) (h2 : n ≤ 1114111) (k : Nat) : IntKind.i64.wrap (n.tdiv (k : Int)) = n / (k : Int) := by
  have q := Int.ediv_nonneg h (Int.natCast_nonneg k)
  have q2 : n / (k : Int) ≤ n := Int.ediv_le_self _ h
  rw [Int.tdiv_eq_ediv_of_nonneg h, iw (by omega) (by omega)]
theorem fM {n : Int} (h : 0 ≤ n) : n.tmod 64 = n % 64 := Int.tmod_eq_emod_of_nonneg h
theorem fW {n : Int} (h : 0 ≤ n) (h2 : n ≤ 255) : IntKind.u8.wrap (IntKind.i64.wrap n) = n := by
  simp only [IntKind.wrap_u8, IntKind.wrap_i64]
  omega
theorem form1 {n : Int} (h0 : 0 ≤ n) (h1 : n ≤ 127) : Lib.encodeRuneZ n = [IntKind.u8.wrap n] := by
  rw [Lib.encodeRuneZ_one h0 h1]
  congr 1
  rw [IntKind.wrap_u8]
  omega
theorem form2 {n : Int} (h0 : 128 ≤ n) (h1 : n ≤ 2047) : Lib.encodeRuneZ n = [IntKind.u8.wrap (IntKind.i64.wrap (192 + IntKind.i64.wrap (n.tdiv (64 : Nat)))), IntKind.u8.wrap (IntKind.i64.wrap (128 + n.tmod 64))] := by
  rw [Lib.encodeRuneZ_two h0 h1, fD (by omega) (by omega), fM (by omega), fW (by omega) (by omega), fW (by omega) (by omega)]
  rfl
theorem form3 {n : Int} (h0 : 0 ≤ n) (h1 : n ≤ 65535) (h : (2048 ≤ n ∧ n < 55296) ∨ (57343 < n ∧ n ≤ 65535)) : Lib.encodeRuneZ n = [IntKind.u8.wrap (IntKind.i64.wrap (224 + IntKind.i64.wrap (n.tdiv (4096 : Nat)))), IntKind.u8.wrap (IntKind.i64.wrap (128 + (IntKind.i64.wrap (n.tdiv (64 : Nat))).tmod 64)), IntKind.u8.wrap (IntKind.i64.wrap (128 + n.tmod 64))] := by
  rw [Lib.encodeRuneZ_three h, fD (by omega) (by omega), fD (by omega) (by omega), fM (by omega), fM (by omega), fW (by omega) (by omega), fW (by omega) (by omega), fW (by omega) (by omega)]
  rfl
theorem form4 {n : Int} (h0 : 65536 ≤ n) (h1 : n ≤ 1114111) : Lib.encodeRuneZ n = [IntKind.u8.wrap (IntKind.i64.wrap (240 + IntKind.i64.wrap (n.tdiv (262144 : Nat)))), IntKind.u8.wrap (IntKind.i64.wrap (128 + (IntKind.i64.wrap (n.tdiv (4096 : Nat))).tmod 64)), IntKind.u8.wrap (IntKind.i64.wrap (128 + (IntKind.i64.wrap (n.tdiv (64 : Nat))).tmod 64)), IntKind.u8.wrap (IntKind.i64.wrap (128 + n.tmod 64))] := by
  rw [Lib.encodeRuneZ_four h0 h1, fD (by omega) (by omega), fD (by omega) (by omega), fD (by omega) (by omega), fM (by omega), fM (by omega), fM (by omega), fW (by omega) (by omega), fW (by omega) (by omega), fW (by omega) (by omega), fW (by omega) (by omega)]
  rfl
def SForm : Sp := ⟨Int, fun n => goodB n = true, fun n => [.int .i64 n], fun n => .row 5 1 (Lib.encodeRuneZ n).length (els c8 (Lib.encodeRuneZ n))⟩
set_option maxHeartbeats 4000000 in
theorem rform : SpOK Try.prog 59 SForm := fun (n : Int) hn => by
  have hC := base
  have hn : goodB n = true := hn
  unfold goodB at hn
  rw [decide_eq_true_eq] at hn
  ((refine Fn.ofF hC Try.func59 Try.ntmps59 rfl rfl rfl ?_); (repeat' first | (with_reducible exact trivial) | (with_reducible rfl) | (refine And.intro ?_ ?_) | (refine Need.mk ?_) | exact True.intro | (first | (refine ⟨_, Told.refl _, ?_, ?_⟩) | (refine ⟨⟨_, _⟩, Told.refl _, ?_, ?_⟩) | (refine ⟨⟨_, _, _⟩, Told.refl _, ?_, ?_⟩) | (refine ⟨⟨_, _, _, _⟩, Told.refl _, ?_, ?_⟩) | (refine ⟨⟨_, _, _, _, _⟩, Told.refl _, ?_, ?_⟩) | (refine ⟨(), Told.refl _, ?_, ?_⟩)) | (with_reducible intro _) | (refine fun (_ : Bool) => ?_)))
  all_goals first
    | (show (64 : Int) ≠ 0; decide)
    | (show (4096 : Int) ≠ 0; decide)
    | (show (262144 : Int) ≠ 0; decide)
    | skip
  all_goals first
    | (have q := of_decide_eq_true ‹decide (n < 128) = true›; have e := form1 hn.1 (by omega); clear q; (first | (rename_i i hi; rw [e] at hi ⊢; exact els_of c8_emb (n := 0) (elt_list _) i hi) | (rw [e]; rfl)))
    | (have q := of_decide_eq_false ‹decide (n < 128) = false›; have q2 := of_decide_eq_true ‹decide (n < 2048) = true›; have e := form2 (n := n) (by omega) (by omega); clear q q2; (first | (rename_i i hi; rw [e] at hi ⊢; exact els_of c8_emb (n := 0) (elt_list _) i hi) | (rw [e]; rfl)))
    | (have q := of_decide_eq_false ‹decide (n < 2048) = false›; have q2 := of_decide_eq_true ‹decide (n < 65536) = true›; have e := form3 (n := n) (by omega) (by omega) (by omega); clear q q2; (first | (rename_i i hi; rw [e] at hi ⊢; exact els_of c8_emb (n := 0) (elt_list _) i hi) | (rw [e]; rfl)))
    | (have q := of_decide_eq_false ‹decide (n < 65536) = false›; have e := form4 (n := n) (by omega) (by omega); clear q; (first | (rename_i i hi; rw [e] at hi ⊢; exact els_of c8_emb (n := 0) (elt_list _) i hi) | (rw [e]; rfl)))
def STextZ : Sp := ⟨List Int, fun l => l.length ≤ 1000000000, fun l => [aI l], fun l => .st (.str (encB l))⟩
set_option maxHeartbeats 4000000 in
theorem rtext : SpOK Try.prog 34 STextZ := fun (l : List Int) hl => by
  have hC : COK Try.prog (cfg [(60, SGd), (59, SForm)]) := Ty.ty.cfg ⟨rgdf, rform, trivial⟩
  have hl : l.length ≤ 1000000000 := hl
  ((refine Fn.ofF hC Try.func34 Try.ntmps34 rfl rfl rfl ?_); (repeat' first | (with_reducible exact trivial) | (with_reducible rfl) | (refine And.intro ?_ ?_) | (refine Need.mk ?_) | exact True.intro | (first | (refine ⟨_, Told.refl _, ?_, ?_⟩) | (refine ⟨⟨_, _⟩, Told.refl _, ?_, ?_⟩) | (refine ⟨⟨_, _, _⟩, Told.refl _, ?_, ?_⟩) | (refine ⟨⟨_, _, _, _⟩, Told.refl _, ?_, ?_⟩) | (refine ⟨⟨_, _, _, _, _⟩, Told.refl _, ?_, ?_⟩) | (refine ⟨(), Told.refl _, ?_, ?_⟩)) | (with_reducible intro _) | (refine fun (_ : Bool) => ?_)))
  refine AW.loop (I := fun k : Nat => ⟨21, [(0, aI l), (3, .own 0), (4, .int .i64 k)], [.row 5 1 (encZ (l.take k)).length (els c8 (encZ (l.take k)))]⟩) (fun k => k ≤ l.length) (fun k => l.length - k) 0 (Nat.zero_le _) ?_ ?_
  · (repeat' first | (with_reducible exact trivial) | (with_reducible rfl) | (refine And.intro ?_ ?_) | (refine Need.mk ?_) | exact True.intro | (first | (refine ⟨_, Told.refl _, ?_, ?_⟩) | (refine ⟨⟨_, _⟩, Told.refl _, ?_, ?_⟩) | (refine ⟨⟨_, _, _⟩, Told.refl _, ?_, ?_⟩) | (refine ⟨⟨_, _, _, _⟩, Told.refl _, ?_, ?_⟩) | (refine ⟨⟨_, _, _, _, _⟩, Told.refl _, ?_, ?_⟩) | (refine ⟨(), Told.refl _, ?_, ?_⟩)) | (with_reducible intro _) | (refine fun (_ : Bool) => ?_))
    all_goals rfl
  · intro k hk
    rcases Nat.lt_or_ge k l.length with hlt | hge
    · have hd : decide ((k : Int) < (l.length : Int)) = true := decide_eq_true (by omega)
      have hw := iw (n := (k : Int) + 1) (by omega) (by omega)
      have hnx := encZ_next hlt
      have hz := encZ_len (l.take k)
      have hr := (Lib.encodeRuneZ_length (gd (l.getD k default))).2
      have ht : (l.take k).length = k := by rw [List.length_take]; omega
      have hg := gd_good (l.getD k default)
      ((refine AW.byF ‹_› ?_); (repeat' first | (with_reducible exact trivial) | (with_reducible rfl) | (refine And.intro ?_ ?_) | (refine Need.mk ?_) | exact True.intro | (first | (refine ⟨_, Told.refl _, ?_, ?_⟩) | (refine ⟨⟨_, _⟩, Told.refl _, ?_, ?_⟩) | (refine ⟨⟨_, _, _⟩, Told.refl _, ?_, ?_⟩) | (refine ⟨⟨_, _, _, _⟩, Told.refl _, ?_, ?_⟩) | (refine ⟨⟨_, _, _, _, _⟩, Told.refl _, ?_, ?_⟩) | (refine ⟨(), Told.refl _, ?_, ?_⟩)) | (with_reducible intro _) | (refine fun (_ : Bool) => ?_)))
      all_goals first | (exact absurd ‹decide ((k : Int) < (l.length : Int)) = false› (by rw [hd]; decide)) | skip
      all_goals try simp only [hw, Int.toNat_natCast] at *
      any_goals (refine Exists.intro (k + 1) (And.intro ?_ (And.intro ?_ ?_)); all_goals (repeat' first | (with_reducible exact trivial) | (with_reducible rfl) | (refine And.intro ?_ ?_) | (refine Need.mk ?_) | exact True.intro | (first | (refine ⟨_, Told.refl _, ?_, ?_⟩) | (refine ⟨⟨_, _⟩, Told.refl _, ?_, ?_⟩) | (refine ⟨⟨_, _, _⟩, Told.refl _, ?_, ?_⟩) | (refine ⟨⟨_, _, _, _⟩, Told.refl _, ?_, ?_⟩) | (refine ⟨⟨_, _, _, _, _⟩, Told.refl _, ?_, ?_⟩) | (refine ⟨(), Told.refl _, ?_, ?_⟩)) | (with_reducible intro _) | (refine fun (_ : Bool) => ?_)))
      all_goals try simp only [hw, Int.toNat_natCast] at *
      all_goals first
        | omega
        | exact hg
        | (rename_i i hi; rw [hnx] at hi ⊢; exact els_of c8_emb (n := 0) (cat_app rfl) i hi)
        | (rw [hnx, List.length_append]; done)
        | (rw [iw (by omega) (by omega)]; rfl)
    · obtain rfl : k = l.length := by omega
      have hd : decide ((l.length : Int) < (l.length : Int)) = false := decide_eq_false (by omega)
      have h4 : elStr (encZ l).length (els c8 (encZ l)) = encB l := by rw [elStr_a8, encB_Z]
      rw [List.take_length]
      ((refine AW.byF ‹_› ?_); (repeat' first | (with_reducible exact trivial) | (with_reducible rfl) | (refine And.intro ?_ ?_) | (refine Need.mk ?_) | exact True.intro | (first | (refine ⟨_, Told.refl _, ?_, ?_⟩) | (refine ⟨⟨_, _⟩, Told.refl _, ?_, ?_⟩) | (refine ⟨⟨_, _, _⟩, Told.refl _, ?_, ?_⟩) | (refine ⟨⟨_, _, _, _⟩, Told.refl _, ?_, ?_⟩) | (refine ⟨⟨_, _, _, _, _⟩, Told.refl _, ?_, ?_⟩) | (refine ⟨(), Told.refl _, ?_, ?_⟩)) | (with_reducible intro _) | (refine fun (_ : Bool) => ?_)))
      all_goals first | (exact absurd ‹decide ((l.length : Int) < (l.length : Int)) = true› (by rw [hd]; decide)) | skip
      all_goals first
        | rw [h4]
        | rfl
end Go.Abs.Txt
set_option maxRecDepth 100000
namespace Go.Abs.Dest
open Go.RowKit Go.Proofs Go.Abs.Tab
def SLastR : Sp := ⟨List Bf × Int × Int, fun (l, n, v) => l.length < 9223372036854775807, fun (l, n, v) => [aB l, aCode n v], fun (l, n, v) => rO (EB.last l n v)⟩
theorem or_some {α : Type} {o p : Option α} (h : o.isSome = true) : o.or p = o := by cases o; cases h; rfl
theorem or_none {α : Type} {o p : Option α} (h : o.isSome = false) : o.or p = p := by cases o; rfl; cases h
set_option maxHeartbeats 4000000 in
theorem rlast : SpOK Try.prog 58 SLastR := fun ⟨l, n, v⟩ hl => by
  have hC : COK Try.prog (cfg [(96, STo)]) := Ty.ty.cfg ⟨rto, trivial⟩
  have hl : l.length < 9223372036854775807 := hl
  ((refine Fn.ofF hC Try.func58 Try.ntmps58 rfl rfl rfl ?_); (repeat' first | (with_reducible exact trivial) | (with_reducible rfl) | (refine And.intro ?_ ?_) | (refine Need.mk ?_) | exact True.intro | (first | (refine ⟨_, Told.refl _, ?_, ?_⟩) | (refine ⟨⟨_, _⟩, Told.refl _, ?_, ?_⟩) | (refine ⟨⟨_, _, _⟩, Told.refl _, ?_, ?_⟩) | (refine ⟨⟨_, _, _, _⟩, Told.refl _, ?_, ?_⟩) | (refine ⟨⟨_, _, _, _, _⟩, Told.refl _, ?_, ?_⟩) | (refine ⟨(), Told.refl _, ?_, ?_⟩)) | (with_reducible intro _) | (refine fun (_ : Bool) => ?_)))
  refine AW.loop (I := fun k : Nat => ⟨27, [(0, aB l), (3, .ptr 0 0), (6, .int .i64 ((k : Int) - 1))], [.box 57 [.int .i64 n, .int .i64 v]]⟩) (fun k => k ≤ l.length ∧ EB.last l n v = EB.last (l.take k) n v) (fun k => k) l.length ⟨Nat.le_refl _, by rw [List.take_length]⟩ ?_ ?_
  · (repeat' first | (with_reducible exact trivial) | (with_reducible rfl) | (refine And.intro ?_ ?_) | (refine Need.mk ?_) | exact True.intro | (first | (refine ⟨_, Told.refl _, ?_, ?_⟩) | (refine ⟨⟨_, _⟩, Told.refl _, ?_, ?_⟩) | (refine ⟨⟨_, _, _⟩, Told.refl _, ?_, ?_⟩) | (refine ⟨⟨_, _, _, _⟩, Told.refl _, ?_, ?_⟩) | (refine ⟨⟨_, _, _, _, _⟩, Told.refl _, ?_, ?_⟩) | (refine ⟨(), Told.refl _, ?_, ?_⟩)) | (with_reducible intro _) | (refine fun (_ : Bool) => ?_))
    all_goals first | rfl | exact iw (by omega) (by omega)
  · intro k ⟨hk, he⟩
    rcases k with _ | m
    · have hd : decide (((0 : Nat) : Int) - 1 ≥ 0) = false := by decide
      have he : EB.last l n v = none := he
      ((refine AW.byF ‹_› ?_); (repeat' first | (with_reducible exact trivial) | (with_reducible rfl) | (refine And.intro ?_ ?_) | (refine Need.mk ?_) | exact True.intro | (first | (refine ⟨_, Told.refl _, ?_, ?_⟩) | (refine ⟨⟨_, _⟩, Told.refl _, ?_, ?_⟩) | (refine ⟨⟨_, _, _⟩, Told.refl _, ?_, ?_⟩) | (refine ⟨⟨_, _, _, _⟩, Told.refl _, ?_, ?_⟩) | (refine ⟨⟨_, _, _, _, _⟩, Told.refl _, ?_, ?_⟩) | (refine ⟨(), Told.refl _, ?_, ?_⟩)) | (with_reducible intro _) | (refine fun (_ : Bool) => ?_)))
      all_goals first | (exact absurd ‹decide (((0 : Nat) : Int) - 1 ≥ 0) = true› (by rw [hd]; decide)) | skip
      all_goals (rw [he]; rfl)
    · have hd : decide (((m + 1 : Nat) : Int) - 1 ≥ 0) = true := decide_eq_true (by omega)
      have e : ((m + 1 : Nat) : Int) - 1 = (m : Int) := by omega
      have hw := iw (n := (m : Int) - 1) (by omega) (by omega)
      have hs : EB.last l n v = (EB.to (l.getD m default) n v).or (EB.last (l.take m) n v) := by rw [he, List.take_succ_eq_append_getElem (by omega), EB.last_snoc, getB (by omega)]
      ((refine AW.byF ‹_› ?_); (repeat' first | (with_reducible exact trivial) | (with_reducible rfl) | (refine And.intro ?_ ?_) | (refine Need.mk ?_) | exact True.intro | (first | (refine ⟨_, Told.refl _, ?_, ?_⟩) | (refine ⟨⟨_, _⟩, Told.refl _, ?_, ?_⟩) | (refine ⟨⟨_, _, _⟩, Told.refl _, ?_, ?_⟩) | (refine ⟨⟨_, _, _, _⟩, Told.refl _, ?_, ?_⟩) | (refine ⟨⟨_, _, _, _, _⟩, Told.refl _, ?_, ?_⟩) | (refine ⟨(), Told.refl _, ?_, ?_⟩)) | (with_reducible intro _) | (refine fun (_ : Bool) => ?_)))
      all_goals first | (exact absurd ‹decide (((m + 1 : Nat) : Int) - 1 ≥ 0) = false› (by rw [hd]; decide)) | skip
      any_goals (refine Exists.intro (m) (And.intro ?_ (And.intro ?_ ?_)); all_goals (repeat' first | (with_reducible exact trivial) | (with_reducible rfl) | (refine And.intro ?_ ?_) | (refine Need.mk ?_) | exact True.intro | (first | (refine ⟨_, Told.refl _, ?_, ?_⟩) | (refine ⟨⟨_, _⟩, Told.refl _, ?_, ?_⟩) | (refine ⟨⟨_, _, _⟩, Told.refl _, ?_, ?_⟩) | (refine ⟨⟨_, _, _, _⟩, Told.refl _, ?_, ?_⟩) | (refine ⟨⟨_, _, _, _, _⟩, Told.refl _, ?_, ?_⟩) | (refine ⟨(), Told.refl _, ?_, ?_⟩)) | (with_reducible intro _) | (refine fun (_ : Bool) => ?_)))
      all_goals try simp only [e, hw, Int.toNat_natCast] at *
      all_goals first
        | omega
        | (have q : (EB.to (l.getD m default) n v).isSome = true := by assumption
           rw [hs, or_some q]
           first | done | exact q.symm)
        | (have q : (EB.to (l.getD m default) n v).isSome = false := by assumption
           exact hs.trans (or_none q))
def SFindR : Sp := ⟨List Bf × Int × Int, fun (t, n, v) => t.length < 9223372036854775807, fun (t, n, v) => [aB t, aCode n v], fun (t, n, v) => rO (EB.find t n v)⟩
theorem ok_at' {t : List Bf} {k : Nat} (hk0 : 0 < k) (hp : sane (t.getD (k - 1) default) = true) : EB.okAt t k = true ↔ (sane (t.getD k default) = true ∧ ¬ (t.getD k default).n < (t.getD (k - 1) default).n ∧ ¬ ((t.getD k default).n = (t.getD (k - 1) default).n ∧ (t.getD k default).lo ≤ (t.getD (k - 1) default).hi) ∧ joins (t.getD (k - 1) default) (t.getD k default) = false) := by
  have hne : (k == 0) = false := by simp; omega
  unfold En.okAt
  rw [hne, Bool.false_or, Bool.and_eq_true, Bool.and_eq_true, decide_eq_true_eq]
  show sane _ = true ∧ (((t.getD (k - 1) default).n < (t.getD k default).n ∨ ((t.getD (k - 1) default).n = (t.getD k default).n ∧ (t.getD (k - 1) default).hi < (t.getD k default).lo)) ∧ (!joins _ _) = true) ↔ _
  rw [Bool.not_eq_true']
  constructor
  · rintro ⟨h1, h2, h3⟩
    exact ⟨h1, by omega, by omega, h3⟩
  · rintro ⟨h1, h2, h3, h4⟩
    exact ⟨h1, by omega, h4⟩
set_option maxHeartbeats 8000000 in
theorem rcanon : SpOK Try.prog 36 SCanon := fun (t : List Bf) ht => by
  have hC : COK Try.prog (cfg [(63, SBSane), (64, SJoins)]) := Ty.ty.cfg ⟨rsane, rjoins, trivial⟩
  have ht : t.length < 9223372036854775807 := ht
  ((refine Fn.ofF hC Try.func36 Try.ntmps36 rfl rfl rfl ?_); (repeat' first | (with_reducible exact trivial) | (with_reducible rfl) | (refine And.intro ?_ ?_) | (refine Need.mk ?_) | exact True.intro | (first | (refine ⟨_, Told.refl _, ?_, ?_⟩) | (refine ⟨⟨_, _⟩, Told.refl _, ?_, ?_⟩) | (refine ⟨⟨_, _, _⟩, Told.refl _, ?_, ?_⟩) | (refine ⟨⟨_, _, _, _⟩, Told.refl _, ?_, ?_⟩) | (refine ⟨⟨_, _, _, _, _⟩, Told.refl _, ?_, ?_⟩) | (refine ⟨(), Told.refl _, ?_, ?_⟩)) | (with_reducible intro _) | (refine fun (_ : Bool) => ?_)))
  refine AW.loop (I := fun k : Nat => ⟨72, [(0, aB t), (3, .int .i64 k)], []⟩) (fun k => k ≤ t.length ∧ ∀ j, j < k → EB.okAt t j = true) (fun k => t.length - k) 0 ⟨Nat.zero_le _, fun j hj => by omega⟩ ?_ ?_
  · (repeat' first | (with_reducible exact trivial) | (with_reducible rfl) | (refine And.intro ?_ ?_) | (refine Need.mk ?_) | exact True.intro | (first | (refine ⟨_, Told.refl _, ?_, ?_⟩) | (refine ⟨⟨_, _⟩, Told.refl _, ?_, ?_⟩) | (refine ⟨⟨_, _, _⟩, Told.refl _, ?_, ?_⟩) | (refine ⟨⟨_, _, _, _⟩, Told.refl _, ?_, ?_⟩) | (refine ⟨⟨_, _, _, _, _⟩, Told.refl _, ?_, ?_⟩) | (refine ⟨(), Told.refl _, ?_, ?_⟩)) | (with_reducible intro _) | (refine fun (_ : Bool) => ?_))
    all_goals rfl
  · intro k ⟨hk, hok⟩
    rcases Nat.lt_or_ge k t.length with hlt | hge
    · have hd : decide ((k : Int) < (t.length : Int)) = true := decide_eq_true (by omega)
      have hw := iw (n := (k : Int) + 1) (by omega) (by omega)
      rcases Nat.eq_zero_or_pos k with rfl | hk0
      · have hz := ok_zero (t := t)
        ((refine AW.byF ‹_› ?_); (repeat' first | (with_reducible exact trivial) | (with_reducible rfl) | (refine And.intro ?_ ?_) | (refine Need.mk ?_) | exact True.intro | (first | (refine ⟨_, Told.refl _, ?_, ?_⟩) | (refine ⟨⟨_, _⟩, Told.refl _, ?_, ?_⟩) | (refine ⟨⟨_, _, _⟩, Told.refl _, ?_, ?_⟩) | (refine ⟨⟨_, _, _, _⟩, Told.refl _, ?_, ?_⟩) | (refine ⟨⟨_, _, _, _, _⟩, Told.refl _, ?_, ?_⟩) | (refine ⟨(), Told.refl _, ?_, ?_⟩)) | (with_reducible intro _) | (refine fun (_ : Bool) => ?_)))
        all_goals first | (exact absurd ‹decide (((0 : Nat) : Int) < (t.length : Int)) = false› (by rw [hd]; decide)) | skip
        any_goals (refine Exists.intro (1) (And.intro ?_ (And.intro ?_ ?_)); all_goals (repeat' first | (with_reducible exact trivial) | (with_reducible rfl) | (refine And.intro ?_ ?_) | (refine Need.mk ?_) | exact True.intro | (first | (refine ⟨_, Told.refl _, ?_, ?_⟩) | (refine ⟨⟨_, _⟩, Told.refl _, ?_, ?_⟩) | (refine ⟨⟨_, _, _⟩, Told.refl _, ?_, ?_⟩) | (refine ⟨⟨_, _, _, _⟩, Told.refl _, ?_, ?_⟩) | (refine ⟨⟨_, _, _, _, _⟩, Told.refl _, ?_, ?_⟩) | (refine ⟨(), Told.refl _, ?_, ?_⟩)) | (with_reducible intro _) | (refine fun (_ : Bool) => ?_)))
        all_goals ((try dsimp only at *); (try simp only [decide_eq_true_eq, decide_eq_false_iff_not, beq_iff_eq, bne_iff_ne, beq_eq_false_iff_ne, bne_eq_false_iff_eq, ne_eq, Decidable.not_not, ge_iff_le, gt_iff_lt, Bool.not_eq_true', Bool.not_eq_false', Int.not_lt, Int.not_le, Nat.not_lt, Nat.not_le] at *))
        all_goals try simp only [Int.toNat_natCast, hw] at *
        all_goals first
          | omega
          | exact canon_no (k := 0) (by omega) (fun q => by have := hz.1 q; simp_all)
          | exact ok_next hok (hz.2 ‹_›) _ ‹_›
          | (intros; first | rfl | (((try dsimp only at *); (try simp only [decide_eq_true_eq, decide_eq_false_iff_not, beq_iff_eq, bne_iff_ne, beq_eq_false_iff_ne, bne_eq_false_iff_eq, ne_eq, Decidable.not_not, ge_iff_le, gt_iff_lt, Bool.not_eq_true', Bool.not_eq_false', Int.not_lt, Int.not_le, Nat.not_lt, Nat.not_le] at *)) <;> (try simp only [IntKind.wrap_i64] at *) <;> omega))
      · have e1 : IntKind.i64.wrap ((k : Int) - 1) = ((k - 1 : Nat) : Int) := by rw [iw (by omega) (by omega)]; omega
        have hp := ok_sane (hok (k - 1) (by omega))
        have hiff := ok_at' hk0 hp
        ((refine AW.byF ‹_› ?_); (repeat' first | (with_reducible exact trivial) | (with_reducible rfl) | (refine And.intro ?_ ?_) | (refine Need.mk ?_) | exact True.intro | (first | (refine ⟨_, Told.refl _, ?_, ?_⟩) | (refine ⟨⟨_, _⟩, Told.refl _, ?_, ?_⟩) | (refine ⟨⟨_, _, _⟩, Told.refl _, ?_, ?_⟩) | (refine ⟨⟨_, _, _, _⟩, Told.refl _, ?_, ?_⟩) | (refine ⟨⟨_, _, _, _, _⟩, Told.refl _, ?_, ?_⟩) | (refine ⟨(), Told.refl _, ?_, ?_⟩)) | (with_reducible intro _) | (refine fun (_ : Bool) => ?_)))
        all_goals first | (exact absurd ‹decide ((k : Int) < (t.length : Int)) = false› (by rw [hd]; decide)) | skip
        any_goals (refine Exists.intro (k + 1) (And.intro ?_ (And.intro ?_ ?_)); all_goals (repeat' first | (with_reducible exact trivial) | (with_reducible rfl) | (refine And.intro ?_ ?_) | (refine Need.mk ?_) | exact True.intro | (first | (refine ⟨_, Told.refl _, ?_, ?_⟩) | (refine ⟨⟨_, _⟩, Told.refl _, ?_, ?_⟩) | (refine ⟨⟨_, _, _⟩, Told.refl _, ?_, ?_⟩) | (refine ⟨⟨_, _, _, _⟩, Told.refl _, ?_, ?_⟩) | (refine ⟨⟨_, _, _, _, _⟩, Told.refl _, ?_, ?_⟩) | (refine ⟨(), Told.refl _, ?_, ?_⟩)) | (with_reducible intro _) | (refine fun (_ : Bool) => ?_)))
        all_goals ((try dsimp only at *); (try simp only [decide_eq_true_eq, decide_eq_false_iff_not, beq_iff_eq, bne_iff_ne, beq_eq_false_iff_ne, bne_eq_false_iff_eq, ne_eq, Decidable.not_not, ge_iff_le, gt_iff_lt, Bool.not_eq_true', Bool.not_eq_false', Int.not_lt, Int.not_le, Nat.not_lt, Nat.not_le] at *))
        all_goals try simp only [e1, hw, Int.toNat_natCast] at *
        all_goals first
          | omega
          | exact hp
          | assumption
          | exact canon_no (k := k) (by omega) (fun q => by have := hiff.1 q; first | omega | simp_all)
          | (refine ok_next hok (hiff.2 ⟨‹_›, by omega, by omega, ?_⟩) _ ‹_›; first | assumption | (simp_all; done))
          | skip
    · obtain rfl : k = t.length := by omega
      have hd : decide ((t.length : Int) < (t.length : Int)) = false := decide_eq_false (by omega)
      ((refine AW.byF ‹_› ?_); (repeat' first | (with_reducible exact trivial) | (with_reducible rfl) | (refine And.intro ?_ ?_) | (refine Need.mk ?_) | exact True.intro | (first | (refine ⟨_, Told.refl _, ?_, ?_⟩) | (refine ⟨⟨_, _⟩, Told.refl _, ?_, ?_⟩) | (refine ⟨⟨_, _, _⟩, Told.refl _, ?_, ?_⟩) | (refine ⟨⟨_, _, _, _⟩, Told.refl _, ?_, ?_⟩) | (refine ⟨⟨_, _, _, _, _⟩, Told.refl _, ?_, ?_⟩) | (refine ⟨(), Told.refl _, ?_, ?_⟩)) | (with_reducible intro _) | (refine fun (_ : Bool) => ?_)))
      all_goals first | (exact absurd ‹decide ((t.length : Int) < (t.length : Int)) = true› (by rw [hd]; decide)) | skip
      exact canon_all hok
theorem rfind : SpOK Try.prog 33 SFindR := fun ⟨t, n, v⟩ hl => by
  have hC : COK Try.prog (cfg [(36, SCanon), (58, SLastR)]) := Ty.ty.cfg ⟨rcanon, rlast, trivial⟩
  have hl : t.length < 9223372036854775807 := hl
  have hy : EB.canon t = true → EB.find t n v = EB.last t n v := fun h => by
    rw [find_yes h]
    exact (last_tab ((EB.canon_iff t).1 h) n v).symm
  ((refine Fn.ofF hC Try.func33 Try.ntmps33 rfl rfl rfl ?_); (repeat' first | (with_reducible exact trivial) | (with_reducible rfl) | (refine And.intro ?_ ?_) | (refine Need.mk ?_) | exact True.intro | (first | (refine ⟨_, Told.refl _, ?_, ?_⟩) | (refine ⟨⟨_, _⟩, Told.refl _, ?_, ?_⟩) | (refine ⟨⟨_, _, _⟩, Told.refl _, ?_, ?_⟩) | (refine ⟨⟨_, _, _, _⟩, Told.refl _, ?_, ?_⟩) | (refine ⟨⟨_, _, _, _, _⟩, Told.refl _, ?_, ?_⟩) | (refine ⟨(), Told.refl _, ?_, ?_⟩)) | (with_reducible intro _) | (refine fun (_ : Bool) => ?_)))
  · exact hl
  · rename_i h
    rw [find_no (by simpa using h)]
    rfl
  · rename_i h
    rw [find_no (by simpa using h)]
    rfl
  · exact hl
  all_goals rw [hy (by simpa using ‹(!EB.canon t) = false›)]
def SPut : Sp := ⟨List Int × Int, fun (l, v) => l.length ≤ 1000000000, fun (l, v) => [aI l, .int .i64 v], fun (l, v) => .row 3 1 (insU l v).length (els ci (insU l v))⟩
/-- What is behind, once done or not. -/
def restU (d : Bool) (l : List Int) (v : Int) : List Int := cond d l (insU l v)
end Go.Abs.Dest
set_option maxRecDepth 100000
namespace Go.Abs.Coll
open Go.RowKit Go.Proofs Go.Abs.Tab Go.Abs.Dest Go.Abs.Span Go.Abs.Utf Go.Abs.Txt Go.Abs.Hx
theorem runi : SpOK Try.prog 13 SUni := fun ⟨t, c⟩ ht => by
  have hC : COK Try.prog (cfg [(33, SFindR)]) := Ty.ty.cfg ⟨rfind, trivial⟩
  have ht : t.bfs.length < 4611686018427387904 := ht
  ((refine Fn.ofF hC Try.func13 Try.ntmps13 rfl rfl rfl ?_); (repeat' first | (with_reducible exact trivial) | (with_reducible rfl) | (refine And.intro ?_ ?_) | (refine Need.mk ?_) | exact True.intro | (first | (refine ⟨_, Told.refl _, ?_, ?_⟩) | (refine ⟨⟨_, _⟩, Told.refl _, ?_, ?_⟩) | (refine ⟨⟨_, _, _⟩, Told.refl _, ?_, ?_⟩) | (refine ⟨⟨_, _, _, _⟩, Told.refl _, ?_, ?_⟩) | (refine ⟨⟨_, _, _, _, _⟩, Told.refl _, ?_, ?_⟩) | (refine ⟨(), Told.refl _, ?_, ?_⟩)) | (with_reducible intro _) | (refine fun (_ : Bool) => ?_)))
  show t.bfs.length < 9223372036854775807
  omega
theorem rctext : SpOK Try.prog 15 SCText := fun ⟨t, c⟩ ht => by
  have hC : COK Try.prog (cfg [(13, SUni), (35, SDec), (34, STextZ)]) := Ty.ty.cfg ⟨runi, rdec16, rtext, trivial⟩
  have ht : t.bfs.length < 4611686018427387904 := ht
  ((refine Fn.ofF hC Try.func15 Try.ntmps15 rfl rfl rfl ?_); (repeat' first | (with_reducible exact trivial) | (with_reducible rfl) | (refine And.intro ?_ ?_) | (refine Need.mk ?_) | exact True.intro | (first | (refine ⟨_, Told.refl _, ?_, ?_⟩) | (refine ⟨⟨_, _⟩, Told.refl _, ?_, ?_⟩) | (refine ⟨⟨_, _, _⟩, Told.refl _, ?_, ?_⟩) | (refine ⟨⟨_, _, _, _⟩, Told.refl _, ?_, ?_⟩) | (refine ⟨⟨_, _, _, _, _⟩, Told.refl _, ?_, ?_⟩) | (refine ⟨(), Told.refl _, ?_, ?_⟩)) | (with_reducible intro _) | (refine fun (_ : Bool) => ?_)))
  · exact ht
  all_goals
    cases hF : EB.find t.bfs 2 c with
    | none =>
      (simp only [hF, Option.isSome_none, Bool.not_false] at *) <;> first
        | rfl
        | (simp at *; done)
    | some a =>
      have hr := find_rng hF
      have hd := decU_len a
      (simp only [hF, Option.isSome_some, Option.getD_some] at *) <;> first
        | rfl
        | (show a.length ≤ 1000000000; omega)
        | (show (decU a).length ≤ 1000000000; omega)
        | (simp at *; done)
theorem cntW {c lo hi : Int} (h1 : 0 ≤ c ∧ c ≤ 65536000000) (h2 : 0 ≤ lo) (h3 : lo ≤ hi ∧ hi < 4294967296) : IntKind.i64.wrap (IntKind.i64.wrap (IntKind.i64.wrap (c + hi) - lo) + 1) = c + (hi - lo + 1) := by
  simp only [IntKind.wrap_i64]
  omega
theorem rcount : SpOK Try.prog 18 SCnt := fun (t : Tbl) hl => by
  have hC : COK Try.prog (cfg [(36, SCanon)]) := Ty.ty.cfg ⟨rcanon, trivial⟩
  have hl : t.bfs.length ≤ 1000000 := hl
  ((refine Fn.ofF hC Try.func18 Try.ntmps18 rfl rfl rfl ?_); (repeat' first | (with_reducible exact trivial) | (with_reducible rfl) | (refine And.intro ?_ ?_) | (refine Need.mk ?_) | exact True.intro | (first | (refine ⟨_, Told.refl _, ?_, ?_⟩) | (refine ⟨⟨_, _⟩, Told.refl _, ?_, ?_⟩) | (refine ⟨⟨_, _, _⟩, Told.refl _, ?_, ?_⟩) | (refine ⟨⟨_, _, _, _⟩, Told.refl _, ?_, ?_⟩) | (refine ⟨⟨_, _, _, _, _⟩, Told.refl _, ?_, ?_⟩) | (refine ⟨(), Told.refl _, ?_, ?_⟩)) | (with_reducible intro _) | (refine fun (_ : Bool) => ?_)))
  refine AW.loop (I := fun k : Nat => ⟨41, [(1, .ptr 0 0), (3, .int .i64 (cnt (two (t.bfs.take k)))), (4, .int .i64 k)], [.box 26 (cT t)]⟩) (fun k => k ≤ t.bfs.length ∧ (EB.canon t.bfs = true ∨ k = 0)) (fun k => t.bfs.length - k) 0 ⟨Nat.zero_le _, .inr rfl⟩ ?_ ?_
  · (repeat' first | (with_reducible exact trivial) | (with_reducible rfl) | (refine And.intro ?_ ?_) | (refine Need.mk ?_) | exact True.intro | (first | (refine ⟨_, Told.refl _, ?_, ?_⟩) | (refine ⟨⟨_, _⟩, Told.refl _, ?_, ?_⟩) | (refine ⟨⟨_, _, _⟩, Told.refl _, ?_, ?_⟩) | (refine ⟨⟨_, _, _, _⟩, Told.refl _, ?_, ?_⟩) | (refine ⟨⟨_, _, _, _, _⟩, Told.refl _, ?_, ?_⟩) | (refine ⟨(), Told.refl _, ?_, ?_⟩)) | (with_reducible intro _) | (refine fun (_ : Bool) => ?_))
    all_goals rfl
  · intro k ⟨hk, hc⟩
    cases hcan : EB.canon t.bfs with
    | false =>
      obtain rfl : k = 0 := by
        rcases hc with h | h
        · rw [hcan] at h
          cases h
        · exact h
      have hE : ents t.bfs = [] := by unfold ents; rw [hcan]; rfl
      ((refine AW.byF ‹_› ?_); (repeat' first | (with_reducible exact trivial) | (with_reducible rfl) | (refine And.intro ?_ ?_) | (refine Need.mk ?_) | exact True.intro | (first | (refine ⟨_, Told.refl _, ?_, ?_⟩) | (refine ⟨⟨_, _⟩, Told.refl _, ?_, ?_⟩) | (refine ⟨⟨_, _, _⟩, Told.refl _, ?_, ?_⟩) | (refine ⟨⟨_, _, _, _⟩, Told.refl _, ?_, ?_⟩) | (refine ⟨⟨_, _, _, _, _⟩, Told.refl _, ?_, ?_⟩) | (refine ⟨(), Told.refl _, ?_, ?_⟩)) | (with_reducible intro _) | (refine fun (_ : Bool) => ?_)))
      all_goals first
        | (exact absurd ‹EB.canon t.bfs = true› (by rw [hcan]; decide))
        | (show t.bfs.length < 9223372036854775807; omega)
        | (rw [hE]; rfl)
    | true =>
      have hE : ents t.bfs = two t.bfs := ents_canon hcan
      rcases Nat.lt_or_ge k t.bfs.length with hlt | hge
      · have hd : decide ((k : Int) < (t.bfs.length : Int)) = true := decide_eq_true (by omega)
        have hw := iw (n := (k : Int) + 1) (by omega) (by omega)
        have hnx := two_next hlt
        have hx : sane (t.bfs.getD k default) = true := ((EB.canon_iff t.bfs).1 hcan).1 _ (getMem hlt)
        have r := rngB hx
        have h2 := two_len (t.bfs.take k)
        have h3 : (t.bfs.take k).length ≤ t.bfs.length := by rw [List.length_take]; omega
        have hc := cnt_rng (l := two (t.bfs.take k)) (fun x hx => ((EB.canon_iff t.bfs).1 hcan).1 x (List.mem_of_mem_take (List.mem_filter.1 hx).1))
        ((refine AW.byF ‹_› ?_); (repeat' first | (with_reducible exact trivial) | (with_reducible rfl) | (refine And.intro ?_ ?_) | (refine Need.mk ?_) | exact True.intro | (first | (refine ⟨_, Told.refl _, ?_, ?_⟩) | (refine ⟨⟨_, _⟩, Told.refl _, ?_, ?_⟩) | (refine ⟨⟨_, _, _⟩, Told.refl _, ?_, ?_⟩) | (refine ⟨⟨_, _, _, _⟩, Told.refl _, ?_, ?_⟩) | (refine ⟨⟨_, _, _, _, _⟩, Told.refl _, ?_, ?_⟩) | (refine ⟨(), Told.refl _, ?_, ?_⟩)) | (with_reducible intro _) | (refine fun (_ : Bool) => ?_)))
        all_goals first | (exact absurd ‹decide ((k : Int) < (t.bfs.length : Int)) = false› (by rw [hd]; decide)) | skip
        all_goals (try simp only [Int.toNat_natCast] at *)
        any_goals (refine Exists.intro (k + 1) (And.intro ?_ (And.intro ?_ ?_)); all_goals (repeat' first | (with_reducible exact trivial) | (with_reducible rfl) | (refine And.intro ?_ ?_) | (refine Need.mk ?_) | exact True.intro | (first | (refine ⟨_, Told.refl _, ?_, ?_⟩) | (refine ⟨⟨_, _⟩, Told.refl _, ?_, ?_⟩) | (refine ⟨⟨_, _, _⟩, Told.refl _, ?_, ?_⟩) | (refine ⟨⟨_, _, _, _⟩, Told.refl _, ?_, ?_⟩) | (refine ⟨⟨_, _, _, _, _⟩, Told.refl _, ?_, ?_⟩) | (refine ⟨(), Told.refl _, ?_, ?_⟩)) | (with_reducible intro _) | (refine fun (_ : Bool) => ?_)))
        all_goals (try simp only [Int.toNat_natCast] at *)
        all_goals first
          | omega
          | (show t.bfs.length < 9223372036854775807; omega)
          | exact .inl trivial
          | exact .inl hcan
          | (exact absurd ‹EB.canon t.bfs = false› (by rw [hcan]; decide))
          | (rw [iw (by omega) (by omega)]; rfl)
          | (have q : (t.bfs.getD k default).n = 2 := by simpa using ‹((t.bfs.getD k default).n == 2) = true›
             rw [if_pos q] at hnx
             rw [hnx, cnt_snoc]
             exact cntW (by omega) (by omega) (by omega))
          | (have q : ¬ (t.bfs.getD k default).n = 2 := by simpa using ‹((t.bfs.getD k default).n == 2) = false›
             rw [if_neg q] at hnx
             rw [hnx])
          | trace_state
      · obtain rfl : k = t.bfs.length := by omega
        have hd : decide ((t.bfs.length : Int) < (t.bfs.length : Int)) = false := decide_eq_false (by omega)
        ((refine AW.byF ‹_› ?_); (repeat' first | (with_reducible exact trivial) | (with_reducible rfl) | (refine And.intro ?_ ?_) | (refine Need.mk ?_) | exact True.intro | (first | (refine ⟨_, Told.refl _, ?_, ?_⟩) | (refine ⟨⟨_, _⟩, Told.refl _, ?_, ?_⟩) | (refine ⟨⟨_, _, _⟩, Told.refl _, ?_, ?_⟩) | (refine ⟨⟨_, _, _, _⟩, Told.refl _, ?_, ?_⟩) | (refine ⟨⟨_, _, _, _, _⟩, Told.refl _, ?_, ?_⟩) | (refine ⟨(), Told.refl _, ?_, ?_⟩)) | (with_reducible intro _) | (refine fun (_ : Bool) => ?_)))
        all_goals first | (exact absurd ‹decide ((t.bfs.length : Int) < (t.bfs.length : Int)) = true› (by rw [hd]; decide)) | skip
        all_goals first
          | (show t.bfs.length < 9223372036854775807; omega)
          | (rw [List.take_length, hE]; done)
          | trace_state
theorem identT_pos {w : Int} (h : w > 0) : (identT w).name = nameV ∧ (identT w).wmode = 1 := by
  have e : modeT w = 1 := by unfold modeT; (repeat' split) <;> omega
  constructor
  · show (if modeT w = 0 then nameH else nameV) = nameV
    rw [e]; rfl
  · exact e
theorem identT_neg {w : Int} (h : ¬ w > 0) : (identT w).name = nameH ∧ (identT w).wmode = 0 := by
  have e : modeT w = 0 := by unfold modeT; (repeat' split) <;> omega
  constructor
  · show (if modeT w = 0 then nameH else nameV) = nameH
    rw [e]; rfl
  · exact e
theorem rident : SpOK Try.prog 22 SIdent := fun (w : Int) _ => by
  have hC := base
  ((refine Fn.ofF hC Try.func22 Try.ntmps22 rfl rfl rfl ?_); (repeat' first | (with_reducible exact trivial) | (with_reducible rfl) | (refine And.intro ?_ ?_) | (refine Need.mk ?_) | exact True.intro | (first | (refine ⟨_, Told.refl _, ?_, ?_⟩) | (refine ⟨⟨_, _⟩, Told.refl _, ?_, ?_⟩) | (refine ⟨⟨_, _, _⟩, Told.refl _, ?_, ?_⟩) | (refine ⟨⟨_, _, _, _⟩, Told.refl _, ?_, ?_⟩) | (refine ⟨⟨_, _, _, _, _⟩, Told.refl _, ?_, ?_⟩) | (refine ⟨(), Told.refl _, ?_, ?_⟩)) | (with_reducible intro _) | (refine fun (_ : Bool) => ?_)))
  all_goals first
    | (rw [(identT_pos (of_decide_eq_true ‹decide (w > 0) = true›)).1]; rfl)
    | (rw [(identT_pos (of_decide_eq_true ‹decide (w > 0) = true›)).2]; done)
    | (rw [(identT_neg (of_decide_eq_false ‹decide (w > 0) = false›)).1]; rfl)
    | (rw [(identT_neg (of_decide_eq_false ‹decide (w > 0) = false›)).2]; done)
    | rfl
    | exact els_of cR_emb (n := 0) (elt_list [(⟨2, 0, 65535⟩ : Rct)]) _ ‹_›
    | exact els_of cSp_emb (n := 0) (elt_list [(⟨2, 0, 65535, 0⟩ : Spn)]) _ ‹_›
end Go.Abs.Coll
set_option maxRecDepth 100000
namespace Go.Abs.Coll
open Go.RowKit Go.Proofs Go.Abs.Tab Go.Abs.Dest Go.Abs.Span Go.Abs.Utf Go.Abs.Txt Go.Abs.Hx
theorem backE_snoc (l : List Bf) (b : Bf) (u : List Int) : backE (l ++ [b]) u = (backE l u).or (if hit u b = true then some (b.lo + (lastI u - lastI b.to)) else none) := by
  unfold backE
  rw [List.find?_append, Option.map_or]
  congr 1
  rw [List.find?_cons]
  cases hit u b <;> rfl
theorem hit_iff2 (u : List Int) (b : Bf) : hit u b = true ↔ (b.to.length = u.length ∧ b.to.take (u.length - 1) = u.take (u.length - 1) ∧ lastI b.to ≤ lastI u ∧ lastI u - lastI b.to ≤ b.hi - b.lo) := by
  rw [hit_iff]
  constructor
  · rintro ⟨h1, h2, h3⟩
    refine ⟨h1, List.ext_getElem (by rw [List.length_take, List.length_take, h1]) fun i hi hj => ?_, h3⟩
    rw [List.length_take] at hi
    have := h2 i (by omega)
    rw [getD_at (by omega), getD_at (by omega)] at this
    rw [List.getElem_take, List.getElem_take, this]
  · rintro ⟨h1, h2, h3⟩
    refine ⟨h1, fun j hj => ?_, h3⟩
    have h := congrArg (fun l => l.getD j default) h2
    simp only [List.getD, List.getElem?_take, if_pos hj] at h
    exact h
theorem best_step {t : List Bf} (hc : EB.canon t = true) {u : List Int} {k : Nat} (hk : k < t.length) : (backE (two (t.take (k + 1))) u).getD (-1) = if (t.getD k default).n = 2 ∧ hit u (t.getD k default) = true then (if (backE (two (t.take k)) u).getD (-1) < 0 ∨ (t.getD k default).lo + (lastI u - lastI (t.getD k default).to) < (backE (two (t.take k)) u).getD (-1) then (t.getD k default).lo + (lastI u - lastI (t.getD k default).to) else (backE (two (t.take k)) u).getD (-1)) else (backE (two (t.take k)) u).getD (-1) := by
  rw [two_next hk]
  have htab := (EB.canon_iff t).1 hc
  by_cases h2 : (t.getD k default).n = 2
  · rw [if_pos h2, backE_snoc]
    by_cases hh : hit u (t.getD k default) = true
    · rw [if_pos hh, if_pos ⟨h2, hh⟩]
      cases hB : backE (two (t.take k)) u with
      | none =>
        rw [Option.none_or, if_pos (.inl (by decide))]
        rfl
      | some m =>
        rw [Option.some_or, Option.getD_some]
        unfold backE at hB
        obtain ⟨b', hb', rfl⟩ := Option.map_eq_some_iff.1 hB
        have hm := List.mem_filter.1 (List.mem_of_find?_eq_some hb')
        have hh' : hit u b' = true := List.find?_some hb'
        have h1 : sane b' = true := htab.1 b' (List.mem_of_mem_take hm.1)
        have hn' : b'.n = 2 := by simpa using hm.2
        have r := rngB h1
        obtain ⟨q1, q2, q3, q4⟩ := (hit_iff u b').1 hh'
        obtain ⟨p1, p2, p3, p4⟩ := (hit_iff u _).1 hh
        have hod : EB.OD (t.take k ++ t.drop k) := by rw [List.take_append_drop]; exact htab.2.1
        have hbef := ((Tb.OD_append EB.toTb).1 hod).2.2 b' hm.1 (t.getD k default) (by rw [getB hk, List.drop_eq_getElem_cons hk]; exact List.mem_cons_self)
        have hbef : b'.n < (t.getD k default).n ∨ (b'.n = (t.getD k default).n ∧ b'.hi < (t.getD k default).lo) := hbef
        rw [if_neg (by omega)]
    · rw [if_neg hh, if_neg (fun q => hh q.2), Option.or_none]
  · rw [if_neg h2, if_neg (fun q => h2 q.1)]
theorem best_rng {t : List Bf} (hc : EB.canon t = true) {u : List Int} {k : Nat} : (backE (two (t.take k)) u).getD (-1) = -1 ∧ backE (two (t.take k)) u = none ∨ 0 ≤ (backE (two (t.take k)) u).getD (-1) ∧ backE (two (t.take k)) u = some ((backE (two (t.take k)) u).getD (-1)) := by
  cases hB : backE (two (t.take k)) u with
  | none => exact .inl ⟨rfl, rfl⟩
  | some m =>
    refine .inr ⟨?_, rfl⟩
    unfold backE at hB
    obtain ⟨b', hb', rfl⟩ := Option.map_eq_some_iff.1 hB
    have hm := List.mem_filter.1 (List.mem_of_find?_eq_some hb')
    have hh' : hit u b' = true := List.find?_some hb'
    have r := rngB (((EB.canon_iff t).1 hc).1 b' (List.mem_of_mem_take hm.1))
    obtain ⟨q1, q2, q3, q4⟩ := (hit_iff u b').1 hh'
    rw [Option.getD_some]
    omega
theorem told_takes (a b : List Int) {n m m2 : Nat} {el el2 : Nat → List AV} (ha : n ≤ a.length) (hb : n ≤ b.length) (hm : m = n) (hm2 : m2 = n) (hel : ∀ i, el i = els ci a i) (hel2 : ∀ i, el2 i = els ci b i) : subs0 [aI (a.take n), aI (b.take n)] [.sl 1 m el, .sl 1 m2 el2] := by
  have key : ∀ (l : List Int) (el : Nat → List AV), (∀ i, el i = els ci l i) → ∀ i, i < (l.take n).length → el i = ci ((l.take n).getD i default) := fun l el he i hi => by
    rw [List.length_take] at hi
    rw [he]
    show ci (l.getD i default) = ci ((l.take n).getD i default)
    simp only [List.getD, List.getElem?_take]
    rw [if_pos (by omega)]
  exact ⟨⟨⟨by rw [List.length_take]; omega⟩, els_of ci_emb (n := 0) (key a el hel)⟩, ⟨⟨by rw [List.length_take]; omega⟩, els_of ci_emb (n := 0) (key b el2 hel2)⟩, trivial⟩
set_option maxHeartbeats 16000000 in
theorem rback : SpOK Try.prog 16 SBack := fun ⟨t, u⟩ ⟨hl, hul, hu⟩ => by
  have hC : COK Try.prog (cfg [(36, SCanon), (12, SSame)]) := Ty.ty.cfg ⟨rcanon, refSame, trivial⟩
  have hl : t.bfs.length ≤ 1000000 := hl
  have hul : u.length < 4611686018427387904 := hul
  have ew := iw (n := (u.length : Int) - 1) (by omega) (by omega)
  have hn1 : EB.canon t.bfs = false → backE (ents t.bfs) u = none := fun h => by
    unfold ents
    rw [h]
    rfl
  have hn2 : u.length = 0 → backE (ents t.bfs) u = none := fun h => by
    refine backE_none fun j hj => ?_
    have r := rngB (ents_sane _ (getMem hj)).1
    rw [← Bool.not_eq_true, hit_iff]
    rintro ⟨q, _⟩
    omega
  ((refine Fn.ofF hC Try.func16 Try.ntmps16 rfl rfl rfl ?_); (repeat' first | (with_reducible exact trivial) | (with_reducible rfl) | (refine And.intro ?_ ?_) | (refine Need.mk ?_) | exact True.intro | (first | (refine ⟨_, Told.refl _, ?_, ?_⟩) | (refine ⟨⟨_, _⟩, Told.refl _, ?_, ?_⟩) | (refine ⟨⟨_, _, _⟩, Told.refl _, ?_, ?_⟩) | (refine ⟨⟨_, _, _, _⟩, Told.refl _, ?_, ?_⟩) | (refine ⟨⟨_, _, _, _, _⟩, Told.refl _, ?_, ?_⟩) | (refine ⟨(), Told.refl _, ?_, ?_⟩)) | (with_reducible intro _) | (refine fun (_ : Bool) => ?_)))
  · show t.bfs.length < 9223372036854775807
    omega
  · rw [hn1 (by simpa using ‹(!EB.canon t.bfs) = true›)]
    rfl
  · rw [hn1 (by simpa using ‹(!EB.canon t.bfs) = true›)]
    rfl
  · rw [hn2 (by simpa using ‹((u.length : Int) == 0) = true›)]
    rfl
  · rw [hn2 (by simpa using ‹((u.length : Int) == 0) = true›)]
    rfl
  have hc : EB.canon t.bfs = true := by simpa using ‹(!EB.canon t.bfs) = false›
  have hu0 : u.length ≠ 0 := by simpa using ‹((u.length : Int) == 0) = false›
  clear hn1 hn2
  refine AW.loop (I := fun k : Nat => ⟨106, [(1, aI u), (2, .ptr 0 0), (6, .int .i64 ((backE (two (t.bfs.take k)) u).getD (-1))), (7, .int .i64 ((u.length : Int) - 1)), (8, .int .i64 k)], [.box 26 (cT t)]⟩) (fun k => k ≤ t.bfs.length) (fun k => t.bfs.length - k) 0 (Nat.zero_le _) ?_ ?_
  · (repeat' first | (with_reducible exact trivial) | (with_reducible rfl) | (refine And.intro ?_ ?_) | (refine Need.mk ?_) | exact True.intro | (first | (refine ⟨_, Told.refl _, ?_, ?_⟩) | (refine ⟨⟨_, _⟩, Told.refl _, ?_, ?_⟩) | (refine ⟨⟨_, _, _⟩, Told.refl _, ?_, ?_⟩) | (refine ⟨⟨_, _, _, _⟩, Told.refl _, ?_, ?_⟩) | (refine ⟨⟨_, _, _, _, _⟩, Told.refl _, ?_, ?_⟩) | (refine ⟨(), Told.refl _, ?_, ?_⟩)) | (with_reducible intro _) | (refine fun (_ : Bool) => ?_))
    all_goals first | rfl | exact ew
  · intro k hk
    rcases Nat.lt_or_ge k t.bfs.length with hlt | hge
    · have hd : decide ((k : Int) < (t.bfs.length : Int)) = true := decide_eq_true (by omega)
      have hw := iw (n := (k : Int) + 1) (by omega) (by omega)
      have hst := best_step hc (u := u) hlt
      have hrg := best_rng hc (u := u) (k := k)
      obtain ⟨B, hB⟩ : ∃ B, B = (backE (two (t.bfs.take k)) u).getD (-1) := ⟨_, rfl⟩
      obtain ⟨b, hb⟩ : ∃ b, b = t.bfs.getD k default := ⟨_, rfl⟩
      rw [← hB, ← hb] at hst
      rw [← hB] at hrg ⊢
      have hx : sane b = true := by rw [hb]; exact ((EB.canon_iff t.bfs).1 hc).1 _ (getMem hlt)
      have r := rngB hx
      have hbt : ((k : Int)).toNat = k := Int.toNat_natCast k
      have hut : ((u.length : Int) - 1).toNat = u.length - 1 := by omega
      have hul2 : u.getD (u.length - 1) default = lastI u := rfl
      have hbl : b.to.length = u.length → b.to.getD (u.length - 1) default = lastI b.to := fun h => by rw [← h]; rfl
      have hz0 : ∀ i : Nat, (0 : Int).toNat + i = i := fun i => Nat.zero_add i
      ((refine AW.byF ‹_› ?_); (repeat' first | (with_reducible exact trivial) | (with_reducible rfl) | (refine And.intro ?_ ?_) | (refine Need.mk ?_) | exact True.intro | (first | (refine ⟨_, Told.refl _, ?_, ?_⟩) | (refine ⟨⟨_, _⟩, Told.refl _, ?_, ?_⟩) | (refine ⟨⟨_, _, _⟩, Told.refl _, ?_, ?_⟩) | (refine ⟨⟨_, _, _, _⟩, Told.refl _, ?_, ?_⟩) | (refine ⟨⟨_, _, _, _, _⟩, Told.refl _, ?_, ?_⟩) | (refine ⟨(), Told.refl _, ?_, ?_⟩)) | (with_reducible intro _) | (refine fun (_ : Bool) => ?_)))
      all_goals first | (exact absurd ‹decide ((k : Int) < (t.bfs.length : Int)) = false› (by rw [hd]; decide)) | skip
      any_goals (first | (refine Exists.intro ((k + 1 : Nat)) (And.intro ?_ (And.intro ?_ ?_)); all_goals (repeat' first | (with_reducible exact trivial) | (with_reducible rfl) | (refine And.intro ?_ ?_) | (refine Need.mk ?_) | exact True.intro | (first | (refine ⟨_, Told.refl _, ?_, ?_⟩) | (refine ⟨⟨_, _⟩, Told.refl _, ?_, ?_⟩) | (refine ⟨⟨_, _, _⟩, Told.refl _, ?_, ?_⟩) | (refine ⟨⟨_, _, _, _⟩, Told.refl _, ?_, ?_⟩) | (refine ⟨⟨_, _, _, _, _⟩, Told.refl _, ?_, ?_⟩) | (refine ⟨(), Told.refl _, ?_, ?_⟩)) | (with_reducible intro _) | (refine fun (_ : Bool) => ?_))) | fail)
      any_goals (first | (refine Exists.intro (((t.bfs.getD k default).to.take (u.length - 1), u.take (u.length - 1)) : List Int × List Int) (And.intro (Told.of (told_takes (t.bfs.getD k default).to u ?_ ?_ ?_ ?_ (fun i => congrArg (els ci (t.bfs.getD k default).to) (hz0 i)) (fun i => congrArg (els ci u) (hz0 i)))) (And.intro ?_ ?_))) | fail)
      all_goals (repeat' first | (with_reducible exact trivial) | (with_reducible rfl) | (refine And.intro ?_ ?_) | (refine Need.mk ?_) | exact True.intro | (first | (refine ⟨_, Told.refl _, ?_, ?_⟩) | (refine ⟨⟨_, _⟩, Told.refl _, ?_, ?_⟩) | (refine ⟨⟨_, _, _⟩, Told.refl _, ?_, ?_⟩) | (refine ⟨⟨_, _, _, _⟩, Told.refl _, ?_, ?_⟩) | (refine ⟨⟨_, _, _, _, _⟩, Told.refl _, ?_, ?_⟩) | (refine ⟨(), Told.refl _, ?_, ?_⟩)) | (with_reducible intro _) | (refine fun (_ : Bool) => ?_))
      any_goals (first | (refine Exists.intro ((k + 1 : Nat)) (And.intro ?_ (And.intro ?_ ?_)); all_goals (repeat' first | (with_reducible exact trivial) | (with_reducible rfl) | (refine And.intro ?_ ?_) | (refine Need.mk ?_) | exact True.intro | (first | (refine ⟨_, Told.refl _, ?_, ?_⟩) | (refine ⟨⟨_, _⟩, Told.refl _, ?_, ?_⟩) | (refine ⟨⟨_, _, _⟩, Told.refl _, ?_, ?_⟩) | (refine ⟨⟨_, _, _, _⟩, Told.refl _, ?_, ?_⟩) | (refine ⟨⟨_, _, _, _, _⟩, Told.refl _, ?_, ?_⟩) | (refine ⟨(), Told.refl _, ?_, ?_⟩)) | (with_reducible intro _) | (refine fun (_ : Bool) => ?_))) | fail)
      all_goals (try simp only [hbt, ← hb, hut, hul2] at *)
      all_goals ((try dsimp only at *); (try simp only [decide_eq_true_eq, decide_eq_false_iff_not, beq_iff_eq, bne_iff_ne, beq_eq_false_iff_ne, bne_eq_false_iff_eq, ne_eq, Decidable.not_not, ge_iff_le, gt_iff_lt, Bool.not_eq_true', Bool.not_eq_false', Int.not_lt, Int.not_le, Nat.not_lt, Nat.not_le] at *))
      all_goals first
        | omega
        | (rw [List.length_take]; omega)
        | (rw [hst, if_neg (fun hh => ?_)]
           obtain ⟨p1, p2⟩ := hh
           obtain ⟨p3, p4, p5, p6⟩ := (hit_iff2 u b).1 p2
           have p7 := hbl p3
           first | omega | (simp_all; done) | (simp_all; omega))
        | (show (List.take (u.length - 1) b.to).length < 9223372036854775807; rw [List.length_take]; omega)
        | (have p3 : b.to.length = u.length := by omega
           have p7 := hbl p3
           simp only [p7] at *
           have e1 := iw (n := b.lo + lastI u) (by omega) (by omega)
           simp only [e1] at *
           have e2 := iw (n := b.lo + lastI u - lastI b.to) (by omega) (by omega)
           simp only [e2] at *
           rw [hst]
           first
             | (rw [if_neg (fun hh => by have := ((hit_iff2 u b).1 hh.2).2.2.2; omega)]; done)
             | (rw [if_pos ⟨by assumption, (hit_iff2 u b).2 ⟨p3, by assumption, by omega, by omega⟩⟩]
                first
                  | (rw [if_pos (by omega)]; omega)
                  | (rw [if_neg (by omega)]; done)))
    · obtain rfl : k = t.bfs.length := by omega
      have hd : decide ((t.bfs.length : Int) < (t.bfs.length : Int)) = false := decide_eq_false (by omega)
      have hrg := best_rng hc (u := u) (k := t.bfs.length)
      have hE := ents_canon hc
      rw [List.take_length] at hrg ⊢
      ((refine AW.byF ‹_› ?_); (repeat' first | (with_reducible exact trivial) | (with_reducible rfl) | (refine And.intro ?_ ?_) | (refine Need.mk ?_) | exact True.intro | (first | (refine ⟨_, Told.refl _, ?_, ?_⟩) | (refine ⟨⟨_, _⟩, Told.refl _, ?_, ?_⟩) | (refine ⟨⟨_, _, _⟩, Told.refl _, ?_, ?_⟩) | (refine ⟨⟨_, _, _, _⟩, Told.refl _, ?_, ?_⟩) | (refine ⟨⟨_, _, _, _, _⟩, Told.refl _, ?_, ?_⟩) | (refine ⟨(), Told.refl _, ?_, ?_⟩)) | (with_reducible intro _) | (refine fun (_ : Bool) => ?_)))
      all_goals first | (exact absurd ‹decide ((t.bfs.length : Int) < (t.bfs.length : Int)) = true› (by rw [hd]; decide)) | skip
      all_goals rw [hE]
      all_goals ((try dsimp only at *); (try simp only [decide_eq_true_eq, decide_eq_false_iff_not, beq_iff_eq, bne_iff_ne, beq_eq_false_iff_ne, bne_eq_false_iff_eq, ne_eq, Decidable.not_not, ge_iff_le, gt_iff_lt, Bool.not_eq_true', Bool.not_eq_false', Int.not_lt, Int.not_le, Nat.not_lt, Nat.not_le] at *))
      all_goals rcases hrg with ⟨g1, g2⟩ | ⟨g1, g2⟩
      all_goals first
        | omega
        | (rw [g2]; rfl)
        | (rw [g2]; simp; done)
        | trace_state
end Go.Abs.Coll
set_option maxRecDepth 100000
namespace Go.Abs.Rc
open Go.RowKit Go.Proofs Go.Abs.Tab Go.Abs.Dest Go.Abs.Span Go.Abs.Coll Go.Abs.Hx Go.Abs.Mt
set_option maxHeartbeats 4000000 in
theorem rsameR : SpOK Try.prog 37 SSameR := fun ⟨a, b⟩ ha => by
  have hC := base
  have ha : a.length < 9223372036854775807 := ha
  ((refine Fn.ofF hC Try.func37 Try.ntmps37 rfl rfl rfl ?_); (repeat' first | (with_reducible exact trivial) | (with_reducible rfl) | (refine And.intro ?_ ?_) | (refine Need.mk ?_) | exact True.intro | (first | (refine ⟨_, Told.refl _, ?_, ?_⟩) | (refine ⟨⟨_, _⟩, Told.refl _, ?_, ?_⟩) | (refine ⟨⟨_, _, _⟩, Told.refl _, ?_, ?_⟩) | (refine ⟨⟨_, _, _, _⟩, Told.refl _, ?_, ?_⟩) | (refine ⟨⟨_, _, _, _, _⟩, Told.refl _, ?_, ?_⟩) | (refine ⟨(), Told.refl _, ?_, ?_⟩)) | (with_reducible intro _) | (refine fun (_ : Bool) => ?_)))
  · ((try dsimp only at *); (try simp only [decide_eq_true_eq, decide_eq_false_iff_not, beq_iff_eq, bne_iff_ne, beq_eq_false_iff_ne, bne_eq_false_iff_eq, ne_eq, Decidable.not_not, ge_iff_le, gt_iff_lt, Bool.not_eq_true', Bool.not_eq_false', Int.not_lt, Int.not_le, Nat.not_lt, Nat.not_le] at *))
    exact (sameRs_no fun h => by omega).symm
  refine AW.loop (I := fun k : Nat => ⟨26, [(0, aR a), (1, aR b), (5, .int .i64 k)], []⟩) (fun k => k ≤ a.length ∧ ∀ j, j < k → a.getD j default = b.getD j default) (fun k => a.length - k) 0 ⟨Nat.zero_le _, fun j hj => by omega⟩ ?_ ?_
  · (repeat' first | (with_reducible exact trivial) | (with_reducible rfl) | (refine And.intro ?_ ?_) | (refine Need.mk ?_) | exact True.intro | (first | (refine ⟨_, Told.refl _, ?_, ?_⟩) | (refine ⟨⟨_, _⟩, Told.refl _, ?_, ?_⟩) | (refine ⟨⟨_, _, _⟩, Told.refl _, ?_, ?_⟩) | (refine ⟨⟨_, _, _, _⟩, Told.refl _, ?_, ?_⟩) | (refine ⟨⟨_, _, _, _, _⟩, Told.refl _, ?_, ?_⟩) | (refine ⟨(), Told.refl _, ?_, ?_⟩)) | (with_reducible intro _) | (refine fun (_ : Bool) => ?_)); rfl
  · intro k ⟨hk, he⟩
    ((refine AW.byF ‹_› ?_); (repeat' first | (with_reducible exact trivial) | (with_reducible rfl) | (refine And.intro ?_ ?_) | (refine Need.mk ?_) | exact True.intro | (first | (refine ⟨_, Told.refl _, ?_, ?_⟩) | (refine ⟨⟨_, _⟩, Told.refl _, ?_, ?_⟩) | (refine ⟨⟨_, _, _⟩, Told.refl _, ?_, ?_⟩) | (refine ⟨⟨_, _, _, _⟩, Told.refl _, ?_, ?_⟩) | (refine ⟨⟨_, _, _, _, _⟩, Told.refl _, ?_, ?_⟩) | (refine ⟨(), Told.refl _, ?_, ?_⟩)) | (with_reducible intro _) | (refine fun (_ : Bool) => ?_)))
    any_goals (intros; first | rfl | (((try dsimp only at *); (try simp only [decide_eq_true_eq, decide_eq_false_iff_not, beq_iff_eq, bne_iff_ne, beq_eq_false_iff_ne, bne_eq_false_iff_eq, ne_eq, Decidable.not_not, ge_iff_le, gt_iff_lt, Bool.not_eq_true', Bool.not_eq_false', Int.not_lt, Int.not_le, Nat.not_lt, Nat.not_le] at *)) <;> (try simp only [IntKind.wrap_i64] at *) <;> omega))
    · ((try dsimp only at *); (try simp only [decide_eq_true_eq, decide_eq_false_iff_not, beq_iff_eq, bne_iff_ne, beq_eq_false_iff_ne, bne_eq_false_iff_eq, ne_eq, Decidable.not_not, ge_iff_le, gt_iff_lt, Bool.not_eq_true', Bool.not_eq_false', Int.not_lt, Int.not_le, Nat.not_lt, Nat.not_le] at *))
      refine (sameRs_no fun h => ?_).symm
      have := h.2 k (by omega)
      simp_all [eqA, bval]
    · ((try dsimp only at *); (try simp only [decide_eq_true_eq, decide_eq_false_iff_not, beq_iff_eq, bne_iff_ne, beq_eq_false_iff_ne, bne_eq_false_iff_eq, ne_eq, Decidable.not_not, ge_iff_le, gt_iff_lt, Bool.not_eq_true', Bool.not_eq_false', Int.not_lt, Int.not_le, Nat.not_lt, Nat.not_le] at *))
      refine Exists.intro (k + 1) (And.intro ?_ (And.intro ?_ ?_))
      · refine ⟨by omega, fun j hj => ?_⟩
        by_cases e : j = k
        · subst e
          have : eqR (a.getD j default) (b.getD j default) = true := by simp_all [eqA, bval, eqR]
          exact (eqR_iff _ _).1 this
        · exact he j (by omega)
      · omega
      · (repeat' first | (with_reducible exact trivial) | (with_reducible rfl) | (refine And.intro ?_ ?_) | (refine Need.mk ?_) | exact True.intro | (first | (refine ⟨_, Told.refl _, ?_, ?_⟩) | (refine ⟨⟨_, _⟩, Told.refl _, ?_, ?_⟩) | (refine ⟨⟨_, _, _⟩, Told.refl _, ?_, ?_⟩) | (refine ⟨⟨_, _, _, _⟩, Told.refl _, ?_, ?_⟩) | (refine ⟨⟨_, _, _, _, _⟩, Told.refl _, ?_, ?_⟩) | (refine ⟨(), Told.refl _, ?_, ?_⟩)) | (with_reducible intro _) | (refine fun (_ : Bool) => ?_))
        (intros; first | rfl | (((try dsimp only at *); (try simp only [decide_eq_true_eq, decide_eq_false_iff_not, beq_iff_eq, bne_iff_ne, beq_eq_false_iff_ne, bne_eq_false_iff_eq, ne_eq, Decidable.not_not, ge_iff_le, gt_iff_lt, Bool.not_eq_true', Bool.not_eq_false', Int.not_lt, Int.not_le, Nat.not_lt, Nat.not_le] at *)) <;> (try simp only [IntKind.wrap_i64] at *) <;> omega))
    · ((try dsimp only at *); (try simp only [decide_eq_true_eq, decide_eq_false_iff_not, beq_iff_eq, bne_iff_ne, beq_eq_false_iff_ne, bne_eq_false_iff_eq, ne_eq, Decidable.not_not, ge_iff_le, gt_iff_lt, Bool.not_eq_true', Bool.not_eq_false', Int.not_lt, Int.not_le, Nat.not_lt, Nat.not_le] at *))
      obtain rfl : k = a.length := by omega
      exact ((sameRs_at a b).2 ⟨by omega, he⟩).symm
instance : DecidableEq Spn := fun a b => decidable_of_iff (a.n = b.n ∧ a.lo = b.lo ∧ a.hi = b.hi ∧ a.to = b.to) ⟨fun ⟨h1, h2, h3, h4⟩ => Spn.ext' h1 h2 h3 h4, fun h => by rw [h]; exact ⟨rfl, rfl, rfl, rfl⟩⟩
theorem getSp {l : List Spn} {i : Nat} (h : i < l.length) : l.getD i default = l[i] := by simp [List.getD, h]
theorem sameS_at (a b : List Spn) : a = b ↔ a.length = b.length ∧ ∀ j, j < a.length → a.getD j default = b.getD j default := by
  constructor
  · rintro rfl
    exact ⟨rfl, fun _ _ => rfl⟩
  · rintro ⟨h1, h2⟩
    refine List.ext_getElem h1 fun i hi hj => ?_
    have := h2 i hi
    rwa [getSp hi, getSp hj] at this
def SSameS : Sp := ⟨List Spn × List Spn, fun (a, _) => a.length < 9223372036854775807, fun (a, b) => [aS a, aS b], fun (a, b) => .st (.sb (decide (a = b)))⟩
theorem sameS_no {a b : List Spn} (h : ¬ (a.length = b.length ∧ ∀ j, j < a.length → a.getD j default = b.getD j default)) : decide (a = b) = false := by
  rw [decide_eq_false_iff_not, sameS_at]
  exact h
set_option maxHeartbeats 4000000 in
theorem rsameS : SpOK Try.prog 38 SSameS := fun ⟨a, b⟩ ha => by
  have hC := base
  have ha : a.length < 9223372036854775807 := ha
  ((refine Fn.ofF hC Try.func38 Try.ntmps38 rfl rfl rfl ?_); (repeat' first | (with_reducible exact trivial) | (with_reducible rfl) | (refine And.intro ?_ ?_) | (refine Need.mk ?_) | exact True.intro | (first | (refine ⟨_, Told.refl _, ?_, ?_⟩) | (refine ⟨⟨_, _⟩, Told.refl _, ?_, ?_⟩) | (refine ⟨⟨_, _, _⟩, Told.refl _, ?_, ?_⟩) | (refine ⟨⟨_, _, _, _⟩, Told.refl _, ?_, ?_⟩) | (refine ⟨⟨_, _, _, _, _⟩, Told.refl _, ?_, ?_⟩) | (refine ⟨(), Told.refl _, ?_, ?_⟩)) | (with_reducible intro _) | (refine fun (_ : Bool) => ?_)))
  · ((try dsimp only at *); (try simp only [decide_eq_true_eq, decide_eq_false_iff_not, beq_iff_eq, bne_iff_ne, beq_eq_false_iff_ne, bne_eq_false_iff_eq, ne_eq, Decidable.not_not, ge_iff_le, gt_iff_lt, Bool.not_eq_true', Bool.not_eq_false', Int.not_lt, Int.not_le, Nat.not_lt, Nat.not_le] at *))
    exact (sameS_no fun h => by omega).symm
  refine AW.loop (I := fun k : Nat => ⟨26, [(0, aS a), (1, aS b), (5, .int .i64 k)], []⟩) (fun k => k ≤ a.length ∧ ∀ j, j < k → a.getD j default = b.getD j default) (fun k => a.length - k) 0 ⟨Nat.zero_le _, fun j hj => by omega⟩ ?_ ?_
  · (repeat' first | (with_reducible exact trivial) | (with_reducible rfl) | (refine And.intro ?_ ?_) | (refine Need.mk ?_) | exact True.intro | (first | (refine ⟨_, Told.refl _, ?_, ?_⟩) | (refine ⟨⟨_, _⟩, Told.refl _, ?_, ?_⟩) | (refine ⟨⟨_, _, _⟩, Told.refl _, ?_, ?_⟩) | (refine ⟨⟨_, _, _, _⟩, Told.refl _, ?_, ?_⟩) | (refine ⟨⟨_, _, _, _, _⟩, Told.refl _, ?_, ?_⟩) | (refine ⟨(), Told.refl _, ?_, ?_⟩)) | (with_reducible intro _) | (refine fun (_ : Bool) => ?_)); rfl
  · intro k ⟨hk, he⟩
    ((refine AW.byF ‹_› ?_); (repeat' first | (with_reducible exact trivial) | (with_reducible rfl) | (refine And.intro ?_ ?_) | (refine Need.mk ?_) | exact True.intro | (first | (refine ⟨_, Told.refl _, ?_, ?_⟩) | (refine ⟨⟨_, _⟩, Told.refl _, ?_, ?_⟩) | (refine ⟨⟨_, _, _⟩, Told.refl _, ?_, ?_⟩) | (refine ⟨⟨_, _, _, _⟩, Told.refl _, ?_, ?_⟩) | (refine ⟨⟨_, _, _, _, _⟩, Told.refl _, ?_, ?_⟩) | (refine ⟨(), Told.refl _, ?_, ?_⟩)) | (with_reducible intro _) | (refine fun (_ : Bool) => ?_)))
    any_goals (intros; first | rfl | (((try dsimp only at *); (try simp only [decide_eq_true_eq, decide_eq_false_iff_not, beq_iff_eq, bne_iff_ne, beq_eq_false_iff_ne, bne_eq_false_iff_eq, ne_eq, Decidable.not_not, ge_iff_le, gt_iff_lt, Bool.not_eq_true', Bool.not_eq_false', Int.not_lt, Int.not_le, Nat.not_lt, Nat.not_le] at *)) <;> (try simp only [IntKind.wrap_i64] at *) <;> omega))
    · ((try dsimp only at *); (try simp only [decide_eq_true_eq, decide_eq_false_iff_not, beq_iff_eq, bne_iff_ne, beq_eq_false_iff_ne, bne_eq_false_iff_eq, ne_eq, Decidable.not_not, ge_iff_le, gt_iff_lt, Bool.not_eq_true', Bool.not_eq_false', Int.not_lt, Int.not_le, Nat.not_lt, Nat.not_le] at *))
      refine (sameS_no fun h => ?_).symm
      have := h.2 k (by omega)
      simp_all [eqA, bval]
    · ((try dsimp only at *); (try simp only [decide_eq_true_eq, decide_eq_false_iff_not, beq_iff_eq, bne_iff_ne, beq_eq_false_iff_ne, bne_eq_false_iff_eq, ne_eq, Decidable.not_not, ge_iff_le, gt_iff_lt, Bool.not_eq_true', Bool.not_eq_false', Int.not_lt, Int.not_le, Nat.not_lt, Nat.not_le] at *))
      refine Exists.intro (k + 1) (And.intro ?_ (And.intro ?_ ?_))
      · refine ⟨by omega, fun j hj => ?_⟩
        by_cases e : j = k
        · subst e
          exact Spn.ext' (by simp_all [eqA, bval]) (by simp_all [eqA, bval]) (by simp_all [eqA, bval]) (by simp_all [eqA, bval])
        · exact he j (by omega)
      · omega
      · (repeat' first | (with_reducible exact trivial) | (with_reducible rfl) | (refine And.intro ?_ ?_) | (refine Need.mk ?_) | exact True.intro | (first | (refine ⟨_, Told.refl _, ?_, ?_⟩) | (refine ⟨⟨_, _⟩, Told.refl _, ?_, ?_⟩) | (refine ⟨⟨_, _, _⟩, Told.refl _, ?_, ?_⟩) | (refine ⟨⟨_, _, _, _⟩, Told.refl _, ?_, ?_⟩) | (refine ⟨⟨_, _, _, _, _⟩, Told.refl _, ?_, ?_⟩) | (refine ⟨(), Told.refl _, ?_, ?_⟩)) | (with_reducible intro _) | (refine fun (_ : Bool) => ?_))
        (intros; first | rfl | (((try dsimp only at *); (try simp only [decide_eq_true_eq, decide_eq_false_iff_not, beq_iff_eq, bne_iff_ne, beq_eq_false_iff_ne, bne_eq_false_iff_eq, ne_eq, Decidable.not_not, ge_iff_le, gt_iff_lt, Bool.not_eq_true', Bool.not_eq_false', Int.not_lt, Int.not_le, Nat.not_lt, Nat.not_le] at *)) <;> (try simp only [IntKind.wrap_i64] at *) <;> omega))
    · ((try dsimp only at *); (try simp only [decide_eq_true_eq, decide_eq_false_iff_not, beq_iff_eq, bne_iff_ne, beq_eq_false_iff_ne, bne_eq_false_iff_eq, ne_eq, Decidable.not_not, ge_iff_le, gt_iff_lt, Bool.not_eq_true', Bool.not_eq_false', Int.not_lt, Int.not_le, Nat.not_lt, Nat.not_le] at *))
      obtain rfl : k = a.length := by omega
      exact (decide_eq_true ((sameS_at a b).2 ⟨by omega, he⟩)).symm
def sameT (a b : Tbl) : Bool := (a.name.toList == b.name.toList) && ((a.wmode == b.wmode) && (sameRs a.spaces b.spaces && (decide (a.cids = b.cids) && (decide (a.nots = b.nots) && decide (a.bfs = b.bfs)))))
theorem sameT_self (a : Tbl) : sameT a a = true := by
  unfold sameT
  rw [(sameRs_iff _ _).2 rfl]
  simp
def SSameT : Sp := ⟨Tbl × Tbl, fun (a, _) => a.spaces.length < 9223372036854775807 ∧ a.cids.length < 9223372036854775807 ∧ a.nots.length < 9223372036854775807 ∧ a.bfs.length < 9223372036854775807 ∧ ∀ x ∈ a.bfs, x.to.length < 9223372036854775807, fun (a, b) => [.agg (cT a), .agg (cT b)], fun (a, b) => .st (.sb (sameT a b))⟩
set_option maxHeartbeats 4000000 in
theorem rsameT : SpOK Try.prog 19 SSameT := fun ⟨a, b⟩ ⟨h1, h2, h3, h4, h5⟩ => by
  have hC : COK Try.prog (cfg [(37, SSameR), (38, SSameS), (39, SSameB)]) := Ty.ty.cfg ⟨rsameR, rsameS, rsame, trivial⟩
  have h1 : a.spaces.length < 9223372036854775807 := h1
  have h2 : a.cids.length < 9223372036854775807 := h2
  have h3 : a.nots.length < 9223372036854775807 := h3
  have h4 : a.bfs.length < 9223372036854775807 := h4
  ((refine Fn.ofF hC Try.func19 Try.ntmps19 rfl rfl rfl ?_); (repeat' first | (with_reducible exact trivial) | (with_reducible rfl) | (refine And.intro ?_ ?_) | (refine Need.mk ?_) | exact True.intro | (first | (refine ⟨_, Told.refl _, ?_, ?_⟩) | (refine ⟨⟨_, _⟩, Told.refl _, ?_, ?_⟩) | (refine ⟨⟨_, _, _⟩, Told.refl _, ?_, ?_⟩) | (refine ⟨⟨_, _, _, _⟩, Told.refl _, ?_, ?_⟩) | (refine ⟨⟨_, _, _, _, _⟩, Told.refl _, ?_, ?_⟩) | (refine ⟨(), Told.refl _, ?_, ?_⟩)) | (with_reducible intro _) | (refine fun (_ : Bool) => ?_)))
  all_goals first
    | exact h1
    | exact h2
    | exact h3
    | exact h4
    | exact h5 _ ‹_›
    | exact ⟨h4, h5⟩
    | (unfold sameT; simp_all; done)
    | trace_state
end Go.Abs.Rc
set_option maxRecDepth 100000
namespace Go.Abs.Coll
open Go.RowKit Go.Proofs Go.Abs.Tab Go.Abs.Dest Go.Abs.Span Go.Abs.Utf Go.Abs.Txt Go.Abs.Hx Go.Abs.Rc
def SCollIs : Sp := SCollBack
set_option maxHeartbeats 16000000 in
theorem collIs : SpOK Try.prog 4 SCollIs := fun ⟨t, c, u⟩ hu => by
  have hC : COK Try.prog (cfg [(7, SAwakeC), (8, SFewT), (10, STab), (20, STab), (9, SUni), (13, SUni), (14, SCText), (15, SCText), (11, SBack), (16, SBack), (17, SCnt), (18, SCnt), (21, SIdent), (22, SIdent), (12, SSame), (19, SSameT)]) := Ty.ty.cfg ⟨awake, rfewT, table, told, uni, runi, ctext, rctext, back, rback, count, rcount, ident, rident, refSame, rsameT, trivial⟩
  have hu : ∀ x ∈ u, -9223372036854775808 ≤ x ∧ x ≤ 9223372036854775807 := hu
  have hf : (!fewT t) = false → t.bfs.length ≤ 60 := fun h => ((fewT_iff t).1 (by simpa using h)).2.1
  have hfr : ((EB.find t.bfs 2 c).getD []).length < 9223372036854775807 := by
    cases hF : EB.find t.bfs 2 c with
    | none => decide
    | some a =>
      have := (find_rng hF).1
      show a.length < _
      omega
  have hst := sameT_self (identT c)
  ((refine Fn.ofF hC Try.func4 Try.ntmps4 rfl rfl rfl ?_); (repeat' first | (with_reducible exact trivial) | (with_reducible rfl) | (refine And.intro ?_ ?_) | (refine Need.mk ?_) | exact True.intro | (first | (refine ⟨_, Told.refl _, ?_, ?_⟩) | (refine ⟨⟨_, _⟩, Told.refl _, ?_, ?_⟩) | (refine ⟨⟨_, _, _⟩, Told.refl _, ?_, ?_⟩) | (refine ⟨⟨_, _, _, _⟩, Told.refl _, ?_, ?_⟩) | (refine ⟨⟨_, _, _, _, _⟩, Told.refl _, ?_, ?_⟩) | (refine ⟨(), Told.refl _, ?_, ?_⟩)) | (with_reducible intro _) | (refine fun (_ : Bool) => ?_)))
  all_goals
    have hf := hf ‹_›
    have hul := of_decide_eq_false ‹decide ((u.length : Int) > 100) = false›
  all_goals first
    | (show t.bfs.length < 4611686018427387904; omega)
    | (show t.bfs.length ≤ 1000000; omega)
    | exact hfr
    | (show (1 : Nat) < 9223372036854775807; decide)
    | (show (0 : Nat) < 9223372036854775807; decide)
    | (exact absurd ‹_ ∈ (identT c).bfs› (by show ¬ _ ∈ ([] : List Bf); exact List.not_mem_nil))
    | exact hu _ ‹_›
    | exact (hu _ ‹_›).1
    | exact (hu _ ‹_›).2
    | omega
    | (simp at *; done)
    | (simp_all; done)
    | trace_state
end Go.Abs.Coll
