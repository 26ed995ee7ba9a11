/- CollIdentity: whatever the input, the law's function returns true, and each argument reads afterwards as it read before. Conditions: those of the given row, and none beside. -/
-- The row of hornbook/hornbooklaw20.CollIdentity, out of the engine's word on the law's function (written by rowa.py, a program of this session).
import Derived.Test.YtmgjojgfocbjfaaRows
import Derived.Test.YtmgjojgfocbjfaaACollIdM
import Derived.Test.YtmgjojgfocbjfaaATblOpen
import Derived.Test.YtmgjojgfocbjfaaAHxOpen
import Derived.WalkKit
import Derived.ProofKit
import Derived.OpenShut
import Derived.ShutString
import Derived.ChangeOld
import Derived.Below
import Derived.SizedLaws
import Derived.Carry
namespace Go.Proofs.Ytmgjojgfocbjfaa.collIdentity
open Go.ChangeShapes Go.WideShapes Go.ChangeAt Go.RowKit Go.Abs Go.Abs.Dest Go.Abs.Coll Go.Abs.Hx Go.Abs.Ci
open Go.ChangeMaps (open_string shut_string)
set_option linter.all false
theorem own : ownKnob Try.prog.godebug = none := by kernel_rfl
theorem laidOut : laidOutB Try.prog = true := by kernel_rfl
set_option maxRecDepth 100000 in
theorem lifted (os : Os) (started : os.Started) (H : Type) (enc : TypeId × Value → H) :
    ReturnsInHanded {} Try.checked os 6 .any (Rows.collIdentitySpec.pre6 enc Try.prog Try.f6 Rows.collIdentityRow.domain false) (Rows.collIdentitySpec.post enc Try.prog Try.f6 false true false false) := by
  refine returnsInHanded_of_change_sized (C := Try.checked) own started (by kernel_rfl) Try.func6
    (ChangeSpec.witness6 (enc := enc) (C := Try.checked) false ⟨#[], #[.int .i64 0, .agg #[.int .i64 0, .int .i64 0], .slice none 0 0], []⟩ 8 (by kernel_rfl) (by kernel_rfl) (by kernel_rfl) (by kernel_rfl)) ?_
  intro W base args ds gs before hval0 hW hcnd hsz0 _
  have hval : ∀ (j : Nat) t v, Try.f6.params[j]? = some t → args[j]? = some v → Value.okWide Try.prog W .any base t v := hval0
  have hW' := hW
  obtain ⟨p, q, hA0, hV, rfl, hfz, hnd⟩ := hW
  have hA : DataW.TrodAll enc Try.prog W 0 (fun _ => true) true Try.f6.params.toList args.toList ds p := hA0
  rw [Try.params6] at hA hval
  obtain ⟨v0, vs0, d0, ds0, p0, q0, hargs, rfl, rfl, h0, r0⟩ := trodAll_cons hA
  obtain ⟨v1, vs1, d1, ds1, p1, q1, rfl, rfl, rfl, h1, r1⟩ := trodAll_cons r0
  obtain ⟨v2, vs2, d2, ds2, p2, q2, rfl, rfl, rfl, h2, r2⟩ := trodAll_cons r1
  obtain ⟨rfl, rfl, rfl⟩ := trodAll_nil r2
  obtain rfl : args = #[v0, v1, v2] := by cases args; simp_all
  obtain ⟨rfl, rfl⟩ := trodVars_none hV
  obtain ⟨x0, rfl, rfl, rfl, w0⟩ := open_int Try.underlying3 (hval 0 3 v0 rfl rfl) h0
  have R0 := RV0.int (w := W) (S := Sall W) .i64 x0
  have k1 := h1
  have lt1 : ∀ x ∈ p1, x.block < W.heap.size := by obtain ⟨m, hm⟩ := k1; exact DataW.trod_lt m _ _ _ hm
  obtain ⟨fuel1, hf1⟩ := h1
  obtain ⟨cs1, rfl, _⟩ := okWide_struct Try.underlying57 (hval 1 57 v1 rfl rfl)
  obtain ⟨x1, K1, w1⟩ := opCode enc W 0 _ true fuel1 _ _ hf1
  have R1 := RV0.agg _ _ K1.1 K1.2
  rw [show (Value.cells (.agg cs1)).toList.toArray = cs1 by simp [Value.cells]] at R1
  have k2 := h2
  have lt2 : ∀ x ∈ p2, x.block < W.heap.size := by obtain ⟨m, hm⟩ := k2; exact DataW.trod_lt m _ _ _ hm
  obtain ⟨fuel2, hf2⟩ := h2
  obtain ⟨b2, len2, cap2, rfl⟩ := okWide_slice Try.underlying58 (hval 2 58 v2 rfl rfl)
  obtain ⟨x2, K2, w2⟩ := opB8 enc W 0 _ true fuel2 _ _ hf2
  have R2 := K2.2 0 _ _ rfl rfl
  clear hA0 hval0 hsz0
  have hF := Go.Abs.Ci.collIdentity (x0, x1.1, x1.2, x2) (fun x hx => wf8_rng (w2.2 x hx))
  have hv := RVs0.append (rvs1 R0) (RVs0.append (rvs1 R1) (rvs1 R2))
  refine (hF.2 W (Sall W) _ (fun b h => h) hv).mono fun e W' hpost => ?_
  obtain ⟨v, S', rfl, hres, _, _, bel⟩ := hpost
  obtain rfl : v = .bool true := by cases hres; rfl
  exact ⟨_, rfl, _, _, _, [], _, [], hW', trodAll_mk1 (shut_bool Try.underlying4 _), (trodAll_cons_mk (shut_int Try.underlying3 w0) (trodAll_cons_mk (Below.trod laidOut (by kernel_rfl) (of_decide_eq_true (by kernel_rfl)) k1 bel lt1) (trodAll_cons_mk (Below.trod laidOut (by kernel_rfl) (of_decide_eq_true (by kernel_rfl)) k2 bel lt2) trodAll_mk0))), rfl, bel.frame _, fun h => by cases h⟩
theorem over : Rows.collIdentityRow.holds Try.pinned (OpenSpec.ofChange Rows.collIdentitySpec) :=
  OpenClaim.holds_of_wide 6 Try.f6 rfl rfl rfl rfl rfl rfl rfl ⟨rfl, rfl, rfl, rfl, rfl⟩ rfl rfl rfl rfl rfl (by kernel_rfl) Try.func6 (by kernel_rfl)
    (of_decide_eq_true (by kernel_rfl)) (by unfold Func.isWrapper; first | (rw [if_pos (by decide +kernel)]; kernel_rfl) | (rw [if_neg (by decide +kernel)]; exact ⟨rfl, rfl⟩))
    (fun os started H enc _ => lifted os started H enc)
#print axioms over
end Go.Proofs.Ytmgjojgfocbjfaa.collIdentity
namespace Go.Proofs.Ytmgjojgfocbjfaa
/-- The row, under a short name, for the claim. -/
theorem collIdentity_holds : Rows.CollIdentitySaid := collIdentity.over
end Go.Proofs.Ytmgjojgfocbjfaa
