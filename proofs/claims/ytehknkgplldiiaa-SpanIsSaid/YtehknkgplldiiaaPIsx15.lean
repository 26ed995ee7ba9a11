-- made by xprint.py of this session
import Derived.Test.YtehknkgplldiiaaPIsx0
namespace Go.Proofs.Ytehknkgplldiiaa.PIs
open Go.RowKit Go.Proofs.YtehknkgplldiiaaW.PrintWords Go.Proofs.YtehknkgplldiiaaW.PrintLast Go.Proofs.YtehknkgplldiiaaW.PrintMore
attribute [local go_sem] max2_int min2_int max_two min_two max_three min_three max_four min_four   -- for this text's walks alone
set_option linter.unusedVariables false
set_option linter.unusedSimpArgs false

/-! ### EXT slices_Clone_Span: function 31 -/
/-! slices.Clone of spans. -/
def slices_Clone_Span.f (l0 : List S23) : Option (List S23) := if l0.length < 4294967296 then some l0 else none
set_option maxRecDepth 100000 in
set_option maxHeartbeats 4000000 in
theorem slices_Clone_Span.calls (A0 : Option Addr) (c0 : Nat) (l0 : List S23) (r : List S23) (w : World) (hr0 : Kd.C k23 w A0 l0.length l0) (hc0 : l0.length ≤ c0) (h : slices_Clone_Span.f l0 = some r) :
    Calls Try.prog 31 #[.slice A0 l0.length c0] w fun e w' => ∃ v0_ : Value, e = .returned (v0_) ∧ Kd.R k23 23 w' w.heap.size (fun _ => True) v0_ r ∧ Below w.heap.size w w' := by
  unfold slices_Clone_Span.f at h
  by_cases hl : l0.length < 4294967296
  case neg =>
    rw [if_neg hl] at h
    cases h
  rw [if_pos hl] at h
  obtain rfl := Option.some.inj h
  have HR0 := Aside0.mk hr0
  have HL := Aside0.mk hl
  have HB := Aside0.mk (Below.refl w.heap.size w)
  have hu := Try.underlying23
  have hu2 := Try.underlying26
  clear h hl hr0 hc0
  cases A0 with
  | none =>
    have h0 : l0 = [] := by
      rcases l0 with _ | ⟨x, l⟩
      · rfl
      · obtain ⟨ad, h, _⟩ := HR0.out.2.2 (Nat.succ_pos _)
        cases h
    subst h0
    have he : ∀ W : World, (binOp BinOp.eql 26 (Value.slice none 0 c0) (Value.slice none 0 0)).run Try.prog W = .ok (.bool true) W := fun W => rfl
    go_enter Try.func31, Try.ntmps31
    go_wp2
    go_ret
    exact ⟨_, rfl, Kd.R_nil _ _ _ _ _, HB.out⟩
  | some ad =>
    have he : ∀ W : World, (binOp BinOp.eql 26 (Value.slice (some ad) l0.length c0) (Value.slice none 0 0)).run Try.prog W = .ok (.bool false) W := fun W => rfl
    go_enter Try.func31, Try.ntmps31
    go_wp2_with (first | ((with_reducible refine gate_dst (N := 5) rfl ?_); refine Kd.R_lit k23 _ 23 ?hg (N := 5) ?hd (xs := ([] : List (S23))) (inner := []) (ok := fun _ => True) (okp := fun _ => True) ?hr ?hp (fun _ hk => hk) trivial (Below.refl _ _) (Nat.le_refl _) (by simp) ?_; (case hd => rfl); (case hg => rfl); (case hr => first | (go_simp; done) | (go_simp; rfl)); (case hp => exact (Reps.none _ _)); intro v5 w8 ho9 hb hg_ hnew_; have HO := Aside0.mk ho9; have n0_ := Aside0.mk (below_step HB.out hb); clear HB hb hg_ hnew_ ho9; have HB := n0_; clear n0_) | ((with_reducible refine gate_builtin (b := .append) (xs := #[.tmp 5, .tmp 6]) rfl ?_); at_builtin; refine Kd.R_append_rows k23 (w0 := w) w.heap.size rfl (.tmp 5) (.tmp 6) 26 23 (.agg #[(.int .i64 0), (.int .i64 0), (.int .i64 0), (.int .i64 0)]) 32 rfl Try.underlying26 info23 rfl (by decide) (by omega) v5 [] l0 _ _ _ (fun _ => True) (fun _ => False) rfl rfl HO.out (Kd.C_below HR0.out HB.out) (fun _ _ h => h) (fun _ h => h.elim) (fun _ _ => trivial) HB.out (below_size HB.out) (by have := HL.out; simp only [List.length_nil]; omega) ?_; intro v1 w1 hR1 hB1 _ _; have HO1 := Aside0.mk hR1; clear HB HO hR1; have HB := Aside0.mk hB1; clear hB1))
    go_ret
    exact ⟨_, rfl, HO1.out, HB.out⟩

end Go.Proofs.Ytehknkgplldiiaa.PIs
