-- made by xprint.py of this session
import Derived.Test.YtlipfldicjihhaaDoorPTabx0
import Derived.Lib.OthersKept
namespace Go.Proofs.YtlipfldicjihhaaDoor.PTab
open Go.RowKit Go.Proofs.YtlipfldicjihhaaDoorW.PrintWords Go.Proofs.YtlipfldicjihhaaDoorW.PrintLast Go.Proofs.YtlipfldicjihhaaDoorW.PrintMore
attribute [local go_sem] max2_int min2_int max_two min_two max_three min_three max_four min_four   -- for this text's walks alone
set_option linter.unusedVariables false
set_option linter.unusedSimpArgs false

/-! ### EXT utf_Runes: function 15 -/
-- IMPORTS Derived.Lib.OthersKept
/-! utf.Runes: UTF-8 as values. -/
def utf_Runes.go (s : ByteArray) : Nat → Nat → List Int
  | 0, _ => []
  | n + 1, pos => if pos < s.size then ((Utf8.decode s pos).1 : Int) :: utf_Runes.go s n (pos + (Utf8.decode s pos).2) else []
def utf_Runes.f (a0 : ByteArray) : Option (List Int) := if a0.size < 17592186044416 then some (utf_Runes.go a0 a0.size 0) else none
theorem utf_Runes.width_pos (s : ByteArray) (pos : Nat) (h : pos < s.size) : 1 ≤ (Utf8.decode s pos).2 := by
  by_cases ha : (s[pos]'h).toNat < 128
  · rw [decode_ascii s pos h ha]
    exact Nat.le_refl _
  · exact (decode_high s pos h (by omega)).2
theorem utf_Runes.go_end (s : ByteArray) (n pos : Nat) (h : ¬ pos < s.size) : utf_Runes.go s n pos = [] := by
  cases n with
  | zero => rfl
  | succ f => simp [utf_Runes.go, h]
theorem utf_Runes.apart {w : World} {base g : Nat} {v : Value} {xs : List Int} (h : Kd.R (Kd.int .i64) 3 w base (fun k => k ≠ g) v xs) : some g ≠ v.ownBlock := fun e => h.1 g e.symm rfl
set_option maxRecDepth 100000 in
set_option maxHeartbeats 4000000 in
theorem utf_Runes.calls (a0 : ByteArray) (r : List Int) (w : World) (h : utf_Runes.f a0 = some r) :
    Calls Tryd.prog 15 #[.string a0] w fun e w' => ∃ v0_ : Value, e = .returned (v0_) ∧ Kd.R (Kd.int .i64) 3 w' w.heap.size (fun _ => True) v0_ r ∧ Below w.heap.size w w' := by
  unfold utf_Runes.f at h
  by_cases hl : a0.size < 17592186044416
  case neg =>
    rw [if_neg hl] at h
    cases h
  rw [if_pos hl] at h
  obtain rfl := Option.some.inj h
  have HL := Aside0.mk hl
  clear h hl
  go_enter Tryd.func15, Tryd.ntmps15
  go_wp2
  go_loopg [3] (a0.size + 1) (fun kq v3 w' => ∃ (pos fuel : Nat) (acc : List Int), Aside0 (a0.size + 1 ≤ kq + pos ∧ a0.size ≤ pos + fuel ∧ acc.length ≤ pos) ∧ Aside0 (acc ++ utf_Runes.go a0 fuel pos = utf_Runes.go a0 a0.size 0) ∧ w'.heap[w.heap.size]? = some (.stringIter a0 pos) ∧ Aside0 (Kd.R (Kd.int .i64) 3 w' w.heap.size (fun k => k ≠ w.heap.size) v3 acc) ∧ Aside0 (Below w.heap.size w w'))
  case atStart => exact ⟨0, a0.size, [], ⟨by simp⟩, ⟨rfl⟩, by simpa using World.iter_heap w a0 0, ⟨Kd.R_nil _ _ _ _ _⟩, ⟨(Below.refl _ w).alloc (Nat.le_refl _) _⟩⟩
  case round =>
    obtain ⟨pos, fuel, acc, HI, HA, hit, HO, HB⟩ := hrel
    have hsz : w.heap.size < wr.heap.size := (Array.getElem?_eq_some_iff.1 hit).1
    by_cases hp : pos < a0.size
    · cases gk with
      | zero => have := HI.out; omega
      | succ k1 =>
        have hnx : ∀ ty, (Instr.next (.pointer (some ⟨w.heap.size, 0, none⟩)) true ty).run Tryd.prog wr = _ := fun ty => Lib.run_next_any_at wr w.heap.size a0 pos ty hit hp
        have hwd := utf_Runes.width_pos a0 pos hp
        have hd1 := decode_le a0 pos
        have hit2 := Lib.iterAt_heap wr w.heap.size a0 pos (pos + (Utf8.decode a0 pos).2) hit
        have hbw2 := Lib.below_iterAt HB.out (k := w.heap.size) (by omega) a0 (pos + (Utf8.decode a0 pos).2)
        have ho2 := Kd.R_step (w1 := wr.iterAt w.heap.size a0 (pos + (Utf8.decode a0 pos).2)) HO.out (fun k hk _ => Lib.iterAt_other wr w.heap.size k a0 _ hk)
        have HIT2 := Aside0.mk hit2
        have HB2 := Aside0.mk hbw2
        have HO2 := Aside0.mk ho2
        have HS2 := Aside0.mk (show w.heap.size < (wr.iterAt w.heap.size a0 (pos + (Utf8.decode a0 pos).2)).heap.size by rw [Lib.iterAt_size]; exact hsz)
        have HP := Aside0.mk hp
        have HW := Aside0.mk hwd
        clear hit2 hbw2 ho2 hp hwd
        obtain ⟨f, rfl⟩ : ∃ f, fuel = f + 1 := ⟨fuel - 1, by have := HI.out; have := HP.out; omega⟩
        go_wp2_with (((with_reducible refine gate_builtin (b := .append) (xs := #[.tmp 11, .tmp 14]) rfl ?_); at_builtin; refine Kd.R_append (Kd.int .i64) (w0 := w) w.heap.size rfl (.tmp 11) (.tmp 14) 22 3 (.int .i64 0) 8 rfl Tryd.underlying22 info3 rfl (by decide) (by omega) u3 acc ((Utf8.decode a0 pos).1 : Int) [.int .i64 ((Utf8.decode a0 pos).1 : Int)] (fun k => k ≠ w.heap.size) (fun _ => False) rfl rfl ?aP (fun _ hk => hk.elim) ?aF ?aO ?aB ?aS ?aL ?_; (case aP => exact rfl); (case aB => exact (by repeat (first | (with_reducible first | exact HB2.out | apply below_alloc | apply pw_below_drewN | apply below_drew1) | exact HB2.out))); (case aF => intro k hk; have := HS2.out; omega); (case aO => exact (by ((with_reducible repeat (first | apply Kd.R_alloc | apply Kd.R_drewN | apply Kd.R_drew)); exact HO2.out))); (case aS => exact (below_size (by repeat (first | (with_reducible first | exact HB2.out | apply below_alloc | apply pw_below_drewN | apply below_drew1) | exact HB2.out)))); (case aL => have := HI.out; have := HL.out; have := HP.out; omega); intro v5 w5 ho hb hg hat; have q1 := Aside0.mk ho; have q2 := Aside0.mk hb; have q3 := Aside0.mk (hg.block _ HS2.out (utf_Runes.apart HO2.out)); clear ho hb hg hat))
        go_roundg k1
        case measure => have := HI.out; have := HW.out; omega
        case rel =>
          refine ⟨pos + (Utf8.decode a0 pos).2, f, acc ++ [((Utf8.decode a0 pos).1 : Int)], ⟨by have := HI.out; have := HW.out; simp; omega⟩, ⟨?_⟩, q3.out.trans HIT2.out, q1, q2⟩
          rw [← HA.out]
          simp [utf_Runes.go, HP.out]
    · have hnx : ∀ ty, (Instr.next (.pointer (some ⟨w.heap.size, 0, none⟩)) true ty).run Tryd.prog wr = _ := fun ty => Lib.run_next_end_at wr w.heap.size a0 pos ty hit hp
      go_wp2
      go_ret
      have ha := HA.out
      rw [utf_Runes.go_end a0 fuel pos hp, List.append_nil] at ha
      subst ha
      exact ⟨_, rfl, Kd.R_mono HO.out (fun _ _ => trivial), HB.out⟩

end Go.Proofs.YtlipfldicjihhaaDoor.PTab
