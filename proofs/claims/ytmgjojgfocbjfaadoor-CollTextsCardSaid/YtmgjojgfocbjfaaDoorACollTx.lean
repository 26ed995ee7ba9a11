/- CollTexts by the engine, where Go's UTF-8 tables lie in the world. -/
import Derived.Test.YtmgjojgfocbjfaaDoorAWhole
import Derived.Test.YtmgjojgfocbjfaaDoorACounts
set_option linter.all false
set_option maxRecDepth 100000
namespace Go.Abs.Coll
open Go.RowKit Go.Proofs Go.Abs.Tab Go.Abs.Dest Go.Abs.Span Go.Abs.Utf Go.Abs.Txt
theorem find_facts {l : List Bf} {c : Int} {a : List Int} (h : EB.find l 2 c = some a) : 1 ≤ a.length ∧ a.length ≤ 64 ∧ 0 ≤ c ∧ c ≤ 65535 := by
  have hc : EB.canon l = true := by
    unfold En.find at h
    split at h
    · assumption
    · cases h
  have htab := (EB.canon_iff l).1 hc
  rw [EB.find_tab htab] at h
  obtain ⟨b, hb, ⟨h1, h2, h3⟩, rfl⟩ := Tb.get_mem _ h
  have h1 : b.n = 2 := h1
  have h2 : b.lo ≤ c := h2
  have h3 : c ≤ b.hi := h3
  have hs := htab.1 b hb
  have r := rngB hs
  obtain ⟨k1, k2, _⟩ := (sane_iff b).1 hs
  rw [h1] at k1 k2
  have m1 := (saneC_iff 2 b.lo).1 k1
  have m2 := (saneC_iff 2 b.hi).1 k2
  show 1 ≤ (fur b.to (c - b.lo)).length ∧ (fur b.to (c - b.lo)).length ≤ 64 ∧ _
  rw [fur_len]
  omega
theorem decU_ne {l : List Int} (h : 1 ≤ l.length) : decU l ≠ [] := by
  match l, h with
  | [a], _ => simp [decU]
  | a :: b :: r, _ =>
    rw [decU]
    split <;> simp
theorem encB_ne {l : List Int} (h : l ≠ []) : ((encB l).toList == ByteArray.empty.toList) = false := by
  rw [beq_eq_false_iff_ne]
  intro e
  have hs : (encB l).data.toList = enc l := by simp [encB]
  rw [ByteArray.toList_eq, ByteArray.toList_eq, hs] at e
  match l, h with
  | x :: r, _ =>
    rw [enc_cons] at e
    exact enc_ne _ (List.append_eq_nil_iff.1 e).1
def SCollTx : Sp := ⟨Tbl × Int, fun _ => True, fun (t, c) => [.agg (cT t), .int .i64 c], fun _ => .st (.lit true)⟩
set_option maxHeartbeats 16000000 in
theorem collTexts : SpOKT UT Tryd.prog 3 SCollTx := fun ⟨t, c⟩ _ => by
  have hC : COKT Tryd.prog UT (cfg [(4, SAwakeC), (5, SFewT), (7, STab), (6, SUni), (8, SCText), (10, SDec), (9, SText), (11, SWhole)]) := Ty.ty.cfgT ⟨awake.t, rfewT.t, table.t, uni.t, ctext.t, dec16.t, text.t, whole, trivial⟩
  have hf : (!fewT t) = false → t.bfs.length ≤ 60 := fun h => ((fewT_iff t).1 (by simpa using h)).2.1
  have hff := fun a => find_facts (l := t.bfs) (c := c) (a := a)
  refine FnT.ofF hC Tryd.func3 Tryd.ntmps3 rfl rfl rfl ?_
  (repeat' first | (with_reducible exact trivial) | (with_reducible rfl) | (refine And.intro ?_ ?_) | (refine Need.mk ?_) | exact True.intro | (first | (refine ⟨_, Told.refl _, ?_, ?_⟩) | (refine ⟨⟨_, _⟩, Told.refl _, ?_, ?_⟩) | (refine ⟨⟨_, _, _⟩, Told.refl _, ?_, ?_⟩) | (refine ⟨⟨_, _, _, _⟩, Told.refl _, ?_, ?_⟩) | (refine ⟨⟨_, _, _, _, _⟩, Told.refl _, ?_, ?_⟩) | (refine ⟨(), Told.refl _, ?_, ?_⟩)) | (with_reducible intro _) | (refine fun (_ : Bool) => ?_))
  all_goals have hf := hf ‹_›
  all_goals first
    | (show t.bfs.length < 4611686018427387904; omega)
    | (show t.bfs.length ≤ 1000000; omega)
    | skip
  all_goals clear hC
  all_goals generalize EB.find t.bfs 2 c = z at *
  all_goals cases z with
    | none =>
      clear hff
      have hx : txtO none = ByteArray.empty := rfl
      first
        | (exfalso; simp at *; done)
        | (simp [hx] at *; done)
        | (simp_all; done)
        | skip
    | some a =>
      obtain ⟨f1, f2, f3, f4⟩ := hff a rfl
      clear hff
      have g1 := decU_len a
      have g2 := enc_len (decU a)
      have g3 := valid_enc (decU a)
      have g4 := encB_ne (decU_ne f1)
      have g5 : (encB (decU a)).data.toList = enc (decU a) := by simp [encB]
      have g6 : (encB (decU a)).size = (enc (decU a)).length := by simp [encB, ByteArray.size]
      have g7 : txtO (some a) = encB (decU a) := rfl
      first
        | (show a.length ≤ 1000000000; omega)
        | (show (decU a).length < 4398046511104; show (decU a).length < 4398046511104; omega)
        | (show (encB (decU a)).size ≤ 9223372036854775807; rw [g6]; omega)
        | (rw [g7, g5]; exact g3)
        | (exfalso; simp at *; done)
        | (exfalso; simp at *; omega)
        | (simp [g7, g4] at *; done)
        | (simp_all; done)
        | skip
end Go.Abs.Coll
