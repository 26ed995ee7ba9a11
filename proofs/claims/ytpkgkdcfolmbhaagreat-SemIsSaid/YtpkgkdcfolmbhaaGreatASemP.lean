/- What items mean, plain. -/
import Derived.Test.YtpkgkdcfolmbhaaGreatARectP
set_option linter.all false
set_option maxRecDepth 100000
namespace Go.Abs.Tab
namespace En
variable {α V : Type} [Inhabited α] (E : En α V)
theorem last_app : ∀ (b a : List α) (n c : Int), E.last (a ++ b) n c = (E.last b n c).or (E.last a n c)
  | [], a, n, c => by
    rw [List.append_nil]
    rfl
  | x :: b, a, n, c => by
    have h1 : E.last (x :: b) n c = (E.last b n c).or (E.last [x] n c) := last_app b [x] n c
    have h2 := last_app b (a ++ [x]) n c
    rw [List.append_assoc] at h2
    have h3 : E.last [x] n c = E.to x n c := by
      have := E.last_snoc [] x n c
      rw [List.nil_append] at this
      rw [this]
      cases E.to x n c <;> rfl
    show E.last (a ++ ([x] ++ b)) n c = _
    rw [h2, h1, h3, E.last_snoc]
    cases E.last b n c <;> rfl
theorem build_same {a b : List α} (h : ∀ n c, E.last a n c = E.last b n c) : E.build a = E.build b :=
  E.same_table (E.build_ok a).1 (E.build_ok b).1 fun n c => by
    rw [(E.build_ok a).2.2, (E.build_ok b).2.2]
    exact h n c
theorem last_build (a : List α) (n c : Int) : E.last (E.build a) n c = E.last a n c := by
  have h := E.build_ok a
  unfold last
  rw [E.get_lastL h.1.2.1 h.1.1, h.2.2]
theorem last_tab {a : List α} (h : E.Tab a) (n c : Int) : E.last a n c = E.get a n c := E.get_lastL h.2.1 h.1 n c
theorem build_left (a b : List α) : E.build (E.build a ++ b) = E.build (a ++ b) := E.build_same fun n c => by rw [last_app, last_app, last_build]
theorem build_right (a b : List α) : E.build (a ++ E.build b) = E.build (a ++ b) := E.build_same fun n c => by rw [last_app, last_app, last_build]
theorem build_idem (a : List α) : E.build (E.build a) = E.build a := E.build_same fun n c => by rw [last_build]
theorem build_twice (a : List α) : E.build (a ++ a) = E.build a := E.build_same fun n c => by
  rw [last_app]
  cases E.last a n c <;> rfl
theorem build_more (a b : List α) : E.build (E.build (a ++ b) ++ b) = E.build (a ++ b) := by
  rw [build_left]
  refine E.build_same fun n c => ?_
  rw [last_app, last_app]
  cases E.last b n c <;> rfl
end En
end Go.Abs.Tab
namespace Go.Abs.Sm
open Go.RowKit Go.Proofs Go.Abs.Tab Go.Abs.Dest Go.Abs.Span Go.Abs.Coll Go.Abs.Hx Go.Abs.Mt Go.Abs.Rc
structure Ent where
  ln : Int
  lv : Int
  hn : Int
  hv : Int
  to : Int
  u : List Int
  l : List (List Int)
instance : Inhabited Ent := ⟨⟨0, 0, 0, 0, 0, [], []⟩⟩
structure Itm where
  kind : Int
  at_ : Int
  name : ByteArray
  tk : Int
  ta : Int
  tn : Int
  ts : ByteArray
  ents : List Ent
instance : Inhabited Itm := ⟨⟨0, 0, ByteArray.empty, 0, 0, 0, ByteArray.empty, []⟩⟩
def nameK : ByteArray := ⟨#[67, 77, 97, 112, 78, 97, 109, 101]⟩
def modeK : ByteArray := ⟨#[87, 77, 111, 100, 101]⟩
def isName (x : Itm) : Prop := x.name = nameK ∧ x.tk = 2
def isMode (x : Itm) : Prop := x.name = modeK ∧ x.tk = 1 ∧ (x.tn = 0 ∨ x.tn = 1)
instance (x : Itm) : Decidable (isName x) := inferInstanceAs (Decidable (_ ∧ _))
instance (x : Itm) : Decidable (isMode x) := inferInstanceAs (Decidable (_ ∧ _ ∧ (_ ∨ _)))
theorem not_both {x : Itm} (h : isName x) : ¬ isMode x := fun q => by
  have e : nameK = modeK := h.1.symm.trans q.1
  have : nameK.size = modeK.size := by rw [e]
  exact absurd this (by decide)
def nameX (n : ByteArray) (x : Itm) : ByteArray := if x.kind = 0 ∧ isName x then x.ts else n
def modeX (m : Int) (x : Itm) : Int := if x.kind = 0 ∧ isMode x then x.tn else m
def rectE (e : Ent) : Rct := ⟨e.ln, e.lv, e.hv⟩
def spanE (e : Ent) : Spn := ⟨e.ln, e.lv, e.hv, e.to⟩
def bfsE (e : Ent) : List Bf := if e.l.length = 0 then [⟨e.ln, e.lv, e.hv, e.u⟩] else (List.range e.l.length).map fun (k : Nat) => ⟨e.ln, IntKind.i64.wrap (e.lv + (k : Int)), IntKind.i64.wrap (e.lv + (k : Int)), e.l.getD k default⟩
def rectsX (x : Itm) : List Rct := if x.kind = 2 then x.ents.map rectE else []
def cidsX (x : Itm) : List Spn := if x.kind = 3 ∨ x.kind = 4 then x.ents.map spanE else []
def notsX (x : Itm) : List Spn := if x.kind = 5 ∨ x.kind = 6 then x.ents.map spanE else []
def bfsX (x : Itm) : List Bf := if x.kind = 7 ∨ x.kind = 8 then x.ents.flatMap bfsE else []
def listT (t : Tbl) (x : Itm) : Tbl := ⟨nameX t.name x, modeX t.wmode x, t.spaces ++ rectsX x, t.cids ++ cidsX x, t.nots ++ notsX x, t.bfs ++ bfsX x⟩
def builtT (t : Tbl) (k : Int) : Tbl := ⟨t.name, t.wmode, if k = 2 then canR t.spaces else t.spaces, if k = 3 ∨ k = 4 then (ES true).build t.cids else t.cids, if k = 5 ∨ k = 6 then (ES false).build t.nots else t.nots, if k = 7 ∨ k = 8 then EB.build t.bfs else t.bfs⟩
def doT (t : Tbl) (x : Itm) : Tbl := builtT (listT t x) x.kind
def T0 : Tbl := ⟨ByteArray.empty, 0, [], [], [], []⟩
def allT (l : List Itm) : Tbl := l.foldl doT T0
def listsT (l : List Itm) : Tbl := l.foldl listT T0
def mergeT (t u : Tbl) : Tbl := ⟨t.name, t.wmode, canR (t.spaces ++ u.spaces), (ES true).build (t.cids ++ u.cids), (ES false).build (t.nots ++ u.nots), EB.build (t.bfs ++ u.bfs)⟩
/-- May its lists be? -/
def canT (t : Tbl) : Tbl := ⟨t.name, t.wmode, canR t.spaces, (ES true).build t.cids, (ES false).build t.nots, EB.build t.bfs⟩
theorem lists_from : ∀ (l : List Itm) (t : Tbl), l.foldl listT t = ⟨l.foldl nameX t.name, l.foldl modeX t.wmode, t.spaces ++ l.flatMap rectsX, t.cids ++ l.flatMap cidsX, t.nots ++ l.flatMap notsX, t.bfs ++ l.flatMap bfsX⟩
  | [], t => by simp
  | x :: l, t => by
    rw [List.foldl_cons, lists_from l]
    simp [listT, List.flatMap_cons]
theorem lists_eq (l : List Itm) : listsT l = ⟨l.foldl nameX ByteArray.empty, l.foldl modeX 0, l.flatMap rectsX, l.flatMap cidsX, l.flatMap notsX, l.flatMap bfsX⟩ := by
  unfold listsT
  rw [lists_from]
  rfl
theorem do_can (t : Tbl) (x : Itm) : doT (canT t) x = canT (listT t x) := by
  unfold doT builtT canT listT
  dsimp only
  congr 1
  · by_cases h : x.kind = 2
    · rw [if_pos h, canR_left]
    · have e : rectsX x = [] := if_neg h
      rw [if_neg h, e, List.append_nil, List.append_nil]
  · by_cases h : x.kind = 3 ∨ x.kind = 4
    · rw [if_pos h, En.build_left]
    · have e : cidsX x = [] := if_neg h
      rw [if_neg h, e, List.append_nil, List.append_nil]
  · by_cases h : x.kind = 5 ∨ x.kind = 6
    · rw [if_pos h, En.build_left]
    · have e : notsX x = [] := if_neg h
      rw [if_neg h, e, List.append_nil, List.append_nil]
  · by_cases h : x.kind = 7 ∨ x.kind = 8
    · rw [if_pos h, En.build_left]
    · have e : bfsX x = [] := if_neg h
      rw [if_neg h, e, List.append_nil, List.append_nil]
theorem can_all : ∀ (l : List Itm) (t : Tbl), l.foldl doT (canT t) = canT (l.foldl listT t)
  | [], _ => rfl
  | x :: l, t => by
    rw [List.foldl_cons, List.foldl_cons, do_can, can_all l]
theorem canR_nil : canR [] = [] := by
  have h := canR_len []
  cases hc : canR [] with
  | nil => rfl
  | cons x l => rw [hc] at h; simp at h
theorem build_nil {α V : Type} (E : En α V) : E.build [] = [] := by
  have h := (E.build_ok []).2.1
  cases hc : E.build [] with
  | nil => rfl
  | cons x l => rw [hc] at h; simp at h
theorem can0 : canT T0 = T0 := by
  unfold canT T0
  dsimp only
  rw [canR_nil, build_nil, build_nil, build_nil]
theorem all_eq (l : List Itm) : allT l = canT (listsT l) := by
  unfold allT listsT
  rw [← can_all l T0, can0]
theorem canT_idem (t : Tbl) : canT (canT t) = canT t := by
  unfold canT
  dsimp only
  rw [canR_idem, En.build_idem, En.build_idem, En.build_idem]
theorem sane_iff (t : Tbl) : saneT t = true ↔ (t.wmode = 0 ∨ t.wmode = 1) ∧ canT t = t := by
  unfold saneT
  simp only [Bool.and_eq_true, decide_eq_true_eq, sameRs_iff, En.canon_iff]
  have tb : ∀ {α V : Type} (E : En α V) (a : List α), E.Tab a ↔ E.build a = a := fun E a => ⟨E.build_again, fun h => by rw [← h]; exact (E.build_ok a).1⟩
  rw [tb, tb, tb]
  obtain ⟨a, b, c, d, e, f⟩ := t
  unfold canT
  simp
theorem mode_rng : ∀ (l : List Itm) (m : Int), m = 0 ∨ m = 1 → l.foldl modeX m = 0 ∨ l.foldl modeX m = 1
  | [], m, h => h
  | x :: l, m, h => by
    rw [List.foldl_cons]
    refine mode_rng l _ ?_
    unfold modeX
    split
    · rename_i q
      exact q.2.2.2
    · exact h
theorem sane_all (l : List Itm) : saneT (allT l) = true := by
  rw [sane_iff, all_eq, canT_idem]
  refine ⟨?_, rfl⟩
  rw [lists_eq]
  exact mode_rng l 0 (Or.inl rfl)
/-- What is told last, told once more. -/
theorem over_twice {α β : Type} (f : β → α → β) (hf : ∀ b x, (∀ b', f b' x = f b x) ∨ (∀ b', f b' x = b')) : ∀ (l : List α), (∃ c, ∀ b, l.foldl f b = c) ∨ (∀ b, l.foldl f b = b)
  | [] => Or.inr fun _ => rfl
  | x :: l => by
    rcases over_twice f hf l with ⟨c, h⟩ | h
    · exact Or.inl ⟨c, fun b => by rw [List.foldl_cons, h]⟩
    · by_cases q : Nonempty β
      · obtain ⟨b0⟩ := q
        rcases hf b0 x with g | g
        · exact Or.inl ⟨f b0 x, fun b => by rw [List.foldl_cons, h, g]⟩
        · exact Or.inr fun b => by rw [List.foldl_cons, h, g]
      · exact Or.inr fun b => absurd ⟨b⟩ q
theorem name_twice (l : List Itm) (b : ByteArray) : (l ++ l).foldl nameX b = l.foldl nameX b := by
  rw [List.foldl_append]
  rcases over_twice nameX (fun b x => by
    by_cases q : x.kind = 0 ∧ isName x
    · exact Or.inl fun b' => by unfold nameX; rw [if_pos q, if_pos q]
    · exact Or.inr fun b' => by unfold nameX; rw [if_neg q]) l with ⟨c, h⟩ | h
  · rw [h, h]
  · rw [h, h]
theorem mode_twice (l : List Itm) (b : Int) : (l ++ l).foldl modeX b = l.foldl modeX b := by
  rw [List.foldl_append]
  rcases over_twice modeX (fun b x => by
    by_cases q : x.kind = 0 ∧ isMode x
    · exact Or.inl fun b' => by unfold modeX; rw [if_pos q, if_pos q]
    · exact Or.inr fun b' => by unfold modeX; rw [if_neg q]) l with ⟨c, h⟩ | h
  · rw [h, h]
  · rw [h, h]
theorem can_twice (a b c d : _) (n : ByteArray) (m : Int) : canT ⟨n, m, a ++ a, b ++ b, c ++ c, d ++ d⟩ = canT ⟨n, m, a, b, c, d⟩ := by
  unfold canT
  dsimp only
  rw [canR_same (a := a ++ a) (b := a) (by simp), En.build_twice, En.build_twice, En.build_twice]
theorem all_twice (l : List Itm) : allT (l ++ l) = allT l := by
  rw [all_eq, all_eq, lists_eq, lists_eq, name_twice, mode_twice]
  simp only [List.flatMap_append]
  exact can_twice _ _ _ _ _ _
theorem all_parts (l m : List Itm) : allT (l ++ m) = ⟨(allT (l ++ m)).name, (allT (l ++ m)).wmode, (mergeT (allT l) (allT m)).spaces, (mergeT (allT l) (allT m)).cids, (mergeT (allT l) (allT m)).nots, (mergeT (allT l) (allT m)).bfs⟩ := by
  have h : allT (l ++ m) = canT (listsT (l ++ m)) := all_eq _
  rw [lists_eq] at h
  simp only [List.flatMap_append] at h
  have e1 : (mergeT (allT l) (allT m)).spaces = canR (l.flatMap rectsX ++ m.flatMap rectsX) := by
    rw [all_eq, all_eq, lists_eq, lists_eq]
    show canR (canR _ ++ canR _) = _
    rw [canR_left, canR_right]
  have e2 : (mergeT (allT l) (allT m)).cids = (ES true).build (l.flatMap cidsX ++ m.flatMap cidsX) := by
    rw [all_eq, all_eq, lists_eq, lists_eq]
    show (ES true).build ((ES true).build _ ++ (ES true).build _) = _
    rw [En.build_left, En.build_right]
  have e3 : (mergeT (allT l) (allT m)).nots = (ES false).build (l.flatMap notsX ++ m.flatMap notsX) := by
    rw [all_eq, all_eq, lists_eq, lists_eq]
    show (ES false).build ((ES false).build _ ++ (ES false).build _) = _
    rw [En.build_left, En.build_right]
  have e4 : (mergeT (allT l) (allT m)).bfs = EB.build (l.flatMap bfsX ++ m.flatMap bfsX) := by
    rw [all_eq, all_eq, lists_eq, lists_eq]
    show EB.build (EB.build _ ++ EB.build _) = _
    rw [En.build_left, En.build_right]
  rw [e1, e2, e3, e4, h]
  rfl
theorem merge_self {t : Tbl} (h : canT t = t) : mergeT t t = t := by
  have e := can_twice t.spaces t.cids t.nots t.bfs t.name t.wmode
  exact e.trans h
theorem merge_none {t : Tbl} (h : canT t = t) : mergeT t T0 = t := by
  have e : mergeT t T0 = canT t := by
    unfold mergeT canT T0
    simp only [List.append_nil]
  exact e.trans h
theorem merge_can (t u : Tbl) : canT (mergeT t u) = mergeT t u := by
  unfold mergeT canT
  dsimp only
  rw [canR_idem, En.build_idem, En.build_idem, En.build_idem]
theorem merge_more (t u : Tbl) : mergeT (mergeT t u) u = mergeT t u := by
  unfold mergeT
  dsimp only
  rw [canR_left, canR_same (a := (t.spaces ++ u.spaces) ++ u.spaces) (b := t.spaces ++ u.spaces) (by simp), En.build_more, En.build_more, En.build_more]
end Go.Abs.Sm
