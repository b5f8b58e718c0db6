/- Cells whose sets lie in rows of their own. -/
import Derived.Test.YtlblilbmpdejgaaDoorSep2
import Derived.Test.YtlblilbmpdejgaaDoorRecs
set_option linter.unusedSimpArgs false
set_option linter.unusedVariables false
namespace Go.Proofs.YtlblilbmpdejgaaDoor
open Go.RowKit

theorem EP.of_at {α : Type} {q : List Value → α → Prop} : ∀ {css : List (List Value)} {l : List α}, css.length = l.length → (∀ i (h1 : i < css.length) (h2 : i < l.length), q css[i] l[i]) → EP q css l
  | [], [], _, _ => trivial
  | c :: css, x :: l, hl, h => ⟨h 0 (by simp) (by simp), EP.of_at (by simpa using hl) (fun i h1 h2 => h (i + 1) (by simpa using h1) (by simpa using h2))⟩
  | [], _ :: _, hl, _ => by simp at hl
  | _ :: _, [], hl, _ => by simp at hl
theorem EP.at2 {α : Type} {q : List Value → α → Prop} : ∀ {css : List (List Value)} {l : List α}, EP q css l → ∀ i (h1 : i < css.length) (h2 : i < l.length), q css[i] l[i]
  | _ :: _, _ :: _, h, 0, _, _ => h.1
  | _ :: _, _ :: _, h, i + 1, h1, h2 => EP.at2 h.2 i (by simpa using h1) (by simpa using h2)
  | [], _, _, i, h1, _ => absurd h1 (Nat.not_lt_zero i)
  | _ :: _, [], h, _, _, _ => h.elim

def SetRows (Ti : TypeId) : List CelS → List Cel → List HP
  | s :: sh, c :: l => RowE (α := Int) own Ti s.v c.set :: SetRows Ti sh l
  | _, _ => []
theorem SetRows.get {Ti : TypeId} : ∀ {sh : List CelS} {l : List Cel} {i : Nat}, i < sh.length → i < l.length → (SetRows Ti sh l)[i]? = some (RowE (α := Int) own Ti (sh.getD i default).v (l.getD i default).set)
  | _ :: _, _ :: _, 0, _, _ => rfl
  | _ :: _, _ :: _, i + 1, h1, h2 => by
    have := SetRows.get (Ti := Ti) (i := i) (by simpa using h1) (by simpa using h2)
    simpa [SetRows] using this
  | [], _, i, h, _ => absurd h (Nat.not_lt_zero i)
  | _ :: _, [], i, _, h => absurd h (Nat.not_lt_zero i)
theorem SetRows.len {Ti : TypeId} : ∀ {sh : List CelS} {l : List Cel}, sh.length = l.length → (SetRows Ti sh l).length = l.length
  | [], [], _ => rfl
  | _ :: _, _ :: _, h => by simpa [SetRows] using SetRows.len (Ti := Ti) (by simpa using h)
  | [], _ :: _, h => by simp at h
  | _ :: _, [], h => by simp at h
theorem SetRows.set {Ti : TypeId} : ∀ {sh : List CelS} {l : List Cel} (i : Nat) (s : CelS) (c : Cel), sh.length = l.length → SetRows Ti (sh.set i s) (l.set i c) = (SetRows Ti sh l).set i (RowE (α := Int) own Ti s.v c.set)
  | [], [], _, _, _, _ => rfl
  | _ :: _, _ :: _, 0, _, _, _ => rfl
  | _ :: sh, _ :: l, i + 1, s, c, h => by simp only [List.set_cons_succ, SetRows]; rw [SetRows.set i s c (by simpa using h)]
  | [], _ :: _, _, _, _, h => by simp at h
  | _ :: _, [], _, _, _, h => by simp at h
theorem SetRows.snoc {Ti : TypeId} : ∀ {sh : List CelS} {l : List Cel} (s : CelS) (c : Cel), sh.length = l.length → SetRows Ti (sh ++ [s]) (l ++ [c]) = SetRows Ti sh l ++ [RowE (α := Int) own Ti s.v c.set]
  | [], [], _, _, _ => rfl
  | _ :: sh, _ :: l, s, c, h => by simp only [List.cons_append, SetRows]; rw [SetRows.snoc s c (by simpa using h)]
  | [], _ :: _, _, _, h => by simp at h
  | _ :: _, [], _, _, h => by simp at h
section
variable {G : Nat → Prop} {W w : World} {As : List HP} {T Ti : TypeId} {v : Value} {sh : List CelS} {l : List Cel}
/-- The row and its sets as one. -/
theorem Sep.celRow (h : Sep G W (RowE (α := CelS) own T v sh :: Star (SetRows Ti sh l) :: As) w) (hlen : sh.length = l.length) (hn : ∀ i, i < l.length → (sh.getD i default).n = (l.getD i default).n) : Sep G W (RowE (α := Cel) own T v l :: As) w := by
  refine (h.closeStar (Bs := [RowE (α := CelS) own T v sh, Star (SetRows Ti sh l)])).impl (i := 0) rfl (fun f hA => ?_)
  obtain ⟨fs, q1, q2⟩ := hA
  obtain ⟨⟨css, hE, hown, hrow, hsm⟩, hf0⟩ := q1 0 _ rfl
  obtain ⟨hSt, hf1⟩ := q1 1 _ rfl
  have q2' := q2 0 1 (by simp) (by simp) (by simp)
  have hcl := hE.length
  refine ⟨css, EP.of_at (by omega) (fun i h1 h2 => ?_), by rw [← hlen]; exact hown, fun b hb => (hf0 b (hrow b hb)).1, by rw [← hlen]; exact hsm⟩
  have hs : i < sh.length := by omega
  obtain ⟨hcs, hin, hone⟩ : css[i] = sh[i].cells ∧ InR sh[i].n ∧ sh[i].v.oneCell' = true := (EP.at2 hE i h1 hs).imp id (fun h => ⟨h.n, h.one⟩)
  have hr : (RowE (α := Int) own Ti (sh.getD i default).v (l.getD i default).set).p w (fs 1) := Star.at_ hSt (SetRows.get hs h2)
  have hsoft := RowE.soft hr
  have hni := hn i h2
  rw [getD_at _ hs, getD_at _ h2] at hsoft hni
  refine ⟨sh[i].v, ?_, hsoft.mono (fun b hb hlt => ⟨rfl, ⟨(hf1 b hb.1).1, fun e => q2' b (hrow b e) hb.1⟩, hb.2⟩), ⟨by rw [← hni]; exact hin⟩⟩
  rw [hcs]
  show [Value.int .i64 sh[i].n, sh[i].v] = _
  rw [hni]; rfl
/-- A copy of shared cells: numbers, and sets that are shared. -/
theorem Sep.celShare (h : Sep G W (RowE (α := Cel) (shr G W) T v l :: As) w) : ∃ sh : List CelS, sh.length = l.length ∧ (∀ i, i < l.length → (sh.getD i default).n = (l.getD i default).n ∧ RdS W G (sh.getD i default).v (l.getD i default).set) ∧ Sep G W (RowE (α := CelS) own T v sh :: As) w := by
  obtain ⟨f, hA, hl, hT⟩ := h.take (i := 0) rfl
  obtain ⟨css, hE, hown, hrow, hsm⟩ := hA
  have hcl := hE.length
  have key : ∀ i, i < l.length → ∃ s : CelS, (css.getD i []) = [.int .i64 s.n, s.v] ∧ s.n = (l.getD i default).n ∧ RdS W G s.v (l.getD i default).set ∧ InR s.n ∧ s.v.oneCell' = true := by
    intro i hi
    obtain ⟨d, hcs, hd, hok⟩ := EP.at2 hE i (by omega) hi
    refine ⟨⟨l[i].n, d⟩, ?_, ?_, ?_, hok.n, hd.sl.one⟩
    · rw [getD_at _ (by omega), hcs]; rfl
    · rw [getD_at _ hi]
    · rw [getD_at _ hi]; exact hd
  obtain ⟨sh, hs1, hs2⟩ := choose_list key
  refine ⟨sh, hs1, fun i hi => ?_, hT w _ f (Chg.refl _ _) ⟨css, EP.of_at (by omega) (fun i h1 h2 => ?_), by rw [hs1]; exact hown, hrow, by rw [hs1]; exact hsm⟩ (fun _ h => .inl h)⟩
  · obtain ⟨_, h2, h3, _⟩ := hs2 i (by omega)
    rw [getD_at _ (by omega)]
    exact ⟨h2, h3⟩
  · obtain ⟨h3, _, _, h4, h5⟩ := hs2 i h2
    rw [getD_at _ h1] at h3
    exact ⟨h3, ⟨h4, h5⟩⟩
/-- Cells that are worked on. -/
def CelW (v : Value) (T Ti : TypeId) (l : List Cel) : HP := Ex1 fun sh : List CelS => And1 (sh.length = l.length ∧ ∀ i, i < l.length → (sh.getD i default).n = (l.getD i default).n) (Star [RowE (α := CelS) own T v sh, Star (SetRows Ti sh l)])
theorem CelW.open (h : Sep G W (CelW v T Ti l :: As) w) : ∃ sh : List CelS, (sh.length = l.length ∧ ∀ i, i < l.length → (sh.getD i default).n = (l.getD i default).n) ∧ Sep G W (RowE (α := CelS) own T v sh :: Star (SetRows Ti sh l) :: As) w := by
  obtain ⟨sh, h1⟩ := h.openEx
  obtain ⟨h2, h3⟩ := h1.openAnd
  exact ⟨sh, h2, h3.openStar⟩
theorem CelW.mk (h : Sep G W (RowE (α := CelS) own T v sh :: Star (SetRows Ti sh l) :: As) w) (hn : sh.length = l.length ∧ ∀ i, i < l.length → (sh.getD i default).n = (l.getD i default).n) : Sep G W (CelW v T Ti l :: As) w :=
  Sep.closeEx (A := fun sh : List CelS => And1 (sh.length = l.length ∧ ∀ i, i < l.length → (sh.getD i default).n = (l.getD i default).n) (Star [RowE (α := CelS) own T v sh, Star (SetRows Ti sh l)])) sh (Sep.closeAnd hn (Sep.closeStar (Bs := [RowE (α := CelS) own T v sh, Star (SetRows Ti sh l)]) h))
theorem CelW.row (h : Sep G W (CelW v T Ti l :: As) w) : Sep G W (RowE (α := Cel) own T v l :: As) w := by
  obtain ⟨sh, ⟨h1, h2⟩, h3⟩ := CelW.open h
  exact h3.celRow h1 h2
theorem setD_self {α : Type} {l : List α} {i : Nat} (d : α) (h : i < l.length) : l.set i (l.getD i d) = l := by rw [getD_at _ h]; exact List.set_getElem_self h
theorem celw_n {i : Nat} {s : CelS} {c : Cel} (hlen : sh.length = l.length) (hn : ∀ i, i < l.length → (sh.getD i default).n = (l.getD i default).n) (hs : s.n = c.n) (hi : i < l.length) : (sh.set i s).length = (l.set i c).length ∧ ∀ j, j < (l.set i c).length → ((sh.set i s).getD j default).n = ((l.set i c).getD j default).n := by
  refine ⟨by rw [List.length_set, List.length_set]; exact hlen, fun j hj => ?_⟩
  rw [List.length_set] at hj
  by_cases e : i = j
  · subst e
    rw [getD_at _ (by rw [List.length_set]; omega), getD_at _ (by rw [List.length_set]; omega), List.getElem_set_self, List.getElem_set_self]; exact hs
  · have e1 := hn j hj
    rw [List.getD_eq_getElem?_getD, List.getD_eq_getElem?_getD] at e1 ⊢
    rw [List.getElem?_set_ne e, List.getElem?_set_ne e]; exact e1
/-- Closed behind a change of a set. -/
theorem CelW.close {i : Nat} {s : CelS} {c : Cel} (hlen : sh.length = l.length) (hn : ∀ i, i < l.length → (sh.getD i default).n = (l.getD i default).n) (hi : i < l.length) (hs : s.n = c.n)
    (h : Sep G W (RowE (α := Int) own Ti s.v c.set :: Star ((SetRows Ti sh l).set i Emp) :: RowE (α := CelS) own T v (sh.set i s) :: As) w) : Sep G W (CelW v T Ti (l.set i c) :: As) w := by
  have h1 := h.putStar (i := i) (by rw [List.length_set, SetRows.len hlen]; exact hi)
  rw [List.set_set, ← SetRows.set i s c hlen] at h1
  exact CelW.mk (h1.sel 2 [1, 0] (Nat.le_add_left _ _) rfl rfl) (celw_n hlen hn hs hi)
/-- .. behind none. -/
theorem CelW.close0 {i : Nat} (hlen : sh.length = l.length) (hn : ∀ i, i < l.length → (sh.getD i default).n = (l.getD i default).n) (hi : i < l.length)
    (h : Sep G W (RowE (α := Int) own Ti (sh.getD i default).v (l.getD i default).set :: Star ((SetRows Ti sh l).set i Emp) :: RowE (α := CelS) own T v sh :: As) w) : Sep G W (CelW v T Ti l :: As) w := by
  have hsi : i < sh.length := by omega
  have h2 := CelW.close (s := sh.getD i default) (c := l.getD i default) hlen hn hi (hn i hi) (by rw [setD_self default hsi]; exact h)
  rw [setD_self default hi] at h2
  exact h2
/-- .. behind a change of a number. -/
theorem CelW.closeN {i : Nat} {m : Int} (hlen : sh.length = l.length) (hn : ∀ i, i < l.length → (sh.getD i default).n = (l.getD i default).n) (hi : i < l.length)
    (h : Sep G W (RowE (α := CelS) own T v (sh.set i ⟨m, (sh.getD i default).v⟩) :: Star (SetRows Ti sh l) :: As) w) : Sep G W (CelW v T Ti (l.set i ⟨m, (l.getD i default).set⟩) :: As) w := by
  have hsi : i < sh.length := by omega
  refine CelW.mk (sh := sh.set i ⟨m, (sh.getD i default).v⟩) ?_ (celw_n hlen hn rfl hi)
  have e : (SetRows Ti sh l).set i (RowE (α := Int) own Ti (sh.getD i default).v (l.getD i default).set) = SetRows Ti sh l := by
    have hg := SetRows.get (Ti := Ti) hsi hi
    obtain ⟨hlt, he⟩ := List.getElem?_eq_some_iff.1 hg
    rw [← he]; exact List.set_getElem_self hlt
  rw [SetRows.set i _ _ hlen, e]
  exact h
end
end Go.Proofs.YtlblilbmpdejgaaDoor
