/- The program's structs. -/
import Derived.Test.YtbbpmhfcgoljdaaMore
set_option linter.unusedSimpArgs false
set_option linter.unusedVariables false
namespace Go.Proofs.Ytbbpmhfcgoljdaa
open Go.RowKit

theorem list_3 {α : Type} {l : List α} (h : l.length = 3) : ∃ a0 a1 a2, l = [a0, a1, a2] := by
  match l, h with
  | [a0, a1, a2], _ => exact ⟨a0, a1, a2, rfl⟩
theorem list_5 {α : Type} {l : List α} (h : l.length = 5) : ∃ a0 a1 a2 a3 a4, l = [a0, a1, a2, a3, a4] := by
  match l, h with
  | [a0, a1, a2, a3, a4], _ => exact ⟨a0, a1, a2, a3, a4, rfl⟩
theorem list_13 {α : Type} {l : List α} (h : l.length = 13) : ∃ a0 a1 a2 a3 a4 a5 a6 a7 a8 a9 a10 a11 a12, l = [a0, a1, a2, a3, a4, a5, a6, a7, a8, a9, a10, a11, a12] := by
  match l, h with
  | [a0, a1, a2, a3, a4, a5, a6, a7, a8, a9, a10, a11, a12], _ => exact ⟨a0, a1, a2, a3, a4, a5, a6, a7, a8, a9, a10, a11, a12, rfl⟩
structure Prj where
  ptyp : Int
  pfield : Int
  pgroup : Int
  pby : Int
  pmake : Int
  deriving DecidableEq, Inhabited
structure Prj.Ok (e : Prj) : Prop where
  ptyp : InR e.ptyp
  pfield : InR e.pfield
  pgroup : InR e.pgroup
  pby : InR e.pby
  pmake : InR e.pmake
def Prj.cells (e : Prj) : List Value := [.int .i64 e.ptyp, .int .i64 e.pfield, .int .i64 e.pgroup, .int .i64 e.pby, .int .i64 e.pmake]
instance : Rep Prj where
  k := 5
  bytes := 40
  bpos := by decide
  kpos := by decide
  rd w F cs e := cs = e.cells ∧ e.Ok
  len h := by obtain ⟨rfl, ho⟩ := h; rfl
  one h := by obtain ⟨rfl, ho⟩ := h; exact all1 ⟨rfl, rfl, rfl, rfl, rfl, trivial⟩
  mono h hF := by obtain ⟨rfl, ho⟩ := h; exact ⟨rfl, ho⟩
theorem RdS.prj {w : World} {F : Nat → Prop} {v : Value} {l : List Prj} (h : RdS w F v l) {i : Nat} (hi : i < l.length) :
    CellsAt w (sb v) (so v + i * 5) (l[i].cells) ∧ l[i].Ok := by
  obtain ⟨cs, hc, rfl, ho⟩ := h.at_ i hi
  exact ⟨hc, ho⟩
theorem OwnS.prj {T : TypeId} {lo : Nat} {w : World} {F : Nat → Prop} {v : Value} {l : List Prj} (h : OwnS T lo w F v l) {i : Nat} (hi : i < l.length) :
    CellsAt w (sb v) (so v + i * 5) (l[i].cells) ∧ l[i].Ok := by
  obtain ⟨cs, hc, rfl, ho⟩ := h.elem hi
  exact ⟨hc, ho⟩
theorem Prj.eq_iff {a b : Prj} : a = b ↔ a.ptyp = b.ptyp ∧ a.pfield = b.pfield ∧ a.pgroup = b.pgroup ∧ a.pby = b.pby ∧ a.pmake = b.pmake := by
  cases a; cases b; simp
structure Row where
  group : Int
  value : Int
  count : Int
  deriving DecidableEq, Inhabited
structure Row.Ok (e : Row) : Prop where
  group : InR e.group
  value : InR e.value
  count : InR e.count
def Row.cells (e : Row) : List Value := [.int .i64 e.group, .int .i64 e.value, .int .i64 e.count]
instance : Rep Row where
  k := 3
  bytes := 24
  bpos := by decide
  kpos := by decide
  rd w F cs e := cs = e.cells ∧ e.Ok
  len h := by obtain ⟨rfl, ho⟩ := h; rfl
  one h := by obtain ⟨rfl, ho⟩ := h; exact all1 ⟨rfl, rfl, rfl, trivial⟩
  mono h hF := by obtain ⟨rfl, ho⟩ := h; exact ⟨rfl, ho⟩
theorem RdS.row {w : World} {F : Nat → Prop} {v : Value} {l : List Row} (h : RdS w F v l) {i : Nat} (hi : i < l.length) :
    CellsAt w (sb v) (so v + i * 3) (l[i].cells) ∧ l[i].Ok := by
  obtain ⟨cs, hc, rfl, ho⟩ := h.at_ i hi
  exact ⟨hc, ho⟩
theorem OwnS.row {T : TypeId} {lo : Nat} {w : World} {F : Nat → Prop} {v : Value} {l : List Row} (h : OwnS T lo w F v l) {i : Nat} (hi : i < l.length) :
    CellsAt w (sb v) (so v + i * 3) (l[i].cells) ∧ l[i].Ok := by
  obtain ⟨cs, hc, rfl, ho⟩ := h.elem hi
  exact ⟨hc, ho⟩
theorem Row.eq_iff {a b : Row} : a = b ↔ a.group = b.group ∧ a.value = b.value ∧ a.count = b.count := by
  cases a; cases b; simp
structure Ent where
  ev : Ev
  void : Bool
  byO : Int
  byS : Int
  deriving DecidableEq, Inhabited
structure Ent.Ok (e : Ent) : Prop where
  ev : e.ev.Ok
  byO : InR e.byO
  byS : InR e.byS
def Ent.cells (e : Ent) (d1 : Value) : List Value := e.ev.cells d1 ++ [.bool e.void, .int .i64 e.byO, .int .i64 e.byS]
instance : Rep Ent where
  k := 13
  bytes := 120
  bpos := by decide
  kpos := by decide
  rd w F cs e := ∃ d1, cs = e.cells d1 ∧ RdS w F d1 e.ev.deps ∧ e.Ok
  len h := by obtain ⟨d1, rfl, h1, ho⟩ := h; rfl
  one h := by obtain ⟨d1, rfl, h1, ho⟩ := h; exact all1 ⟨rfl, rfl, rfl, h1.sl.one, rfl, rfl, rfl, rfl, rfl, rfl, rfl, rfl, rfl, trivial⟩
  mono h hF := by obtain ⟨d1, rfl, h1, ho⟩ := h; exact ⟨d1, rfl, h1.mono hF, ho⟩
theorem RdS.ent {w : World} {F : Nat → Prop} {v : Value} {l : List Ent} (h : RdS w F v l) {i : Nat} (hi : i < l.length) :
    CellsAt w (sb v) (so v + i * 13) (l[i].cells (cellV w (sb v) (so v + i * 13 + 3))) ∧ RdS w F (cellV w (sb v) (so v + i * 13 + 3)) l[i].ev.deps ∧ l[i].Ok := by
  obtain ⟨cs, hc, d1, rfl, h1, ho⟩ := h.at_ i hi
  have ed1 : (cellV w (sb v) (so v + i * 13 + 3)) = d1 := by
    have : w.cell? ⟨sb v, so v + i * 13 + 3, none⟩ = some d1 := hc.get (j := 3) rfl
    simp only [cellV, this]; rfl
  rw [ed1]
  exact ⟨hc, h1, ho⟩
theorem OwnS.ent {T : TypeId} {lo : Nat} {w : World} {F : Nat → Prop} {v : Value} {l : List Ent} (h : OwnS T lo w F v l) {i : Nat} (hi : i < l.length) :
    CellsAt w (sb v) (so v + i * 13) (l[i].cells (cellV w (sb v) (so v + i * 13 + 3))) ∧ RdS w F (cellV w (sb v) (so v + i * 13 + 3)) l[i].ev.deps ∧ l[i].Ok := by
  obtain ⟨cs, hc, d1, rfl, h1, ho⟩ := h.elem hi
  have ed1 : (cellV w (sb v) (so v + i * 13 + 3)) = d1 := by
    have : w.cell? ⟨sb v, so v + i * 13 + 3, none⟩ = some d1 := hc.get (j := 3) rfl
    simp only [cellV, this]; rfl
  rw [ed1]
  exact ⟨hc, h1, ho⟩
theorem Ent.eq_iff {a b : Ent} : a = b ↔ a.ev = b.ev ∧ a.void = b.void ∧ a.byO = b.byO ∧ a.byS = b.byS := by
  cases a; cases b; simp
theorem Alike.bool {n : Bool} {v : Value} (h : Alike (.bool n) v) : ∃ m, v = .bool m := by
  rcases h with rfl | ⟨a, b, h1, rfl, hb⟩
  · exact ⟨n, rfl⟩
  · cases h1
instance : Loose Prj where
  loose := by
    intro O w w' F cs cs' x hs hr ha
    obtain ⟨rfl, ho⟩ := hr
    obtain ⟨c0, c1, c2, c3, c4, rfl⟩ := list_5 ha.len
    obtain ⟨a0, a1, a2, a3, a4, _⟩ := ha
    obtain ⟨m0, rfl, r0⟩ := a0.int ho.ptyp
    obtain ⟨m1, rfl, r1⟩ := a1.int ho.pfield
    obtain ⟨m2, rfl, r2⟩ := a2.int ho.pgroup
    obtain ⟨m3, rfl, r3⟩ := a3.int ho.pby
    obtain ⟨m4, rfl, r4⟩ := a4.int ho.pmake
    exact ⟨⟨m0, m1, m2, m3, m4⟩, rfl, ⟨r0, r1, r2, r3, r4⟩⟩
instance : Loose Row where
  loose := by
    intro O w w' F cs cs' x hs hr ha
    obtain ⟨rfl, ho⟩ := hr
    obtain ⟨c0, c1, c2, rfl⟩ := list_3 ha.len
    obtain ⟨a0, a1, a2, _⟩ := ha
    obtain ⟨m0, rfl, r0⟩ := a0.int ho.group
    obtain ⟨m1, rfl, r1⟩ := a1.int ho.value
    obtain ⟨m2, rfl, r2⟩ := a2.int ho.count
    exact ⟨⟨m0, m1, m2⟩, rfl, ⟨r0, r1, r2⟩⟩
end Go.Proofs.Ytbbpmhfcgoljdaa
