/- The program's structs. -/
import Derived.Test.YtlblilbmpdejgaaDoorMore
set_option linter.unusedSimpArgs false
set_option linter.unusedVariables false
namespace Go.Proofs.YtlblilbmpdejgaaDoor
open Go.RowKit

theorem list_3 {α : Type} {l : List α} (h : l.length = 3) : ∃ a0 a1 a2, l = [a0, a1, a2] := by
  match l, h with
  | [a0, a1, a2], _ => exact ⟨a0, a1, a2, rfl⟩
theorem list_4 {α : Type} {l : List α} (h : l.length = 4) : ∃ a0 a1 a2 a3, l = [a0, a1, a2, a3] := by
  match l, h with
  | [a0, a1, a2, a3], _ => exact ⟨a0, a1, a2, a3, rfl⟩
theorem list_5 {α : Type} {l : List α} (h : l.length = 5) : ∃ a0 a1 a2 a3 a4, l = [a0, a1, a2, a3, a4] := by
  match l, h with
  | [a0, a1, a2, a3, a4], _ => exact ⟨a0, a1, a2, a3, a4, rfl⟩
theorem list_7 {α : Type} {l : List α} (h : l.length = 7) : ∃ a0 a1 a2 a3 a4 a5 a6, l = [a0, a1, a2, a3, a4, a5, a6] := by
  match l, h with
  | [a0, a1, a2, a3, a4, a5, a6], _ => exact ⟨a0, a1, a2, a3, a4, a5, a6, rfl⟩
structure Mv where
  frm : Int
  to : Int
  need : Int
  least : Int
  deriving DecidableEq, Inhabited
structure Mv.Ok (e : Mv) : Prop where
  frm : InR e.frm
  to : InR e.to
  need : InR e.need
  least : InR e.least
def Mv.cells (e : Mv) : List Value := [.int .i64 e.frm, .int .i64 e.to, .int .i64 e.need, .int .i64 e.least]
instance : Rep Mv where
  k := 4
  bytes := 32
  bpos := by decide
  kpos := by decide
  rd w F cs e := cs = e.cells ∧ e.Ok
  len h := by obtain ⟨rfl, ho⟩ := h; rfl
  one h := by obtain ⟨rfl, ho⟩ := h; exact all1 ⟨rfl, rfl, rfl, rfl, trivial⟩
  mono h hF := by obtain ⟨rfl, ho⟩ := h; exact ⟨rfl, ho⟩
theorem RdS.mv {w : World} {F : Nat → Prop} {v : Value} {l : List Mv} (h : RdS w F v l) {i : Nat} (hi : i < l.length) :
    CellsAt w (sb v) (so v + i * 4) (l[i].cells) ∧ l[i].Ok := by
  obtain ⟨cs, hc, rfl, ho⟩ := h.at_ i hi
  exact ⟨hc, ho⟩
theorem OwnS.mv {T : TypeId} {lo : Nat} {w : World} {F : Nat → Prop} {v : Value} {l : List Mv} (h : OwnS T lo w F v l) {i : Nat} (hi : i < l.length) :
    CellsAt w (sb v) (so v + i * 4) (l[i].cells) ∧ l[i].Ok := by
  obtain ⟨cs, hc, rfl, ho⟩ := h.elem hi
  exact ⟨hc, ho⟩
theorem Mv.eq_iff {a b : Mv} : a = b ↔ a.frm = b.frm ∧ a.to = b.to ∧ a.need = b.need ∧ a.least = b.least := by
  cases a; cases b; simp
structure Prj where
  ptyp : Int
  pfield : Int
  pgroup : Int
  pby : Int
  pmake : Int
  deriving DecidableEq, Inhabited
structure Prj.Ok (e : Prj) : Prop where
  ptyp : InR e.ptyp
  pfield : InR e.pfield
  pgroup : InR e.pgroup
  pby : InR e.pby
  pmake : InR e.pmake
def Prj.cells (e : Prj) : List Value := [.int .i64 e.ptyp, .int .i64 e.pfield, .int .i64 e.pgroup, .int .i64 e.pby, .int .i64 e.pmake]
instance : Rep Prj where
  k := 5
  bytes := 40
  bpos := by decide
  kpos := by decide
  rd w F cs e := cs = e.cells ∧ e.Ok
  len h := by obtain ⟨rfl, ho⟩ := h; rfl
  one h := by obtain ⟨rfl, ho⟩ := h; exact all1 ⟨rfl, rfl, rfl, rfl, rfl, trivial⟩
  mono h hF := by obtain ⟨rfl, ho⟩ := h; exact ⟨rfl, ho⟩
theorem RdS.prj {w : World} {F : Nat → Prop} {v : Value} {l : List Prj} (h : RdS w F v l) {i : Nat} (hi : i < l.length) :
    CellsAt w (sb v) (so v + i * 5) (l[i].cells) ∧ l[i].Ok := by
  obtain ⟨cs, hc, rfl, ho⟩ := h.at_ i hi
  exact ⟨hc, ho⟩
theorem OwnS.prj {T : TypeId} {lo : Nat} {w : World} {F : Nat → Prop} {v : Value} {l : List Prj} (h : OwnS T lo w F v l) {i : Nat} (hi : i < l.length) :
    CellsAt w (sb v) (so v + i * 5) (l[i].cells) ∧ l[i].Ok := by
  obtain ⟨cs, hc, rfl, ho⟩ := h.elem hi
  exact ⟨hc, ho⟩
theorem Prj.eq_iff {a b : Prj} : a = b ↔ a.ptyp = b.ptyp ∧ a.pfield = b.pfield ∧ a.pgroup = b.pgroup ∧ a.pby = b.pby ∧ a.pmake = b.pmake := by
  cases a; cases b; simp
structure Fld where
  kind : Int
  policy : Int
  floor : Bool
  moves : List Mv
  deriving DecidableEq, Inhabited
structure Fld.Ok (e : Fld) : Prop where
  kind : InR e.kind
  policy : InR e.policy
def Fld.cells (e : Fld) (d1 : Value) : List Value := [.int .i64 e.kind, .int .i64 e.policy, .bool e.floor, d1]
instance : Rep Fld where
  k := 4
  bytes := 48
  bpos := by decide
  kpos := by decide
  rd w F cs e := ∃ d1, cs = e.cells d1 ∧ RdS w F d1 e.moves ∧ e.Ok
  len h := by obtain ⟨d1, rfl, h1, ho⟩ := h; rfl
  one h := by obtain ⟨d1, rfl, h1, ho⟩ := h; exact all1 ⟨rfl, rfl, rfl, h1.sl.one, trivial⟩
  mono h hF := by obtain ⟨d1, rfl, h1, ho⟩ := h; exact ⟨d1, rfl, h1.mono hF, ho⟩
theorem RdS.fld {w : World} {F : Nat → Prop} {v : Value} {l : List Fld} (h : RdS w F v l) {i : Nat} (hi : i < l.length) :
    CellsAt w (sb v) (so v + i * 4) (l[i].cells (cellV w (sb v) (so v + i * 4 + 3))) ∧ RdS w F (cellV w (sb v) (so v + i * 4 + 3)) l[i].moves ∧ l[i].Ok := by
  obtain ⟨cs, hc, d1, rfl, h1, ho⟩ := h.at_ i hi
  have ed1 : (cellV w (sb v) (so v + i * 4 + 3)) = d1 := by
    have : w.cell? ⟨sb v, so v + i * 4 + 3, none⟩ = some d1 := hc.get (j := 3) rfl
    simp only [cellV, this]; rfl
  rw [ed1]
  exact ⟨hc, h1, ho⟩
theorem OwnS.fld {T : TypeId} {lo : Nat} {w : World} {F : Nat → Prop} {v : Value} {l : List Fld} (h : OwnS T lo w F v l) {i : Nat} (hi : i < l.length) :
    CellsAt w (sb v) (so v + i * 4) (l[i].cells (cellV w (sb v) (so v + i * 4 + 3))) ∧ RdS w F (cellV w (sb v) (so v + i * 4 + 3)) l[i].moves ∧ l[i].Ok := by
  obtain ⟨cs, hc, d1, rfl, h1, ho⟩ := h.elem hi
  have ed1 : (cellV w (sb v) (so v + i * 4 + 3)) = d1 := by
    have : w.cell? ⟨sb v, so v + i * 4 + 3, none⟩ = some d1 := hc.get (j := 3) rfl
    simp only [cellV, this]; rfl
  rw [ed1]
  exact ⟨hc, h1, ho⟩
theorem Fld.eq_iff {a b : Fld} : a = b ↔ a.kind = b.kind ∧ a.policy = b.policy ∧ a.floor = b.floor ∧ a.moves = b.moves := by
  cases a; cases b; simp
structure Typ where
  fields : List Fld
  deriving DecidableEq, Inhabited
structure Typ.Ok (e : Typ) : Prop where
def Typ.cells (e : Typ) (d1 : Value) : List Value := [d1]
instance : Rep Typ where
  k := 1
  bytes := 24
  bpos := by decide
  kpos := by decide
  rd w F cs e := ∃ d1, cs = e.cells d1 ∧ RdS w F d1 e.fields ∧ e.Ok
  len h := by obtain ⟨d1, rfl, h1, ho⟩ := h; rfl
  one h := by obtain ⟨d1, rfl, h1, ho⟩ := h; exact all1 ⟨h1.sl.one, trivial⟩
  mono h hF := by obtain ⟨d1, rfl, h1, ho⟩ := h; exact ⟨d1, rfl, h1.mono hF, ho⟩
theorem RdS.typ {w : World} {F : Nat → Prop} {v : Value} {l : List Typ} (h : RdS w F v l) {i : Nat} (hi : i < l.length) :
    CellsAt w (sb v) (so v + i * 1) (l[i].cells (cellV w (sb v) (so v + i * 1 + 0))) ∧ RdS w F (cellV w (sb v) (so v + i * 1 + 0)) l[i].fields ∧ l[i].Ok := by
  obtain ⟨cs, hc, d1, rfl, h1, ho⟩ := h.at_ i hi
  have ed1 : (cellV w (sb v) (so v + i * 1 + 0)) = d1 := by
    have : w.cell? ⟨sb v, so v + i * 1 + 0, none⟩ = some d1 := hc.get (j := 0) rfl
    simp only [cellV, this]; rfl
  rw [ed1]
  exact ⟨hc, h1, ho⟩
theorem OwnS.typ {T : TypeId} {lo : Nat} {w : World} {F : Nat → Prop} {v : Value} {l : List Typ} (h : OwnS T lo w F v l) {i : Nat} (hi : i < l.length) :
    CellsAt w (sb v) (so v + i * 1) (l[i].cells (cellV w (sb v) (so v + i * 1 + 0))) ∧ RdS w F (cellV w (sb v) (so v + i * 1 + 0)) l[i].fields ∧ l[i].Ok := by
  obtain ⟨cs, hc, d1, rfl, h1, ho⟩ := h.elem hi
  have ed1 : (cellV w (sb v) (so v + i * 1 + 0)) = d1 := by
    have : w.cell? ⟨sb v, so v + i * 1 + 0, none⟩ = some d1 := hc.get (j := 0) rfl
    simp only [cellV, this]; rfl
  rw [ed1]
  exact ⟨hc, h1, ho⟩
theorem Typ.eq_iff {a b : Typ} : a = b ↔ a.fields = b.fields := by
  cases a; cases b; simp
structure Dcl where
  types : List Typ
  projs : List Prj
  deriving DecidableEq, Inhabited
structure Dcl.Ok (e : Dcl) : Prop where
def Dcl.cells (e : Dcl) (d1 : Value) (d2 : Value) : List Value := [d1, d2]
instance : Rep Dcl where
  k := 2
  bytes := 48
  bpos := by decide
  kpos := by decide
  rd w F cs e := ∃ d1 d2, cs = e.cells d1 d2 ∧ RdS w F d1 e.types ∧ RdS w F d2 e.projs ∧ e.Ok
  len h := by obtain ⟨d1, d2, rfl, h1, h2, ho⟩ := h; rfl
  one h := by obtain ⟨d1, d2, rfl, h1, h2, ho⟩ := h; exact all1 ⟨h1.sl.one, h2.sl.one, trivial⟩
  mono h hF := by obtain ⟨d1, d2, rfl, h1, h2, ho⟩ := h; exact ⟨d1, d2, rfl, h1.mono hF, h2.mono hF, ho⟩
theorem RdS.dcl {w : World} {F : Nat → Prop} {v : Value} {l : List Dcl} (h : RdS w F v l) {i : Nat} (hi : i < l.length) :
    CellsAt w (sb v) (so v + i * 2) (l[i].cells (cellV w (sb v) (so v + i * 2 + 0)) (cellV w (sb v) (so v + i * 2 + 1))) ∧ RdS w F (cellV w (sb v) (so v + i * 2 + 0)) l[i].types ∧ RdS w F (cellV w (sb v) (so v + i * 2 + 1)) l[i].projs ∧ l[i].Ok := by
  obtain ⟨cs, hc, d1, d2, rfl, h1, h2, ho⟩ := h.at_ i hi
  have ed1 : (cellV w (sb v) (so v + i * 2 + 0)) = d1 := by
    have : w.cell? ⟨sb v, so v + i * 2 + 0, none⟩ = some d1 := hc.get (j := 0) rfl
    simp only [cellV, this]; rfl
  have ed2 : (cellV w (sb v) (so v + i * 2 + 1)) = d2 := by
    have : w.cell? ⟨sb v, so v + i * 2 + 1, none⟩ = some d2 := hc.get (j := 1) rfl
    simp only [cellV, this]; rfl
  rw [ed1, ed2]
  exact ⟨hc, h1, h2, ho⟩
theorem OwnS.dcl {T : TypeId} {lo : Nat} {w : World} {F : Nat → Prop} {v : Value} {l : List Dcl} (h : OwnS T lo w F v l) {i : Nat} (hi : i < l.length) :
    CellsAt w (sb v) (so v + i * 2) (l[i].cells (cellV w (sb v) (so v + i * 2 + 0)) (cellV w (sb v) (so v + i * 2 + 1))) ∧ RdS w F (cellV w (sb v) (so v + i * 2 + 0)) l[i].types ∧ RdS w F (cellV w (sb v) (so v + i * 2 + 1)) l[i].projs ∧ l[i].Ok := by
  obtain ⟨cs, hc, d1, d2, rfl, h1, h2, ho⟩ := h.elem hi
  have ed1 : (cellV w (sb v) (so v + i * 2 + 0)) = d1 := by
    have : w.cell? ⟨sb v, so v + i * 2 + 0, none⟩ = some d1 := hc.get (j := 0) rfl
    simp only [cellV, this]; rfl
  have ed2 : (cellV w (sb v) (so v + i * 2 + 1)) = d2 := by
    have : w.cell? ⟨sb v, so v + i * 2 + 1, none⟩ = some d2 := hc.get (j := 1) rfl
    simp only [cellV, this]; rfl
  rw [ed1, ed2]
  exact ⟨hc, h1, h2, ho⟩
theorem Dcl.eq_iff {a b : Dcl} : a = b ↔ a.types = b.types ∧ a.projs = b.projs := by
  cases a; cases b; simp
structure Cel where
  n : Int
  set : List Int
  deriving DecidableEq, Inhabited
structure Cel.Ok (e : Cel) : Prop where
  n : InR e.n
def Cel.cells (e : Cel) (d1 : Value) : List Value := [.int .i64 e.n, d1]
instance : Rep Cel where
  k := 2
  bytes := 32
  bpos := by decide
  kpos := by decide
  rd w F cs e := ∃ d1, cs = e.cells d1 ∧ RdS w F d1 e.set ∧ e.Ok
  len h := by obtain ⟨d1, rfl, h1, ho⟩ := h; rfl
  one h := by obtain ⟨d1, rfl, h1, ho⟩ := h; exact all1 ⟨rfl, h1.sl.one, trivial⟩
  mono h hF := by obtain ⟨d1, rfl, h1, ho⟩ := h; exact ⟨d1, rfl, h1.mono hF, ho⟩
theorem RdS.cel {w : World} {F : Nat → Prop} {v : Value} {l : List Cel} (h : RdS w F v l) {i : Nat} (hi : i < l.length) :
    CellsAt w (sb v) (so v + i * 2) (l[i].cells (cellV w (sb v) (so v + i * 2 + 1))) ∧ RdS w F (cellV w (sb v) (so v + i * 2 + 1)) l[i].set ∧ l[i].Ok := by
  obtain ⟨cs, hc, d1, rfl, h1, ho⟩ := h.at_ i hi
  have ed1 : (cellV w (sb v) (so v + i * 2 + 1)) = d1 := by
    have : w.cell? ⟨sb v, so v + i * 2 + 1, none⟩ = some d1 := hc.get (j := 1) rfl
    simp only [cellV, this]; rfl
  rw [ed1]
  exact ⟨hc, h1, ho⟩
theorem OwnS.cel {T : TypeId} {lo : Nat} {w : World} {F : Nat → Prop} {v : Value} {l : List Cel} (h : OwnS T lo w F v l) {i : Nat} (hi : i < l.length) :
    CellsAt w (sb v) (so v + i * 2) (l[i].cells (cellV w (sb v) (so v + i * 2 + 1))) ∧ RdS w F (cellV w (sb v) (so v + i * 2 + 1)) l[i].set ∧ l[i].Ok := by
  obtain ⟨cs, hc, d1, rfl, h1, ho⟩ := h.elem hi
  have ed1 : (cellV w (sb v) (so v + i * 2 + 1)) = d1 := by
    have : w.cell? ⟨sb v, so v + i * 2 + 1, none⟩ = some d1 := hc.get (j := 1) rfl
    simp only [cellV, this]; rfl
  rw [ed1]
  exact ⟨hc, h1, ho⟩
theorem Cel.eq_iff {a b : Cel} : a = b ↔ a.n = b.n ∧ a.set = b.set := by
  cases a; cases b; simp
structure AskR where
  fld : Fld
  cls : List Cel
  no : Int
  arg : Int
  deriving DecidableEq, Inhabited
structure AskR.Ok (e : AskR) : Prop where
  fld : e.fld.Ok
  no : InR e.no
  arg : InR e.arg
def AskR.cells (e : AskR) (d1 : Value) (d2 : Value) : List Value := e.fld.cells d1 ++ [d2, .int .i64 e.no, .int .i64 e.arg]
instance : Rep AskR where
  k := 7
  bytes := 88
  bpos := by decide
  kpos := by decide
  rd w F cs e := ∃ d1 d2, cs = e.cells d1 d2 ∧ RdS w F d1 e.fld.moves ∧ RdS w F d2 e.cls ∧ e.Ok
  len h := by obtain ⟨d1, d2, rfl, h1, h2, ho⟩ := h; rfl
  one h := by obtain ⟨d1, d2, rfl, h1, h2, ho⟩ := h; exact all1 ⟨rfl, rfl, rfl, h1.sl.one, h2.sl.one, rfl, rfl, trivial⟩
  mono h hF := by obtain ⟨d1, d2, rfl, h1, h2, ho⟩ := h; exact ⟨d1, d2, rfl, h1.mono hF, h2.mono hF, ho⟩
theorem RdS.askR {w : World} {F : Nat → Prop} {v : Value} {l : List AskR} (h : RdS w F v l) {i : Nat} (hi : i < l.length) :
    CellsAt w (sb v) (so v + i * 7) (l[i].cells (cellV w (sb v) (so v + i * 7 + 3)) (cellV w (sb v) (so v + i * 7 + 4))) ∧ RdS w F (cellV w (sb v) (so v + i * 7 + 3)) l[i].fld.moves ∧ RdS w F (cellV w (sb v) (so v + i * 7 + 4)) l[i].cls ∧ l[i].Ok := by
  obtain ⟨cs, hc, d1, d2, rfl, h1, h2, ho⟩ := h.at_ i hi
  have ed1 : (cellV w (sb v) (so v + i * 7 + 3)) = d1 := by
    have : w.cell? ⟨sb v, so v + i * 7 + 3, none⟩ = some d1 := hc.get (j := 3) rfl
    simp only [cellV, this]; rfl
  have ed2 : (cellV w (sb v) (so v + i * 7 + 4)) = d2 := by
    have : w.cell? ⟨sb v, so v + i * 7 + 4, none⟩ = some d2 := hc.get (j := 4) rfl
    simp only [cellV, this]; rfl
  rw [ed1, ed2]
  exact ⟨hc, h1, h2, ho⟩
theorem OwnS.askR {T : TypeId} {lo : Nat} {w : World} {F : Nat → Prop} {v : Value} {l : List AskR} (h : OwnS T lo w F v l) {i : Nat} (hi : i < l.length) :
    CellsAt w (sb v) (so v + i * 7) (l[i].cells (cellV w (sb v) (so v + i * 7 + 3)) (cellV w (sb v) (so v + i * 7 + 4))) ∧ RdS w F (cellV w (sb v) (so v + i * 7 + 3)) l[i].fld.moves ∧ RdS w F (cellV w (sb v) (so v + i * 7 + 4)) l[i].cls ∧ l[i].Ok := by
  obtain ⟨cs, hc, d1, d2, rfl, h1, h2, ho⟩ := h.elem hi
  have ed1 : (cellV w (sb v) (so v + i * 7 + 3)) = d1 := by
    have : w.cell? ⟨sb v, so v + i * 7 + 3, none⟩ = some d1 := hc.get (j := 3) rfl
    simp only [cellV, this]; rfl
  have ed2 : (cellV w (sb v) (so v + i * 7 + 4)) = d2 := by
    have : w.cell? ⟨sb v, so v + i * 7 + 4, none⟩ = some d2 := hc.get (j := 4) rfl
    simp only [cellV, this]; rfl
  rw [ed1, ed2]
  exact ⟨hc, h1, h2, ho⟩
theorem AskR.eq_iff {a b : AskR} : a = b ↔ a.fld = b.fld ∧ a.cls = b.cls ∧ a.no = b.no ∧ a.arg = b.arg := by
  cases a; cases b; simp
structure Ask where
  afield : Int
  aop : Int
  aarg : Int
  deriving DecidableEq, Inhabited
structure Ask.Ok (e : Ask) : Prop where
  afield : InR e.afield
  aop : InR e.aop
  aarg : InR e.aarg
def Ask.cells (e : Ask) : List Value := [.int .i64 e.afield, .int .i64 e.aop, .int .i64 e.aarg]
instance : Rep Ask where
  k := 3
  bytes := 24
  bpos := by decide
  kpos := by decide
  rd w F cs e := cs = e.cells ∧ e.Ok
  len h := by obtain ⟨rfl, ho⟩ := h; rfl
  one h := by obtain ⟨rfl, ho⟩ := h; exact all1 ⟨rfl, rfl, rfl, trivial⟩
  mono h hF := by obtain ⟨rfl, ho⟩ := h; exact ⟨rfl, ho⟩
theorem RdS.ask {w : World} {F : Nat → Prop} {v : Value} {l : List Ask} (h : RdS w F v l) {i : Nat} (hi : i < l.length) :
    CellsAt w (sb v) (so v + i * 3) (l[i].cells) ∧ l[i].Ok := by
  obtain ⟨cs, hc, rfl, ho⟩ := h.at_ i hi
  exact ⟨hc, ho⟩
theorem OwnS.ask {T : TypeId} {lo : Nat} {w : World} {F : Nat → Prop} {v : Value} {l : List Ask} (h : OwnS T lo w F v l) {i : Nat} (hi : i < l.length) :
    CellsAt w (sb v) (so v + i * 3) (l[i].cells) ∧ l[i].Ok := by
  obtain ⟨cs, hc, rfl, ho⟩ := h.elem hi
  exact ⟨hc, ho⟩
theorem Ask.eq_iff {a b : Ask} : a = b ↔ a.afield = b.afield ∧ a.aop = b.aop ∧ a.aarg = b.aarg := by
  cases a; cases b; simp
end Go.Proofs.YtlblilbmpdejgaaDoor
