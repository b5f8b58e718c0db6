/- Texts of this claim, part 2. -/
import Derived.Test.YtmiihhbeclhaoaaY1
import Derived.WalkSpells
set_option linter.unusedSimpArgs false
set_option linter.unusedVariables false
set_option linter.unusedSectionVars false
/- The program's data. -/
namespace Go.Proofs.Ytmiihhbeclhaoaa
open Go.RowKit

theorem zm {α : Type} {l : List α} {i : Nat} (d : α) (h : i < l.length) : l.getD i d = l[i] := by
  rw [List.getD_eq_getElem?_getD, List.getElem?_eq_getElem h]; rfl
structure Ev where
  origin : Int
  seq : Int
  lam : Int
  deps : List Int
  typ : Int
  agg : Int
  field : Int
  op : Int
  arg : Int
  key : Int
  deriving DecidableEq, Inhabited
structure Ev.Ok (e : Ev) : Prop where
  origin : InR e.origin
  seq : InR e.seq
  lam : InR e.lam
  typ : InR e.typ
  agg : InR e.agg
  field : InR e.field
  op : InR e.op
  arg : InR e.arg
  key : InR e.key
def Ev.cells (e : Ev) (d : Value) : List Value :=
  [.int .i64 e.origin, .int .i64 e.seq, .int .i64 e.lam, d, .int .i64 e.typ, .int .i64 e.agg, .int .i64 e.field, .int .i64 e.op, .int .i64 e.arg, .int .i64 e.key]
instance : Rep Ev where
  k := 10
  bytes := 96
  bpos := by decide
  rd w F cs e := ∃ d, cs = e.cells d ∧ RdS w F d e.deps ∧ e.Ok
  kpos := by decide
  len h := by obtain ⟨d, rfl, _⟩ := h; rfl
  one h := by obtain ⟨d, rfl, h, _⟩ := h; exact yU ⟨rfl, rfl, rfl, h.sl.one, rfl, rfl, rfl, rfl, rfl, rfl, trivial⟩
  mono h hF := by obtain ⟨d, rfl, h, ho⟩ := h; exact ⟨d, rfl, h.mono hF, ho⟩

def zT (w : World) (b o : Nat) : Value := (w.cell? ⟨b, o, none⟩).getD undef
theorem RdS.ev {w : World} {F : Nat → Prop} {v : Value} {l : List Ev} (h : RdS w F v l) {i : Nat} (hi : i < l.length) :
    CellsAt w (sb v) (so v + i * 10) (l[i].cells (zT w (sb v) (so v + i * 10 + 3))) ∧ RdS w F (zT w (sb v) (so v + i * 10 + 3)) l[i].deps ∧ l[i].Ok := by
  obtain ⟨cs, hc, d, rfl, hd, ho⟩ := h.at_ i hi
  have : w.cell? ⟨sb v, so v + i * 10 + 3, none⟩ = some d := hc.get (j := 3) rfl
  have e : zT w (sb v) (so v + i * 10 + 3) = d := by simp only [zT, this]; rfl
  rw [e]
  exact ⟨hc, hd, ho⟩
theorem RdS.int {w : World} {F : Nat → Prop} {v : Value} {l : List Int} (h : RdS w F v l) {i : Nat} (hi : i < l.length) : CellsAt w (sb v) (so v + i * 1) [.int .i64 l[i]] ∧ InR l[i] := by
  obtain ⟨cs, hc, rfl, hr⟩ := h.at_ i hi
  exact ⟨hc, hr⟩
theorem RdS.bool {w : World} {F : Nat → Prop} {v : Value} {l : List Bool} (h : RdS w F v l) {i : Nat} (hi : i < l.length) : CellsAt w (sb v) (so v + i * 1) [.bool l[i]] := by
  obtain ⟨cs, hc, hr⟩ := h.at_ i hi
  cases hr
  exact hc

theorem OwnS.elem {α : Type} [Rep α] {T : TypeId} {lo : Nat} {w : World} {F : Nat → Prop} {v : Value} {l : List α} (h : OwnS T lo w F v l) {i : Nat} (hi : i < l.length) : ∃ cs, CellsAt w (sb v) (so v + i * Rep.k α) cs ∧ Rep.rd w F cs l[i] := by
  obtain ⟨css, h1, h2⟩ := h.css
  rcases h2.2 with ⟨rfl, h0⟩ | ⟨g, cap, cur, rfl, hg, hb, hn, hm, hs, ht⟩
  · omega
  · obtain ⟨cs, hr, hc⟩ := h1.at_ i hi
    refine ⟨cs, ?_, hr⟩
    intro j hj
    have h3 := hc j hj
    rw [← ht, List.getElem?_take] at h3
    split at h3
    · show w.cell? ⟨g, 0 + i * Rep.k α + j, none⟩ = _
      rw [Nat.zero_add]
      exact xm hb (by simpa using h3)
    · cases h3
theorem RdS.own {α : Type} [Rep α] {T : TypeId} {lo : Nat} {w w' : World} {F : Nat → Prop} {v d : Value} {l : List α} {β : Type} [Rep β] {m : List β} (h : RdS w F d m) (ho : OwnS T lo w F v l) (hx : Chg (fun b => v.ownBlock = some b) w w') : RdS w' F d m :=
  h.chg hx (fun b _ hF hO => ho.apart b hO hF)

def Fresh {α : Type} [Rep α] (T : TypeId) (lo : Nat) (w : World) (v : Value) (l : List α) : Prop := ∃ F, OwnS T lo w F v l ∧ ∀ b, F b → lo ≤ b
theorem Fresh.rd {α : Type} [Rep α] {T : TypeId} {lo : Nat} {w : World} {v : Value} {l : List α} (h : Fresh T lo w v l) : RdS w (fun b => lo ≤ b) v l := by
  obtain ⟨F, h1, h2⟩ := h; exact h1.toRd h2 (fun b hb => (h1.lt b hb).1)
def Yx : Value → Bool
  | .slice none _ _ => true
  | _ => false
theorem KS {v : Value} {n : Nat} (h : IsSl v n) (hn : Yx v = true) : n = 0 := by
  obtain ⟨a, cap, rfl, _, h2⟩ := h
  cases a with
  | none => rcases Nat.eq_zero_or_pos n with h | h
            · exact h
            · obtain ⟨_, _, h3⟩ := h2 h; cases h3
  | some a => cases hn
theorem UL {P : Program} {d : Option Tmp} {ty : TypeId} {pos : String} {af : Array Edge} {g : Option (Nat × Bool)} {σ : Env} {w : World} {K : Value → World → Prop} {x : Operand} {t t2 e : TypeId} {v : Value} {n : Nat} (hU : P.underlying t = some (.slice e)) (hx : ev σ x = v) (hv : IsSl v n) (h : K (.bool (Yx v)) w) :
    opV P ⟨d, .binOp .eql t x (.const (.slice none 0 0)) t2, ty, pos, af, g⟩ σ w K := by
  obtain ⟨a, cap, rfl, _, _⟩ := hv
  have he := Lib.run_eql_slice_nil (P := P) w t e a n cap 0 0 hU
  have hc : ev σ (.const (.slice none 0 0)) = .slice none 0 0 := rfl
  have : Yx (.slice a n cap) = a.isNone := by cases a <;> rfl
  rw [this] at h
  exact zN (v := .bool a.isNone) (w' := w) (by simp [execOp, hx, hc, eqGuard, he, go_sem]) h
theorem Fresh.lt {α : Type} [Rep α] {T : TypeId} {lo : Nat} {w : World} {v : Value} {l : List α} (h : Fresh T lo w v l) : ∀ b, v.ownBlock = some b → lo ≤ b ∧ b < w.heap.size := by
  obtain ⟨F, h1, h2⟩ := h; exact h1.lt
theorem xG {P : Program} {d : Option Tmp} {ty : TypeId} {pos : String} {af : Array Edge} {g : Option (Nat × Bool)} {σ : Env} {w : World} {K : Value → World → Prop} {f : Fn} {caps : List Operand} {vals : List Value} (hc : caps.map (ev σ) = vals) (h : K (.func f #[] vals.toArray) w) :
    opV P ⟨d, .makeFunc f #[] caps.toArray, ty, pos, af, g⟩ σ w K :=
  zN (v := .func f #[] vals.toArray) (w' := w) (by simp [execOp, Instr.makeFunc, ← hc, go_sem]) h

theorem Ev.eq_iff {a b : Ev} : a = b ↔ a.origin = b.origin ∧ a.seq = b.seq ∧ a.lam = b.lam ∧ a.deps = b.deps ∧ a.typ = b.typ ∧ a.agg = b.agg ∧ a.field = b.field ∧ a.op = b.op ∧ a.arg = b.arg ∧ a.key = b.key := by
  cases a; cases b; simp
end Go.Proofs.Ytmiihhbeclhaoaa
