/- The program's data. -/
import Derived.Test.YtgjgmojjeehieaaOwn
import Derived.WalkSpells
namespace Go.Proofs.Ytgjgmojjeehieaa
open Go.RowKit

theorem getD_at {α : Type} {l : List α} {i : Nat} (d : α) (h : i < l.length) : l.getD i d = l[i] := by
  rw [List.getD_eq_getElem?_getD, List.getElem?_eq_getElem h]; rfl
def AllR : List Int → Prop
  | [] => True
  | x :: l => InR x ∧ AllR l
theorem RdS.ints {w : World} {b : Nat} {T : TypeId} {l : List Int} (hb : w.heap[b]? = some (.cells ((l.map fun x => Value.int .i64 x)).toArray T)) (h : AllR l) (hs : l.length * 8 ≤ 140737488355328 := by simp) :
    RdS w (fun _ => True) (.slice (some ⟨b, 0, none⟩) l.length l.length) l := by
  refine ⟨⟨_, _, rfl, Nat.le_refl _, fun _ => ⟨b, 0, rfl⟩⟩, fun _ => trivial, hs, fun i hi => ⟨[.int .i64 l[i]], ?_, rfl, ?_⟩⟩
  · intro j hj
    have : j = 0 := by simpa using hj
    subst this
    show w.cell? ⟨b, 0 + i * 1 + 0, none⟩ = _
    exact blk_cell hb (by simp [hi])
  · have key : ∀ (l : List Int), AllR l → ∀ i (hi : i < l.length), InR l[i] := by
      intro l
      induction l with
      | nil => intro _ i hi; exact absurd hi (Nat.not_lt_zero i)
      | cons x l ih => intro h i hi; cases i with
        | zero => exact h.1
        | succ i => exact ih h.2 i (by simpa using hi)
    exact key l h i hi

/-- An event. -/
structure Ev where
  origin : Int
  seq : Int
  lam : Int
  deps : List Int
  typ : Int
  agg : Int
  field : Int
  op : Int
  arg : Int
  key : Int
  deriving DecidableEq, Inhabited
structure Ev.Ok (e : Ev) : Prop where
  origin : InR e.origin
  seq : InR e.seq
  lam : InR e.lam
  typ : InR e.typ
  agg : InR e.agg
  field : InR e.field
  op : InR e.op
  arg : InR e.arg
  key : InR e.key
def Ev.cells (e : Ev) (d : Value) : List Value :=
  [.int .i64 e.origin, .int .i64 e.seq, .int .i64 e.lam, d, .int .i64 e.typ, .int .i64 e.agg, .int .i64 e.field, .int .i64 e.op, .int .i64 e.arg, .int .i64 e.key]
instance : Rep Ev where
  k := 10
  bytes := 96
  bpos := by decide
  rd w F cs e := ∃ d, cs = e.cells d ∧ RdS w F d e.deps ∧ e.Ok
  kpos := by decide
  len h := by obtain ⟨d, rfl, _⟩ := h; rfl
  one h := by obtain ⟨d, rfl, h, _⟩ := h; exact all1 ⟨rfl, rfl, rfl, h.sl.one, rfl, rfl, rfl, rfl, rfl, rfl, trivial⟩
  mono h hF := by obtain ⟨d, rfl, h, ho⟩ := h; exact ⟨d, rfl, h.mono hF, ho⟩

def cellV (w : World) (b o : Nat) : Value := (w.cell? ⟨b, o, none⟩).getD undef
/-- An element that is an event. -/
theorem RdS.ev {w : World} {F : Nat → Prop} {v : Value} {l : List Ev} (h : RdS w F v l) {i : Nat} (hi : i < l.length) :
    CellsAt w (sb v) (so v + i * 10) (l[i].cells (cellV w (sb v) (so v + i * 10 + 3))) ∧ RdS w F (cellV w (sb v) (so v + i * 10 + 3)) l[i].deps ∧ l[i].Ok := by
  obtain ⟨cs, hc, d, rfl, hd, ho⟩ := h.at_ i hi
  have : w.cell? ⟨sb v, so v + i * 10 + 3, none⟩ = some d := hc.get (j := 3) rfl
  have e : cellV w (sb v) (so v + i * 10 + 3) = d := by simp only [cellV, this]; rfl
  rw [e]
  exact ⟨hc, hd, ho⟩
theorem RdS.int {w : World} {F : Nat → Prop} {v : Value} {l : List Int} (h : RdS w F v l) {i : Nat} (hi : i < l.length) : CellsAt w (sb v) (so v + i * 1) [.int .i64 l[i]] ∧ InR l[i] := by
  obtain ⟨cs, hc, rfl, hr⟩ := h.at_ i hi
  exact ⟨hc, hr⟩
theorem RdS.bool {w : World} {F : Nat → Prop} {v : Value} {l : List Bool} (h : RdS w F v l) {i : Nat} (hi : i < l.length) : CellsAt w (sb v) (so v + i * 1) [.bool l[i]] := by
  obtain ⟨cs, hc, hr⟩ := h.at_ i hi
  cases hr
  exact hc

theorem OwnS.elem {α : Type} [Rep α] {T : TypeId} {lo : Nat} {w : World} {F : Nat → Prop} {v : Value} {l : List α} (h : OwnS T lo w F v l) {i : Nat} (hi : i < l.length) : ∃ cs, CellsAt w (sb v) (so v + i * Rep.k α) cs ∧ Rep.rd w F cs l[i] := by
  obtain ⟨css, h1, h2⟩ := h.css
  rcases h2.2 with ⟨rfl, h0⟩ | ⟨g, cap, cur, rfl, hg, hb, hn, hm, hs, ht⟩
  · omega
  · obtain ⟨cs, hr, hc⟩ := h1.at_ i hi
    refine ⟨cs, ?_, hr⟩
    intro j hj
    have h3 := hc j hj
    rw [← ht, List.getElem?_take] at h3
    split at h3
    · show w.cell? ⟨g, 0 + i * Rep.k α + j, none⟩ = _
      rw [Nat.zero_add]
      exact blk_cell hb (by simpa using h3)
    · cases h3
theorem OwnS.ev {T : TypeId} {lo : Nat} {w : World} {F : Nat → Prop} {v : Value} {l : List Ev} (h : OwnS T lo w F v l) {i : Nat} (hi : i < l.length) :
    CellsAt w (sb v) (so v + i * 10) (l[i].cells (cellV w (sb v) (so v + i * 10 + 3))) ∧ RdS w F (cellV w (sb v) (so v + i * 10 + 3)) l[i].deps ∧ l[i].Ok := by
  obtain ⟨cs, hc, d, rfl, hd, ho⟩ := h.elem hi
  have : w.cell? ⟨sb v, so v + i * 10 + 3, none⟩ = some d := hc.get (j := 3) rfl
  have e : cellV w (sb v) (so v + i * 10 + 3) = d := by simp only [cellV, this]; rfl
  rw [e]
  exact ⟨hc, hd, ho⟩
theorem RdS.own {α : Type} [Rep α] {T : TypeId} {lo : Nat} {w w' : World} {F : Nat → Prop} {v d : Value} {l : List α} {β : Type} [Rep β] {m : List β} (h : RdS w F d m) (ho : OwnS T lo w F v l) (hx : Chg (fun b => v.ownBlock = some b) w w') : RdS w' F d m :=
  h.chg hx (fun b _ hF hO => ho.apart b hO hF)

theorem Els.flat_at {α : Type} [Rep α] {w : World} {F : Nat → Prop} {css : List (List Value)} {l : List α} (h : Els w F css l) {c : List Value} (hc : css.flatten = c) {b : Nat} {T : TypeId} (hb : w.heap[b]? = some (.cells c.toArray T)) (hF : F b) (hs : l.length * Rep.bytes α ≤ 140737488355328) :
    RdS w F (.slice (some ⟨b, 0, none⟩) l.length l.length) l := by
  refine ⟨⟨_, _, rfl, Nat.le_refl _, fun _ => ⟨b, 0, rfl⟩⟩, fun _ => hF, hs, fun i hi => ?_⟩
  obtain ⟨cs, hr, hcs⟩ := h.at_ i hi
  refine ⟨cs, fun j hj => ?_, hr⟩
  show w.cell? ⟨b, 0 + i * Rep.k α + j, none⟩ = _
  rw [Nat.zero_add]
  refine blk_cellL hb ?_
  rw [← hc]; exact hcs j hj
/-- A slice in memory of its own, from block lo on. -/
def Fresh {α : Type} [Rep α] (T : TypeId) (lo : Nat) (w : World) (v : Value) (l : List α) : Prop := ∃ F, OwnS T lo w F v l ∧ ∀ b, F b → lo ≤ b
theorem Fresh.ext {α : Type} [Rep α] {T : TypeId} {lo : Nat} {w w' : World} {v : Value} {l : List α} (h : Fresh T lo w v l) (hx : Ext w w') : Fresh T lo w' v l := by
  obtain ⟨F, h1, h2⟩ := h; exact ⟨F, h1.ext hx, h2⟩
theorem Fresh.rd {α : Type} [Rep α] {T : TypeId} {lo : Nat} {w : World} {v : Value} {l : List α} (h : Fresh T lo w v l) : RdS w (fun b => lo ≤ b) v l := by
  obtain ⟨F, h1, h2⟩ := h; exact h1.toRd h2 (fun b hb => (h1.lt b hb).1)
theorem Fresh.low {α : Type} [Rep α] {T : TypeId} {lo lo' : Nat} {w : World} {v : Value} {l : List α} (h : Fresh T lo w v l) (hl : lo' ≤ lo) : Fresh T lo' w v l := by
  obtain ⟨F, h1, h2⟩ := h
  exact ⟨F, h1.mono hl (Nat.le_refl _) (fun b hb _ => ⟨rfl, hb⟩) (fun b hb _ => ⟨rfl, h1.apart b hb⟩) (fun b hb => ⟨(h1.bound b hb).1, fun _ => (h1.bound b hb).2 (h2 b hb)⟩), fun b hb => Nat.le_trans hl (h2 b hb)⟩
/-- .. and all its memory is soft. -/
theorem OwnS.soft1 {α : Type} [Rep α] {T : TypeId} {lo : Nat} {w : World} {F : Nat → Prop} {v : Value} {l : List α} (h : OwnS T lo w F v l) : ∀ b, v.ownBlock = some b → Soft w b := by
  intro b hb
  obtain ⟨css, hE, hown⟩ := h.css
  rcases hown.2 with ⟨rfl, h0⟩ | ⟨g, cap, cur, rfl, hg, hbk, r⟩
  · cases hb
  · simp only [Value.ownBlock, Option.some.injEq] at hb
    subst hb
    exact ⟨cur, T, hbk⟩
theorem Fresh.soft1 {α : Type} [Rep α] {T : TypeId} {lo : Nat} {w : World} {v : Value} {l : List α} (h : Fresh T lo w v l) : ∀ b, v.ownBlock = some b → Soft w b := by
  obtain ⟨F, h1, h2⟩ := h; exact h1.soft1
theorem Fresh.softs {α : Type} [Rep α] {T : TypeId} {lo : Nat} {w : World} {v : Value} {l : List α} (h : Fresh T lo w v l) : RdS w (fun b => lo ≤ b ∧ Soft w b) v l := by
  obtain ⟨F, h1, h2⟩ := h
  exact h1.toRd (fun b hb => ⟨h2 b hb, (h1.bound b hb).2 (h2 b hb)⟩) (fun b hb => ⟨(h1.lt b hb).1, h1.soft1 b hb⟩)
theorem Fresh.nil {α : Type} [Rep α] (T : TypeId) (lo : Nat) (w : World) : Fresh (α := α) T lo w (.slice none 0 0) [] := ⟨fun _ => False, OwnS.nil _ _ _ _ (fun _ h => h.elim), fun _ h => h.elim⟩

def isNilSl : Value → Bool
  | .slice none _ _ => true
  | _ => false
theorem nil_len {v : Value} {n : Nat} (h : IsSl v n) (hn : isNilSl v = true) : n = 0 := by
  obtain ⟨a, cap, rfl, _, h2⟩ := h
  cases a with
  | none => rcases Nat.eq_zero_or_pos n with h | h
            · exact h
            · obtain ⟨_, _, h3⟩ := h2 h; cases h3
  | some a => cases hn
theorem ov_eqlNil {P : Program} {d : Option Tmp} {ty : TypeId} {pos : String} {af : Array Edge} {g : Option (Nat × Bool)} {σ : Env} {w : World} {K : Value → World → Prop} {x : Operand} {t t2 e : TypeId} {v : Value} {n : Nat} (hU : P.underlying t = some (.slice e)) (hx : ev σ x = v) (hv : IsSl v n) (h : K (.bool (isNilSl v)) w) :
    opV P ⟨d, .binOp .eql t x (.const (.slice none 0 0)) t2, ty, pos, af, g⟩ σ w K := by
  obtain ⟨a, cap, rfl, _, _⟩ := hv
  have he := Lib.run_eql_slice_nil (P := P) w t e a n cap 0 0 hU
  have hc : ev σ (.const (.slice none 0 0)) = .slice none 0 0 := rfl
  have : isNilSl (.slice a n cap) = a.isNone := by cases a <;> rfl
  rw [this] at h
  exact ov_run (v := .bool a.isNone) (w' := w) (by simp [execOp, hx, hc, eqGuard, he, go_sem]) h
theorem OwnS.made {α : Type} [Rep α] {T : TypeId} {lo b : Nat} {w : World} {F : Nat → Prop} (hb : w.heap[b]? = some (.cells #[] T)) (hlo : lo ≤ b) (ha : ¬ F b) (hB : ∀ b, F b → b < w.heap.size ∧ (lo ≤ b → Soft w b)) : OwnS (α := α) T lo w F (.slice (some ⟨b, 0, none⟩) 0 0) [] := by
  refine ⟨⟨[], trivial, by simp, .inr ⟨b, 0, #[], rfl, hlo, hb, Nat.le_refl _, by simp [maxLen], by simp, by simp⟩⟩, fun b' h => ?_, hB, by simp⟩
  simp [Value.ownBlock] at h; subst h; exact ha

theorem Fresh.lt {α : Type} [Rep α] {T : TypeId} {lo : Nat} {w : World} {v : Value} {l : List α} (h : Fresh T lo w v l) : ∀ b, v.ownBlock = some b → lo ≤ b ∧ b < w.heap.size := by
  obtain ⟨F, h1, h2⟩ := h; exact h1.lt
theorem Fresh.put {α : Type} [Rep α] {T : TypeId} {lo b : Nat} {w w' : World} {v : Value} {l : List α} (h : Fresh T lo w v l) (hx : Chg (fun i => i = b) w w') (hb : b < lo) : Fresh T lo w' v l := by
  obtain ⟨F, h1, h2⟩ := h
  refine ⟨F, h1.mono (Nat.le_refl _) hx.size (fun i hi hlt => ⟨hx.block i hlt (fun e => by have := h2 i hi; omega), hi⟩) (fun i hi hlt => ⟨hx.block i hlt (fun e => by have := (h1.lt i hi).1; omega), h1.apart i hi⟩) (fun i hi => ⟨Nat.lt_of_lt_of_le (h1.bound i hi).1 hx.size, fun hl => hx.soft i ((h1.bound i hi).2 hl)⟩), h2⟩
theorem Fresh.rdInt {T : TypeId} {lo : Nat} {w : World} {v : Value} {l : List Int} (h : Fresh T lo w v l) : RdS w (fun b => v.ownBlock = some b) v l := by
  obtain ⟨F, h1, h2⟩ := h
  obtain ⟨css, hE, hown⟩ := h1.css
  have h3 : OwnS T lo w (fun _ => False) v l := ⟨⟨css, Els.map (F := F) (F' := fun _ => False) (fun _ _ h => h) hE, hown⟩, fun _ _ h => h, fun _ h => h.elim, h1.small⟩
  exact h3.toRd (fun _ h => h.elim) (fun _ h => h)
theorem ov_makeFunc {P : Program} {d : Option Tmp} {ty : TypeId} {pos : String} {af : Array Edge} {g : Option (Nat × Bool)} {σ : Env} {w : World} {K : Value → World → Prop} {f : Fn} {caps : List Operand} {vals : List Value} (hc : caps.map (ev σ) = vals) (h : K (.func f #[] vals.toArray) w) :
    opV P ⟨d, .makeFunc f #[] caps.toArray, ty, pos, af, g⟩ σ w K :=
  ov_run (v := .func f #[] vals.toArray) (w' := w) (by simp [execOp, Instr.makeFunc, ← hc, go_sem]) h

theorem Ev.eq_iff {a b : Ev} : a = b ↔ a.origin = b.origin ∧ a.seq = b.seq ∧ a.lam = b.lam ∧ a.deps = b.deps ∧ a.typ = b.typ ∧ a.agg = b.agg ∧ a.field = b.field ∧ a.op = b.op ∧ a.arg = b.arg ∧ a.key = b.key := by
  cases a; cases b; simp
end Go.Proofs.Ytgjgmojjeehieaa
