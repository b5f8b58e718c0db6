/- Memory: what a step may change; readings of values as data. -/
import Derived.Test.YtgjgmojjeehieaaDraw2
namespace Go.Proofs.Ytgjgmojjeehieaa
open Go.RowKit

/-- A block of cells of which none is frozen. -/
def Soft (w : World) (b : Nat) : Prop := ∃ c T, w.heap[b]? = some (.cells c T)
/-- What was soft is so still. -/
def SoftStep (w w' : World) : Prop := ∀ b, Soft w b → Soft w' b
theorem SoftStep.refl (w : World) : SoftStep w w := fun _ h => h
theorem SoftStep.trans {a b c : World} (h : SoftStep a b) (k : SoftStep b c) : SoftStep a c := fun i hi => k i (h i hi)
theorem SoftStep.push {w w' : World} {o : Obj} (h : w'.heap = w.heap.push o) : SoftStep w w' := by
  rintro b ⟨c, T, hb⟩
  have hlt := (Array.getElem?_eq_some_iff.1 hb).1
  exact ⟨c, T, by rw [h, Array.getElem?_push, if_neg (Nat.ne_of_lt hlt)]; exact hb⟩
theorem SoftStep.setRow {w : World} {g : Nat} {c : Array Value} : SoftStep w (w.setRow g c) := by
  rintro b ⟨c', T, hb⟩
  by_cases hg : b = g
  · subst hg; exact ⟨c, T, setRow_heap w b c' c T (0, 0) hb⟩
  · exact ⟨c', T, by rw [setRow_other w g b c hg]; exact hb⟩

/-- From w to w' blocks of w outside O are as they were. -/
structure Chg (O : Nat → Prop) (w w' : World) : Prop where
  os : w'.os = w.os
  tape : w'.tape = w.tape
  output : w'.output = w.output
  size : w.heap.size ≤ w'.heap.size
  block : ∀ b, b < w.heap.size → ¬ O b → w'.heap[b]? = w.heap[b]?
  soft : SoftStep w w'
  drawn : w.drawn ≤ w'.drawn
/-- Nothing that was there has changed. -/
abbrev Ext : World → World → Prop := Chg (fun _ => False)
def none_ : Nat → Prop := fun _ => False

theorem Chg.refl (O : Nat → Prop) (w : World) : Chg O w w := ⟨rfl, rfl, rfl, Nat.le_refl _, fun _ _ _ => rfl, SoftStep.refl w, Nat.le_refl _⟩
theorem Chg.trans {O : Nat → Prop} {a b c : World} (h : Chg O a b) (k : Chg O b c) : Chg O a c :=
  ⟨k.os.trans h.os, k.tape.trans h.tape, k.output.trans h.output, Nat.le_trans h.size k.size, fun i hi hO => (k.block i (Nat.lt_of_lt_of_le hi h.size) hO).trans (h.block i hi hO), h.soft.trans k.soft, Nat.le_trans h.drawn k.drawn⟩
theorem Chg.weak {O O' : Nat → Prop} {a b : World} (h : Chg O a b) (hO : ∀ i, i < a.heap.size → O i → O' i) : Chg O' a b :=
  ⟨h.os, h.tape, h.output, h.size, fun i hi h' => h.block i hi (fun ho => h' (hO i hi ho)), h.soft, h.drawn⟩
theorem Chg.ext {a b : World} (O : Nat → Prop) (h : Ext a b) : Chg O a b := h.weak (fun _ _ h => h.elim)
/-- A change among what is new is none. -/
theorem Chg.new {O O' : Nat → Prop} {a b c : World} (h : Chg O a b) (k : Chg O' b c) (hn : ∀ i, i < a.heap.size → O' i → O i) : Chg O a c :=
  ⟨k.os.trans h.os, k.tape.trans h.tape, k.output.trans h.output, Nat.le_trans h.size k.size, fun i hi hO => (k.block i (Nat.lt_of_lt_of_le hi h.size) (fun h' => hO (hn i hi h'))).trans (h.block i hi hO), h.soft.trans k.soft, Nat.le_trans h.drawn k.drawn⟩
theorem Chg.keep {O : Nat → Prop} {w w' : World} {b : Nat} {o : Obj} (h : Chg O w w') (hb : w.heap[b]? = some o) (hO : ¬ O b) : w'.heap[b]? = some o := by
  rw [h.block b (Array.getElem?_eq_some_iff.1 hb).1 hO]; exact hb
theorem Chg.below {w w' : World} (h : Ext w w') : Below w.heap.size w w' := ⟨h.os, h.tape, h.output, h.size, fun b hb => h.block b hb (fun h => h)⟩
theorem Chg.same {O : Nat → Prop} {a b c : World} (h : Chg O b c) (h1 : b.heap = a.heap) (h2 : b.os = a.os) (h3 : b.tape = a.tape) (h4 : b.output = a.output ∧ a.drawn ≤ b.drawn) : Chg O a c :=
  ⟨h.os.trans h2, h.tape.trans h3, h.output.trans h4.1, h1 ▸ h.size, by rw [← h1]; exact h.block, fun i ⟨c, T, hi⟩ => h.soft i ⟨c, T, by rw [h1]; exact hi⟩, Nat.le_trans h4.2 h.drawn⟩

theorem ext_same {w w0 : World} (h1 : w0.heap = w.heap) (h2 : w0.os = w.os) (h3 : w0.tape = w.tape) (h4 : w0.output = w.output ∧ w.drawn ≤ w0.drawn) : Ext w w0 :=
  (Chg.refl _ w0).same h1 h2 h3 h4
/-- Assertions, one an operation. -/
def AL (l : List (Value → World → Prop)) : Nat → Value → World → Prop := fun i v w => match l[i]? with
  | some p => p v w
  | none => True
def StabL (l : List (Value → World → Prop)) : Prop := match l with
  | [] => True
  | p :: l => (∀ v w w', Ext w w' → p v w → p v w') ∧ StabL l
theorem stabL {l : List (Value → World → Prop)} (h : StabL l) : ∀ j v w w', Ext w w' → AL l j v w → AL l j v w' := by
  intro j v w w' hx
  induction l generalizing j with
  | nil => intro _; trivial
  | cons p l ih =>
    cases j with
    | zero => exact h.1 v w w' hx
    | succ j => simpa [AL] using ih h.2 j

theorem blk_lt {w : World} {b : Nat} {o : Obj} (h : w.heap[b]? = some o) : b < w.heap.size := (Array.getElem?_eq_some_iff.1 h).1

/-- The new world w1 has one block more than w, b: o. -/
structure New (w w1 : World) (b : Nat) (o : Obj) : Prop where
  ext : Ext w w1
  eq : b = w.heap.size
  size : w1.heap.size = b + 1
  at_ : w1.heap[b]? = some o
theorem New.mk' (w : World) (o : Obj) : New w { w with heap := w.heap.push o } w.heap.size o :=
  ⟨⟨rfl, rfl, rfl, by simp, fun b hb _ => by simp [Array.getElem?_push, Nat.ne_of_lt hb], SoftStep.push rfl, Nat.le_refl _⟩, rfl, by simp, by simp⟩

def CellsAt (w : World) (b off : Nat) (cs : List Value) : Prop := ∀ j (h : j < cs.length), w.cell? ⟨b, off + j, none⟩ = some cs[j]

theorem cell_block {w w' : World} {b off : Nat} (h : w'.heap[b]? = w.heap[b]?) : w'.cell? ⟨b, off, none⟩ = w.cell? ⟨b, off, none⟩ := by
  unfold World.cell?; simp only [h]
theorem cell_some_lt {w : World} {b off : Nat} {v : Value} (h : w.cell? ⟨b, off, none⟩ = some v) : b < w.heap.size := by
  rcases Nat.lt_or_ge b w.heap.size with hb | hb
  · exact hb
  · rw [World.cell?, Array.getElem?_eq_none hb] at h; cases h
theorem blk_cell {w : World} {b off : Nat} {c : Array Value} {t : TypeId} {fz : Nat × Nat} {v : Value} (h : w.heap[b]? = some (.cells c t fz)) (hc : c[off]? = some v) : w.cell? ⟨b, off, none⟩ = some v := by
  unfold World.cell?; simp [h, hc]
theorem blk_cellL {w : World} {b off : Nat} {c : List Value} {t : TypeId} {fz : Nat × Nat} {v : Value} (h : w.heap[b]? = some (.cells c.toArray t fz)) (hc : c[off]? = some v) : w.cell? ⟨b, off, none⟩ = some v := blk_cell h (by simpa using hc)
theorem CellsAt.of_block {w : World} {b off : Nat} {c : Array Value} {t : TypeId} {fz : Nat × Nat} {cs : List Value} (h : w.heap[b]? = some (.cells c t fz)) (hc : ∀ j (h : j < cs.length), c[off + j]? = some cs[j]) : CellsAt w b off cs :=
  fun j hj => blk_cell h (hc j hj)
theorem CellsAt.all {w : World} {b : Nat} {c : Array Value} {t : TypeId} {fz : Nat × Nat} (h : w.heap[b]? = some (.cells c t fz)) : CellsAt w b 0 c.toList :=
  .of_block h fun j hj => by simp at hj ⊢
theorem CellsAt.lt {w : World} {b off : Nat} {cs : List Value} (h : CellsAt w b off cs) (hne : cs ≠ []) : b < w.heap.size := by
  cases cs with
  | nil => exact (hne rfl).elim
  | cons x l => exact cell_some_lt (h 0 (by simp))
theorem CellsAt.mono {w w' : World} {b off : Nat} {cs : List Value} (h : CellsAt w b off cs) (hb : b < w.heap.size → w'.heap[b]? = w.heap[b]?) : CellsAt w' b off cs := by
  intro j hj
  have h1 := h j hj
  rw [cell_block (hb (cell_some_lt h1))]; exact h1

theorem CellsAt.get {w : World} {b off : Nat} {cs : List Value} (h : CellsAt w b off cs) {j : Nat} {v : Value} (hj : cs[j]? = some v) : w.cell? ⟨b, off + j, none⟩ = some v := by
  obtain ⟨hlt, rfl⟩ := List.getElem?_eq_some_iff.1 hj
  exact h j hlt
theorem CellsAt.sub {w : World} {b off : Nat} {cs cs2 : List Value} (h : CellsAt w b off cs) (i : Nat) (hs : (cs.drop i).take cs2.length = cs2) : CellsAt w b (off + i) cs2 := by
  intro j hj
  have h1 : cs2[j]? = cs[i + j]? := by rw [← hs, List.getElem?_take, if_pos hj, List.getElem?_drop]
  rw [List.getElem?_eq_getElem hj] at h1
  have := h.get h1.symm
  rw [show off + i + j = off + (i + j) by omega]
  exact this
def All1 : List Value → Prop
  | [] => True
  | v :: l => v.oneCell' = true ∧ All1 l
theorem all1 {l : List Value} (h : All1 l) : ∀ u ∈ l, u.oneCell' = true := by
  induction l with
  | nil => intro u hu; cases hu
  | cons x l ih => intro u hu; rcases List.mem_cons.1 hu with rfl | hu; exact h.1; exact ih h.2 u hu

/-- A type of data, and how values in cells read as such. -/
class Rep (α : Type) where
  k : Nat
  rd : World → (Nat → Prop) → List Value → α → Prop
  bytes : Nat
  kpos : 0 < k
  bpos : 0 < bytes
  len : ∀ {w F cs x}, rd w F cs x → cs.length = k
  one : ∀ {w F cs x}, rd w F cs x → ∀ u ∈ cs, u.oneCell' = true
  mono : ∀ {w w' F F' cs x}, rd w F cs x → (∀ b, F b → b < w.heap.size → w'.heap[b]? = w.heap[b]? ∧ F' b) → rd w' F' cs x

abbrev InR (n : Int) : Prop := -9223372036854775808 ≤ n ∧ n < 9223372036854775808

instance : Rep Int where
  k := 1
  rd _ _ cs n := cs = [.int .i64 n] ∧ InR n
  bytes := 8
  bpos := by decide
  kpos := by decide
  len h := by rw [h.1]; rfl
  one h := by rw [h.1]; simp [Value.oneCell']
  mono h _ := h
instance : Rep Bool where
  k := 1
  rd _ _ cs n := cs = [.bool n]
  bytes := 1
  bpos := by decide
  kpos := by decide
  len h := by rw [h]; rfl
  one h := by rw [h]; simp [Value.oneCell']
  mono h _ := h

def sb : Value → Nat
  | .slice (some a) _ _ => a.block
  | _ => 0
def so : Value → Nat
  | .slice (some a) _ _ => a.off
  | _ => 0
/-- A slice's outer form. -/
def IsSl (v : Value) (n : Nat) : Prop := ∃ a cap, v = .slice a n cap ∧ n ≤ cap ∧ (0 < n → ∃ b o, a = some ⟨b, o, none⟩)

theorem IsSl.one {v : Value} {n : Nat} (h : IsSl v n) : v.oneCell' = true := by obtain ⟨a, cap, rfl, _⟩ := h; rfl

structure RdS {α : Type} [Rep α] (w : World) (F : Nat → Prop) (v : Value) (l : List α) : Prop where
  sl : IsSl v l.length
  foot : l ≠ [] → F (sb v)
  small : l.length * Rep.bytes α ≤ 140737488355328
  at_ : ∀ i (h : i < l.length), ∃ cs, CellsAt w (sb v) (so v + i * Rep.k α) cs ∧ Rep.rd w F cs l[i]

theorem small_lt {α : Type} [Rep α] {n : Nat} (h : n * Rep.bytes α ≤ 140737488355328) : n ≤ 140737488355328 :=
  Nat.le_trans (Nat.le_mul_of_pos_right _ Rep.bpos) h
theorem RdS.mono {α : Type} [Rep α] {w w' : World} {F F' : Nat → Prop} {v : Value} {l : List α} (h : RdS w F v l) (hF : ∀ b, F b → b < w.heap.size → w'.heap[b]? = w.heap[b]? ∧ F' b) : RdS w' F' v l := by
  have key : ∀ i (h' : i < l.length), sb v < w.heap.size := fun i hi => by
    obtain ⟨cs, h1, h2⟩ := h.at_ i hi
    refine h1.lt ?_
    have := Rep.len h2
    have := Rep.kpos (α := α)
    intro he; subst he; simp at *; omega
  refine ⟨h.sl, fun hne => ?_, h.small, fun i hi => ?_⟩
  · have hlt : 0 < l.length := List.length_pos_iff.2 hne
    exact (hF _ (h.foot hne) (key 0 hlt)).2
  · obtain ⟨cs, h1, h2⟩ := h.at_ i hi
    exact ⟨cs, h1.mono (fun hb => (hF _ (h.foot (by intro e; subst e; simp at hi)) hb).1), Rep.mono h2 hF⟩

instance {α : Type} [Rep α] : Rep (List α) where
  k := 1
  rd w F cs l := ∃ v, cs = [v] ∧ RdS w F v l
  bytes := 24
  bpos := by decide
  kpos := by decide
  len h := by obtain ⟨v, rfl, _⟩ := h; rfl
  one h := by obtain ⟨v, rfl, h⟩ := h; intro u hu; simp at hu; subst hu; exact h.sl.one
  mono h hF := by obtain ⟨v, rfl, h⟩ := h; exact ⟨v, rfl, h.mono hF⟩

theorem RdS.ext {α : Type} [Rep α] {w w' : World} {F : Nat → Prop} {v : Value} {l : List α} (h : RdS w F v l) (hx : Ext w w') : RdS w' F v l :=
  h.mono fun b hb hlt => ⟨hx.block b hlt (fun h => h), hb⟩
/-- What lay below stands, whatever has come above. -/
theorem RdS.spared {α : Type} [Rep α] {w w1 w2 : World} {F O : Nat → Prop} {v : Value} {l : List α} (h : RdS w F v l) (hx : Ext w w1) (hc : Chg O w1 w2) (hO : ∀ b, b < w.heap.size → ¬ O b) : RdS w2 F v l :=
  h.mono fun b hb hlt => ⟨(hc.block b (Nat.lt_of_lt_of_le hlt hx.size) (hO b hlt)).trans (hx.block b hlt (fun h => h)), hb⟩
theorem RdS.chg {α : Type} [Rep α] {w w' : World} {O F : Nat → Prop} {v : Value} {l : List α} (h : RdS w F v l) (hx : Chg O w w') (hO : ∀ b, b < w.heap.size → F b → ¬ O b) : RdS w' F v l :=
  h.mono fun b hb hlt => ⟨hx.block b hlt (hO b hlt hb), hb⟩
theorem RdS.weak {α : Type} [Rep α] {w : World} {F F' : Nat → Prop} {v : Value} {l : List α} (h : RdS w F v l) (hF : ∀ b, b < w.heap.size → F b → F' b) : RdS w F' v l :=
  h.mono fun b hb hlt => ⟨rfl, hF b hlt hb⟩
theorem RdS.nil {α : Type} [Rep α] (w : World) (F : Nat → Prop) : RdS (α := α) w F (.slice none 0 0) [] :=
  ⟨⟨none, 0, rfl, Nat.le_refl _, fun h => absurd h (Nat.lt_irrefl 0)⟩, fun h => (h rfl).elim, by rw [List.length_nil, Nat.zero_mul]; exact Nat.zero_le _, fun i h => absurd h (Nat.not_lt_zero i)⟩

theorem IsSl.eq {v : Value} {n : Nat} (h : IsSl v n) (hn : 0 < n) : ∃ cap, v = .slice (some ⟨sb v, so v, none⟩) n cap ∧ n ≤ cap := by
  obtain ⟨a, cap, rfl, h1, h2⟩ := h
  obtain ⟨b, o, rfl⟩ := h2 hn
  exact ⟨cap, rfl, h1⟩

/-- The value of some cells: of a struct or an array all of them, else the one. -/
def ofCells (agg : Bool) (cs : List Value) : Value := if agg then .agg cs.toArray else cs.headD undef

end Go.Proofs.Ytgjgmojjeehieaa
