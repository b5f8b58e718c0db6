/- Numbers in memory written over: what reads as data still does, of the same length. -/
import Derived.Test.YtbbpmhfcgoljdaaOpens
set_option linter.unusedSimpArgs false
set_option linter.unusedVariables false
namespace Go.Proofs.Ytbbpmhfcgoljdaa
open Go.RowKit

/-- The same value, or both numbers. -/
def Alike (u v : Value) : Prop := u = v ∨ ∃ a b, u = .int .i64 a ∧ v = .int .i64 b ∧ InR b
theorem Alike.refl (u : Value) : Alike u u := .inl rfl
theorem Alike.trans {u v x : Value} (h : Alike u v) (k : Alike v x) : Alike u x := by
  rcases h with rfl | ⟨a, b, rfl, rfl, hb⟩
  · exact k
  · rcases k with rfl | ⟨c, d, e, rfl, hd⟩
    · exact .inr ⟨a, b, rfl, rfl, hb⟩
    · exact .inr ⟨a, d, rfl, rfl, hd⟩
structure Mild (O : Nat → Prop) (w w' : World) : Prop where
  chg : Chg O w w'
  cell : ∀ b o u, w.cell? ⟨b, o, none⟩ = some u → ∃ v, w'.cell? ⟨b, o, none⟩ = some v ∧ Alike u v
theorem Mild.refl (O : Nat → Prop) (w : World) : Mild O w w := ⟨Chg.refl _ _, fun _ _ u h => ⟨u, h, .refl u⟩⟩
theorem Mild.trans {O : Nat → Prop} {a b c : World} (h : Mild O a b) (k : Mild O b c) : Mild O a c :=
  ⟨h.chg.trans k.chg, fun i o u hu => by obtain ⟨v, hv, h1⟩ := h.cell i o u hu; obtain ⟨x, hx, h2⟩ := k.cell i o v hv; exact ⟨x, hx, h1.trans h2⟩⟩
theorem Mild.of_ext {O : Nat → Prop} {a b : World} (h : Ext a b) : Mild O a b :=
  ⟨Chg.ext O h, fun i o u hu => ⟨u, by rw [cell_block (h.block i (cell_some_lt hu) (fun h => h))]; exact hu, .refl u⟩⟩
theorem Mild.weak {O O' : Nat → Prop} {a b : World} (h : Mild O a b) (hO : ∀ i, O i → O' i) : Mild O' a b := ⟨h.chg.weak fun i _ => hO i, h.cell⟩

/-- Cells that are alike. -/
def Alikes : List Value → List Value → Prop
  | [], [] => True
  | u :: us, v :: vs => Alike u v ∧ Alikes us vs
  | _, _ => False
theorem Alikes.len : ∀ {us vs : List Value}, Alikes us vs → vs.length = us.length
  | [], [], _ => rfl
  | _ :: us, _ :: vs, h => congrArg (· + 1) (Alikes.len h.2)
  | [], _ :: _, h => h.elim
  | _ :: _, [], h => h.elim
theorem list_one {α : Type} {l : List α} (h : l.length = 1) : ∃ a, l = [a] := by
  match l, h with
  | [a], _ => exact ⟨a, rfl⟩
theorem Mild.cells {O : Nat → Prop} {w w' : World} (h : Mild O w w') {b : Nat} : ∀ {cs : List Value} {off : Nat}, CellsAt w b off cs → ∃ cs', CellsAt w' b off cs' ∧ Alikes cs cs'
  | [], off, _ => ⟨[], fun j hj => by simp at hj, trivial⟩
  | u :: us, off, hc => by
    obtain ⟨v, hv, h1⟩ := h.cell b off u (hc 0 (Nat.zero_lt_succ _))
    obtain ⟨vs, hvs, h2⟩ := h.cells (cs := us) (off := off + 1) (fun j hj => by
      have := hc (j + 1) (by simpa using hj)
      rw [show off + (j + 1) = off + 1 + j by omega] at this
      simpa using this)
    refine ⟨v :: vs, fun j hj => ?_, h1, h2⟩
    cases j with
    | zero => simpa using hv
    | succ j =>
      have := hvs j (by simpa using hj)
      rw [show off + 1 + j = off + (j + 1) by omega] at this
      simpa using this

class Loose (α : Type) [Rep α] where
  loose : ∀ {O : Nat → Prop} {w w' : World} {F : Nat → Prop} {cs cs' : List Value} {x : α}, Mild O w w' → Rep.rd w F cs x → Alikes cs cs' → ∃ x' : α, Rep.rd w' F cs' x'
theorem Alike.int {n : Int} {v : Value} (h : Alike (.int .i64 n) v) (hn : InR n) : ∃ m, v = .int .i64 m ∧ InR m := by
  rcases h with rfl | ⟨a, b, h1, rfl, hb⟩
  · exact ⟨n, rfl, hn⟩
  · exact ⟨b, rfl, hb⟩
theorem IsSl.alike {u v : Value} {n : Nat} (h : Alike u v) (hn : IsSl u n) : v = u := by
  rcases h with rfl | ⟨a, b, rfl, _⟩
  · rfl
  · obtain ⟨_, _, h, _⟩ := hn; cases h
instance : Loose Int where
  loose := by
    intro O w w' F cs cs' x hs hr ha
    obtain ⟨rfl, hx⟩ := hr
    obtain ⟨v, rfl⟩ := list_one ha.len
    obtain ⟨m, rfl, hm⟩ := ha.1.int hx
    exact ⟨m, rfl, hm⟩
theorem RdS.loose {α : Type} [Rep α] [Loose α] [Inhabited α] {O : Nat → Prop} {w w' : World} {F : Nat → Prop} {v : Value} {l : List α} (h : RdS w F v l) (hs : Mild O w w') : ∃ l' : List α, l'.length = l.length ∧ RdS w' F v l' := by
  have key : ∀ i, i < l.length → ∃ y : α, ∃ cs, CellsAt w' (sb v) (so v + i * Rep.k α) cs ∧ Rep.rd w' F cs y := by
    intro i hi
    obtain ⟨cs, hc, hr⟩ := h.at_ i hi
    obtain ⟨cs', hc', ha⟩ := hs.cells hc
    obtain ⟨y, hy⟩ := Loose.loose hs hr ha
    exact ⟨y, cs', hc', hy⟩
  obtain ⟨l', hl, hp⟩ := choose_list key
  refine ⟨l', hl, by rw [hl]; exact h.sl, fun hne => h.foot (fun e => hne (by subst e; exact List.length_eq_zero_iff.1 hl)), by rw [hl]; exact h.small, fun i hi => hp i hi⟩
instance : Loose Ev where
  loose := by
    intro O w w' F cs cs' x hs hr ha
    obtain ⟨d, rfl, hd, ho⟩ := hr
    obtain ⟨c0, c1, c2, c3, c4, c5, c6, c7, c8, c9, rfl⟩ := list_ten ha.len
    obtain ⟨a0, a1, a2, a3, a4, a5, a6, a7, a8, a9, _⟩ := ha
    obtain ⟨m0, rfl, r0⟩ := a0.int ho.origin
    obtain ⟨m1, rfl, r1⟩ := a1.int ho.seq
    obtain ⟨m2, rfl, r2⟩ := a2.int ho.lam
    obtain rfl := IsSl.alike a3 hd.sl
    obtain ⟨m4, rfl, r4⟩ := a4.int ho.typ
    obtain ⟨m5, rfl, r5⟩ := a5.int ho.agg
    obtain ⟨m6, rfl, r6⟩ := a6.int ho.field
    obtain ⟨m7, rfl, r7⟩ := a7.int ho.op
    obtain ⟨m8, rfl, r8⟩ := a8.int ho.arg
    obtain ⟨m9, rfl, r9⟩ := a9.int ho.key
    obtain ⟨l', _, hl'⟩ := hd.loose hs
    exact ⟨⟨m0, m1, m2, l', m4, m5, m6, m7, m8, m9⟩, c3, rfl, hl', ⟨r0, r1, r2, r4, r5, r6, r7, r8, r9⟩⟩

section
variable {P : Program} {d : Option Tmp} {ty : TypeId} {pos : String} {af : Array Edge} {g : Option (Nat × Bool)} {σ : Env} {w : World} {K : Value → World → Prop}
/-- A number is written over a number. -/
theorem ov_storeInt {O : Nat → Prop} {t : TypeId} {x y : Operand} {b o : Nat} {n k : Int} (hS : ∀ w, (sizeOf t).run P w = .ok 1 w) (hx : ev σ x = .pointer (some ⟨b, o, none⟩)) (hy : ev σ y = .int .i64 k)
    (hc : w.cell? ⟨b, o, none⟩ = some (.int .i64 n)) (hs : Soft w b) (hO : O b) (hk : InR k) (h : ∀ w1, Mild O w w1 → K undef w1) :
    opV P ⟨d, .store t x y, ty, pos, af, g⟩ σ w K := by
  obtain ⟨c, T, hb⟩ := hs
  have hco : c[o]? = some (.int .i64 n) := by
    unfold World.cell? at hc
    simpa [hb] using hc
  have hlt : o < c.toList.length := by simpa using (Array.getElem?_eq_some_iff.1 hco).1
  have hb' : w.heap[b]? = some (.cells c.toList.toArray T) := by simpa using hb
  refine ov_store1 (v := .int .i64 k) (c := c.toList) hS hx hy hb' rfl (by simpa [Nat.blt_eq] using hlt) rfl (fun w1 hp => h w1 ⟨hp.chg.weak (fun i _ e => by subst e; exact hO), fun b' o' u hu => ?_⟩)
  by_cases hbb : b' = b
  · subst hbb
    have hu' : c[o']? = some u := by
      unfold World.cell? at hu
      simpa [hb] using hu
    by_cases ho : o' = o
    · subst ho
      rw [hco] at hu'; cases hu'
      exact ⟨_, blk_cell hp.at_ (by rw [List.getElem?_toArray]; exact List.getElem?_set_self hlt), .inr ⟨n, k, rfl, rfl, hk⟩⟩
    · refine ⟨u, blk_cell hp.at_ ?_, .refl u⟩
      rw [List.getElem?_toArray, List.getElem?_set_ne (by omega)]
      simpa using hu'
  · refine ⟨u, ?_, .refl u⟩
    rw [cell_block (hp.chg.block b' (cell_some_lt hu) hbb)]
    exact hu
end
end Go.Proofs.Ytbbpmhfcgoljdaa
