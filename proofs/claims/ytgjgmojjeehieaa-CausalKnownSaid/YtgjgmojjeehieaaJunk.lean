/- Memory that is written over: of a set of blocks it is known that numbers are numbers still, and that what is no number is as it was (but for the cells of X). -/
import Derived.Test.YtgjgmojjeehieaaRowE2
set_option linter.unusedSimpArgs false
set_option linter.unusedVariables false
namespace Go.Proofs.Ytgjgmojjeehieaa
open Go.RowKit
def MildV (a b : Value) : Prop := b = a ∨ ∃ m n : Int, a = .int .i64 m ∧ b = .int .i64 n ∧ InR n
def ML (w0 : World) (f0 : Nat → Prop) (X : Nat → Nat → Prop) : HP :=
  ⟨fun w f => ∀ b, f0 b → f b ∧ Soft w b ∧ ∀ o v, w0.cell? ⟨b, o, none⟩ = some v → ∃ v', w.cell? ⟨b, o, none⟩ = some v' ∧ (X b o ∨ MildV v v'), by
    intro w w' f f' h hf b hb
    obtain ⟨h1, h2, h3⟩ := h b hb
    have hlt : b < w.heap.size := by obtain ⟨c, T, hc⟩ := h2; exact blk_lt hc
    have e := hf b h1 hlt
    refine ⟨e.2, h2.keep e.1, fun o v hv => ?_⟩
    rw [cell_block e.1]; exact h3 o v hv⟩
def noX : Nat → Nat → Prop := fun _ _ => False
theorem IsSl.num {v : Value} {n : Nat} (h : IsSl v n) (m : Int) : v ≠ .int .i64 m := by obtain ⟨a, cap, rfl, _⟩ := h; intro e; cases e
section
variable {α : Type} [Rep α] {G : Nat → Prop} {W w w0 : World} {As : List HP} {T : TypeId} {v : Value} {l : List α} {f0 : Nat → Prop} {X : Nat → Nat → Prop}
theorem Sep.toML (h : Sep G W (RowE own T v l :: As) w) : ∃ f0, RdS w f0 v l ∧ Sep G W (ML w f0 noX :: As) w := by
  obtain ⟨f, hA, hl, hT⟩ := h.take (i := 0) rfl
  exact ⟨fun b => f b ∧ Soft w b, RowE.soft hA, hT w _ f (Chg.refl _ _) (fun b hb => ⟨hb.1, hb.2, fun o v hv => ⟨v, hv, .inr (.inl rfl)⟩⟩) (fun _ h => .inl h)⟩
/-- What is no number is as it was. -/
theorem Sep.mlHead {i b o j : Nat} {cs : List Value} {u : Value} (h : Sep G W As w) (hi : As[i]? = some (ML w0 f0 X)) (hb : f0 b) (hc : CellsAt w0 b o cs) (hj : cs[j]? = some u) (hX : ¬ X b (o + j)) (hn : ∀ m, u ≠ .int .i64 m) : w.cell? ⟨b, o + j, none⟩ = some u := by
  obtain ⟨f, hA, _⟩ := h.get hi
  obtain ⟨_, _, h3⟩ := hA b hb
  obtain ⟨v', h4, h5⟩ := h3 _ _ (hc.get hj)
  rcases h5 with h5 | h5 | ⟨m, n, h5, _⟩
  · exact absurd h5 hX
  · rw [h4, h5]
  · exact absurd h5 (hn m)
theorem Sep.mlCells {i b o : Nat} {cs : List Value} (h : Sep G W As w) (hi : As[i]? = some (ML w0 f0 X)) (hb : f0 b) (hc : CellsAt w0 b o cs) (hX : ∀ j, j < cs.length → ¬ X b (o + j)) : ∃ cs', cs'.length = cs.length ∧ CellsAt w b o cs' ∧ ∀ (j : Nat) v, cs[j]? = some v → ∃ v', cs'[j]? = some v' ∧ MildV v v' := by
  obtain ⟨f, hA, _⟩ := h.get hi
  obtain ⟨_, _, h3⟩ := hA b hb
  refine ⟨cs.mapIdx (fun j _ => (w.cell? ⟨b, o + j, none⟩).getD undef), by simp, fun j hj => ?_, fun j v hj => ?_⟩
  · have hj' : j < cs.length := by simpa using hj
    obtain ⟨v', h4, h5⟩ := h3 _ _ (hc j hj')
    simp [h4]
  · obtain ⟨hlt, rfl⟩ := List.getElem?_eq_some_iff.1 hj
    obtain ⟨v', h4, h5⟩ := h3 _ _ (hc j hlt)
    refine ⟨v', ?_, h5.resolve_left (hX j hlt)⟩
    rw [List.getElem?_mapIdx, List.getElem?_eq_getElem hlt]
    simp [h4]
end
theorem cell_at {w : World} {b o : Nat} {c : Array Value} {T : TypeId} (h : w.heap[b]? = some (.cells c T)) : w.cell? ⟨b, o, none⟩ = c[o]? := by
  unfold World.cell?; simp [h]
theorem putAt_get {c : Array Value} {o : Nat} {us : List Value} (h : o + us.length ≤ c.size) (p : Nat) : (putAt c o us)[p]? = if o ≤ p ∧ p < o + us.length then us[p - o]? else c[p]? := by
  unfold putAt
  simp only [List.getElem?_toArray]
  have hl : (c.toList.take o).length = o := by simp; omega
  by_cases h1 : p < o
  · rw [if_neg (by omega), List.append_assoc, List.getElem?_append_left (by rw [hl]; exact h1), List.getElem?_take, if_pos h1]; simp
  · by_cases h2 : p < o + us.length
    · rw [if_pos ⟨by omega, h2⟩, List.getElem?_append_left (by rw [List.length_append, hl]; exact h2), List.getElem?_append_right (by rw [hl]; omega), hl]
    · rw [if_neg (by omega), List.getElem?_append_right (by rw [List.length_append, hl]; omega), List.length_append, hl, List.getElem?_drop, show o + us.length + (p - (o + us.length)) = p by omega]; simp
section
variable {P : Program} {d : Option Tmp} {ty : TypeId} {pos : String} {af : Array Edge} {gd : Option (Nat × Bool)} {σ : Env} {w w0 : World} {K : Value → World → Prop} {G : Nat → Prop} {W : World} {As : List HP} {f0 : Nat → Prop} {X X' : Nat → Nat → Prop}
/-- A store into it: numbers over numbers, or into cells of X'. -/
theorem ov_storeML {t : TypeId} {b o : Nat} {x y : Operand} {u : Value} {us cs : List Value} (h : Sep G W (ML w0 f0 X :: As) w) (hS : ∀ w, (sizeOf t).run P w = .ok us.length w) (hx : ev σ x = .pointer (some ⟨b, o, none⟩)) (hb : f0 b)
    (hy : ev σ y = u) (hu : u.cells.toList = us) (h1 : ∀ u ∈ us, u.oneCell' = true) (hc : CellsAt w0 b o cs) (hl : cs.length = us.length) (hpos : 0 < us.length)
    (hm : ∀ (j : Nat) v v', cs[j]? = some v → us[j]? = some v' → X' b (o + j) ∨ MildV v v') (hXX : ∀ b o, X b o → X' b o) (hK : ∀ w', Sep G W (ML w0 f0 X' :: As) w' → K undef w') : opV P ⟨d, .store t x y, ty, pos, af, gd⟩ σ w K := by
  obtain ⟨f, hA, hfl⟩ := h.get (i := 0) rfl
  obtain ⟨hfb, ⟨c, T, hbk⟩, h3⟩ := hA b hb
  have hfit : o + us.length ≤ c.size := by
    obtain ⟨v', h4, _⟩ := h3 _ _ (hc (us.length - 1) (by omega))
    rw [cell_at hbk] at h4
    obtain ⟨h5, _⟩ := Array.getElem?_eq_some_iff.1 h4
    omega
  refine ov_store (v := u) (c := c) (T := T) (by intro w; rw [hS, ← hu]; simp) hx hy hbk (by rw [hu]; exact h1) (by rw [hu]; exact hfit) rfl (fun w1 hp => hK w1 ?_)
  refine h.upd (i := 0) (B := ML w0 f0 X') rfl (fun f hA hl9 => ?_)
  refine ⟨hp.chg.weak (fun i _ hi => by subst hi; exact (hA _ hb).1), f, fun b' hb' => ?_, fun _ hb => .inl hb⟩
  obtain ⟨h5, h6, h7⟩ := hA b' hb'
  by_cases e : b' = b
  · subst e
    refine ⟨h5, ⟨_, _, hp.at_⟩, fun p v hv => ?_⟩
    obtain ⟨v', h8, h9⟩ := h7 p v hv
    rw [cell_at hbk] at h8
    rw [cell_at hp.at_, hu, putAt_get hfit]
    by_cases hr : o ≤ p ∧ p < o + us.length
    · rw [if_pos hr]
      have hlt : p - o < us.length := by omega
      refine ⟨us[p - o], List.getElem?_eq_getElem hlt, ?_⟩
      have h10 := hc (p - o) (by omega)
      rw [show o + (p - o) = p by omega, hv] at h10
      have h11 := hm (p - o) v us[p - o] (by rw [List.getElem?_eq_getElem (by omega)]; exact h10.symm) (List.getElem?_eq_getElem hlt)
      rw [show o + (p - o) = p by omega] at h11
      exact h11
    · rw [if_neg hr]
      exact ⟨v', h8, h9.imp (hXX _ _) id⟩
  · have e2 := hp.chg.block b' (by obtain ⟨c, T, hc⟩ := h6; exact blk_lt hc) e
    refine ⟨h5, h6.keep e2, fun p v hv => ?_⟩
    obtain ⟨v', h8, h9⟩ := h7 p v hv
    exact ⟨v', by rw [cell_block e2]; exact h8, h9.imp (hXX _ _) id⟩
end
def MildAll : List Value → List Value → Prop
  | a :: xs, b :: ys => MildV a b ∧ MildAll xs ys
  | _, _ => True
theorem MildAll.at_ : ∀ {xs ys : List Value}, MildAll xs ys → ∀ (j : Nat) v v', xs[j]? = some v → ys[j]? = some v' → MildV v v'
  | _ :: _, _ :: _, h, 0, _, _, h1, h2 => by
    simp only [List.getElem?_cons_zero, Option.some.injEq] at h1 h2
    subst h1; subst h2; exact h.1
  | _ :: _, _ :: _, h, j + 1, _, _, h1, h2 => MildAll.at_ h.2 j _ _ (by simpa using h1) (by simpa using h2)
  | [], _, _, j, _, _, h1, _ => by simp at h1
  | _ :: _, [], _, j, _, _, _, h2 => by simp at h2
theorem MildV.num {m n : Int} (h : InR n) : MildV (.int .i64 m) (.int .i64 n) := .inr ⟨m, n, rfl, rfl, h⟩
end Go.Proofs.Ytgjgmojjeehieaa
