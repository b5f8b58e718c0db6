/- Memory in parts: assertions with footprints, that stand side by side. -/
import Derived.Test.YtgjgmojjeehieaaMaps
set_option linter.unusedSimpArgs false
set_option linter.unusedVariables false
namespace Go.Proofs.Ytgjgmojjeehieaa
open Go.RowKit

/-- An assertion on the blocks of a set. -/
structure HP where
  p : World → (Nat → Prop) → Prop
  loc : ∀ {w w' : World} {f f' : Nat → Prop}, p w f → (∀ b, f b → b < w.heap.size → w'.heap[b]? = w.heap[b]? ∧ f' b) → p w' f'
theorem HP.weak (A : HP) {w : World} {f f' : Nat → Prop} (h : A.p w f) (hf : ∀ b, f b → b < w.heap.size → f' b) : A.p w f' := A.loc h (fun b hb hlt => ⟨rfl, hf b hb hlt⟩)
theorem HP.cut (A : HP) {w : World} {f : Nat → Prop} (h : A.p w f) : A.p w (fun b => f b ∧ b < w.heap.size) := A.weak h (fun _ hb hlt => ⟨hb, hlt⟩)
def Emp : HP := ⟨fun _ _ => True, fun _ _ => trivial⟩

/-- What is shared, and never changes: the blocks of G are as they were in W. -/
structure Kept (G : Nat → Prop) (W w : World) : Prop where
  os : w.os = W.os
  tape : w.tape = W.tape
  output : w.output = W.output
  size : W.heap.size ≤ w.heap.size
  drawn : W.drawn ≤ w.drawn
  keep : ∀ b, G b → b < W.heap.size ∧ w.heap[b]? = W.heap[b]?
theorem Kept.refl {G : Nat → Prop} {W : World} (h : ∀ b, G b → b < W.heap.size) : Kept G W W := ⟨rfl, rfl, rfl, Nat.le_refl _, Nat.le_refl _, fun b hb => ⟨h b hb, rfl⟩⟩
theorem Kept.chg {G O : Nat → Prop} {W w w' : World} (h : Kept G W w) (hx : Chg O w w') (hO : ∀ b, O b → ¬ G b) : Kept G W w' :=
  ⟨hx.os.trans h.os, hx.tape.trans h.tape, hx.output.trans h.output, Nat.le_trans h.size hx.size, Nat.le_trans h.drawn hx.drawn,
   fun b hb => ⟨(h.keep b hb).1, (hx.block b (Nat.lt_of_lt_of_le (h.keep b hb).1 h.size) (fun ho => hO b ho hb)).trans (h.keep b hb).2⟩⟩
/-- The base (G, W) has moved on to (G', W'). -/
def Base (G : Nat → Prop) (W : World) (G' : Nat → Prop) (W' : World) : Prop := ∀ b, G b → b < W.heap.size → W'.heap[b]? = W.heap[b]? ∧ G' b
theorem Base.refl (G : Nat → Prop) (W : World) : Base G W G W := fun _ hb _ => ⟨rfl, hb⟩
theorem RdS.base {α : Type} [Rep α] {G G' : Nat → Prop} {W W' : World} {v : Value} {l : List α} (h : RdS W G v l) (hb : Base G W G' W') : RdS W' G' v l := h.mono hb

structure Sep (G : Nat → Prop) (W : World) (As : List HP) (w : World) : Prop where
  kept : Kept G W w
  parts : ∃ fs : Nat → Nat → Prop, (∀ i A, As[i]? = some A → A.p w (fs i) ∧ ∀ b, fs i b → ¬ G b ∧ b < w.heap.size) ∧ ∀ i j, i < As.length → j < As.length → i ≠ j → ∀ b, fs i b → ¬ fs j b

section
variable {G : Nat → Prop} {W w w' : World} {As Bs : List HP} {A B : HP}

theorem Sep.start (w : World) : Sep (inHeap w) w [] w := ⟨Kept.refl (fun _ h => h), fun _ _ => False, fun i A h => by simp at h, fun i j hi => absurd hi (Nat.not_lt_zero i)⟩
theorem Sep.fin (h : Sep (inHeap W) W As w) : Ext W w :=
  ⟨h.kept.os, h.kept.tape, h.kept.output, h.kept.size, fun b hb _ => (h.kept.keep b hb).2, fun b ⟨c, T, hc⟩ => ⟨c, T, ((h.kept.keep b (blk_lt hc)).2).trans hc⟩, h.kept.drawn⟩

/-- A change within one part, and what is new. -/
theorem Sep.take (h : Sep G W As w) {i : Nat} (hi : As[i]? = some A) : ∃ f, A.p w f ∧ (∀ b, f b → ¬ G b ∧ b < w.heap.size) ∧ ∀ (w' : World) (B : HP) (f' : Nat → Prop), Chg f w w' → B.p w' f' → (∀ b, f' b → f b ∨ w.heap.size ≤ b) → Sep G W (As.set i B) w' := by
  obtain ⟨fs, h1, h2⟩ := h.parts
  obtain ⟨hA, hl⟩ := h1 i A hi
  refine ⟨fs i, hA, hl, fun w' B f' hc hB hf' => ?_⟩
  have hlt : i < As.length := (List.getElem?_eq_some_iff.1 hi).1
  have hG : ∀ b, f' b → ¬ G b := fun b hb hg => by
    rcases hf' b hb with h3 | h3
    · exact (hl b h3).1 hg
    · have := (h.kept.keep b hg).1; have := h.kept.size; omega
  refine ⟨h.kept.chg hc (fun b hb => (hl b hb).1), fun j b => if j = i then f' b ∧ b < w'.heap.size else fs j b ∧ b < w.heap.size, fun j C hj => ?_, fun j k hj hk hne b hb => ?_⟩
  · by_cases hji : j = i
    · subst hji
      rw [List.getElem?_set_self hlt] at hj
      cases hj
      simp only [if_true]
      exact ⟨B.cut hB, fun b hb => ⟨hG b hb.1, hb.2⟩⟩
    · rw [List.getElem?_set_ne (Ne.symm hji)] at hj
      have hjl : j < As.length := (List.getElem?_eq_some_iff.1 hj).1
      obtain ⟨hC, hCl⟩ := h1 j C hj
      simp only [if_neg hji]
      exact ⟨C.loc hC (fun b hb hlt' => ⟨hc.block b hlt' (fun ho => h2 i j hlt hjl (Ne.symm hji) b ho hb), hb, hlt'⟩), fun b hb => ⟨(hCl b hb.1).1, Nat.lt_of_lt_of_le hb.2 hc.size⟩⟩
  · simp only [List.length_set] at hj hk
    by_cases hji : j = i
    · subst hji
      simp only [if_true] at hb
      simp only [if_neg (Ne.symm hne)]
      rintro ⟨hk1, hk2⟩
      rcases hf' b hb.1 with h3 | h3
      · exact h2 j k hj hk hne b h3 hk1
      · omega
    · simp only [if_neg hji] at hb
      by_cases hki : k = i
      · subst hki
        simp only [if_true]
        rintro ⟨hk1, _⟩
        rcases hf' b hk1 with h3 | h3
        · exact h2 j k hj hk hne b hb.1 h3
        · omega
      · simp only [if_neg hki]
        exact fun hk1 => h2 j k hj hk hne b hb.1 hk1.1

theorem Sep.upd (h : Sep G W As w) {i : Nat} (hi : As[i]? = some A) (hk : ∀ f, A.p w f → (∀ b, f b → ¬ G b ∧ b < w.heap.size) → Chg f w w' ∧ ∃ f', B.p w' f' ∧ ∀ b, f' b → f b ∨ w.heap.size ≤ b) : Sep G W (As.set i B) w' := by
  obtain ⟨f, hA, hl, hT⟩ := h.take hi
  obtain ⟨hc, f', hB, hf'⟩ := hk f hA hl
  exact hT w' B f' hc hB hf'

theorem Sep.ext (h : Sep G W As w) (hx : Ext w w') : Sep G W As w' := by
  obtain ⟨fs, h1, h2⟩ := h.parts
  refine ⟨h.kept.chg hx (fun _ h => h.elim), fs, fun j C hj => ?_, h2⟩
  obtain ⟨hC, hCl⟩ := h1 j C hj
  exact ⟨C.loc hC (fun b hb hlt => ⟨hx.block b hlt (fun h => h), hb⟩), fun b hb => ⟨(hCl b hb).1, Nat.lt_of_lt_of_le (hCl b hb).2 hx.size⟩⟩
theorem Sep.same (h : Sep G W As w) (h1 : w'.heap = w.heap) (h2 : w'.os = w.os) (h3 : w'.tape = w.tape) (h4 : w'.output = w.output ∧ w.drawn ≤ w'.drawn) : Sep G W As w' := h.ext (ext_same h1 h2 h3 h4)
/-- Something new. -/
theorem Sep.push (h : Sep G W As w) (hx : Ext w w') {f : Nat → Prop} (hB : B.p w' f) (hf : ∀ b, f b → w.heap.size ≤ b) : Sep G W (B :: As) w' := by
  obtain ⟨fs, h1, h2⟩ := h.parts
  refine ⟨h.kept.chg hx (fun _ h => h.elim), fun j b => match j with | 0 => f b ∧ b < w'.heap.size | j + 1 => fs j b, fun j C hj => ?_, fun j k hj hk hne b hb => ?_⟩
  · cases j with
    | zero =>
      simp only [List.getElem?_cons_zero, Option.some.injEq] at hj
      subst hj
      exact ⟨B.cut hB, fun b hb => ⟨fun hg => by have := hf b hb.1; have := (h.kept.keep b hg).1; have := h.kept.size; omega, hb.2⟩⟩
    | succ j =>
      obtain ⟨hC, hCl⟩ := h1 j C (by simpa using hj)
      exact ⟨C.loc hC (fun b hb hlt => ⟨hx.block b hlt (fun h => h), hb⟩), fun b hb => ⟨(hCl b hb).1, Nat.lt_of_lt_of_le (hCl b hb).2 hx.size⟩⟩
  · have old : ∀ j b, j < As.length → fs j b → b < w.heap.size := fun j b hj hb => ((h1 j _ (List.getElem?_eq_getElem hj)).2 b hb).2
    cases j with
    | zero =>
      cases k with
      | zero => exact (hne rfl).elim
      | succ k => intro hk1; have := hf b hb.1; have := old k b (by simpa using hk) hk1; omega
    | succ j =>
      cases k with
      | zero => rintro ⟨hk1, _⟩; have := hf b hk1; have := old j b (by simpa using hj) hb; omega
      | succ k => exact h2 j k (by simpa using hj) (by simpa using hk) (fun e => hne (congrArg _ e)) b hb
theorem Sep.emp (h : Sep G W As w) : Sep G W (Emp :: As) w := h.push (Chg.refl _ _) (f := fun _ => False) trivial (fun _ h => h.elim)
theorem Base.trans {G1 G2 G3 : Nat → Prop} {W1 W2 W3 : World} (h1 : Base G1 W1 G2 W2) (h2 : Base G2 W2 G3 W3) : Base G1 W1 G3 W3 := fun b hb hlt => by
  obtain ⟨e, hg⟩ := h1 b hb hlt
  have hlt2 : b < W2.heap.size := by
    rw [Array.getElem?_eq_getElem hlt] at e
    exact (Array.getElem?_eq_some_iff.1 e).1
  obtain ⟨e2, hg2⟩ := h2 b hg hlt2
  exact ⟨e2.trans e, hg2⟩
theorem HP.base {G G' : Nat → Prop} {W W' : World} (h : A.p W G) (hb : Base G W G' W') : A.p W' G' := A.loc h hb
theorem Sep.get (h : Sep G W As w) {i : Nat} (hi : As[i]? = some A) : ∃ f, A.p w f ∧ ∀ b, f b → ¬ G b ∧ b < w.heap.size := by
  obtain ⟨fs, h1, h2⟩ := h.parts
  exact ⟨_, h1 i A hi⟩
theorem Sep.impl (h : Sep G W As w) {i : Nat} (hi : As[i]? = some A) (hAB : ∀ f, A.p w f → B.p w f) : Sep G W (As.set i B) w :=
  h.upd hi (fun f hA _ => ⟨Chg.refl _ _, f, hAB f hA, fun _ hb => .inl hb⟩)

/-- Another order, or fewer parts: of the first n those of the given numbers. -/
theorem Sep.sel (h : Sep G W As w) (n : Nat) (idx : List Nat) (hn : n ≤ As.length) (hok : (idx.all (fun i => Nat.blt i n) && (List.range idx.length).all fun i => (List.range i).all fun j => !Nat.beq (idx.getD i 0) (idx.getD j 0)) = true)
    (hB : Bs = idx.map (fun i => As.getD i Emp) ++ As.drop n) : Sep G W Bs w := by
  subst hB
  simp only [Bool.and_eq_true, List.all_eq_true, List.mem_range] at hok
  obtain ⟨hlt, hu⟩ := hok
  have hlt' : ∀ i, i < idx.length → idx.getD i 0 < n := fun i hi => by
    have := hlt _ (List.getElem_mem hi)
    rw [getD_at _ hi]
    simpa [Nat.blt_eq] using this
  have hu' : ∀ i j, i < idx.length → j < i → idx.getD i 0 ≠ idx.getD j 0 := fun i j hi hj e => by
    have := hu i hi j hj
    rw [e] at this
    simp at this
  obtain ⟨fs, h1, h2⟩ := h.parts
  have key : ∀ i, i < (idx.map (fun i => As.getD i Emp) ++ As.drop n).length → (if i < idx.length then idx.getD i 0 else n + (i - idx.length)) < As.length ∧
      (idx.map (fun i => As.getD i Emp) ++ As.drop n)[i]? = As[if i < idx.length then idx.getD i 0 else n + (i - idx.length)]? := by
    intro i hi
    simp only [List.length_append, List.length_map, List.length_drop] at hi
    by_cases h3 : i < idx.length
    · simp only [if_pos h3]
      have h4 := hlt' i h3
      refine ⟨by omega, ?_⟩
      rw [List.getElem?_append_left (by simpa using h3), List.getElem?_map, List.getElem?_eq_getElem h3, Option.map_some]
      rw [getD_at _ h3] at h4 ⊢
      rw [getD_at _ (by omega), ← List.getElem?_eq_getElem]
    · simp only [if_neg h3]
      refine ⟨by omega, ?_⟩
      rw [List.getElem?_append_right (by simpa using h3), List.getElem?_drop, List.length_map]
  refine ⟨h.kept, fun i => fs (if i < idx.length then idx.getD i 0 else n + (i - idx.length)), fun i C hC => ?_, fun i j hi hj hne => ?_⟩
  · have hi := (List.getElem?_eq_some_iff.1 hC).1
    rw [(key i hi).2] at hC
    exact h1 _ C hC
  · refine h2 _ _ (key i hi).1 (key j hj).1 ?_
    by_cases h3 : i < idx.length <;> by_cases h4 : j < idx.length
    · rw [if_pos h3, if_pos h4]
      rcases Nat.lt_trichotomy i j with h5 | h5 | h5
      · exact fun e => hu' j i h4 h5 e.symm
      · exact (hne h5).elim
      · exact hu' i j h3 h5
    · rw [if_pos h3, if_neg h4]
      have := hlt' i h3
      omega
    · rw [if_neg h3, if_pos h4]
      have := hlt' j h4
      omega
    · rw [if_neg h3, if_neg h4]; omega

/-- Parts that stand together as one. -/
def Star (Bs : List HP) : HP where
  p w f := ∃ fs : Nat → Nat → Prop, (∀ i A, Bs[i]? = some A → A.p w (fs i) ∧ ∀ b, fs i b → f b ∧ b < w.heap.size) ∧ ∀ i j, i < Bs.length → j < Bs.length → i ≠ j → ∀ b, fs i b → ¬ fs j b
  loc := by
    intro w w' f f' ⟨fs, h1, h2⟩ hf
    refine ⟨fs, fun i A hA => ?_, h2⟩
    obtain ⟨h3, h4⟩ := h1 i A hA
    refine ⟨A.loc h3 (fun b hb hlt => ⟨(hf b (h4 b hb).1 hlt).1, hb⟩), fun b hb => ⟨(hf b (h4 b hb).1 (h4 b hb).2).2, ?_⟩⟩
    have := (hf b (h4 b hb).1 (h4 b hb).2).1
    rw [Array.getElem?_eq_getElem (h4 b hb).2] at this
    exact (Array.getElem?_eq_some_iff.1 this).1
theorem Sep.openStar (h : Sep G W (Star Bs :: As) w) : Sep G W (Bs ++ As) w := by
  obtain ⟨fs, h1, h2⟩ := h.parts
  obtain ⟨⟨gs, g1, g2⟩, hl⟩ := h1 0 _ rfl
  refine ⟨h.kept, fun i => if i < Bs.length then gs i else fs (i - Bs.length + 1), fun i A hA => ?_, fun i j hi hj hne b hb => ?_⟩
  · by_cases hi : i < Bs.length
    · rw [List.getElem?_append_left hi] at hA
      simp only [if_pos hi]
      obtain ⟨h3, h4⟩ := g1 i A hA
      exact ⟨h3, fun b hb => hl b (h4 b hb).1⟩
    · rw [List.getElem?_append_right (by omega)] at hA
      simp only [if_neg hi]
      exact h1 (i - Bs.length + 1) A (by simpa using hA)
  · simp only [List.length_append] at hi hj
    simp only [] at hb ⊢
    by_cases h3 : i < Bs.length <;> by_cases h4 : j < Bs.length
    · rw [if_pos h3] at hb; rw [if_pos h4]; exact g2 i j h3 h4 hne b hb
    · rw [if_pos h3] at hb; rw [if_neg h4]
      have := ((g1 i _ (List.getElem?_eq_getElem h3)).2 b hb).1
      exact h2 0 (j - Bs.length + 1) (by simp) (by simp; omega) (by omega) b this
    · rw [if_neg h3] at hb; rw [if_pos h4]
      intro hb2
      have := ((g1 j _ (List.getElem?_eq_getElem h4)).2 b hb2).1
      exact h2 (i - Bs.length + 1) 0 (by simp; omega) (by simp) (by omega) b hb this
    · rw [if_neg h3] at hb; rw [if_neg h4]
      exact h2 _ _ (by simp; omega) (by simp; omega) (by omega) b hb
theorem Sep.closeStar (h : Sep G W (Bs ++ As) w) : Sep G W (Star Bs :: As) w := by
  obtain ⟨fs, h1, h2⟩ := h.parts
  have hB : ∀ i A, Bs[i]? = some A → A.p w (fs i) ∧ ∀ b, fs i b → ¬ G b ∧ b < w.heap.size := fun i A hA => h1 i A (by rw [List.getElem?_append_left (List.getElem?_eq_some_iff.1 hA).1]; exact hA)
  refine ⟨h.kept, fun i b => match i with | 0 => ∃ j, j < Bs.length ∧ fs j b | i + 1 => fs (i + Bs.length) b, fun i A hA => ?_, fun i j hi hj hne b hb => ?_⟩
  · cases i with
    | zero =>
      simp only [List.getElem?_cons_zero, Option.some.injEq] at hA
      subst hA
      refine ⟨⟨fs, fun i A hA => ⟨(hB i A hA).1, fun b hb => ⟨⟨i, (List.getElem?_eq_some_iff.1 hA).1, hb⟩, ((hB i A hA).2 b hb).2⟩⟩, fun i j hi hj hne => h2 i j (by simp; omega) (by simp; omega) hne⟩, ?_⟩
      rintro b ⟨j, hj, hb⟩
      exact (hB j _ (List.getElem?_eq_getElem hj)).2 b hb
    | succ i => exact h1 (i + Bs.length) A (by rw [List.getElem?_append_right (by omega)]; simpa using hA)
  · simp only [List.length_cons] at hi hj
    cases i with
    | zero =>
      obtain ⟨k, hk, hb⟩ := hb
      cases j with
      | zero => exact (hne rfl).elim
      | succ j => exact h2 k (j + Bs.length) (by simp; omega) (by simp; omega) (by omega) b hb
    | succ i =>
      cases j with
      | zero => rintro ⟨k, hk, hb2⟩; exact h2 (i + Bs.length) k (by simp; omega) (by simp; omega) (by omega) b hb hb2
      | succ j => exact h2 _ _ (by simp; omega) (by simp; omega) (by omega) b hb

def Ex1 {X : Type} (A : X → HP) : HP := ⟨fun w f => ∃ x, (A x).p w f, fun ⟨x, h⟩ hf => ⟨x, (A x).loc h hf⟩⟩
theorem Sep.openEx {X : Type} {A : X → HP} (h : Sep G W (Ex1 A :: As) w) : ∃ x, Sep G W (A x :: As) w := by
  obtain ⟨fs, h1, h2⟩ := h.parts
  obtain ⟨⟨x, hx⟩, hl⟩ := h1 0 _ rfl
  refine ⟨x, h.kept, fs, fun i C hC => ?_, h2⟩
  cases i with
  | zero => simp only [List.getElem?_cons_zero, Option.some.injEq] at hC; subst hC; exact ⟨hx, hl⟩
  | succ i => exact h1 (i + 1) C (by simpa using hC)
theorem Sep.closeEx {X : Type} {A : X → HP} (x : X) (h : Sep G W (A x :: As) w) : Sep G W (Ex1 A :: As) w := h.impl (i := 0) rfl (fun _ h => ⟨x, h⟩)
def And1 (q : Prop) (A : HP) : HP := ⟨fun w f => q ∧ A.p w f, fun ⟨x, h⟩ hf => ⟨x, A.loc h hf⟩⟩
theorem Sep.openAnd {q : Prop} (h : Sep G W (And1 q A :: As) w) : q ∧ Sep G W (A :: As) w := by
  obtain ⟨f, ⟨hq, _⟩, _⟩ := h.get (i := 0) rfl
  exact ⟨hq, h.impl (i := 0) rfl (fun _ h => h.2)⟩
theorem Sep.closeAnd {q : Prop} (hq : q) (h : Sep G W (A :: As) w) : Sep G W (And1 q A :: As) w := h.impl (i := 0) rfl (fun _ h => ⟨hq, h⟩)

/-- The first part is lent: for a while it is shared. -/
theorem Sep.lend (h : Sep G W (A :: As) w) : ∃ G' : Nat → Prop, A.p w G' ∧ Base G W G' w ∧ Sep G' w As w ∧ ∀ Cs w', Sep G' w Cs w' → Sep G W (A :: Cs) w' := by
  obtain ⟨fs, h1, h2⟩ := h.parts
  obtain ⟨hA, hl⟩ := h1 0 A rfl
  refine ⟨fun b => G b ∨ fs 0 b, A.weak hA (fun b hb _ => .inr hb), fun b hb hlt => ⟨(h.kept.keep b hb).2, .inl hb⟩, ⟨Kept.refl (fun b hb => ?_), fun i => fs (i + 1), fun i C hC => ?_, fun i j hi hj hne => ?_⟩, fun Cs w' hC => ?_⟩
  · rcases hb with hb | hb
    · have := (h.kept.keep b hb).1; have := h.kept.size; omega
    · exact (hl b hb).2
  · obtain ⟨h3, h4⟩ := h1 (i + 1) C (by simpa using hC)
    have hi := (List.getElem?_eq_some_iff.1 hC).1
    exact ⟨h3, fun b hb => ⟨fun hg => hg.elim (h4 b hb).1 (fun h0 => h2 0 (i + 1) (by simp) (by simp; omega) (by omega) b h0 hb), (h4 b hb).2⟩⟩
  · exact h2 _ _ (by simp; omega) (by simp; omega) (by omega)
  · obtain ⟨gs, g1, g2⟩ := hC.parts
    have hkA : ∀ b, fs 0 b → w'.heap[b]? = w.heap[b]? := fun b hb => (hC.kept.keep b (.inr hb)).2
    refine ⟨⟨hC.kept.os.trans h.kept.os, hC.kept.tape.trans h.kept.tape, hC.kept.output.trans h.kept.output, Nat.le_trans h.kept.size hC.kept.size, Nat.le_trans h.kept.drawn hC.kept.drawn, fun b hb => ⟨(h.kept.keep b hb).1, ((hC.kept.keep b (.inl hb)).2).trans (h.kept.keep b hb).2⟩⟩,
      fun i b => match i with | 0 => fs 0 b | i + 1 => gs i b, fun i D hD => ?_, fun i j hi hj hne b hb => ?_⟩
    · cases i with
      | zero =>
        simp only [List.getElem?_cons_zero, Option.some.injEq] at hD
        subst hD
        exact ⟨A.loc hA (fun b hb _ => ⟨hkA b hb, hb⟩), fun b hb => ⟨(hl b hb).1, Nat.lt_of_lt_of_le (hl b hb).2 hC.kept.size⟩⟩
      | succ i =>
        obtain ⟨h3, h4⟩ := g1 i D (by simpa using hD)
        exact ⟨h3, fun b hb => ⟨fun hg => (h4 b hb).1 (.inl hg), (h4 b hb).2⟩⟩
    · simp only [List.length_cons] at hi hj
      have old : ∀ j, j < Cs.length → ∀ b, gs j b → ¬ fs 0 b := fun j hj b hb h0 => ((g1 j _ (List.getElem?_eq_getElem hj)).2 b hb).1 (.inr h0)
      cases i with
      | zero =>
        cases j with
        | zero => exact (hne rfl).elim
        | succ j => exact fun hb2 => old j (by omega) b hb2 hb
      | succ i =>
        cases j with
        | zero => exact old i (by omega) b hb
        | succ j => exact g2 i j (by omega) (by omega) (by omega) b hb
theorem Sep.gb (h : Sep G W As w) {b : Nat} (hb : G b) : w.heap[b]? = W.heap[b]? := (h.kept.keep b hb).2
theorem Sep.cells (h : Sep G W As w) {b o : Nat} {cs : List Value} (hc : CellsAt W b o cs) (hb : G b) : CellsAt w b o cs := hc.mono (fun _ => h.gb hb)
theorem Sep.rds {α : Type} [Rep α] (h : Sep G W As w) {v : Value} {l : List α} (hr : RdS W G v l) : RdS w G v l := hr.mono (fun b hb _ => ⟨h.gb hb, hb⟩)
theorem Sep.now (h : Sep G W As w) : Base G W G w := fun b hb _ => ⟨h.gb hb, hb⟩

/-- A block. -/
def Blk (b : Nat) (c : Array Value) (T : TypeId) : HP := ⟨fun w f => w.heap[b]? = some (.cells c T) ∧ f b, fun ⟨h1, h2⟩ hf => ⟨((hf b h2 (blk_lt h1)).1).trans h1, (hf b h2 (blk_lt h1)).2⟩⟩
theorem Sep.new (h : Sep G W As w) {b : Nat} {c : Array Value} {T : TypeId} (hn : New w w' b (.cells c T)) : Sep G W (Blk b c T :: As) w' := h.push hn.ext (f := fun i => i = b) ⟨hn.at_, rfl⟩ (fun i hi => by have := hn.eq; omega)
theorem Sep.blk (h : Sep G W As w) {i b : Nat} {c : Array Value} {T : TypeId} (hi : As[i]? = some (Blk b c T)) : w.heap[b]? = some (.cells c T) := by
  obtain ⟨f, h1, _⟩ := h.get hi; exact h1.1
theorem Sep.put (h : Sep G W As w) {i b : Nat} {c c' : Array Value} {T : TypeId} (hi : As[i]? = some (Blk b c T)) (hp : Put w w' b c' T) : Sep G W (As.set i (Blk b c' T)) w' :=
  h.upd hi (fun f hA _ => ⟨hp.chg.weak (fun j _ hj => by subst hj; exact hA.2), f, ⟨hp.at_, hA.2⟩, fun _ hb => .inl hb⟩)
theorem ne_of_lt {α : Type} {l : List α} {i : Nat} (h : i < l.length) : l ≠ [] := fun e => by rw [e] at h; exact absurd h (Nat.not_lt_zero i)
/-- A part with nothing behind the first one. -/
theorem Sep.emp1 (h : Sep G W (A :: As) w) : Sep G W (A :: Emp :: As) w := h.emp.sel 2 [1, 0] (Nat.le_add_left _ _) rfl rfl
/-- A block that is shared, as it is now. -/
theorem Sep.gblk (h : Sep G W As w) {b : Nat} {c : Array Value} {T : TypeId} (hb : (Blk b c T).p W G) : w.heap[b]? = some (.cells c T) := (h.gb hb.2).trans hb.1
theorem Blk.base {G' : Nat → Prop} {W' : World} {b : Nat} {c : Array Value} {T : TypeId} (h : (Blk b c T).p W G) (hb : Base G W G' W') : (Blk b c T).p W' G' := (Blk b c T).loc h hb
theorem Sep.apart2 (h : Sep G W As w) {i j : Nat} (hi : As[i]? = some A) (hj : As[j]? = some B) (hne : i ≠ j) : ∃ f g, A.p w f ∧ B.p w g ∧ (∀ b, f b → ¬ g b) ∧ (∀ b, f b → b < w.heap.size) ∧ ∀ b, g b → b < w.heap.size := by
  obtain ⟨fs, h1, h2⟩ := h.parts
  exact ⟨_, _, (h1 i A hi).1, (h1 j B hj).1, h2 i j (List.getElem?_eq_some_iff.1 hi).1 (List.getElem?_eq_some_iff.1 hj).1 hne, fun b hb => ((h1 i A hi).2 b hb).2, fun b hb => ((h1 j B hj).2 b hb).2⟩
/-- A block that is shared. -/
theorem Blk.rd {b : Nat} {c : Array Value} {T : TypeId} (h : (Blk b c T).p W G) : W.heap[b]? = some (.cells c T) ∧ G b := h
end
end Go.Proofs.Ytgjgmojjeehieaa
