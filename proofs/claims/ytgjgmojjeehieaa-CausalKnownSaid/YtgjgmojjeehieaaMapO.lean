/- Maps with structs as keys, each value with memory of its own. -/
import Derived.Test.YtgjgmojjeehieaaMapV
set_option linter.unusedSimpArgs false
set_option linter.unusedVariables false
set_option linter.unusedSectionVars false
namespace Go.Proofs.Ytgjgmojjeehieaa
open Go.RowKit Go.MapKept

section
variable {κ β : Type} [DecidableEq κ]
theorem lookV_append {L : List (κ × β)} {k q : κ} {v : β} : lookV (L ++ [(k, v)]) q = (lookV L q).or (if k = q then some v else none) := by
  unfold lookV
  rw [List.find?_append]
  cases h : L.find? fun p => decide (p.1 = q) with
  | some p => simp
  | none => by_cases e : k = q <;> simp [List.find?, e]
theorem lookV_none_of {L : List (κ × β)} {k : κ} (h : (L.findIdx? fun p => decide (p.1 = k)) = none) : lookV L k = none := by
  rw [List.findIdx?_eq_none_iff] at h
  unfold lookV
  rw [Option.map_eq_none_iff, List.find?_eq_none]
  intro p hp
  simp [h p hp]
theorem lookV_set {L : List (κ × β)} {k q : κ} {v : β} {j : Nat} {p : κ × β} (hj : L[j]? = some p) (hp : p.1 = k) (hf : ∀ i, i < j → ∀ r, L[i]? = some r → r.1 ≠ k) : lookV (L.set j (k, v)) q = if k = q then some v else lookV L q := by
  induction L generalizing j with
  | nil => simp at hj
  | cons a L ih =>
    cases j with
    | zero =>
      simp only [List.getElem?_cons_zero, Option.some.injEq] at hj
      subst hj
      unfold lookV
      by_cases e : k = q
      · subst e; simp
      · simp [e, hp]
    | succ j =>
      have h1 := ih (j := j) (by simpa using hj) (fun i hi r hr => hf (i + 1) (by omega) r (by simpa using hr))
      have h0 := hf 0 (by omega) a rfl
      unfold lookV at h1 ⊢
      rw [List.set_cons_succ, List.find?_cons, List.find?_cons]
      by_cases e : a.1 = q
      · have : ¬ k = q := fun e2 => h0 (by rw [e, e2])
        simp [e, this]
      · simp only [e, decide_false]
        exact h1
theorem findIdx_first {L : List (κ × β)} {k : κ} {j : Nat} (h : (L.findIdx? fun p => decide (p.1 = k)) = some j) : (∃ p, L[j]? = some p ∧ p.1 = k) ∧ ∀ i, i < j → ∀ r, L[i]? = some r → r.1 ≠ k := by
  rw [List.findIdx?_eq_some_iff_getElem] at h
  obtain ⟨hj, h1, h2⟩ := h
  refine ⟨⟨L[j], List.getElem?_eq_getElem hj, by simpa using h1⟩, fun i hi r hr => ?_⟩
  have := h2 i hi
  obtain ⟨hil, e⟩ := List.getElem?_eq_some_iff.1 hr
  rw [← e]; simpa using this
theorem lookV_updV (L : List (κ × β)) (k q : κ) (v : β) : lookV (updV L k v) q = if k = q then some v else lookV L q := by
  unfold updV
  split
  · rename_i j hj
    obtain ⟨⟨p, h1, h2⟩, h3⟩ := findIdx_first hj
    exact lookV_set h1 h2 h3
  · rename_i hj
    rw [lookV_append]
    by_cases e : k = q
    · subst e; rw [lookV_none_of hj]; simp
    · simp [e]
theorem lookV_entV_ne (L : List (κ × β)) (k q : κ) (z : β) (h : ¬ k = q) : lookV (entV L k z) q = lookV L q := by
  unfold entV
  split
  · rfl
  · rw [lookV_append]; simp [h]
end

def updF {κ α : Type} [DecidableEq κ] (X : κ → Option α) (k : κ) (x : α) : κ → Option α := fun q => if k = q then some x else X q

section
variable {κ α : Type} [DecidableEq κ]
def ValAt (E : Value → α → HP) (w : World) (F : Nat → Prop) : Option Value → Option α → Prop
  | some v, some x => (E v x).p w F
  | none, none => True
  | _, _ => False
theorem ValAt.loc {E : Value → α → HP} {w w' : World} {F F' : Nat → Prop} : ∀ {v : Option Value} {x : Option α}, ValAt E w F v x → (∀ b, F b → b < w.heap.size → w'.heap[b]? = w.heap[b]? ∧ F' b) → ValAt E w' F' v x
  | some v, some x, h, hf => (E v x).loc h hf
  | none, none, _, _ => trivial
  | some _, none, h, _ => h.elim
  | none, some _, h, _ => h.elim
theorem ValAt.isSome {E : Value → α → HP} {w : World} {F : Nat → Prop} : ∀ {v : Option Value} {x : Option α}, ValAt E w F v x → v.isSome = x.isSome
  | some _, some _, _ => rfl
  | none, none, _ => rfl
  | some _, none, h => h.elim
  | none, some _, h => h.elim
/-- Where the values' memory lies: apart, and not at the map's own block. -/
structure Spread (w : World) (m : Nat) (f : Nat → Prop) (g : κ → Nat → Prop) : Prop where
  sub : ∀ k b, g k b → f b ∧ b < w.heap.size ∧ b ≠ m
  apart : ∀ k k', k ≠ k' → ∀ b, g k b → ¬ g k' b
theorem Spread.loc {w w' : World} {m : Nat} {f f' : Nat → Prop} {g : κ → Nat → Prop} (h : Spread w m f g) (hf : ∀ b, f b → b < w.heap.size → w'.heap[b]? = w.heap[b]? ∧ f' b) : Spread w' m f' g :=
  ⟨fun k b hb => ⟨(hf b (h.sub k b hb).1 (h.sub k b hb).2.1).2, by
    obtain ⟨h1, h2, _⟩ := h.sub k b hb
    have := (hf b h1 h2).1
    rw [Array.getElem?_eq_getElem h2] at this
    exact (Array.getElem?_eq_some_iff.1 this).1, (h.sub k b hb).2.2⟩, h.apart⟩
theorem Spread.loc2 {w w' : World} {m : Nat} {f : Nat → Prop} {g : κ → Nat → Prop} (h : Spread w m f g) (hz : w.heap.size ≤ w'.heap.size) : Spread w' m f g := ⟨fun k b hb => ⟨(h.sub k b hb).1, Nat.lt_of_lt_of_le (h.sub k b hb).2.1 hz, (h.sub k b hb).2.2⟩, h.apart⟩
/-- Block m is a map whose values are X. -/
def MapO (enc : κ → Value) (E : Value → α → HP) (m : Nat) (X : κ → Option α) : HP := ⟨fun w f => ∃ (R : List (κ × Value)) (g : κ → Nat → Prop), f m ∧ IsMap enc w m R ∧ (∀ k, ValAt E w (g k) (lookV R k) (X k)) ∧ Spread w m f g, fun {w w' f f'} h hf => by
  obtain ⟨R, g, hm, ⟨es, c, hb, r⟩, hv, hs⟩ := h
  exact ⟨R, g, (hf m hm (blk_lt hb)).2, ⟨es, c, ((hf m hm (blk_lt hb)).1).trans hb, r⟩, fun k => (hv k).loc (fun b hg hlt => ⟨(hf b (hs.sub k b hg).1 hlt).1, hg⟩), hs.loc hf⟩⟩
/-- The same, the value of a key out of it. -/
def MapO1 (enc : κ → Value) (E : Value → α → HP) (z : Value) (m : Nat) (X : κ → Option α) (k : κ) (v : Value) : HP := ⟨fun w f => ∃ (R : List (κ × Value)) (g : κ → Nat → Prop), f m ∧ IsMap enc w m R ∧ (lookV R k).getD z = v ∧ (lookV R k).isSome = (X k).isSome ∧ (∀ q, q ≠ k → ValAt E w (g q) (lookV R q) (X q)) ∧ Spread w m f g, fun {w w' f f'} h hf => by
  obtain ⟨R, g, hm, ⟨es, c, hb, r⟩, h1, h2, hv, hs⟩ := h
  exact ⟨R, g, (hf m hm (blk_lt hb)).2, ⟨es, c, ((hf m hm (blk_lt hb)).1).trans hb, r⟩, h1, h2, fun q hq => (hv q hq).loc (fun b hg hlt => ⟨(hf b (hs.sub q b hg).1 hlt).1, hg⟩), hs.loc hf⟩⟩
/-- The same, its entry there, of a stamp. -/
def MapO2 (enc : κ → Value) (E : Value → α → HP) (m : Nat) (X : κ → Option α) (k : κ) (s : Int) : HP := ⟨fun w f => ∃ (R : List (κ × Value)) (g : κ → Nat → Prop) (j : Nat), f m ∧ IsMapE enc w m R j s ∧ (∀ v q, lookV (R.set j (k, v)) q = if k = q then some v else lookV R q) ∧ (∃ p, R[j]? = some p ∧ p.1 = k) ∧ (∀ q, q ≠ k → ValAt E w (g q) (lookV R q) (X q)) ∧ Spread w m f g, fun {w w' f f'} h hf => by
  obtain ⟨R, g, j, hm, ⟨es, c, hb, r⟩, h1, h2, hv, hs⟩ := h
  exact ⟨R, g, j, (hf m hm (blk_lt hb)).2, ⟨es, c, ((hf m hm (blk_lt hb)).1).trans hb, r⟩, h1, h2, fun q hq => (hv q hq).loc (fun b hg hlt => ⟨(hf b (hs.sub q b hg).1 hlt).1, hg⟩), hs.loc hf⟩⟩
/-- A key's value's memory. -/
def KVal (E : Value → α → HP) (v : Value) : Option α → HP
  | some x => E v x
  | none => Emp
end

section
variable {κ α : Type} [DecidableEq κ] {enc : κ → Value} {E : Value → α → HP} {z : Value} {m : Nat} {X : κ → Option α} {k : κ} {v : Value} {G : Nat → Prop} {W w : World} {As : List HP}
theorem Sep.mapoNew {w' : World} (h : Sep G W As w) (hn : New w w' w.heap.size (.map #[] 0)) : Sep G W (MapO enc E w.heap.size (fun _ : κ => (none : Option α)) :: As) w' :=
  h.push hn.ext (f := fun i => i = w.heap.size) ⟨[], fun _ _ => False, rfl, ⟨#[], 0, hn.at_, stamped_empty 0, rfl, rfl⟩, fun _ => trivial, ⟨fun _ _ h => h.elim, fun _ _ _ _ h => h.elim⟩⟩ (fun i hi => by omega)
theorem Sep.mapoTake (h : Sep G W (MapO enc E m X :: As) w) (z : Value) (k : κ) : ∃ v, (X k = none → v = z) ∧ Sep G W (MapO1 enc E z m X k v :: KVal E v (X k) :: As) w := by
  obtain ⟨fs, q1, q2⟩ := h.parts
  obtain ⟨⟨R, g, hm, hM, hv, hs⟩, hl⟩ := q1 0 _ rfl
  refine ⟨(lookV R k).getD z, fun hx => ?_, ?_⟩
  · have := (hv k).isSome
    rw [hx] at this
    cases hR : lookV R k with
    | none => rfl
    | some u => rw [hR] at this; cases this
  · have h1 : Sep G W (Star [MapO1 enc E z m X k ((lookV R k).getD z), KVal E ((lookV R k).getD z) (X k)] :: As) w := by
      refine ⟨h.kept, fs, fun i C hC => ?_, fun i j hi hj => q2 i j (by simpa using hi) (by simpa using hj)⟩
      cases i with
      | succ i => exact q1 (i + 1) C (by simpa using hC)
      | zero =>
        simp only [List.getElem?_cons_zero, Option.some.injEq] at hC
        subst hC
        refine ⟨⟨fun i b => if i = 0 then fs 0 b ∧ ¬ g k b ∧ b < w.heap.size else g k b, fun i C hC => ?_, fun i j hi hj hne b hb => ?_⟩, hl⟩
        · match i, hC with
          | 0, hC =>
            simp only [List.getElem?_cons_zero, Option.some.injEq] at hC
            subst hC
            refine ⟨⟨R, fun q b => if q = k then False else g q b, ⟨hm, fun hg => (hs.sub k m hg).2.2 rfl, hM.lt⟩, hM, rfl, (hv k).isSome, fun q hq => ?_, ⟨fun q b hb => ?_, fun q q' hne b hb hb' => ?_⟩⟩, fun b hb => ⟨hb.1, hb.2.2⟩⟩
            · simp only [if_neg hq]; exact hv q
            · by_cases e : q = k
              · rw [if_pos e] at hb; exact hb.elim
              · rw [if_neg e] at hb
                have := hs.sub q b hb
                exact ⟨⟨this.1, fun h9 => hs.apart q k e b hb h9, this.2.1⟩, this.2.1, this.2.2⟩
            · by_cases e : q = k
              · rw [if_pos e] at hb; exact hb.elim
              · by_cases e' : q' = k
                · rw [if_pos e'] at hb'; exact hb'.elim
                · rw [if_neg e] at hb; rw [if_neg e'] at hb'; exact hs.apart q q' hne b hb hb'
          | 1, hC =>
            simp only [List.getElem?_cons_succ, List.getElem?_cons_zero, Option.some.injEq] at hC
            subst hC
            refine ⟨?_, fun b hb => ⟨(hs.sub k b hb).1, (hs.sub k b hb).2.1⟩⟩
            have := hv k
            cases hR : lookV R k with
            | none =>
              rw [hR] at this
              cases hX : X k with
              | none => exact trivial
              | some x => rw [hX] at this; exact this.elim
            | some u =>
              rw [hR] at this
              cases hX : X k with
              | none => rw [hX] at this; exact this.elim
              | some x => rw [hX] at this; exact this
          | i + 2, hC => simp at hC
        · simp only [List.length_cons, List.length_nil] at hi hj
          match i, j, hb with
          | 0, 0, _ => exact absurd rfl hne
          | 0, 1, hb => exact hb.2.1
          | 1, 0, hb => exact fun h9 => h9.2.1 hb
          | 1, 1, _ => exact absurd rfl hne
          | i + 2, _, _ => omega
          | 0, j + 2, _ => omega
          | 1, j + 2, _ => omega
    exact h1.openStar
theorem spread_add {f : Nat → Prop} {g : κ → Nat → Prop} {f0 f1 : Nat → Prop} {w1 : World} (hs : Spread w m f0 g) (h0 : ∀ b, f0 b → f b ∧ b < w.heap.size) (h1 : ∀ b, f1 b → f b ∧ b < w.heap.size) (hd : ∀ b, f0 b → ¬ f1 b) (hm : f0 m) (hz : w.heap.size ≤ w1.heap.size) : Spread w1 m f (fun q b => if q = k then f1 b else g q b) := by
  refine ⟨fun q b hb => ?_, fun q q' hne b hb hb' => ?_⟩
  · by_cases e : q = k
    · simp only [if_pos e] at hb
      exact ⟨(h1 b hb).1, Nat.lt_of_lt_of_le (h1 b hb).2 hz, fun e2 => hd m hm (e2 ▸ hb)⟩
    · simp only [if_neg e] at hb
      have := hs.sub q b hb
      exact ⟨(h0 b this.1).1, Nat.lt_of_lt_of_le this.2.1 hz, this.2.2⟩
  · by_cases e : q = k
    · simp only [if_pos e] at hb
      have e' : ¬ q' = k := fun e2 => hne (e.trans e2.symm)
      simp only [if_neg e'] at hb'
      exact hd b (hs.sub q' b hb').1 hb
    · simp only [if_neg e] at hb
      by_cases e' : q' = k
      · simp only [if_pos e'] at hb'
        exact hd b (hs.sub q b hb).1 hb'
      · simp only [if_neg e'] at hb'
        exact hs.apart q q' hne b hb hb'
/-- The value goes back. -/
theorem Sep.mapoPut (h : Sep G W (MapO1 enc E z m X k v :: KVal E v (X k) :: As) w) : Sep G W (MapO enc E m X :: As) w := by
  have hst := h.closeStar (Bs := [MapO1 enc E z m X k v, KVal E v (X k)])
  refine hst.impl (i := 0) rfl (fun f hA => ?_)
  obtain ⟨gs, r1, r2⟩ := hA
  obtain ⟨⟨R, g, hm, hM, hz, hi, hv, hs⟩, hf0⟩ := r1 0 _ rfl
  obtain ⟨hN, hf1⟩ := r1 1 _ rfl
  have r2' := r2 0 1 (by simp) (by simp) (by simp)
  refine ⟨R, fun q b => if q = k then gs 1 b else g q b, (hf0 m hm).1, hM, fun q => ?_, spread_add hs hf0 hf1 r2' hm (Nat.le_refl _)⟩
  by_cases e : q = k
  · subst e
    simp only [if_true]
    cases hR : lookV R q with
    | none =>
      rw [hR] at hi
      cases hX : X q with
      | none => exact trivial
      | some x => rw [hX] at hi; cases hi
    | some u =>
      rw [hR] at hi hz
      cases hX : X q with
      | none => rw [hX] at hi; cases hi
      | some x => rw [hX] at hN; simp only [Option.getD_some] at hz; subst hz; exact hN
  · simp only [if_neg e]
    exact hv q e
theorem Sep.mapo1 (h : Sep G W As w) {i : Nat} (hi : As[i]? = some (MapO1 enc E z m X k v)) : ∃ R, IsMap enc w m R ∧ (lookV R k).getD z = v ∧ (lookV R k).isSome = (X k).isSome := by
  obtain ⟨f, ⟨R, g, hm, hM, hz, hi, _⟩, _⟩ := h.get hi; exact ⟨R, hM, hz, hi⟩
end

section
variable {P : Program} {d : Option Tmp} {ty : TypeId} {pos : String} {af : Array Edge} {gd : Option (Nat × Bool)} {σ : Env} {w : World} {K : Value → World → Prop} {κ α : Type} [DecidableEq κ] {enc : κ → Value} {E : Value → α → HP} {z : Value} {m : Nat} {X : κ → Option α} {k : κ} {v : Value} {G : Nat → Prop} {W : World} {As : List HP}
theorem ov_lookupO {t kt et : TypeId} {x y : Operand} {i : Nat} (h : Sep G W As w) (hi : As[i]? = some (MapO1 enc E z m X k v)) (hK : KLaw P kt enc) (hU : P.underlying t = some (.map kt et)) (hZ : ∀ w, (zeroValue et).run P w = .ok z w)
    (hx : ev σ x = .map (some m)) (hy : ev σ y = enc k) (hk : K v w) : opV P ⟨d, .lookup t x y false, ty, pos, af, gd⟩ σ w K := by
  obtain ⟨R, hM, e, _⟩ := h.mapo1 hi
  exact ov_lookupV hK hU hZ hx hy hM (by rw [e]; exact hk)
theorem ov_lookupO2 {t kt et : TypeId} {x y : Operand} {i : Nat} (h : Sep G W As w) (hi : As[i]? = some (MapO1 enc E z m X k v)) (hK : KLaw P kt enc) (hU : P.underlying t = some (.map kt et)) (hZ : ∀ w, (zeroValue et).run P w = .ok z w)
    (hx : ev σ x = .map (some m)) (hy : ev σ y = enc k) (hk : K (.tuple #[v, .bool (X k).isSome]) w) : opV P ⟨d, .lookup t x y true, ty, pos, af, gd⟩ σ w K := by
  obtain ⟨R, hM, e, e2⟩ := h.mapo1 hi
  exact ov_lookupV2 hK hU hZ hx hy hM (by rw [e, e2]; exact hk)
theorem ov_mapUpdateO {t kt et : TypeId} {x y u : Operand} {v' : Value} {x' : α} (h : Sep G W (MapO1 enc E z m X k v :: E v' x' :: As) w) (hK : KLaw P kt enc) (hU : P.underlying t = some (.map kt et)) (hx : ev σ x = .map (some m)) (hy : ev σ y = enc k) (hu : ev σ u = v')
    (hk : ∀ w1, Sep G W (MapO enc E m (updF X k x') :: As) w1 → K undef w1) : opV P ⟨d, .mapUpdate t x y u, ty, pos, af, gd⟩ σ w K := by
  have hst := h.closeStar (Bs := [MapO1 enc E z m X k v, E v' x'])
  obtain ⟨ff, q1, q2⟩ := hst.parts
  obtain ⟨⟨gs, r1, r2⟩, hl⟩ := q1 0 _ rfl
  obtain ⟨⟨R, g, hm, hM, hz, hi, hv, hs⟩, hf0⟩ := r1 0 _ rfl
  obtain ⟨hN, hf1⟩ := r1 1 _ rfl
  have r2' := r2 0 1 (by simp) (by simp) (by simp)
  refine ov_mapUpdateV hK hU hx hy hu hM (fun w1 hM1 hc => hk w1 ?_)
  have keep : ∀ b, b ≠ m → b < w.heap.size → w1.heap[b]? = w.heap[b]? := fun b hb hlt => hc.block b hlt hb
  have key : (MapO enc E m (updF X k x')).p w1 (ff 0) := by
    refine ⟨updV R k v', fun q b => if q = k then gs 1 b else g q b, (hf0 m hm).1, hM1, fun q => ?_, spread_add hs hf0 hf1 r2' hm hc.size⟩
    rw [lookV_updV]
    unfold updF
    by_cases e : q = k
    · subst e
      simp only [if_true]
      exact (E v' x').loc hN (fun b hb hlt => ⟨keep b (fun e2 => r2' m hm (e2 ▸ hb)) hlt, hb⟩)
    · simp only [if_neg e, if_neg (Ne.symm e)]
      exact (hv q e).loc (fun b hb hlt => ⟨keep b (hs.sub q b hb).2.2 hlt, hb⟩)
  refine ⟨hst.kept.chg hc (fun b hb => by subst hb; exact (hl _ (hf0 _ hm).1).1), ff, fun i C hC => ?_, fun i j hi hj => q2 i j (by simpa using hi) (by simpa using hj)⟩
  cases i with
  | zero =>
    simp only [List.getElem?_cons_zero, Option.some.injEq] at hC
    subst hC
    exact ⟨key, fun b hb => ⟨(hl b hb).1, Nat.lt_of_lt_of_le (hl b hb).2 hc.size⟩⟩
  | succ i =>
    obtain ⟨hp, hlp⟩ := q1 (i + 1) C (by simpa using hC)
    have hne : ∀ b, ff (i + 1) b → b ≠ m := fun b hb e2 => by
      subst e2
      exact q2 0 (i + 1) (by simp) (by have := (List.getElem?_eq_some_iff.1 hC).1; simpa using this) (by omega) _ (hf0 _ hm).1 hb
    exact ⟨C.loc hp (fun b hb hlt => ⟨keep b (hne b hb) hlt, hb⟩), fun b hb => ⟨(hlp b hb).1, Nat.lt_of_lt_of_le (hlp b hb).2 hc.size⟩⟩
theorem ov_mapEntryO {t kt et : TypeId} {x y : Operand} (h : Sep G W (MapO1 enc E z m X k v :: As) w) (hK : KLaw P kt enc) (hU : P.underlying t = some (.map kt et)) (hZ : ∀ w, (zeroValue et).run P w = .ok z w) (hx : ev σ x = .map (some m)) (hy : ev σ y = enc k)
    (hk : ∀ w1 s, Sep G W (MapO2 enc E m X k s :: As) w1 → K (.tuple #[v, .int .i64 s]) w1) : opV P ⟨d, .mapEntry t x y, ty, pos, af, gd⟩ σ w K := by
  obtain ⟨ff, q1, q2⟩ := h.parts
  obtain ⟨⟨R, g, hm, hM, hz, hi, hv, hs⟩, hl⟩ := q1 0 _ rfl
  refine ov_mapEntryV hK hU hZ hx hy hM (fun w1 j s hM1 hset hp hc => ?_)
  rw [hz]
  refine hk w1 s ?_
  have keep : ∀ b, b ≠ m → b < w.heap.size → w1.heap[b]? = w.heap[b]? := fun b hb hlt => hc.block b hlt hb
  have key : (MapO2 enc E m X k s).p w1 (ff 0) := by
    refine ⟨entV R k z, g, j, hm, hM1, fun u q => ?_, hp, fun q hq => ?_, hs.loc2 hc.size⟩
    · rw [hset u, lookV_updV]
      by_cases e : k = q
      · rw [if_pos e, if_pos e]
      · rw [if_neg e, if_neg e, lookV_entV_ne _ _ _ _ e]
    · rw [lookV_entV_ne _ _ _ _ (Ne.symm hq)]
      exact (hv q hq).loc (fun b hb hlt => ⟨keep b (hs.sub q b hb).2.2 hlt, hb⟩)
  refine ⟨h.kept.chg hc (fun b hb => by subst hb; exact (hl _ hm).1), ff, fun i C hC => ?_, fun i j hi hj => q2 i j (by simpa using hi) (by simpa using hj)⟩
  cases i with
  | zero =>
    simp only [List.getElem?_cons_zero, Option.some.injEq] at hC
    subst hC
    exact ⟨key, fun b hb => ⟨(hl b hb).1, Nat.lt_of_lt_of_le (hl b hb).2 hc.size⟩⟩
  | succ i =>
    obtain ⟨hp, hlp⟩ := q1 (i + 1) C (by simpa using hC)
    have hne : ∀ b, ff (i + 1) b → b ≠ m := fun b hb e2 => by
      subst e2
      exact q2 0 (i + 1) (by simp) (by have := (List.getElem?_eq_some_iff.1 hC).1; simpa using this) (by omega) _ hm hb
    exact ⟨C.loc hp (fun b hb hlt => ⟨keep b (hne b hb) hlt, hb⟩), fun b hb => ⟨(hlp b hb).1, Nat.lt_of_lt_of_le (hlp b hb).2 hc.size⟩⟩
theorem ov_entryStoreO {t : TypeId} {x y u : Operand} {s : Int} {v' : Value} {x' : α} (h : Sep G W (MapO2 enc E m X k s :: E v' x' :: As) w) (hx : ev σ x = .map (some m)) (hy : ev σ y = .int .i64 s) (hu : ev σ u = v')
    (hk : ∀ w1, Sep G W (MapO enc E m (updF X k x') :: As) w1 → K undef w1) : opV P ⟨d, .entryStore t x y u, ty, pos, af, gd⟩ σ w K := by
  have hst := h.closeStar (Bs := [MapO2 enc E m X k s, E v' x'])
  obtain ⟨ff, q1, q2⟩ := hst.parts
  obtain ⟨⟨gs, r1, r2⟩, hl⟩ := q1 0 _ rfl
  obtain ⟨⟨R, g, j, hm, hM, hset, ⟨p, hp, hpk⟩, hv, hs⟩, hf0⟩ := r1 0 _ rfl
  obtain ⟨hN, hf1⟩ := r1 1 _ rfl
  have r2' := r2 0 1 (by simp) (by simp) (by simp)
  refine ov_entryStoreV hx hy hu hM hp (fun w1 hM1 hc => hk w1 ?_)
  rw [hpk] at hM1
  have keep : ∀ b, b ≠ m → b < w.heap.size → w1.heap[b]? = w.heap[b]? := fun b hb hlt => hc.block b hlt hb
  have key : (MapO enc E m (updF X k x')).p w1 (ff 0) := by
    refine ⟨R.set j (k, v'), fun q b => if q = k then gs 1 b else g q b, (hf0 m hm).1, hM1, fun q => ?_, spread_add hs hf0 hf1 r2' hm hc.size⟩
    rw [hset v' q]
    unfold updF
    by_cases e : q = k
    · subst e
      simp only [if_true]
      exact (E v' x').loc hN (fun b hb hlt => ⟨keep b (fun e2 => r2' m hm (e2 ▸ hb)) hlt, hb⟩)
    · simp only [if_neg e, if_neg (Ne.symm e)]
      exact (hv q e).loc (fun b hb hlt => ⟨keep b (hs.sub q b hb).2.2 hlt, hb⟩)
  refine ⟨hst.kept.chg hc (fun b hb => by subst hb; exact (hl _ (hf0 _ hm).1).1), ff, fun i C hC => ?_, fun i j hi hj => q2 i j (by simpa using hi) (by simpa using hj)⟩
  cases i with
  | zero =>
    simp only [List.getElem?_cons_zero, Option.some.injEq] at hC
    subst hC
    exact ⟨key, fun b hb => ⟨(hl b hb).1, Nat.lt_of_lt_of_le (hl b hb).2 hc.size⟩⟩
  | succ i =>
    obtain ⟨hp, hlp⟩ := q1 (i + 1) C (by simpa using hC)
    have hne : ∀ b, ff (i + 1) b → b ≠ m := fun b hb e2 => by
      subst e2
      exact q2 0 (i + 1) (by simp) (by have := (List.getElem?_eq_some_iff.1 hC).1; simpa using this) (by omega) _ (hf0 _ hm).1 hb
    exact ⟨C.loc hp (fun b hb hlt => ⟨keep b (hne b hb) hlt, hb⟩), fun b hb => ⟨(hlp b hb).1, Nat.lt_of_lt_of_le (hlp b hb).2 hc.size⟩⟩
end
end Go.Proofs.Ytgjgmojjeehieaa
