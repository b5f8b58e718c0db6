import Derived.Test.YtlblilbmpdejgaaDoorU6
import Derived.Test.YtlblilbmpdejgaaDoorU1
import Derived.Test.YtlblilbmpdejgaaDoorU2
set_option linter.unusedSimpArgs false
set_option linter.unusedVariables false
set_option linter.unusedSectionVars false
set_option linter.deprecated false
/- Maps with structs as keys, each value with memory of its own. -/
namespace Go.Proofs.YtlblilbmpdejgaaDoor
open Go.RowKit Go.MapKept

section
variable {κ β : Type} [DecidableEq κ]
theorem ZA {L : List (κ × β)} {k q : κ} {v : β} : yw (L ++ [(k, v)]) q = (yw L q).or (if k = q then some v else none) := by
  unfold yw
  rw [List.find?_append]
  cases h : L.find? fun p => decide (p.1 = q) with
  | some p => simp
  | none => by_cases e : k = q <;> simp [List.find?, e]
theorem YE {L : List (κ × β)} {k : κ} (h : (L.findIdx? fun p => decide (p.1 = k)) = none) : yw L k = none := by
  rw [List.findIdx?_eq_none_iff] at h
  unfold yw
  rw [Option.map_eq_none_iff, List.find?_eq_none]
  intro p hp
  simp [h p hp]
theorem Vz {L : List (κ × β)} {k q : κ} {v : β} {j : Nat} {p : κ × β} (hj : L[j]? = some p) (hp : p.1 = k) (hf : ∀ i, i < j → ∀ r, L[i]? = some r → r.1 ≠ k) : yw (L.set j (k, v)) q = if k = q then some v else yw L q := by
  induction L generalizing j with
  | nil => simp at hj
  | cons a L ih =>
    cases j with
    | zero =>
      simp only [List.getElem?_cons_zero, Option.some.injEq] at hj
      subst hj
      unfold yw
      by_cases e : k = q
      · subst e; simp
      · simp [e, hp]
    | succ j =>
      have h1 := ih (j := j) (by simpa using hj) (fun i hi r hr => hf (i + 1) (by omega) r (by simpa using hr))
      have h0 := hf 0 (by omega) a rfl
      unfold yw at h1 ⊢
      rw [List.set_cons_succ, List.find?_cons, List.find?_cons]
      by_cases e : a.1 = q
      · have : ¬ k = q := fun e2 => h0 (by rw [e, e2])
        simp [e, this]
      · simp only [e, decide_false]
        exact h1
theorem YH {L : List (κ × β)} {k : κ} {j : Nat} (h : (L.findIdx? fun p => decide (p.1 = k)) = some j) : (∃ p, L[j]? = some p ∧ p.1 = k) ∧ ∀ i, i < j → ∀ r, L[i]? = some r → r.1 ≠ k := by
  rw [List.findIdx?_eq_some_iff_getElem] at h
  obtain ⟨hj, h1, h2⟩ := h
  refine ⟨⟨L[j], List.getElem?_eq_getElem hj, by simpa using h1⟩, fun i hi r hr => ?_⟩
  have := h2 i hi
  obtain ⟨hil, e⟩ := List.getElem?_eq_some_iff.1 hr
  rw [← e]; simpa using this
theorem Yd (L : List (κ × β)) (k q : κ) (v : β) : yw (Xu L k v) q = if k = q then some v else yw L q := by
  unfold Xu
  split
  · rename_i j hj
    obtain ⟨⟨p, h1, h2⟩, h3⟩ := YH hj
    exact Vz h1 h2 h3
  · rename_i hj
    rw [ZA]
    by_cases e : k = q
    · subst e; rw [YE hj]; simp
    · simp [e]
theorem Zg (L : List (κ × β)) (k q : κ) (z : β) (h : ¬ k = q) : yw (XD L k z) q = yw L q := by
  unfold XD
  split
  · rfl
  · rw [ZA]; simp [h]
end

def xd {κ α : Type} [DecidableEq κ] (X : κ → Option α) (k : κ) (x : α) : κ → Option α := fun q => if k = q then some x else X q

section
variable {κ α : Type} [DecidableEq κ]
def ValAt (E : Value → α → HP) (w : World) (F : Nat → Prop) : Option Value → Option α → Prop
  | some v, some x => (E v x).p w F
  | none, none => True
  | _, _ => False
theorem ValAt.loc {E : Value → α → HP} {w w' : World} {F F' : Nat → Prop} : ∀ {v : Option Value} {x : Option α}, ValAt E w F v x → (∀ b, F b → b < w.heap.size → w'.heap[b]? = w.heap[b]? ∧ F' b) → ValAt E w' F' v x
  | some v, some x, h, hf => (E v x).loc h hf
  | none, none, _, _ => trivial
  | some _, none, h, _ => h.elim
  | none, some _, h, _ => h.elim
theorem ValAt.isSome {E : Value → α → HP} {w : World} {F : Nat → Prop} : ∀ {v : Option Value} {x : Option α}, ValAt E w F v x → v.isSome = x.isSome
  | some _, some _, _ => rfl
  | none, none, _ => rfl
  | some _, none, h => h.elim
  | none, some _, h => h.elim
structure Spread (w : World) (m : Nat) (f : Nat → Prop) (g : κ → Nat → Prop) : Prop where
  sub : ∀ k b, g k b → f b ∧ b < w.heap.size ∧ b ≠ m
  apart : ∀ k k', k ≠ k' → ∀ b, g k b → ¬ g k' b
theorem Spread.loc {w w' : World} {m : Nat} {f f' : Nat → Prop} {g : κ → Nat → Prop} (h : Spread w m f g) (hf : ∀ b, f b → b < w.heap.size → w'.heap[b]? = w.heap[b]? ∧ f' b) : Spread w' m f' g :=
  ⟨fun k b hb => ⟨(hf b (h.sub k b hb).1 (h.sub k b hb).2.1).2, by
    obtain ⟨h1, h2, _⟩ := h.sub k b hb
    have := (hf b h1 h2).1
    rw [Array.getElem?_eq_getElem h2] at this
    exact (Array.getElem?_eq_some_iff.1 this).1, (h.sub k b hb).2.2⟩, h.apart⟩
theorem Spread.loc2 {w w' : World} {m : Nat} {f : Nat → Prop} {g : κ → Nat → Prop} (h : Spread w m f g) (hz : w.heap.size ≤ w'.heap.size) : Spread w' m f g := ⟨fun k b hb => ⟨(h.sub k b hb).1, Nat.lt_of_lt_of_le (h.sub k b hb).2.1 hz, (h.sub k b hb).2.2⟩, h.apart⟩
def zF (enc : κ → Value) (E : Value → α → HP) (m : Nat) (X : κ → Option α) : HP := ⟨fun w f => ∃ (R : List (κ × Value)) (g : κ → Nat → Prop), f m ∧ IsMap enc w m R ∧ (∀ k, ValAt E w (g k) (yw R k) (X k)) ∧ Spread w m f g, fun {w w' f f'} h hf => by
  obtain ⟨R, g, hm, ⟨es, c, hb, r⟩, hv, hs⟩ := h
  exact ⟨R, g, (hf m hm (xe hb)).2, ⟨es, c, ((hf m hm (xe hb)).1).trans hb, r⟩, fun k => (hv k).loc (fun b hg hlt => ⟨(hf b (hs.sub k b hg).1 hlt).1, hg⟩), hs.loc hf⟩⟩
def xz (enc : κ → Value) (E : Value → α → HP) (z : Value) (m : Nat) (X : κ → Option α) (k : κ) (v : Value) : HP := ⟨fun w f => ∃ (R : List (κ × Value)) (g : κ → Nat → Prop), f m ∧ IsMap enc w m R ∧ (yw R k).getD z = v ∧ (yw R k).isSome = (X k).isSome ∧ (∀ q, q ≠ k → ValAt E w (g q) (yw R q) (X q)) ∧ Spread w m f g, fun {w w' f f'} h hf => by
  obtain ⟨R, g, hm, ⟨es, c, hb, r⟩, h1, h2, hv, hs⟩ := h
  exact ⟨R, g, (hf m hm (xe hb)).2, ⟨es, c, ((hf m hm (xe hb)).1).trans hb, r⟩, h1, h2, fun q hq => (hv q hq).loc (fun b hg hlt => ⟨(hf b (hs.sub q b hg).1 hlt).1, hg⟩), hs.loc hf⟩⟩
def Zs (enc : κ → Value) (E : Value → α → HP) (m : Nat) (X : κ → Option α) (k : κ) (s : Int) : HP := ⟨fun w f => ∃ (R : List (κ × Value)) (g : κ → Nat → Prop) (j : Nat), f m ∧ IsMapE enc w m R j s ∧ (∀ v q, yw (R.set j (k, v)) q = if k = q then some v else yw R q) ∧ (∃ p, R[j]? = some p ∧ p.1 = k) ∧ (∀ q, q ≠ k → ValAt E w (g q) (yw R q) (X q)) ∧ Spread w m f g, fun {w w' f f'} h hf => by
  obtain ⟨R, g, j, hm, ⟨es, c, hb, r⟩, h1, h2, hv, hs⟩ := h
  exact ⟨R, g, j, (hf m hm (xe hb)).2, ⟨es, c, ((hf m hm (xe hb)).1).trans hb, r⟩, h1, h2, fun q hq => (hv q hq).loc (fun b hg hlt => ⟨(hf b (hs.sub q b hg).1 hlt).1, hg⟩), hs.loc hf⟩⟩
def ZG (E : Value → α → HP) (v : Value) : Option α → HP
  | some x => E v x
  | none => Emp
end

section
variable {κ α : Type} [DecidableEq κ] {enc : κ → Value} {E : Value → α → HP} {z : Value} {m : Nat} {X : κ → Option α} {k : κ} {v : Value} {G : Nat → Prop} {W w : World} {As : List HP}
theorem Sep.mapoNew {w' : World} (h : Sep G W As w) (hn : New w w' w.heap.size (.map #[] 0)) : Sep G W (zF enc E w.heap.size (fun _ : κ => (none : Option α)) :: As) w' :=
  h.push hn.ext (f := fun i => i = w.heap.size) ⟨[], fun _ _ => False, rfl, ⟨#[], 0, hn.at_, stamped_empty 0, rfl, rfl⟩, fun _ => trivial, ⟨fun _ _ h => h.elim, fun _ _ _ _ h => h.elim⟩⟩ (fun i hi => by omega)
theorem Sep.mapoTake (h : Sep G W (zF enc E m X :: As) w) (z : Value) (k : κ) : ∃ v, (X k = none → v = z) ∧ Sep G W (xz enc E z m X k v :: ZG E v (X k) :: As) w := by
  obtain ⟨fs, q1, q2⟩ := h.parts
  obtain ⟨⟨R, g, hm, hM, hv, hs⟩, hl⟩ := q1 0 _ rfl
  refine ⟨(yw R k).getD z, fun hx => ?_, ?_⟩
  · have := (hv k).isSome
    rw [hx] at this
    cases hR : yw R k with
    | none => rfl
    | some u => rw [hR] at this; cases this
  · have h1 : Sep G W (Star [xz enc E z m X k ((yw R k).getD z), ZG E ((yw R k).getD z) (X k)] :: As) w := by
      refine ⟨h.kept, fs, fun i C hC => ?_, fun i j hi hj => q2 i j (by simpa using hi) (by simpa using hj)⟩
      cases i with
      | succ i => exact q1 (i + 1) C (by simpa using hC)
      | zero =>
        simp only [List.getElem?_cons_zero, Option.some.injEq] at hC
        subst hC
        refine ⟨⟨fun i b => if i = 0 then fs 0 b ∧ ¬ g k b ∧ b < w.heap.size else g k b, fun i C hC => ?_, fun i j hi hj hne b hb => ?_⟩, hl⟩
        · match i, hC with
          | 0, hC =>
            simp only [List.getElem?_cons_zero, Option.some.injEq] at hC
            subst hC
            refine ⟨⟨R, fun q b => if q = k then False else g q b, ⟨hm, fun hg => (hs.sub k m hg).2.2 rfl, hM.lt⟩, hM, rfl, (hv k).isSome, fun q hq => ?_, ⟨fun q b hb => ?_, fun q q' hne b hb hb' => ?_⟩⟩, fun b hb => ⟨hb.1, hb.2.2⟩⟩
            · simp only [if_neg hq]; exact hv q
            · by_cases e : q = k
              · rw [if_pos e] at hb; exact hb.elim
              · rw [if_neg e] at hb
                have := hs.sub q b hb
                exact ⟨⟨this.1, fun h9 => hs.apart q k e b hb h9, this.2.1⟩, this.2.1, this.2.2⟩
            · by_cases e : q = k
              · rw [if_pos e] at hb; exact hb.elim
              · by_cases e' : q' = k
                · rw [if_pos e'] at hb'; exact hb'.elim
                · rw [if_neg e] at hb; rw [if_neg e'] at hb'; exact hs.apart q q' hne b hb hb'
          | 1, hC =>
            simp only [List.getElem?_cons_succ, List.getElem?_cons_zero, Option.some.injEq] at hC
            subst hC
            refine ⟨?_, fun b hb => ⟨(hs.sub k b hb).1, (hs.sub k b hb).2.1⟩⟩
            have := hv k
            cases hR : yw R k with
            | none =>
              rw [hR] at this
              cases hX : X k with
              | none => exact trivial
              | some x => rw [hX] at this; exact this.elim
            | some u =>
              rw [hR] at this
              cases hX : X k with
              | none => rw [hX] at this; exact this.elim
              | some x => rw [hX] at this; exact this
          | i + 2, hC => simp at hC
        · simp only [List.length_cons, List.length_nil] at hi hj
          match i, j, hb with
          | 0, 0, _ => exact absurd rfl hne
          | 0, 1, hb => exact hb.2.1
          | 1, 0, hb => exact fun h9 => h9.2.1 hb
          | 1, 1, _ => exact absurd rfl hne
          | i + 2, _, _ => omega
          | 0, j + 2, _ => omega
          | 1, j + 2, _ => omega
    exact h1.openStar
theorem Zm {f : Nat → Prop} {g : κ → Nat → Prop} {f0 f1 : Nat → Prop} {w1 : World} (hs : Spread w m f0 g) (h0 : ∀ b, f0 b → f b ∧ b < w.heap.size) (h1 : ∀ b, f1 b → f b ∧ b < w.heap.size) (hd : ∀ b, f0 b → ¬ f1 b) (hm : f0 m) (hz : w.heap.size ≤ w1.heap.size) : Spread w1 m f (fun q b => if q = k then f1 b else g q b) := by
  refine ⟨fun q b hb => ?_, fun q q' hne b hb hb' => ?_⟩
  · by_cases e : q = k
    · simp only [if_pos e] at hb
      exact ⟨(h1 b hb).1, Nat.lt_of_lt_of_le (h1 b hb).2 hz, fun e2 => hd m hm (e2 ▸ hb)⟩
    · simp only [if_neg e] at hb
      have := hs.sub q b hb
      exact ⟨(h0 b this.1).1, Nat.lt_of_lt_of_le this.2.1 hz, this.2.2⟩
  · by_cases e : q = k
    · simp only [if_pos e] at hb
      have e' : ¬ q' = k := fun e2 => hne (e.trans e2.symm)
      simp only [if_neg e'] at hb'
      exact hd b (hs.sub q' b hb').1 hb
    · simp only [if_neg e] at hb
      by_cases e' : q' = k
      · simp only [if_pos e'] at hb'
        exact hd b (hs.sub q b hb).1 hb'
      · simp only [if_neg e'] at hb'
        exact hs.apart q q' hne b hb hb'
theorem Sep.mapoPut (h : Sep G W (xz enc E z m X k v :: ZG E v (X k) :: As) w) : Sep G W (zF enc E m X :: As) w := by
  have hst := h.closeStar (Bs := [xz enc E z m X k v, ZG E v (X k)])
  refine hst.impl (i := 0) rfl (fun f hA => ?_)
  obtain ⟨gs, r1, r2⟩ := hA
  obtain ⟨⟨R, g, hm, hM, hz, hi, hv, hs⟩, hf0⟩ := r1 0 _ rfl
  obtain ⟨hN, hf1⟩ := r1 1 _ rfl
  have r2' := r2 0 1 (by simp) (by simp) (by simp)
  refine ⟨R, fun q b => if q = k then gs 1 b else g q b, (hf0 m hm).1, hM, fun q => ?_, Zm hs hf0 hf1 r2' hm (Nat.le_refl _)⟩
  by_cases e : q = k
  · subst e
    simp only [if_true]
    cases hR : yw R q with
    | none =>
      rw [hR] at hi
      cases hX : X q with
      | none => exact trivial
      | some x => rw [hX] at hi; cases hi
    | some u =>
      rw [hR] at hi hz
      cases hX : X q with
      | none => rw [hX] at hi; cases hi
      | some x => rw [hX] at hN; simp only [Option.getD_some] at hz; subst hz; exact hN
  · simp only [if_neg e]
    exact hv q e
theorem Sep.mapo1 (h : Sep G W As w) {i : Nat} (hi : As[i]? = some (xz enc E z m X k v)) : ∃ R, IsMap enc w m R ∧ (yw R k).getD z = v ∧ (yw R k).isSome = (X k).isSome := by
  obtain ⟨f, ⟨R, g, hm, hM, hz, hi, _⟩, _⟩ := h.get hi; exact ⟨R, hM, hz, hi⟩
end

section
variable {P : Program} {d : Option Tmp} {ty : TypeId} {pos : String} {af : Array Edge} {gd : Option (Nat × Bool)} {σ : Env} {w : World} {K : Value → World → Prop} {κ α : Type} [DecidableEq κ] {enc : κ → Value} {E : Value → α → HP} {z : Value} {m : Nat} {X : κ → Option α} {k : κ} {v : Value} {G : Nat → Prop} {W : World} {As : List HP}
theorem Wn {t kt et : TypeId} {x y : Operand} {i : Nat} (h : Sep G W As w) (hi : As[i]? = some (xz enc E z m X k v)) (hK : KLaw P kt enc) (hU : P.underlying t = some (.map kt et)) (hZ : ∀ w, (zeroValue et).run P w = .ok z w)
    (hx : ev σ x = .map (some m)) (hy : ev σ y = enc k) (hk : K v w) : opV P ⟨d, .lookup t x y false, ty, pos, af, gd⟩ σ w K := by
  obtain ⟨R, hM, e, _⟩ := h.mapo1 hi
  exact Wz hK hU hZ hx hy hM (by rw [e]; exact hk)
theorem xV {t kt et : TypeId} {x y : Operand} {i : Nat} (h : Sep G W As w) (hi : As[i]? = some (xz enc E z m X k v)) (hK : KLaw P kt enc) (hU : P.underlying t = some (.map kt et)) (hZ : ∀ w, (zeroValue et).run P w = .ok z w)
    (hx : ev σ x = .map (some m)) (hy : ev σ y = enc k) (hk : K (.tuple #[v, .bool (X k).isSome]) w) : opV P ⟨d, .lookup t x y true, ty, pos, af, gd⟩ σ w K := by
  obtain ⟨R, hM, e, e2⟩ := h.mapo1 hi
  exact XE hK hU hZ hx hy hM (by rw [e, e2]; exact hk)
theorem YD {t kt et : TypeId} {x y u : Operand} {v' : Value} {x' : α} (h : Sep G W (xz enc E z m X k v :: E v' x' :: As) w) (hK : KLaw P kt enc) (hU : P.underlying t = some (.map kt et)) (hx : ev σ x = .map (some m)) (hy : ev σ y = enc k) (hu : ev σ u = v')
    (hk : ∀ w1, Sep G W (zF enc E m (xd X k x') :: As) w1 → K undef w1) : opV P ⟨d, .mapUpdate t x y u, ty, pos, af, gd⟩ σ w K := by
  have hst := h.closeStar (Bs := [xz enc E z m X k v, E v' x'])
  obtain ⟨ff, q1, q2⟩ := hst.parts
  obtain ⟨⟨gs, r1, r2⟩, hl⟩ := q1 0 _ rfl
  obtain ⟨⟨R, g, hm, hM, hz, hi, hv, hs⟩, hf0⟩ := r1 0 _ rfl
  obtain ⟨hN, hf1⟩ := r1 1 _ rfl
  have r2' := r2 0 1 (by simp) (by simp) (by simp)
  refine YC hK hU hx hy hu hM (fun w1 hM1 hc => hk w1 ?_)
  have keep : ∀ b, b ≠ m → b < w.heap.size → w1.heap[b]? = w.heap[b]? := fun b hb hlt => hc.block b hlt hb
  have key : (zF enc E m (xd X k x')).p w1 (ff 0) := by
    refine ⟨Xu R k v', fun q b => if q = k then gs 1 b else g q b, (hf0 m hm).1, hM1, fun q => ?_, Zm hs hf0 hf1 r2' hm hc.size⟩
    rw [Yd]
    unfold xd
    by_cases e : q = k
    · subst e
      simp only [if_true]
      exact (E v' x').loc hN (fun b hb hlt => ⟨keep b (fun e2 => r2' m hm (e2 ▸ hb)) hlt, hb⟩)
    · simp only [if_neg e, if_neg (Ne.symm e)]
      exact (hv q e).loc (fun b hb hlt => ⟨keep b (hs.sub q b hb).2.2 hlt, hb⟩)
  refine ⟨hst.kept.chg hc (fun b hb => by subst hb; exact (hl _ (hf0 _ hm).1).1), ff, fun i C hC => ?_, fun i j hi hj => q2 i j (by simpa using hi) (by simpa using hj)⟩
  cases i with
  | zero =>
    simp only [List.getElem?_cons_zero, Option.some.injEq] at hC
    subst hC
    exact ⟨key, fun b hb => ⟨(hl b hb).1, Nat.lt_of_lt_of_le (hl b hb).2 hc.size⟩⟩
  | succ i =>
    obtain ⟨hp, hlp⟩ := q1 (i + 1) C (by simpa using hC)
    have hne : ∀ b, ff (i + 1) b → b ≠ m := fun b hb e2 => by
      subst e2
      exact q2 0 (i + 1) (by simp) (by have := (List.getElem?_eq_some_iff.1 hC).1; simpa using this) (by omega) _ (hf0 _ hm).1 hb
    exact ⟨C.loc hp (fun b hb hlt => ⟨keep b (hne b hb) hlt, hb⟩), fun b hb => ⟨(hlp b hb).1, Nat.lt_of_lt_of_le (hlp b hb).2 hc.size⟩⟩
theorem Xp {t kt et : TypeId} {x y : Operand} (h : Sep G W (xz enc E z m X k v :: As) w) (hK : KLaw P kt enc) (hU : P.underlying t = some (.map kt et)) (hZ : ∀ w, (zeroValue et).run P w = .ok z w) (hx : ev σ x = .map (some m)) (hy : ev σ y = enc k)
    (hk : ∀ w1 s, Sep G W (Zs enc E m X k s :: As) w1 → K (.tuple #[v, .int .i64 s]) w1) : opV P ⟨d, .mapEntry t x y, ty, pos, af, gd⟩ σ w K := by
  obtain ⟨ff, q1, q2⟩ := h.parts
  obtain ⟨⟨R, g, hm, hM, hz, hi, hv, hs⟩, hl⟩ := q1 0 _ rfl
  refine Xb hK hU hZ hx hy hM (fun w1 j s hM1 hset hp hc => ?_)
  rw [hz]
  refine hk w1 s ?_
  have keep : ∀ b, b ≠ m → b < w.heap.size → w1.heap[b]? = w.heap[b]? := fun b hb hlt => hc.block b hlt hb
  have key : (Zs enc E m X k s).p w1 (ff 0) := by
    refine ⟨XD R k z, g, j, hm, hM1, fun u q => ?_, hp, fun q hq => ?_, hs.loc2 hc.size⟩
    · rw [hset u, Yd]
      by_cases e : k = q
      · rw [if_pos e, if_pos e]
      · rw [if_neg e, if_neg e, Zg _ _ _ _ e]
    · rw [Zg _ _ _ _ (Ne.symm hq)]
      exact (hv q hq).loc (fun b hb hlt => ⟨keep b (hs.sub q b hb).2.2 hlt, hb⟩)
  refine ⟨h.kept.chg hc (fun b hb => by subst hb; exact (hl _ hm).1), ff, fun i C hC => ?_, fun i j hi hj => q2 i j (by simpa using hi) (by simpa using hj)⟩
  cases i with
  | zero =>
    simp only [List.getElem?_cons_zero, Option.some.injEq] at hC
    subst hC
    exact ⟨key, fun b hb => ⟨(hl b hb).1, Nat.lt_of_lt_of_le (hl b hb).2 hc.size⟩⟩
  | succ i =>
    obtain ⟨hp, hlp⟩ := q1 (i + 1) C (by simpa using hC)
    have hne : ∀ b, ff (i + 1) b → b ≠ m := fun b hb e2 => by
      subst e2
      exact q2 0 (i + 1) (by simp) (by have := (List.getElem?_eq_some_iff.1 hC).1; simpa using this) (by omega) _ hm hb
    exact ⟨C.loc hp (fun b hb hlt => ⟨keep b (hne b hb) hlt, hb⟩), fun b hb => ⟨(hlp b hb).1, Nat.lt_of_lt_of_le (hlp b hb).2 hc.size⟩⟩
theorem Yq {t : TypeId} {x y u : Operand} {s : Int} {v' : Value} {x' : α} (h : Sep G W (Zs enc E m X k s :: E v' x' :: As) w) (hx : ev σ x = .map (some m)) (hy : ev σ y = .int .i64 s) (hu : ev σ u = v')
    (hk : ∀ w1, Sep G W (zF enc E m (xd X k x') :: As) w1 → K undef w1) : opV P ⟨d, .entryStore t x y u, ty, pos, af, gd⟩ σ w K := by
  have hst := h.closeStar (Bs := [Zs enc E m X k s, E v' x'])
  obtain ⟨ff, q1, q2⟩ := hst.parts
  obtain ⟨⟨gs, r1, r2⟩, hl⟩ := q1 0 _ rfl
  obtain ⟨⟨R, g, j, hm, hM, hset, ⟨p, hp, hpk⟩, hv, hs⟩, hf0⟩ := r1 0 _ rfl
  obtain ⟨hN, hf1⟩ := r1 1 _ rfl
  have r2' := r2 0 1 (by simp) (by simp) (by simp)
  refine Yo hx hy hu hM hp (fun w1 hM1 hc => hk w1 ?_)
  rw [hpk] at hM1
  have keep : ∀ b, b ≠ m → b < w.heap.size → w1.heap[b]? = w.heap[b]? := fun b hb hlt => hc.block b hlt hb
  have key : (zF enc E m (xd X k x')).p w1 (ff 0) := by
    refine ⟨R.set j (k, v'), fun q b => if q = k then gs 1 b else g q b, (hf0 m hm).1, hM1, fun q => ?_, Zm hs hf0 hf1 r2' hm hc.size⟩
    rw [hset v' q]
    unfold xd
    by_cases e : q = k
    · subst e
      simp only [if_true]
      exact (E v' x').loc hN (fun b hb hlt => ⟨keep b (fun e2 => r2' m hm (e2 ▸ hb)) hlt, hb⟩)
    · simp only [if_neg e, if_neg (Ne.symm e)]
      exact (hv q e).loc (fun b hb hlt => ⟨keep b (hs.sub q b hb).2.2 hlt, hb⟩)
  refine ⟨hst.kept.chg hc (fun b hb => by subst hb; exact (hl _ (hf0 _ hm).1).1), ff, fun i C hC => ?_, fun i j hi hj => q2 i j (by simpa using hi) (by simpa using hj)⟩
  cases i with
  | zero =>
    simp only [List.getElem?_cons_zero, Option.some.injEq] at hC
    subst hC
    exact ⟨key, fun b hb => ⟨(hl b hb).1, Nat.lt_of_lt_of_le (hl b hb).2 hc.size⟩⟩
  | succ i =>
    obtain ⟨hp, hlp⟩ := q1 (i + 1) C (by simpa using hC)
    have hne : ∀ b, ff (i + 1) b → b ≠ m := fun b hb e2 => by
      subst e2
      exact q2 0 (i + 1) (by simp) (by have := (List.getElem?_eq_some_iff.1 hC).1; simpa using this) (by omega) _ (hf0 _ hm).1 hb
    exact ⟨C.loc hp (fun b hb hlt => ⟨keep b (hne b hb) hlt, hb⟩), fun b hb => ⟨(hlp b hb).1, Nat.lt_of_lt_of_le (hlp b hb).2 hc.size⟩⟩
end
end Go.Proofs.YtlblilbmpdejgaaDoor
/- The program's structs. -/
namespace Go.Proofs.YtlblilbmpdejgaaDoor
open Go.RowKit

structure Ent where
  ev : Ev
  void : Bool
  byO : Int
  byS : Int
  deriving DecidableEq, Inhabited
structure Ent.Ok (e : Ent) : Prop where
  ev : e.ev.Ok
  byO : InR e.byO
  byS : InR e.byS
def Ent.cells (e : Ent) (d1 : Value) : List Value := e.ev.cells d1 ++ [.bool e.void, .int .i64 e.byO, .int .i64 e.byS]
instance : Rep Ent where
  k := 13
  bytes := 120
  bpos := by decide
  kpos := by decide
  rd w F cs e := ∃ d1, cs = e.cells d1 ∧ RdS w F d1 e.ev.deps ∧ e.Ok
  len h := by obtain ⟨d1, rfl, h1, ho⟩ := h; rfl
  one h := by obtain ⟨d1, rfl, h1, ho⟩ := h; exact yj ⟨rfl, rfl, rfl, h1.sl.one, rfl, rfl, rfl, rfl, rfl, rfl, rfl, rfl, rfl, trivial⟩
  mono h hF := by obtain ⟨d1, rfl, h1, ho⟩ := h; exact ⟨d1, rfl, h1.mono hF, ho⟩
theorem RdS.ent {w : World} {F : Nat → Prop} {v : Value} {l : List Ent} (h : RdS w F v l) {i : Nat} (hi : i < l.length) :
    CellsAt w (sb v) (so v + i * 13) (l[i].cells (zi w (sb v) (so v + i * 13 + 3))) ∧ RdS w F (zi w (sb v) (so v + i * 13 + 3)) l[i].ev.deps ∧ l[i].Ok := by
  obtain ⟨cs, hc, d1, rfl, h1, ho⟩ := h.at_ i hi
  have ed1 : (zi w (sb v) (so v + i * 13 + 3)) = d1 := by
    have : w.cell? ⟨sb v, so v + i * 13 + 3, none⟩ = some d1 := hc.get (j := 3) rfl
    simp only [zi, this]; rfl
  rw [ed1]
  exact ⟨hc, h1, ho⟩
structure Sta where
  ver : Int
  cls : List Cel
  deriving DecidableEq, Inhabited
structure Sta.Ok (e : Sta) : Prop where
  ver : InR e.ver
def Sta.cells (e : Sta) (d1 : Value) : List Value := [.int .i64 e.ver, d1]
instance : Rep Sta where
  k := 2
  bytes := 32
  bpos := by decide
  kpos := by decide
  rd w F cs e := ∃ d1, cs = e.cells d1 ∧ RdS w F d1 e.cls ∧ e.Ok
  len h := by obtain ⟨d1, rfl, h1, ho⟩ := h; rfl
  one h := by obtain ⟨d1, rfl, h1, ho⟩ := h; exact yj ⟨rfl, h1.sl.one, trivial⟩
  mono h hF := by obtain ⟨d1, rfl, h1, ho⟩ := h; exact ⟨d1, rfl, h1.mono hF, ho⟩
end Go.Proofs.YtlblilbmpdejgaaDoor
/- Events folded: what comes of them, in plain numbers. -/
namespace Go.Proofs.YtlblilbmpdejgaaDoor

theorem ZZ {α : Type} {P : List α → Prop} (h0 : P []) (h1 : ∀ l x, P l → P (l ++ [x])) (l : List α) : P l := by
  rw [← List.reverse_reverse l]
  induction l.reverse with
  | nil => exact h0
  | cons x l ih => rw [List.reverse_cons]; exact h1 _ _ ih
def xO (v : List Int) (o : Int) : Int := if o < 0 ∨ (v.length : Int) ≤ o then 0 else max (v.getD o.toNat 0) 0
def ZL (a b : Ev) : Bool := decide (a.seq ≤ xO b.deps a.origin)
def xL (a b : Ev) : Bool := !decide (a.origin = b.origin ∧ a.seq = b.seq) && !ZL a b && !ZL b a
def Xq (k oA aA oB aB : Int) : Bool :=
  if k = 2 then decide (oA = 2) && decide (oB = 2) && !decide (oA = oB ∧ aA = aB)
  else if k = 4 then decide (oA = 5) && decide (oB = 5) && !decide (oA = oB ∧ aA = aB)
  else if k = 3 then (decide (oA = 3 ∧ aA = aB) && decide (oB = 4 ∧ aB = aA)) || (decide (oA = 4 ∧ aA = aB) && decide (oB = 3 ∧ aB = aA))
  else false
def yF (f : Fld) (x e : Ev) : Bool := (decide (f.policy = 2) || (decide (f.policy = 3) && decide (e.arg < x.arg))) && Xq f.kind x.op x.arg e.op e.arg && xL x e

def onL (k : Int × Int) (x : Ent) : Bool := !x.void && decide (x.ev.typ = k.1 ∧ x.ev.agg = k.2)
def on3 (k : Int × Int × Int) (x : Ent) : Bool := !x.void && decide (x.ev.typ = k.1 ∧ x.ev.agg = k.2.1 ∧ x.ev.field = k.2.2)
def xu (d : Dcl) (ty : Int) : Typ := d.types.getD ty.toNat default
def Uo (t : Typ) : List Cel := List.replicate t.fields.length (⟨0, []⟩ : Cel)
def yx (d : Dcl) (k : Int × Int) (L : List Ent) : List Cel := L.foldl (fun c x => if onL k x then doL (xu d k.1) c x.ev.field x.ev.op x.ev.arg else c) (Uo (xu d k.1))
def zX (k : Int × Int) (L : List Ent) : Nat := (L.filter (onL k)).length
def zz (k : Int × Int × Int) (L : List Ent) : List Ev := (L.filter (on3 k)).map (·.ev)
def zT (d : Dcl) (L : List Ent) (e : Ev) : Bool × Int × Int :=
  if ¬ yO d e.typ e.field e.op e.arg = 0 then (true, 0, 0)
  else match (zz (e.typ, e.agg, e.field) L).find? (fun x => yF ((xu d e.typ).fields.getD e.field.toNat default) x e) with
    | some x => (true, x.origin, x.seq)
    | none => if ¬ Zo (xu d e.typ) (yx d (e.typ, e.agg) L) e.field e.op e.arg = 0 then (true, 0, 0) else (false, 0, 0)
def zR (d : Dcl) (L : List Ent) (e : Ev) : Ent := ⟨e, (zT d L e).1, (zT d L e).2.1, (zT d L e).2.2⟩
def yM (d : Dcl) (l : List Ev) : List Ent := l.foldl (fun L e => L ++ [zR d L e]) []
def zj (d : Dcl) (L : List Ent) : Int × Int → Option (Nat × List Cel) := fun k => if zX k L = 0 then none else some (zX k L, yx d k L)
def zI (L : List Ent) : Int × Int × Int → Option (List Ev) := fun k => if (zz k L).isEmpty then none else some (zz k L)
def Inv (d : Dcl) (L : List Ent) : Prop := ∀ ty ag : Int, 0 ≤ ty → ty < d.types.length → Right (xu d ty) (yx d (ty, ag) L)

theorem xW (d : Dcl) (l : List Ev) (e : Ev) : yM d (l ++ [e]) = yM d l ++ [zR d (yM d l) e] := by unfold yM; rw [List.foldl_append]; rfl
theorem xx (d : Dcl) (k : Int × Int) (L : List Ent) (x : Ent) : yx d k (L ++ [x]) = if onL k x then doL (xu d k.1) (yx d k L) x.ev.field x.ev.op x.ev.arg else yx d k L := by unfold yx; rw [List.foldl_append]; rfl
theorem ZF (k : Int × Int) (L : List Ent) (x : Ent) : zX k (L ++ [x]) = if onL k x then zX k L + 1 else zX k L := by
  unfold zX
  rw [List.filter_append, List.length_append, List.filter_cons]
  split <;> simp
theorem Yp (k : Int × Int × Int) (L : List Ent) (x : Ent) : zz k (L ++ [x]) = if on3 k x then zz k L ++ [x.ev] else zz k L := by
  unfold zz
  rw [List.filter_append, List.filter_cons]
  split <;> simp
theorem WQ (k : Int × Int) (L : List Ent) : zX k L ≤ L.length := List.length_filter_le _ _
theorem QE {d : Dcl} {k : Int × Int} : ∀ {L : List Ent}, zX k L = 0 → yx d k L = Uo (xu d k.1) := by
  intro L
  induction L using ZZ with
  | h0 => intro _; rfl
  | h1 L x ih =>
    intro h
    rw [ZF] at h
    rw [xx]
    split
    · rename_i hx; rw [if_pos hx] at h; omega
    · rename_i hx; rw [if_neg hx] at h; exact ih h
theorem yW {d : Dcl} {L : List Ent} {x : Ent} (h : x.void = true) : zj d (L ++ [x]) = zj d L ∧ zI (L ++ [x]) = zI L := by
  constructor
  · funext k
    have : onL k x = false := by unfold onL; rw [h]; rfl
    unfold zj
    rw [ZF, xx, this]
    rfl
  · funext k
    have : on3 k x = false := by unfold on3; rw [h]; rfl
    unfold zI
    rw [Yp, this]
    rfl
theorem XQ {d : Dcl} {L : List Ent} {x : Ent} (h : x.void = false) : zj d (L ++ [x]) = xd (zj d L) (x.ev.typ, x.ev.agg) (zX (x.ev.typ, x.ev.agg) L + 1, doL (xu d x.ev.typ) (yx d (x.ev.typ, x.ev.agg) L) x.ev.field x.ev.op x.ev.arg) := by
  funext k
  unfold zj xd
  rw [ZF, xx]
  by_cases e : (x.ev.typ, x.ev.agg) = k
  · subst e
    have : onL (x.ev.typ, x.ev.agg) x = true := by unfold onL; rw [h]; simp
    rw [this]
    simp
  · have : onL k x = false := by
      unfold onL
      rw [h]
      have : ¬ (x.ev.typ = k.1 ∧ x.ev.agg = k.2) := fun h9 => e (by obtain ⟨a, b⟩ := k; obtain ⟨rfl, rfl⟩ := h9; rfl)
      simp [this]
    rw [this]
    simp [e]
theorem Vm {L : List Ent} {x : Ent} (h : x.void = false) : zI (L ++ [x]) = xd (zI L) (x.ev.typ, x.ev.agg, x.ev.field) (zz (x.ev.typ, x.ev.agg, x.ev.field) L ++ [x.ev]) := by
  funext k
  unfold zI xd
  rw [Yp]
  by_cases e : (x.ev.typ, x.ev.agg, x.ev.field) = k
  · subst e
    have : on3 (x.ev.typ, x.ev.agg, x.ev.field) x = true := by unfold on3; rw [h]; simp
    rw [this]
    simp
  · have : on3 k x = false := by
      unfold on3
      rw [h]
      have : ¬ (x.ev.typ = k.1 ∧ x.ev.agg = k.2.1 ∧ x.ev.field = k.2.2) := fun h9 => e (by obtain ⟨a, b, c⟩ := k; obtain ⟨rfl, rfl, rfl⟩ := h9; rfl)
      simp [this]
    rw [this]
    simp [e]
theorem XA (t : Typ) : Right t (Uo t) := Wq
theorem Inv.nil (d : Dcl) : Inv d [] := fun ty ag _ _ => XA _
theorem Vu {d : Dcl} {L : List Ent} {e : Ev} (h : (zT d L e).1 = false) : yO d e.typ e.field e.op e.arg = 0 ∧ Zo (xu d e.typ) (yx d (e.typ, e.agg) L) e.field e.op e.arg = 0 := by
  unfold zT at h
  split at h
  · cases h
  rename_i h1
  split at h
  · cases h
  split at h
  · cases h
  rename_i h2
  exact ⟨Decidable.not_not.1 h1, Decidable.not_not.1 h2⟩
theorem Inv.snoc {d : Dcl} {L : List Ent} {e : Ev} (hd : DclOk d) (h : Inv d L) : Inv d (L ++ [zR d L e]) := by
  intro ty ag h0 h1
  rw [xx]
  split
  · rename_i hx
    unfold onL at hx
    simp only [Bool.and_eq_true, Bool.not_eq_true', decide_eq_true_eq] at hx
    obtain ⟨hv, ht, ha⟩ := hx
    obtain ⟨hf, hm⟩ := Vu (d := d) (L := L) (e := e) hv
    obtain ⟨f1, f2, hft⟩ := Xh hf
    have ht' : e.typ = ty := ht
    have ha' : e.agg = ag := ha
    subst ht' ha'
    exact VW hft (hd.typ _ (by omega)) (h e.typ e.agg h0 h1) (UW hm)
  · exact h ty ag h0 h1
theorem Inv.run {d : Dcl} (hd : DclOk d) (l : List Ev) : Inv d (yM d l) := by
  induction l using ZZ with
  | h0 => exact Inv.nil d
  | h1 l e ih => rw [xW]; exact ih.snoc hd
end Go.Proofs.YtlblilbmpdejgaaDoor
/- Rows of one's own, of whose elements the first have memory of their own, and the others share theirs. -/
namespace Go.Proofs.YtlblilbmpdejgaaDoor
open Go.RowKit

instance {α : Type} [Rep α] : Rep (Bool × α) where
  k := Rep.k α
  rd w F cs x := Rep.rd w F cs x.2
  bytes := Rep.bytes α
  bpos := Rep.bpos
  kpos := Rep.kpos
  len h := Rep.len h
  one h := Rep.one h
  mono h hF := Rep.mono h hF
def mix {α : Type} [Rep α] (G : Nat → Prop) (W : World) : Src (Bool × α) :=
  ⟨fun cs x => if x.1 then (own (α := α)).el cs x.2 else (shr (α := α) G W).el cs x.2, fun {w f cs x} h => by
    split at h
    · exact (own (α := α)).len h
    · exact (shr (α := α) G W).len h, fun {w f cs x} h => by
    split at h
    · exact (own (α := α)).one h
    · exact (shr (α := α) G W).one h⟩
def xk {α : Type} (k : Nat) (l : List α) : List (Bool × α) := (l.take k).map (Prod.mk true) ++ (l.drop k).map (Prod.mk false)
theorem xb {α : Type} (k : Nat) (l : List α) : (xk k l).length = l.length := by unfold xk; simp; omega
theorem XP {α : Type} {k i : Nat} {l : List α} (hk : k ≤ i) (hi : i < l.length) : (xk k l)[i]? = some (false, l[i]) := by
  unfold xk
  rw [List.getElem?_append_right (by simp; omega)]
  simp only [List.length_map, List.length_take, List.getElem?_map, List.getElem?_drop]
  rw [show k + (i - min k l.length) = i by omega, List.getElem?_eq_getElem hi]; rfl
theorem Vi {α : Type} {k : Nat} {l : List α} (hk : k < l.length) : (xk k l).set k (true, l[k]) = xk (k + 1) l := by
  unfold xk
  rw [List.take_succ_eq_append_getElem hk, List.map_append, List.append_assoc, List.set_append_right _ _ (by simp only [List.length_map, List.length_take]; omega), List.drop_eq_getElem_cons hk]
  simp only [List.length_map, List.length_take, List.map_cons, List.map_nil, List.singleton_append]
  rw [show k - min k l.length = 0 by omega, List.set_cons_zero]
section
variable {α : Type} [Rep α] {G : Nat → Prop} {W w : World} {As : List HP} {T : TypeId} {v : Value} {l : List α}
theorem EP.mapIn {β : Type} {q : List Value → α → Prop} {q' : List Value → β → Prop} (g : α → β) (h : ∀ cs x, q cs x → q' cs (g x)) : ∀ {css : List (List Value)} {l : List α}, EP q css l → EP q' css (l.map g)
  | [], [], _ => trivial
  | _ :: _, _ :: _, hh => ⟨h _ _ hh.1, EP.mapIn g h hh.2⟩
  | [], _ :: _, hh => hh.elim
  | _ :: _, [], hh => hh.elim
theorem EP.mapOut {β : Type} {q : List Value → α → Prop} {q' : List Value → β → Prop} (g : α → β) (h : ∀ cs x, q' cs (g x) → q cs x) : ∀ {css : List (List Value)} {l : List α}, EP q' css (l.map g) → EP q css l
  | [], [], _ => trivial
  | _ :: _, _ :: _, hh => ⟨h _ _ hh.1, EP.mapOut g h hh.2⟩
  | [], _ :: _, hh => hh.elim
  | _ :: _, [], hh => hh.elim
theorem Sep.toMix (h : Sep G W (RowE (shr G W) T v l :: As) w) : Sep G W (RowE (mix (α := α) G W) T v (xk 0 l) :: As) w := by
  refine h.impl (i := 0) rfl (fun f hA => ?_)
  obtain ⟨css, hE, hown, hrow, hsm⟩ := hA
  have e : xk 0 l = l.map (Prod.mk false) := by unfold xk; simp
  rw [e]
  exact ⟨css, EP.mapIn (Prod.mk false) (fun cs x hx => hx) hE, by rw [List.length_map]; exact hown, hrow, by rw [List.length_map]; exact hsm⟩
theorem Sep.ofMix {n : Nat} (h : Sep G W (RowE (mix (α := α) G W) T v (xk n l) :: As) w) (hn : l.length ≤ n) : Sep G W (RowE (own (α := α)) T v l :: As) w := by
  refine h.impl (i := 0) rfl (fun f hA => ?_)
  have e : xk n l = l.map (Prod.mk true) := by unfold xk; rw [List.take_of_length_le hn, List.drop_of_length_le hn]; simp
  rw [e] at hA
  obtain ⟨css, hE, hown, hrow, hsm⟩ := hA
  exact ⟨css, EP.mapOut (Prod.mk true) (fun cs x hx => hx) hE, by rw [List.length_map] at hown; exact hown, hrow, by rw [List.length_map] at hsm; exact hsm⟩
theorem Sep.mixAt {i k j : Nat} (h : Sep G W As w) (hi : As[i]? = some (RowE (mix (α := α) G W) T v (xk k l))) (hk : k ≤ j) (hj : j < l.length) : ∃ cs, CellsAt w (sb v) (so v + j * Rep.k α) cs ∧ Rep.rd W G cs l[j] := by
  obtain ⟨cs, f, h1, h2⟩ := h.rowAt hi (j := j) (by rw [xb]; exact hj)
  have e : (xk k l)[j]'(by rw [xb]; exact hj) = (false, l[j]) := by
    have := XP hk hj
    rw [List.getElem?_eq_getElem (by rw [xb]; exact hj)] at this
    exact Option.some.inj this
  rw [e] at h2
  exact ⟨cs, h1, h2⟩
end
section
variable {α : Type} [Rep α] {P : Program} {d : Option Tmp} {ty : TypeId} {pos : String} {af : Array Edge} {gd : Option (Nat × Bool)} {σ : Env} {w : World} {K : Value → World → Prop} {G : Nat → Prop} {W : World} {As : List HP} {N : HP} {T : TypeId} {v : Value} {l : List α}
theorem ZH {t : TypeId} {j o : Nat} {x y : Operand} {u : Value} {us : List Value} (h : Sep G W (RowE (mix (α := α) G W) T v (xk j l) :: N :: As) w) (hS : ∀ w, (sizeOf t).run P w = .ok us.length w) (hj : j < l.length)
    (hx : ev σ x = .pointer (some ⟨sb v, so v + j * Rep.k α + o, none⟩)) (hy : ev σ y = u) (hu : u.cells.toList = us) (ho : o + us.length ≤ Rep.k α) (h1 : ∀ u ∈ us, u.oneCell' = true)
    (hq : ∀ w f cs0, Rep.rd W G cs0 l[j] → N.p w f → ((own (α := α)).el (cs0.take o ++ us ++ cs0.drop (o + us.length)) l[j]).p w f)
    (hK : ∀ w', Sep G W (RowE (mix (α := α) G W) T v (xk (j + 1) l) :: As) w' → K undef w') : opV P ⟨d, .store t x y, ty, pos, af, gd⟩ σ w K := by
  have e : (xk j l)[j]'(by rw [xb]; exact hj) = (false, l[j]) := by
    have := XP (Nat.le_refl j) hj
    rw [List.getElem?_eq_getElem (by rw [xb]; exact hj)] at this
    exact Option.some.inj this
  refine yY (α := Bool × α) (j := j) (o := o) (u := u) (us := us) (x1 := (true, l[j])) h hS (by rw [xb]; exact hj) hx hy hu ho h1 (fun w f cs0 hel hN => ?_) (fun w' h' => hK w' (by rw [Vi hj] at h'; exact h'))
  rw [e] at hel
  exact hq w f cs0 hel hN
end
end Go.Proofs.YtlblilbmpdejgaaDoor
/- A region that draws its order: what has effects may stand apart; a yQ is told by which of them are done. -/
namespace Go.Proofs.YtlblilbmpdejgaaDoor

section
variable {P : Program} {n : Nat} {Q : ZQ} {σ : Env} {w : World} {ops : List Oper} {pre : List (List Nat)}

def yA : List Nat → (Nat → Bool) → Nat
  | [], _ => 0
  | s :: r, d => (if d s = true then 1 else 0) + 2 * yA r d
theorem XX : ∀ (ss : List Nat) (d : Nat → Bool), yA ss d < 2 ^ ss.length
  | [], _ => Nat.one_pos
  | s :: r, d => by
    have := XX r d
    simp only [yA, List.length_cons, Nat.pow_succ]
    split <;> omega
theorem YZ : ∀ (ss : List Nat) (d : Nat → Bool) (p s : Nat), ss[p]? = some s → (yA ss d).testBit p = d s
  | [], _, _, _, h => by simp at h
  | x :: r, d, 0, s, h => by
    simp only [List.getElem?_cons_zero, Option.some.injEq] at h
    subst h
    rw [Nat.testBit_zero, yA]
    cases h : d x <;> simp <;> omega
  | x :: r, d, p + 1, s, h => by
    have := YZ r d p s (by simpa using h)
    rw [Nat.testBit_succ, yA, show ((if d x = true then 1 else 0) + 2 * yA r d) / 2 = yA r d by split <;> omega]
    exact this
theorem YJ {ss : List Nat} {d : Nat → Bool} {i : Nat} (h : i ∉ ss) : yA ss (fun j => d j || j == i) = yA ss d := by
  induction ss with
  | nil => rfl
  | cons s r ih =>
    have hs : ¬ s = i := fun e => h (e ▸ List.mem_cons_self)
    simp only [yA]
    rw [ih (fun hm => h (List.mem_cons_of_mem _ hm))]
    simp [hs]
theorem Vq {ss : List Nat} {d : Nat → Bool} {i : Nat} (hnd : ss.Nodup) (h : i ∈ ss) (hd : d i = false) : yA ss (fun j => d j || j == i) = yA ss d + 2 ^ ss.idxOf i := by
  induction ss with
  | nil => cases h
  | cons s r ih =>
    obtain ⟨h1, h2⟩ := List.nodup_cons.1 hnd
    by_cases e : s = i
    · subst e
      simp only [yA, List.idxOf_cons_self]
      rw [YJ h1]
      simp [hd]
      omega
    · have hm : i ∈ r := by
        rcases List.mem_cons.1 h with e2 | hm
        · exact absurd e2.symm e
        · exact hm
      simp only [yA]
      rw [ih h2 hm, show (s :: r).idxOf i = r.idxOf i + 1 by rw [List.idxOf_cons, show (s == i) = false from beq_eq_false_iff_ne.2 e]; rfl, Nat.pow_succ]
      simp [e]
      omega
theorem YT : ∀ {ss : List Nat} {d : Nat → Bool}, (∀ s ∈ ss, d s = true) → yA ss d = 2 ^ ss.length - 1
  | [], _, _ => rfl
  | s :: r, d, h => by
    have := YT (ss := r) (d := d) (fun q hq => h q (List.mem_cons_of_mem _ hq))
    have h2 : 0 < 2 ^ r.length := Nat.two_pow_pos _
    simp only [yA, List.length_cons, Nat.pow_succ, h s List.mem_cons_self, if_true, this]
    omega
theorem Yb : ∀ {ss : List Nat} {d : Nat → Bool}, (∀ s ∈ ss, d s = false) → yA ss d = 0
  | [], _, _ => rfl
  | s :: r, d, h => by
    have := Yb (ss := r) (d := d) (fun q hq => h q (List.mem_cons_of_mem _ hq))
    simp [yA, h s List.mem_cons_self, this]
def VR (pre : List (List Nat)) (ss : List Nat) (m i : Nat) : Bool := (List.range ss.length).all fun p => match ss.getD p 0 with
  | s => (!(pre.getD i []).contains s || m.testBit p) && (!(Nat.beq s i || (pre.getD s []).contains i) || !m.testBit p) && (!m.testBit p || (List.range ss.length).all fun r => !(pre.getD s []).contains (ss.getD r 0) || m.testBit r)
def maskOk (pre : List (List Nat)) (ss : List Nat) (sees : List (List Nat)) : Bool := (List.range sees.length).all fun i => (List.range (2 ^ ss.length)).all fun m => !VR pre ss m i || (sees.getD i []).contains m
theorem maskOk.mem {ss : List Nat} {sees : List (List Nat)} (h : maskOk pre ss sees = true) {i : Nat} (hi : i < sees.length) {done : Nat → Bool} (hc : closed pre done) (hd : done i = false) (hp : ∀ j ∈ pre.getD i [], done j = true) : yA ss done ∈ sees.getD i [] := by
  simp only [maskOk, List.all_eq_true, List.mem_range] at h
  have h1 := h i hi (yA ss done) (XX _ _)
  have hcons : VR pre ss (yA ss done) i = true := by
    simp only [VR, List.all_eq_true, List.mem_range]
    intro p hp'
    have hb : ∀ r, r < ss.length → (yA ss done).testBit r = done (ss.getD r 0) := fun r hr => YZ ss done r _ (by rw [List.getD_eq_getElem?_getD, List.getElem?_eq_getElem hr]; rfl)
    simp only [Bool.and_eq_true, Bool.or_eq_true, Bool.not_eq_true', List.all_eq_true, List.mem_range]
    rw [hb p hp']
    refine ⟨⟨?_, ?_⟩, ?_⟩
    · cases hk : (pre.getD i []).contains (ss.getD p 0) with
      | false => exact .inl rfl
      | true => exact .inr (hp _ (List.contains_iff_mem.1 hk))
    · cases hk : (Nat.beq (ss.getD p 0) i || (pre.getD (ss.getD p 0) []).contains i) with
      | false => exact .inl rfl
      | true =>
        right
        rcases Bool.or_eq_true _ _ ▸ hk with h2 | h2
        · rw [Nat.eq_of_beq_eq_true h2]; exact hd
        · cases hds : done (ss.getD p 0) with
          | false => rfl
          | true => have := hc _ hds i (List.contains_iff_mem.1 h2); rw [hd] at this; cases this
    · cases hds : done (ss.getD p 0) with
      | false => exact .inl rfl
      | true =>
        right
        intro r hr
        rw [hb r hr]
        cases hk : (pre.getD (ss.getD p 0) []).contains (ss.getD r 0) with
        | false => exact .inl rfl
        | true => exact .inr (hc _ hds _ (List.contains_iff_mem.1 hk))
  rw [hcons] at h1
  simpa using h1

def WH (P : Program) (ops : List Oper) (pre : List (List Nat)) (ss : List Nat) (sees : List (List Nat)) (W : Nat → (Nat → Value) → World → Prop) (A : Nat → (Nat → Value) → Prop) (σ : Env) : Nat → List Oper → Prop
  | _, [] => True
  | i, o :: rest => (∀ k vals w, k ∈ sees.getD i [] → W k vals w → (∀ j, j ∈ pre.getD i [] → A j vals) →
      if Region.wanted o (yl ops.toArray (ZS ops (pre.getD i []) σ vals)) then opV P o (ZS ops (pre.getD i []) σ vals) w (fun v w' => ∀ vals', vals' i = v → (∀ j, j ≠ i → vals' j = vals j) → (if ss.contains i then W (k + 2 ^ ss.idxOf i) vals' w' else w' = w) ∧ A i vals')
      else ∀ vals', vals' i = undef → (∀ j, j ≠ i → vals' j = vals j) → (if ss.contains i then W (k + 2 ^ ss.idxOf i) vals' w else True) ∧ A i vals') ∧
    WH P ops pre ss sees W A σ (i + 1) rest

theorem VP {ss : List Nat} {sees : List (List Nat)} {W : Nat → (Nat → Value) → World → Prop} {A : Nat → (Nat → Value) → Prop} {i0 : Nat} : ∀ {l : List Oper}, WH P ops pre ss sees W A σ i0 l → ∀ i o, l[i]? = some o → ∀ k vals w, k ∈ sees.getD (i0 + i) [] → W k vals w → (∀ j, j ∈ pre.getD (i0 + i) [] → A j vals) →
      if Region.wanted o (yl ops.toArray (ZS ops (pre.getD (i0 + i) []) σ vals)) then opV P o (ZS ops (pre.getD (i0 + i) []) σ vals) w (fun v w' => ∀ vals', vals' (i0 + i) = v → (∀ j, j ≠ i0 + i → vals' j = vals j) → (if ss.contains (i0 + i) then W (k + 2 ^ ss.idxOf (i0 + i)) vals' w' else w' = w) ∧ A (i0 + i) vals')
      else ∀ vals', vals' (i0 + i) = undef → (∀ j, j ≠ i0 + i → vals' j = vals j) → (if ss.contains (i0 + i) then W (k + 2 ^ ss.idxOf (i0 + i)) vals' w else True) ∧ A (i0 + i) vals' := by
  intro l
  induction l generalizing i0 with
  | nil => intro _ i o h; simp at h
  | cons x l ih =>
    intro h i o ho
    obtain ⟨h1, h2⟩ := h
    cases i with
    | zero => simp only [List.getElem?_cons_zero, Option.some.injEq] at ho; subst ho; exact h1
    | succ i =>
      have := ih h2 i o (by simpa using ho)
      rw [show i0 + 1 + i = i0 + (i + 1) by omega] at this
      exact this

theorem Qr {ss : List Nat} {sees : List (List Nat)} {W : Nat → (Nat → Value) → World → Prop} {A : Nat → (Nat → Value) → Prop} (hf : Fit ops pre ops.length) (hd : xw n ops = true) (hkl : sees.length = ops.length) (hk : maskOk pre ss sees = true) (hsl : ∀ s ∈ ss, s < ops.length) (hnd : ss.Nodup)
    (hloc : ∀ k vals vals' w, (∀ s ∈ ss, vals' s = vals s) → W k vals w → W k vals' w)
    (hlocA : ∀ i vals vals', (∀ j, j = i ∨ j ∈ pre.getD i [] → vals' j = vals j) → A i vals → A i vals') (hob : WH P ops pre ss sees W A σ 0 ops)
    (hfin : ∀ vals w', W (2 ^ ss.length - 1) vals w' → (∀ j, j < ops.length → A j vals) → Q .normal (behind ops vals σ ops.length) w') :
    ∀ (fuel : Nat) (listed : Array Bool) (a : Act) (vals : Nat → Value) (w : World), listed.size = ops.length → closed pre (dn listed) → (∀ j, dn listed j = true → j < ops.length) →
    ops.length ≤ cnt (dn listed) ops.length + fuel → Sim n (mixed ops (dn listed) vals σ) a → W (yA ss (dn listed)) vals w → (∀ j, dn listed j = true → A j vals) →
    wpAny P .any ops.toArray (fun e a' w' => ∃ σ'', Sim n σ'' a' ∧ Q e σ'' w') fuel listed a w := by
  have hend : ∀ (listed : Array Bool) (a : Act) (vals : Nat → Value) (w : World), (∀ j, j < ops.length → dn listed j = true) → (∀ j, dn listed j = true → j < ops.length) → Sim n (mixed ops (dn listed) vals σ) a → W (yA ss (dn listed)) vals w → (∀ j, dn listed j = true → A j vals) →
      ∃ σ'', Sim n σ'' a ∧ Q .normal σ'' w := by
    intro listed a vals w hall hlt hsim hW hA
    have hdn : dn listed = fun j => decide (j < ops.length) := by
      funext j
      rw [Bool.eq_iff_iff, decide_eq_true_eq]
      exact ⟨hlt j, hall j⟩
    have hst : yA ss (dn listed) = 2 ^ ss.length - 1 := YT fun s hs => hall s (hsl s hs)
    rw [hdn, ← xG hf ops.length (Nat.le_refl _)] at hsim
    exact ⟨_, hsim, hfin vals w (hst ▸ hW) fun j hj => hA j (hall j hj)⟩
  intro fuel
  induction fuel with
  | zero =>
    intro listed a vals w hs hc hlt hfu hsim hW hA
    have hall := Yr (done := dn listed) (m := ops.length) (by omega)
    refine ⟨?_, hend listed a vals w hall hlt hsim hW hA⟩
    cases hr : Region.ready .any ops.toArray listed with
    | nil => rfl
    | cons i r =>
      have hi : i ∈ Region.ready .any ops.toArray listed := by rw [hr]; exact List.mem_cons_self
      obtain ⟨h1, o, ho, _⟩ := (Zb hs).1 hi
      have := hall i (List.getElem?_eq_some_iff.1 ho).1
      rw [h1] at this; cases this
  | succ fuel ih =>
    intro listed a vals w hs hc hlt hfu hsim hW hA
    refine ⟨fun hr => hend listed a vals w (YP hf hs hr) hlt hsim hW hA, fun i hi => ?_⟩
    obtain ⟨o, ho, hni, hpre⟩ := YM hf hs hc hi
    have hilen := (List.getElem?_eq_some_iff.1 ho).1
    have hdst : ∀ d, o.dst = some d → d < n := by
      intro d hd'
      simp only [xw, List.all_eq_true] at hd
      have := hd o (List.mem_of_getElem? ho)
      rw [hd'] at this
      simpa [Nat.blt_eq] using this
    have hv := Ye (σ := σ) (vals := vals) hf ho hc hni hpre
    have hbd := maskOk.mem hk (i := i) (by omega) hc hni hpre
    have hO := VP hob i o ho (yA ss (dn listed)) vals w
    simp only [Nat.zero_add] at hO
    have hO' := hO hbd hW (fun j hj => hA j (hpre j hj))
    have hset := VA hs ho
    have hnext : ∀ v a' w', (∀ vals', vals' i = v → (∀ j, j ≠ i → vals' j = vals j) → (if ss.contains i then W (yA ss (dn listed) + 2 ^ ss.idxOf i) vals' w' else W (yA ss (dn listed)) vals w') ∧ A i vals') → Sim n (Zu (mixed ops (dn listed) vals σ) o.dst v) a' →
        wpAny P .any ops.toArray (fun e a' w' => ∃ σ'', Sim n σ'' a' ∧ Q e σ'' w') fuel (listed.setIfInBounds i true) a' w' := by
      intro v a' w' hn hs'
      rw [Yf hf ho hni v] at hs'
      obtain ⟨hWn, hAn⟩ := hn (fun j => if j = i then v else vals j) (if_pos rfl) (fun j hj => if_neg hj)
      refine ih _ a' (fun j => if j = i then v else vals j) w' (by simpa using hs) ?_ ?_ ?_ ?_ ?_ ?_
      · intro j hj j' hj'
        rw [hset] at hj ⊢
        simp only [Bool.or_eq_true, beq_iff_eq] at hj ⊢
        rcases hj with hj | rfl
        · exact .inl (hc j hj j' hj')
        · exact .inl (hpre j' hj')
      · intro j hj
        rw [hset] at hj
        simp only [Bool.or_eq_true, beq_iff_eq] at hj
        rcases hj with hj | rfl
        · exact hlt j hj
        · exact hilen
      · rw [hset, Xl hni, if_pos hilen]; omega
      · rw [hset]; exact hs'
      · rw [hset]
        by_cases hm : i ∈ ss
        · rw [if_pos (List.contains_iff_mem.2 hm)] at hWn
          rw [Vq hnd hm hni]
          exact hWn
        · rw [if_neg (fun h => hm (List.contains_iff_mem.1 h))] at hWn
          rw [YJ hm]
          exact hloc _ _ _ _ (fun s hs => if_neg (fun e : s = i => hm (e ▸ hs))) hWn
      · intro j hj
        rw [hset] at hj
        simp only [Bool.or_eq_true, beq_iff_eq] at hj
        by_cases hji : j = i
        · subst hji; exact hAn
        · rcases hj with hj | hj
          · refine hlocA j vals _ (fun q hq => if_neg (fun e : q = i => ?_)) (hA j hj)
            subst e
            rcases hq with hq | hq
            · exact hji hq.symm
            · have := hc j hj q hq; rw [hni] at this; cases this
          · exact (hji hj).elim
    unfold wpOp
    simp only [List.getElem?_toArray, ho]
    rw [hsim.yielded, Zw (σ := ZS ops (pre.getD i []) σ vals) hv]
    split
    · rename_i hw
      rw [if_pos hw] at hO'
      refine .inl (Wo hsim (K := fun σ'' w' => ∃ v, (∀ vals', vals' i = v → (∀ j, j ≠ i → vals' j = vals j) → (if ss.contains i then W (yA ss (dn listed) + 2 ^ ss.idxOf i) vals' w' else W (yA ss (dn listed)) vals w') ∧ A i vals') ∧ σ'' = Zu (mixed ops (dn listed) vals σ) o.dst v) ?_ hdst ?_)
      · rintro a' σ'' w' hs' ⟨v, h1, rfl⟩
        exact hnext v a' w' h1 hs'
      · unfold opP
        rw [YY (hf.sel i o ho) hv]
        refine Xw (fun v w' h => ⟨v, fun vals' h1 h2 => ?_, rfl⟩) hO'
        obtain ⟨h3, h4⟩ := h vals' h1 h2
        refine ⟨?_, h4⟩
        split
        · rename_i hm; rw [if_pos hm] at h3; exact h3
        · rename_i hm; rw [if_neg hm] at h3; subst h3; exact hW
    · rename_i hw
      rw [if_neg hw] at hO'
      refine hnext undef _ w (fun vals' h1 h2 => ?_) (hsim.put hdst undef)
      obtain ⟨h3, h4⟩ := hO' vals' h1 h2
      refine ⟨?_, h4⟩
      split
      · rename_i hm; rw [if_pos hm] at h3; exact h3
      · exact hW

theorem Yj {id : Nat} (W : Nat → (Nat → Value) → World → Prop) (A : Nat → (Nat → Value) → Prop) (pre : List (List Nat)) (ss : List Nat) (sees : List (List Nat)) (hm : P.follows .mixedOrders = true) (hd : xw n ops = true) (hok : drawOk ops pre ops.length = true)
    (hkl : sees.length = ops.length) (hk : maskOk pre ss sees = true) (hsl : (ss.all fun s => Nat.blt s ops.length) = true) (hnd : ss.Nodup)
    (hW : ∀ w0 : World, w0.heap = w.heap → w0.os = w.os → w0.tape = w.tape → w0.output = w.output ∧ w.drawn ≤ w0.drawn → ∀ vals, W 0 vals w0)
    (hloc : ∀ k vals vals' w, (∀ s ∈ ss, vals' s = vals s) → W k vals w → W k vals' w)
    (hlocA : ∀ i vals vals', (∀ j, j = i ∨ j ∈ pre.getD i [] → vals' j = vals j) → A i vals → A i vals')
    (hob : WH P ops pre ss sees W A σ 0 ops)
    (hfin : ∀ vals w', W (2 ^ ss.length - 1) vals w' → (∀ j, j < ops.length → A j vals) → WPs P ops.toArray (Q .normal) [] (behind ops vals σ ops.length) w') :
    WP P n (.region id ops.toArray true) Q σ w := by
  intro a hs
  have hf := drawOk.fit hok
  have hz : dn (Array.replicate ops.toArray.size false) = fun _ => false := by
    funext i
    simp [dn, Array.getElem?_replicate]
    split <;> rfl
  refine wp_region_any hm ?_
  refine Qr (ss := ss) (vals := fun _ => undef) hf hd hkl hk (fun s hs => by
    have := (List.all_eq_true.1 hsl) s hs; simpa [Nat.blt_eq] using this) hnd hloc hlocA hob hfin _ _ a _ (by simp) ?_ ?_ ?_ ?_ ?_ ?_
  · intro i hi; rw [hz] at hi; cases hi
  · intro i hi; rw [hz] at hi; cases hi
  · simp
  · have : mixed ops (dn (Array.replicate ops.toArray.size false)) (fun _ => undef) σ = σ := by
      funext t
      exact xh fun j _ => by rw [hz]
    rw [this]; exact hs
  · have : yA ss (dn (Array.replicate ops.toArray.size false)) = 0 := Yb fun s _ => by rw [hz]
    rw [this]; exact hW { w with drawn := w.drawn + 1 } rfl rfl rfl ⟨rfl, Nat.le_succ _⟩ _
  · intro i hi; rw [hz] at hi; cases hi
end
end Go.Proofs.YtlblilbmpdejgaaDoor
/- Steps of the proofs of this seat: part F0. -/
set_option maxRecDepth 8000
set_option maxHeartbeats 4000000
namespace Go.Proofs.YtlblilbmpdejgaaDoor
open Go.Proofs Go.RowKit

theorem XI (a b c d : Int) : (decide (a = c ∧ b = d)) = (a == c && b == d) := by
  by_cases h1 : a = c <;> by_cases h2 : b = d <;> simp [h1, h2]
theorem ck3 (w : World) (e : Bool) (n : Nat) (a : Int) : (Instr.checkKey e (n + 1) 3 (.int .i64 a)).run Tryd.prog w = .ok () w := MapKept.run_checkKey Tryd.underlying3 (show MapKept.IsKey (.int .i64) (.int .i64 a) from rfl) e n
def yi (k : Int × Int) : Value := .agg #[.int .i64 k.1, .int .i64 k.2]
def yr (k : Int × Int × Int) : Value := .agg #[.int .i64 k.1, .int .i64 k.2.1, .int .i64 k.2.2]
theorem K2 : KLaw Tryd.prog 120 yi where
  inj := by
    rintro ⟨a, b⟩ ⟨c, d⟩ h
    simp only [yi, Value.agg.injEq, Array.mk.injEq, List.cons.injEq, Value.int.injEq, true_and, and_true] at h
    rw [h.1, h.2]
  desc := ⟨_, Tryd.underlying120, fun _ _ => rfl⟩
  check := by
    intro w e k
    show (Instr.checkKey e 10000 120 (.agg #[.int .i64 k.1, .int .i64 k.2])).run Tryd.prog w = .ok () w
    rw [show (10000 : Nat) = 9998 + 1 + 1 from rfl, Instr.checkKey]
    simp [go_sem, ck3]
  eql := by
    rintro w ⟨a, b⟩ ⟨c, d⟩
    rw [show decide ((a, b) = (c, d)) = (a == c && b == d) by rw [← XI]; simp]
    unfold Op.equal Op.maxDepth yi
    simp [go_sem]
    by_cases h1 : a = c <;> by_cases h2 : b = d <;> simp [h1, h2]
  stays := by intro k; simp [Instr.sameBits, yi]
theorem K3 : KLaw Tryd.prog 133 yr where
  inj := by
    rintro ⟨a, b, c⟩ ⟨d, e, f⟩ h
    simp only [yr, Value.agg.injEq, Array.mk.injEq, List.cons.injEq, Value.int.injEq, true_and, and_true] at h
    rw [h.1, h.2.1, h.2.2]
  desc := ⟨_, Tryd.underlying133, fun _ _ => rfl⟩
  check := by
    intro w e k
    show (Instr.checkKey e 10000 133 (.agg #[.int .i64 k.1, .int .i64 k.2.1, .int .i64 k.2.2])).run Tryd.prog w = .ok () w
    rw [show (10000 : Nat) = 9997 + 1 + 1 + 1 from rfl, Instr.checkKey]
    simp [go_sem, ck3]
    rw [Instr.checkKey]
    simp [go_sem, ck3]
  eql := by
    rintro w ⟨a, b, c⟩ ⟨d, e, f⟩
    rw [show decide ((a, b, c) = (d, e, f)) = (a == d && b == e && c == f) by by_cases h1 : a = d <;> by_cases h2 : b = e <;> by_cases h3 : c = f <;> simp [h1, h2, h3]]
    unfold Op.equal Op.maxDepth yr
    simp [go_sem]
    by_cases h1 : a = d <;> by_cases h2 : b = e <;> by_cases h3 : c = f <;> simp [h1, h2, h3]
  stays := by intro k; simp [Instr.sameBits, yr]

def E1 (v : Value) (x : Nat × List Cel) : HP := ⟨fun w f => ∃ vc, v = .agg #[.int .i64 ((x.1 : Nat) : Int), vc] ∧ (RowE (α := Cel) own 42 vc x.2).p w f, fun h hf => by
  obtain ⟨vc, h1, h2⟩ := h
  exact ⟨vc, h1, HP.loc _ h2 hf⟩⟩
def E2 (v : Value) (l : List Ev) : HP := RowE (α := Ev) own 59 v l
def YX : Value := .agg #[.int .i64 0, .slice none 0 0]
def ViewO (b : Nat) (d : Dcl) (L M : List Ent) : HP := Ex1 fun vt => Ex1 fun vp => Ex1 fun ve => Ex1 fun m1 => Ex1 fun m2 => Star [Blk b #[vt, vp, ve, .map (some m1), .map (some m2)] 111, RowE (α := Typ) own 33 vt d.types, RowE (α := Prj) own 107 vp d.projs, RowE (α := Ent) own 62 ve L, zF yi E1 m1 (zj d M), zF yr E2 m2 (zI M)]
section
variable {G : Nat → Prop} {W w : World} {As : List HP} {b : Nat} {d : Dcl} {L M : List Ent}
theorem ViewO.open (h : Sep G W (ViewO b d L M :: As) w) : ∃ vt vp ve m1 m2, Sep G W (Blk b #[vt, vp, ve, .map (some m1), .map (some m2)] 111 :: RowE (α := Typ) own 33 vt d.types :: RowE (α := Prj) own 107 vp d.projs :: RowE (α := Ent) own 62 ve L :: zF yi E1 m1 (zj d M) :: zF yr E2 m2 (zI M) :: As) w := by
  obtain ⟨vt, h⟩ := h.openEx
  obtain ⟨vp, h⟩ := h.openEx
  obtain ⟨ve, h⟩ := h.openEx
  obtain ⟨m1, h⟩ := h.openEx
  obtain ⟨m2, h⟩ := h.openEx
  exact ⟨vt, vp, ve, m1, m2, h.openStar⟩
theorem ViewO.close {vt vp ve : Value} {m1 m2 : Nat} (h : Sep G W (Blk b #[vt, vp, ve, .map (some m1), .map (some m2)] 111 :: RowE (α := Typ) own 33 vt d.types :: RowE (α := Prj) own 107 vp d.projs :: RowE (α := Ent) own 62 ve L :: zF yi E1 m1 (zj d M) :: zF yr E2 m2 (zI M) :: As) w) : Sep G W (ViewO b d L M :: As) w := by
  have h := Sep.closeStar (Bs := [Blk b #[vt, vp, ve, .map (some m1), .map (some m2)] 111, RowE (α := Typ) own 33 vt d.types, RowE (α := Prj) own 107 vp d.projs, RowE (α := Ent) own 62 ve L, zF yi E1 m1 (zj d M), zF yr E2 m2 (zI M)]) h
  exact Sep.closeEx (A := fun vt => Ex1 fun vp => Ex1 fun ve => Ex1 fun m1 => Ex1 fun m2 => Star [Blk b #[vt, vp, ve, .map (some m1), .map (some m2)] 111, RowE (α := Typ) own 33 vt d.types, RowE (α := Prj) own 107 vp d.projs, RowE (α := Ent) own 62 ve L, zF yi E1 m1 (zj d M), zF yr E2 m2 (zI M)]) vt (Sep.closeEx (A := fun vp => Ex1 fun ve => Ex1 fun m1 => Ex1 fun m2 => Star [Blk b #[vt, vp, ve, .map (some m1), .map (some m2)] 111, RowE (α := Typ) own 33 vt d.types, RowE (α := Prj) own 107 vp d.projs, RowE (α := Ent) own 62 ve L, zF yi E1 m1 (zj d M), zF yr E2 m2 (zI M)]) vp (Sep.closeEx (A := fun ve => Ex1 fun m1 => Ex1 fun m2 => Star [Blk b #[vt, vp, ve, .map (some m1), .map (some m2)] 111, RowE (α := Typ) own 33 vt d.types, RowE (α := Prj) own 107 vp d.projs, RowE (α := Ent) own 62 ve L, zF yi E1 m1 (zj d M), zF yr E2 m2 (zI M)]) ve (Sep.closeEx (A := fun m1 => Ex1 fun m2 => Star [Blk b #[vt, vp, ve, .map (some m1), .map (some m2)] 111, RowE (α := Typ) own 33 vt d.types, RowE (α := Prj) own 107 vp d.projs, RowE (α := Ent) own 62 ve L, zF yi E1 m1 (zj d M), zF yr E2 m2 (zI M)]) m1 (Sep.closeEx (A := fun m2 => Star [Blk b #[vt, vp, ve, .map (some m1), .map (some m2)] 111, RowE (α := Typ) own 33 vt d.types, RowE (α := Prj) own 107 vp d.projs, RowE (α := Ent) own 62 ve L, zF yi E1 m1 (zj d M), zF yr E2 m2 (zI M)]) m2 h))))
theorem Ur {v : Value} {k : Int × Int × Int} (h : Sep G W (ZG E2 v (zI M k) :: As) w) (hv : zI M k = none → v = .slice none 0 0) : Sep G W (RowE (α := Ev) own 59 v (zz k M) :: As) w := by
  refine h.impl (i := 0) rfl (fun f hA => ?_)
  unfold zI at hA hv
  split at hA
  · rename_i he
    rw [if_pos he] at hv
    rw [hv rfl, List.isEmpty_iff.1 he]
    exact RowE.nil _ _ _ _
  · exact hA
theorem YR {v : Value} {k : Int × Int × Int} (h : Sep G W (RowE (α := Ev) own 59 v (zz k M) :: As) w) : Sep G W (ZG E2 v (zI M k) :: As) w := by
  refine h.impl (i := 0) rfl (fun f hA => ?_)
  unfold zI
  split
  · exact trivial
  · exact hA
def stL (d : Dcl) (k : Int × Int) (M : List Ent) : List Cel := if zX k M = 0 then [] else yx d k M
theorem YL {v : Value} {k : Int × Int} (h : Sep G W (ZG E1 v (zj d M k) :: As) w) (hv : zj d M k = none → v = YX) : ∃ vc, v = .agg #[.int .i64 ((zX k M : Nat) : Int), vc] ∧ Sep G W (RowE (α := Cel) own 42 vc (stL d k M) :: As) w := by
  unfold zj at h hv
  unfold stL
  by_cases he : zX k M = 0
  · rw [if_pos he] at hv h
    rw [if_pos he]
    refine ⟨.slice none 0 0, by rw [hv rfl, he]; rfl, h.impl (i := 0) rfl (fun f _ => RowE.nil _ _ _ _)⟩
  · rw [if_neg he] at h
    rw [if_neg he]
    obtain ⟨f, ⟨vc, h1, h2⟩, _⟩ := h.get (i := 0) rfl
    refine ⟨vc, h1, h.impl (i := 0) rfl (fun f hA => ?_)⟩
    obtain ⟨vc', h3, h4⟩ := hA
    rw [h1] at h3
    simp only [Value.agg.injEq, Array.mk.injEq, List.cons.injEq, and_true, true_and] at h3
    rw [h3]
    exact h4
theorem Wi {vc : Value} {k : Int × Int} (h : Sep G W (RowE (α := Cel) own 42 vc (stL d k M) :: As) w) : Sep G W (ZG E1 (.agg #[.int .i64 ((zX k M : Nat) : Int), vc]) (zj d M k) :: As) w := by
  refine h.impl (i := 0) rfl (fun f hA => ?_)
  unfold zj
  unfold stL at hA
  by_cases he : zX k M = 0
  · rw [if_pos he]; exact trivial
  · rw [if_neg he] at hA ⊢; exact ⟨vc, rfl, hA⟩
theorem Vp {vc : Value} {n : Nat} {c : List Cel} (h : Sep G W (RowE (α := Cel) own 42 vc c :: As) w) : Sep G W (E1 (.agg #[.int .i64 ((n : Nat) : Int), vc]) (n, c) :: As) w := h.impl (i := 0) rfl (fun f hA => ⟨vc, rfl, hA⟩)
end

end Go.Proofs.YtlblilbmpdejgaaDoor
/- Steps of the proofs of this seat: part F1. -/
set_option maxRecDepth 8000
set_option maxHeartbeats 4000000
namespace Go.Proofs.YtlblilbmpdejgaaDoor
open Go.Proofs Go.RowKit

theorem Qj {G : Nat → Prop} {W w : World} {Rs : List HP} {vv : Value} {v : List Int} (hv : RdS W G vv v) {o : Int} (ho : InR o) (hS0 : Sep G W Rs w) : Ret Tryd.prog 100 [vv, .int .i64 (o)] w (fun r w' => r = (.int .i64 (xO v o) : Value) ∧ (InR (xO v o)) ∧ Sep G W Rs w') := by
 have hvs : _ * 8 ≤ _ := hv.small
 refine zr (args := [vv, .int .i64 (o)]) Tryd.func100 rfl rfl ?_
 refine zd ?_
 refine za (by kernel_rfl) (fun _ => ?_)
 refine st (ze (v := .int .i64 (0)) rfl ?_)
 refine zf ?_
 refine zd ?_
 refine zd ?_
 refine zD (by kernel_rfl) ?_
 refine st (zb (v := .int .i64 (o)) rfl ?_)
 refine st (zN (k := .i64) (a := o) (b := 0) rfl rfl ?_)
 refine st (zb (v := .bool (decide (o < 0))) rfl ?_)
 refine stc (V := .int .i64 (o)) rfl rfl (fun hb1 => ?_) ?_
 ·have hl2 := hb1
  have hl2 := of_decide_eq_false hl2
  exact zb (v := .int .i64 (o)) rfl ⟨rfl, rfl⟩
 refine stc (V := vv) rfl rfl (fun hb3 => ?_) ?_
 ·have hl4 := hb3
  have hl4 := of_decide_eq_false hl4
  exact zb (v := vv) rfl ⟨rfl, rfl⟩
 refine stc (V := .int .i64 ((v.length : Nat) : Int)) rfl rfl (fun hb5 => ?_) ?_
 ·have hl6 := hb5
  have hl6 := of_decide_eq_false hl6
  exact zJ (n := v.length) Tryd.underlying40 (show _ = (vv : Value) from (if_pos hb5)) hv.sl ⟨rfl, rfl⟩
 refine stc (V := .bool (decide (((v.length : Nat) : Int) ≤ o))) rfl rfl (fun hb7 => ?_) ?_
 ·have hl8 := hb7
  have hl8 := of_decide_eq_false hl8
  exact xI (k := .i64) (a := o) (b := ((v.length : Nat) : Int)) (show _ = (.int .i64 (o) : Value) from (if_pos hb7)) (show _ = (.int .i64 ((v.length : Nat) : Int) : Value) from (if_pos hb7)) ⟨rfl, rfl⟩
 refine st (zA (b := decide (o < 0)) (b' := decide (((v.length : Nat) : Int) ≤ o)) rfl (fun hbp => (show _ = (.bool (decide (((v.length : Nat) : Int) ≤ o)) : Value) from (if_pos hbp))) ?_)
 refine zf ?_
 cases hc9 : (decide (o < 0)) || (decide (((v.length : Nat) : Int) ≤ o))
 ·skip
  try simp only [zn] at hc9
  refine zo rfl ?_
  refine zw ?_
  refine zd ?_
  refine za (by kernel_rfl) (fun _ => ?_)
  refine st (zb (v := vv) rfl ?_)
  refine st (zb (v := .int .i64 (o)) rfl ?_)
  have hi10 : o.toNat < v.length := (by first | omega | (simp only [lens]; omega))
  refine st (zG (k := 1) (i := o) Tryd.underlying40 Tryd.sizeOf3 rfl hv.sl rfl ⟨by omega, by omega⟩ ?_)
  have hi12 : o.toNat < v.length := (by first | omega | (simp only [lens]; omega))
  obtain ⟨hce11, hxe11⟩ := hv.int hi12
  rw [← zk 0 hi12] at hce11 hxe11
  have hcw13 := hS0.cells hce11 (hv.foot (ne_of_lt hi12))
  refine st (zg (v := .int .i64 ((v.getD o.toNat 0))) Tryd.isAgg3 rfl (hcw13.get (j := 0) rfl) ?_)
  refine st (Qn (k := .i64) (a := (v.getD o.toNat 0)) (b := 0) rfl rfl ?_)
  refine st (ze (v := .int .i64 (max (v.getD o.toNat 0) 0)) rfl ?_)
  refine zf ?_
  refine zu ?_
  refine ya Tryd.results100 (show _ = (.int .i64 (max (v.getD o.toNat 0) 0) : Value) from rfl) ?_
  refine ⟨?_, ?_, hS0⟩
  · unfold xO; rw [if_neg (by omega)]
  · unfold xO; rw [if_neg (by omega)]; omega
 ·skip
  try simp only [zn] at hc9
  refine zq rfl ?_
  refine zd ?_
  refine za (by kernel_rfl) (fun _ => ?_)
  refine st (ze (v := .int .i64 (0)) rfl ?_)
  refine zf ?_
  refine zu ?_
  refine ya Tryd.results100 (show _ = (.int .i64 (0) : Value) from rfl) ?_
  refine ⟨?_, ?_, hS0⟩
  · unfold xO; rw [if_pos (by omega)]
  · unfold xO; rw [if_pos (by omega)]; omega

theorem xS {d : Option Tmp} {ty : TypeId} {pos : String} {af : Array Edge} {g : Option (Nat × Bool)} {σ : Env} {w : World} {K : Value → World → Prop} {x : Operand} {b o : Nat} (hx : ev σ x = .pointer (some ⟨b, o, none⟩)) (h : K (.pointer (some ⟨b, o + 3, none⟩)) w) : opV Tryd.prog ⟨d, .fieldAddr 59 x 2, ty, pos, af, g⟩ σ w K := zt Tryd.underlying59 rfl rfl (fun w => ⟨0, Tryd.sizeOf40 w⟩) hx h
theorem yU {d : Option Tmp} {ty : TypeId} {pos : String} {af : Array Edge} {g : Option (Nat × Bool)} {σ : Env} {w : World} {K : Value → World → Prop} {x : Operand} {b o : Nat} (hx : ev σ x = .pointer (some ⟨b, o, none⟩)) (h : K (.pointer (some ⟨b, o + 0, none⟩)) w) : opV Tryd.prog ⟨d, .fieldAddr 59 x 0, ty, pos, af, g⟩ σ w K := zt Tryd.underlying59 rfl rfl (fun w => ⟨1, Tryd.sizeOf57 w⟩) hx h
theorem Yc {d : Option Tmp} {ty : TypeId} {pos : String} {af : Array Edge} {g : Option (Nat × Bool)} {σ : Env} {w : World} {K : Value → World → Prop} {x : Operand} {b o : Nat} (hx : ev σ x = .pointer (some ⟨b, o, none⟩)) (h : K (.pointer (some ⟨b, o + 0, none⟩)) w) : opV Tryd.prog ⟨d, .fieldAddr 57 x 0, ty, pos, af, g⟩ σ w K := zt Tryd.underlying57 rfl rfl (fun w => ⟨0, Tryd.sizeOf3 w⟩) hx h
theorem Xj {d : Option Tmp} {ty : TypeId} {pos : String} {af : Array Edge} {g : Option (Nat × Bool)} {σ : Env} {w : World} {K : Value → World → Prop} {x : Operand} {b o : Nat} (hx : ev σ x = .pointer (some ⟨b, o, none⟩)) (h : K (.pointer (some ⟨b, o + 1, none⟩)) w) : opV Tryd.prog ⟨d, .fieldAddr 57 x 1, ty, pos, af, g⟩ σ w K := zt Tryd.underlying57 rfl rfl (fun w => ⟨0, Tryd.sizeOf3 w⟩) hx h
theorem XC {G : Nat → Prop} {W w : World} {Rs : List HP} {a : Ev} {da0 : Value} (hda0 : RdS W G da0 a.deps) (oa : a.Ok) {b : Ev} {db0 : Value} (hdb0 : RdS W G db0 b.deps) (ob : b.Ok) (hS0 : Sep G W Rs w) : Ret Tryd.prog 92 [.agg (a.cells da0).toArray, .agg (b.cells db0).toArray] w (fun r w' => r = (.bool ((ZL a b)) : Value) ∧ Sep G W Rs w') := by
 have hda0s : _ * 8 ≤ _ := hda0.small
 have hdb0s : _ * 8 ≤ _ := hdb0.small
 refine zr (args := [.agg (a.cells da0).toArray, .agg (b.cells db0).toArray]) Tryd.func92 rfl rfl ?_
 refine zd ?_
 refine za (by kernel_rfl) (fun _ => ?_)
 refine st (yb (v := .agg (a.cells da0).toArray) rfl ?_)
 intro w3 b2 hn1
 have hS4 := hS0.new hn1
 refine st (yb (v := .agg (b.cells db0).toArray) rfl ?_)
 intro w7 b6 hn5
 have hS8 := hS4.new hn5
 refine st (ze (v := .bool false) rfl ?_)
 refine zf ?_
 refine zd ?_
 refine zP ((fun TT pp0 => WF [fun vals wq => Sep G W (pp0 :: TT) wq, fun vals wq => (vals 5 = (.int .i64 (xO b.deps a.origin) : Value)) ∧ (InR (xO b.deps a.origin)) ∧ Sep G W (pp0 :: TT) wq]) ((Blk b2 (a.cells da0).toArray 59) :: Rs) (Blk b6 (b.cells db0).toArray 59)) (AF [Vl 0 (.pointer (some ⟨b6, 3, none⟩)), Vl 1 (db0), Vl 2 (.pointer (some ⟨b2, 0, none⟩)), Vl 3 (.pointer (some ⟨b2, 0, none⟩)), Vl 4 (.int .i64 (a.origin)), fun _ => True, Vl 6 (.pointer (some ⟨b2, 0, none⟩)), Vl 7 (.pointer (some ⟨b2, 1, none⟩)), Vl 8 (.int .i64 (a.seq)), Vl 9 (.bool (decide (a.seq ≤ (xO b.deps a.origin)))), Vl 10 (.bool (decide (a.seq ≤ (xO b.deps a.origin))))]) [[], [0], [], [2], [2, 3], [0, 1, 2, 3, 4], [], [6], [6, 7], [0, 1, 2, 3, 4, 5, 6, 7, 8], [0, 1, 2, 3, 4, 5, 6, 7, 8, 9]] [5] [(0, 0), (0, 0), (0, 0), (0, 0), (0, 0), (0, 0), (0, 1), (0, 1), (0, 1), (1, 1), (1, 1)] (by kernel_rfl) (by kernel_rfl) (by kernel_rfl) rfl (by kernel_rfl) (by kernel_rfl) (fun _ h1 h2 h3 h4 _ => hS8.same h1 h2 h3 h4) ?_ (yg ⟨dA, dA, dA, dA, dA, dT, dA, dA, dA, dA, dA, trivial⟩) ⟨?_, ?_, ?_, ?_, ?_, ?_, ?_, ?_, ?_, ?_, ?_, trivial⟩ ?_
 ·intro k vals vals' w hv h
  have e : ∀ j ∈ ([5] : List Nat), vals' j = vals j := hv
  match k, h with
  | 0, h => exact h
  | 1, h => exact (by simpa only [WF, List.getElem?_cons_zero, List.getElem?_cons_succ, e 5 (by decide)] using h)
  | _ + 2, _ => trivial
 ·intro k93 vals w94 h97 h98 hW96 hA95
  refine obl rfl ?_
  exact xS rfl (fun vals' hv _ => ⟨rfl, hv⟩)
 ·intro k99 vals w100 h103 h104 hW102 hA101
  obtain rfl : k99 = 0 := Nat.le_antisymm h104 h103
  have hS105 : Sep _ _ _ _ := hW102
  have e106 := hA101 0 (by decide)
  refine obl rfl ?_
  exact zg (v := db0) Tryd.isAgg40 e106 (zh (hS105.blk (i := 0) rfl) rfl) (fun vals' hv _ => ⟨rfl, hv⟩)
 ·intro k107 vals w108 h111 h112 hW110 hA109
  refine obl rfl ?_
  exact yU rfl (fun vals' hv _ => ⟨rfl, hv⟩)
 ·intro k113 vals w114 h117 h118 hW116 hA115
  have e119 := hA115 2 (by decide)
  refine obl rfl ?_
  exact Yc e119 (fun vals' hv _ => ⟨rfl, hv⟩)
 ·intro k120 vals w121 h124 h125 hW123 hA122
  obtain rfl : k120 = 0 := Nat.le_antisymm h125 h124
  have hS126 : Sep _ _ _ _ := hW123
  have e127 := hA122 3 (by decide)
  refine obl rfl ?_
  exact zg (v := .int .i64 (a.origin)) Tryd.isAgg3 e127 (zh (hS126.blk (i := 1) rfl) rfl) (fun vals' hv _ => ⟨rfl, hv⟩)
 ·intro k44 vals w45 h48 h49 hW47 hA46
  obtain rfl : k44 = 0 := Nat.le_antisymm h49 h48
  have hS50 : Sep _ _ _ _ := hW47
  have e51 := hA46 1 (by decide)
  have e52 := hA46 4 (by decide)
  refine obl rfl ?_
  refine (zv (f := 100) (vals := [db0, .int .i64 (a.origin)]) (cap := []) rfl (xj ⟨e51, e52, trivial⟩) Tryd.call100 (Qj (v := b.deps) (vv := db0) (o := a.origin) hdb0 oa.origin hS50) ?_)
  rintro _ w54 ⟨rfl, hg53, hS55⟩
  intro vals' hv hv'
  refine ⟨?_, trivial⟩
  show (vals' 5 = (.int .i64 (xO b.deps a.origin) : Value)) ∧ (InR (xO b.deps a.origin)) ∧ Sep G W ((Blk b6 (b.cells db0).toArray 59) :: (Blk b2 (a.cells da0).toArray 59) :: Rs) w54
  exact ⟨hv, hg53, hS55⟩
 ·intro k128 vals w129 h132 h133 hW131 hA130
  refine obl rfl ?_
  exact yU rfl (fun vals' hv _ => ⟨rfl, hv⟩)
 ·intro k134 vals w135 h138 h139 hW137 hA136
  have e140 := hA136 6 (by decide)
  refine obl rfl ?_
  exact Xj e140 (fun vals' hv _ => ⟨rfl, hv⟩)
 ·intro k141 vals w142 h145 h146 hW144 hA143
  have hkk : k141 = 0 ∨ k141 = 1 := by have h1 : 0 ≤ k141 := h145; have h2 : k141 ≤ 1 := h146; omega
  rcases hkk with rfl | rfl
  ·skip
   have hS147 : Sep _ _ _ _ := hW144
   have e148 := hA143 7 (by decide)
   refine obl rfl ?_
   exact zg (v := .int .i64 (a.seq)) Tryd.isAgg3 e148 (zh (hS147.blk (i := 1) rfl) rfl) (fun vals' hv _ => ⟨rfl, hv⟩)
  ·skip
   obtain ⟨he56, hg53, hS149⟩ := hW144
   have e150 := hA143 7 (by decide)
   refine obl rfl ?_
   exact zg (v := .int .i64 (a.seq)) Tryd.isAgg3 e150 (zh (hS149.blk (i := 1) rfl) rfl) (fun vals' hv _ => ⟨rfl, hv⟩)
 ·intro k151 vals w152 h155 h156 hW154 hA153
  obtain rfl : k151 = 1 := Nat.le_antisymm h156 h155
  obtain ⟨he56, hg53, hS157⟩ := hW154
  have e158 := hA153 8 (by decide)
  refine obl rfl ?_
  exact xI (k := .i64) (a := xO b.deps a.origin) (b := a.seq) he56 e158 (fun vals' hv _ => ⟨rfl, hv⟩)
 ·intro k159 vals w160 h163 h164 hW162 hA161
  have e165 := hA161 9 (by decide)
  refine obl rfl ?_
  exact ze (v := .bool (decide (a.seq ≤ (xO b.deps a.origin)))) e165 (fun vals' hv _ => ⟨rfl, hv⟩)
 intro vals w166 hW167 hA168
 obtain ⟨he56, hg53, hS169⟩ := hW167
 have e170 := hA168 10 (by decide)
 refine yh (kv := [(0, .agg (a.cells da0).toArray), (1, .agg (b.cells db0).toArray), (2, .pointer (some ⟨b2, 0, none⟩)), (3, .pointer (some ⟨b6, 0, none⟩)), (4, .bool (decide (a.seq ≤ (xO b.deps a.origin))))]) ⟨rfl, rfl, rfl, rfl, (by exact e170), trivial⟩ (fun ρw166 => ?_)
 refine zf ?_
 refine zu ?_
 refine ya Tryd.results92 (show _ = (.bool (decide (a.seq ≤ (xO b.deps a.origin))) : Value) from rfl) ?_
 have hS171 : Sep G W Rs w166 := hS169.sel 2 [] (Nat.le_add_left _ _) rfl rfl
 refine ⟨rfl, hS171⟩

theorem VD {x y : Operand} {a0 a1 b0 b1 : Int} : ∀ w, (do eqGuard .eql 57 x y (.agg #[.int .i64 a0, .int .i64 a1]) (.agg #[.int .i64 b0, .int .i64 b1]); binOp .eql 57 (.agg #[.int .i64 a0, .int .i64 a1]) (.agg #[.int .i64 b0, .int .i64 b1]) : Sem Value).run Tryd.prog w = .ok (.bool (decide (a0 = b0 ∧ a1 = b1))) w := by
  intro w
  have h : ∀ w, (Op.equal 57 (.agg #[.int .i64 a0, .int .i64 a1]) (.agg #[.int .i64 b0, .int .i64 b1])).run Tryd.prog w = .ok (decide (a0 = b0 ∧ a1 = b1)) w := by
    intro w
    unfold Op.equal Op.maxDepth; rw [XI]; simp [go_sem]; (try (by_cases h1 : a0 = b0 <;> by_cases h2 : a1 = b1 <;> simp [h1, h2]))
  simp [eqGuard, binOp, h, go_sem]
theorem Wb {x y : Operand} {a0 a1 b0 b1 : Int} : ∀ w, (do eqGuard .neq 57 x y (.agg #[.int .i64 a0, .int .i64 a1]) (.agg #[.int .i64 b0, .int .i64 b1]); binOp .neq 57 (.agg #[.int .i64 a0, .int .i64 a1]) (.agg #[.int .i64 b0, .int .i64 b1]) : Sem Value).run Tryd.prog w = .ok (.bool (!decide (a0 = b0 ∧ a1 = b1))) w := by
  intro w
  have h : ∀ w, (Op.equal 57 (.agg #[.int .i64 a0, .int .i64 a1]) (.agg #[.int .i64 b0, .int .i64 b1])).run Tryd.prog w = .ok (decide (a0 = b0 ∧ a1 = b1)) w := by
    intro w
    unfold Op.equal Op.maxDepth; rw [XI]; simp [go_sem]; (try (by_cases h1 : a0 = b0 <;> by_cases h2 : a1 = b1 <;> simp [h1, h2]))
  simp [eqGuard, binOp, h, go_sem]
theorem UH {G : Nat → Prop} {W w : World} {Rs : List HP} {a : Ev} {da0 : Value} (hda0 : RdS W G da0 a.deps) (oa : a.Ok) {b : Ev} {db0 : Value} (hdb0 : RdS W G db0 b.deps) (ob : b.Ok) (hS0 : Sep G W Rs w) : Ret Tryd.prog 69 [.agg (a.cells da0).toArray, .agg (b.cells db0).toArray] w (fun r w' => r = (.bool ((xL a b)) : Value) ∧ Sep G W Rs w') := by
 have hda0s : _ * 8 ≤ _ := hda0.small
 have hdb0s : _ * 8 ≤ _ := hdb0.small
 refine zr (args := [.agg (a.cells da0).toArray, .agg (b.cells db0).toArray]) Tryd.func69 rfl rfl ?_
 refine zd ?_
 refine za (by kernel_rfl) (fun _ => ?_)
 refine st (yb (v := .agg (a.cells da0).toArray) rfl ?_)
 intro w3 b2 hn1
 have hS4 := hS0.new hn1
 refine st (yb (v := .agg (b.cells db0).toArray) rfl ?_)
 intro w7 b6 hn5
 have hS8 := hS4.new hn5
 refine st (ze (v := .bool false) rfl ?_)
 refine zf ?_
 refine zd ?_
 refine zD (by kernel_rfl) ?_
 refine st (yU rfl ?_)
 refine st (zl (k := 2) (cs := [.int .i64 (a.origin), .int .i64 (a.seq)]) Tryd.isAgg57 Tryd.sizeOf57 rfl rfl (CellsAt.sub (CellsAt.all (hS8.blk (i := 1) rfl)) 0 (cs2 := [.int .i64 (a.origin), .int .i64 (a.seq)]) rfl) ?_)
 refine st (yU rfl ?_)
 refine st (zl (k := 2) (cs := [.int .i64 (b.origin), .int .i64 (b.seq)]) Tryd.isAgg57 Tryd.sizeOf57 rfl rfl (CellsAt.sub (CellsAt.all (hS8.blk (i := 0) rfl)) 0 (cs2 := [.int .i64 (b.origin), .int .i64 (b.seq)]) rfl) ?_)
 refine st (Zx (e := decide (a.origin = b.origin ∧ a.seq = b.seq)) (xs := #[.int .i64 (a.origin), .int .i64 (a.seq)]) (ys := #[.int .i64 (b.origin), .int .i64 (b.seq)]) Wb rfl rfl ?_)
 refine st (zb (v := .bool (!decide (a.origin = b.origin ∧ a.seq = b.seq))) rfl ?_)
 refine stc (V := .agg (a.cells da0).toArray) rfl rfl (fun hb9 => ?_) ?_
 ·have hl10 := hb9
  have hl10 := zY hl10
  exact zl (k := 10) Tryd.isAgg59 Tryd.sizeOf59 rfl rfl (CellsAt.all (hS8.blk (i := 1) rfl)) ⟨rfl, rfl⟩
 refine stc (V := .agg (b.cells db0).toArray) rfl rfl (fun hb11 => ?_) ?_
 ·have hl12 := hb11
  have hl12 := zY hl12
  exact zl (k := 10) Tryd.isAgg59 Tryd.sizeOf59 rfl rfl (CellsAt.all (hS8.blk (i := 0) rfl)) ⟨rfl, rfl⟩
 cases hg13 : !decide (a.origin = b.origin ∧ a.seq = b.seq)
 ·skip
  have hg13r := hg13
  have hg13 := yq hg13
  refine stx rfl rfl ?_
  refine stx rfl rfl ?_
  refine st (zV (v := .bool false) rfl rfl ?_)
  refine st (zb (v := .bool false) rfl ?_)
  refine stx rfl rfl ?_
  refine stx rfl rfl ?_
  refine stx rfl rfl ?_
  refine stx rfl rfl ?_
  refine st (zV (v := .bool false) rfl rfl ?_)
  refine st (ze (v := .bool false) rfl ?_)
  refine zf ?_
  refine zu ?_
  refine ya Tryd.results69 (show _ = (.bool false : Value) from rfl) ?_
  have hS14 : Sep G W Rs w7 := hS8.sel 2 [] (Nat.le_add_left _ _) rfl rfl
  refine ⟨?_, hS14⟩
  unfold xL
  first | rfl | simp only [hg13r, Bool.not_true, Bool.not_false, Bool.false_and, Bool.true_and, Bool.and_false]
 ·skip
  have hg13r := hg13
  have hg13 := zY hg13
  refine sty rfl rfl (zv (f := 92) (vals := [.agg (a.cells da0).toArray, .agg (b.cells db0).toArray]) (cap := []) rfl rfl Tryd.call92 (XC (a := a) (b := b) hda0 oa hdb0 ob hS8) ?_)
  rintro _ w15 ⟨rfl, hS16⟩
  refine sty rfl rfl (yJ (a := (ZL a b)) rfl ?_)
  refine st (zU (v := .bool (!(ZL a b))) rfl rfl ?_)
  refine st (zb (v := .bool (!(ZL a b))) rfl ?_)
  refine stc (V := .agg (b.cells db0).toArray) rfl rfl (fun hb17 => ?_) ?_
  ·have hl18 := hb17
   try simp only [zn] at hl18
   exact zl (k := 10) Tryd.isAgg59 Tryd.sizeOf59 rfl rfl (CellsAt.all (hS16.blk (i := 0) rfl)) ⟨rfl, rfl⟩
  refine stc (V := .agg (a.cells da0).toArray) rfl rfl (fun hb19 => ?_) ?_
  ·have hl20 := hb19
   try simp only [zn] at hl20
   exact zl (k := 10) Tryd.isAgg59 Tryd.sizeOf59 rfl rfl (CellsAt.all (hS16.blk (i := 1) rfl)) ⟨rfl, rfl⟩
  cases hg21 : !(ZL a b)
  ·skip
   have hg21r := hg21
   try simp only [zn] at hg21
   refine stx rfl rfl ?_
   refine stx rfl rfl ?_
   refine st (zV (v := .bool false) rfl rfl ?_)
   refine st (ze (v := .bool false) rfl ?_)
   refine zf ?_
   refine zu ?_
   refine ya Tryd.results69 (show _ = (.bool false : Value) from rfl) ?_
   have hS22 : Sep G W Rs w15 := hS16.sel 2 [] (Nat.le_add_left _ _) rfl rfl
   refine ⟨?_, hS22⟩
   unfold xL
   first | rfl | simp only [hg13r, hg21r, Bool.not_true, Bool.not_false, Bool.false_and, Bool.true_and, Bool.and_false]
  ·skip
   have hg21r := hg21
   try simp only [zn] at hg21
   refine sty rfl rfl (zv (f := 92) (vals := [.agg (b.cells db0).toArray, .agg (a.cells da0).toArray]) (cap := []) rfl rfl Tryd.call92 (XC (a := b) (b := a) hdb0 ob hda0 oa hS16) ?_)
   rintro _ w23 ⟨rfl, hS24⟩
   refine sty rfl rfl (yJ (a := (ZL b a)) rfl ?_)
   refine st (zU (v := .bool (!(ZL b a))) rfl rfl ?_)
   refine st (ze (v := .bool (!(ZL b a))) rfl ?_)
   refine zf ?_
   refine zu ?_
   refine ya Tryd.results69 (show _ = (.bool (!(ZL b a)) : Value) from rfl) ?_
   have hS25 : Sep G W Rs w23 := hS24.sel 2 [] (Nat.le_add_left _ _) rfl rfl
   refine ⟨?_, hS25⟩
   unfold xL
   first | rfl | simp only [hg13r, hg21r, Bool.not_true, Bool.not_false, Bool.false_and, Bool.true_and, Bool.and_false]

theorem Xg {x y : Operand} {a0 a1 b0 b1 : Int} : ∀ w, (do eqGuard .eql 135 x y (.agg #[.int .i64 a0, .int .i64 a1]) (.agg #[.int .i64 b0, .int .i64 b1]); binOp .eql 135 (.agg #[.int .i64 a0, .int .i64 a1]) (.agg #[.int .i64 b0, .int .i64 b1]) : Sem Value).run Tryd.prog w = .ok (.bool (decide (a0 = b0 ∧ a1 = b1))) w := by
  intro w
  have h : ∀ w, (Op.equal 135 (.agg #[.int .i64 a0, .int .i64 a1]) (.agg #[.int .i64 b0, .int .i64 b1])).run Tryd.prog w = .ok (decide (a0 = b0 ∧ a1 = b1)) w := by
    intro w
    unfold Op.equal Op.maxDepth; rw [XI]; simp [go_sem]; (try (by_cases h1 : a0 = b0 <;> by_cases h2 : a1 = b1 <;> simp [h1, h2]))
  simp [eqGuard, binOp, h, go_sem]
theorem Vb {x y : Operand} {a0 a1 b0 b1 : Int} : ∀ w, (do eqGuard .neq 135 x y (.agg #[.int .i64 a0, .int .i64 a1]) (.agg #[.int .i64 b0, .int .i64 b1]); binOp .neq 135 (.agg #[.int .i64 a0, .int .i64 a1]) (.agg #[.int .i64 b0, .int .i64 b1]) : Sem Value).run Tryd.prog w = .ok (.bool (!decide (a0 = b0 ∧ a1 = b1))) w := by
  intro w
  have h : ∀ w, (Op.equal 135 (.agg #[.int .i64 a0, .int .i64 a1]) (.agg #[.int .i64 b0, .int .i64 b1])).run Tryd.prog w = .ok (decide (a0 = b0 ∧ a1 = b1)) w := by
    intro w
    unfold Op.equal Op.maxDepth; rw [XI]; simp [go_sem]; (try (by_cases h1 : a0 = b0 <;> by_cases h2 : a1 = b1 <;> simp [h1, h2]))
  simp [eqGuard, binOp, h, go_sem]
theorem ZW {d : Option Tmp} {ty : TypeId} {pos : String} {af : Array Edge} {g : Option (Nat × Bool)} {σ : Env} {w : World} {K : Value → World → Prop} {x : Operand} {b o : Nat} (hx : ev σ x = .pointer (some ⟨b, o, none⟩)) (h : K (.pointer (some ⟨b, o + 0, none⟩)) w) : opV Tryd.prog ⟨d, .fieldAddr 135 x 0, ty, pos, af, g⟩ σ w K := zt Tryd.underlying135 rfl rfl (fun w => ⟨0, Tryd.sizeOf3 w⟩) hx h
theorem Vw {G : Nat → Prop} {W w : World} {Rs : List HP} {f : Fld} {df0 : Value} (hdf0 : RdS W G df0 f.moves) (of : f.Ok) {oA : Int} (hoA : InR oA) {aA : Int} (haA : InR aA) {oB : Int} (hoB : InR oB) {aB : Int} (haB : InR aB) (hS0 : Sep G W Rs w) : Ret Tryd.prog 68 [.agg (f.cells df0).toArray, .int .i64 (oA), .int .i64 (aA), .int .i64 (oB), .int .i64 (aB)] w (fun r w' => r = (.bool ((Xq f.kind oA aA oB aB)) : Value) ∧ Sep G W Rs w') := by
 have hdf0s : _ * 32 ≤ _ := hdf0.small
 refine zr (args := [.agg (f.cells df0).toArray, .int .i64 (oA), .int .i64 (aA), .int .i64 (oB), .int .i64 (aB)]) Tryd.func68 rfl rfl ?_
 refine zd ?_
 refine za (by kernel_rfl) (fun _ => ?_)
 refine st (yb (v := .agg (f.cells df0).toArray) rfl ?_)
 intro w3 b2 hn1
 have hS4 := hS0.new hn1
 refine st (ze (v := .bool false) rfl ?_)
 refine zf ?_
 refine zd ?_
 refine za (by kernel_rfl) (fun _ => ?_)
 refine st (zb (v := .int .i64 (oA)) rfl ?_)
 refine st (zb (v := .int .i64 (aA)) rfl ?_)
 refine st (zS (parts' := [(0, .int .i64 (oA)), (1, .int .i64 (aA))]) (v := .agg #[.int .i64 (oA), .int .i64 (aA)]) rfl (by simp [Instr.build, Instr.fill, Ev.cells, go_sem, Mv.cells, Fld.cells, Typ.cells, Prj.cells, Dcl.cells, Cel.cells, AskR.cells, Ask.cells, CelS.cells, Ev.cells, Ent.cells, Sta.cells]) ?_)
 refine st (zb (v := .int .i64 (oB)) rfl ?_)
 refine st (zb (v := .int .i64 (aB)) rfl ?_)
 refine st (zS (parts' := [(0, .int .i64 (oB)), (1, .int .i64 (aB))]) (v := .agg #[.int .i64 (oB), .int .i64 (aB)]) rfl (by simp [Instr.build, Instr.fill, Ev.cells, go_sem, Mv.cells, Fld.cells, Typ.cells, Prj.cells, Dcl.cells, Cel.cells, AskR.cells, Ask.cells, CelS.cells, Ev.cells, Ent.cells, Sta.cells]) ?_)
 refine st (zE Tryd.zeroValue135 ?_)
 intro w7 b6 hn5
 have hS8 := hS4.new hn5
 refine st (zE Tryd.zeroValue135 ?_)
 intro w11 b10 hn9
 have hS12 := hS8.new hn9
 refine stn (zy (v := .agg #[.int .i64 (oA), .int .i64 (aA)]) (c' := #[.int .i64 (oA), .int .i64 (aA)]) Tryd.sizeOf135 rfl rfl (hS12.blk (i := 1) rfl) (yj ⟨rfl, rfl, trivial⟩) (Nat.le_of_ble_eq_true rfl) rfl ?_)
 intro w13 hp14
 have hS15 := hS12.pt1 hp14
 refine stn (zy (v := .agg #[.int .i64 (oB), .int .i64 (aB)]) (c' := #[.int .i64 (oB), .int .i64 (aB)]) Tryd.sizeOf135 rfl rfl (hS15.blk (i := 0) rfl) (yj ⟨rfl, rfl, trivial⟩) (Nat.le_of_ble_eq_true rfl) rfl ?_)
 intro w16 hp17
 have hS18 := hS15.pt0 hp17
 refine zf ?_
 refine zd ?_
 refine zd ?_
 refine za (by kernel_rfl) (fun _ => ?_)
 refine st (xA rfl ?_)
 refine st (zg (v := .int .i64 (f.kind)) Tryd.isAgg3 rfl (zh (hS18.blk (i := 2) rfl) rfl) ?_)
 refine zf ?_
 refine zx ?_
 refine zd ?_
 refine za (by kernel_rfl) (fun _ => ?_)
 refine st (yu (k := .i64) (a := f.kind) (b := 2) rfl rfl ?_)
 refine st (ze (v := .bool (decide (f.kind = 2))) rfl ?_)
 refine zf ?_
 cases hc19 : decide (f.kind = 2)
 ·skip
  have hc19r := hc19
  have hc19 := of_decide_eq_false hc19
  refine zo rfl ?_
  refine zd ?_
  refine za (by kernel_rfl) (fun _ => ?_)
  refine st (yu (k := .i64) (a := f.kind) (b := 4) rfl rfl ?_)
  refine st (ze (v := .bool (decide (f.kind = 4))) rfl ?_)
  refine zf ?_
  cases hc20 : decide (f.kind = 4)
  ·skip
   have hc20r := hc20
   have hc20 := of_decide_eq_false hc20
   refine zo rfl ?_
   refine zd ?_
   refine za (by kernel_rfl) (fun _ => ?_)
   refine st (yu (k := .i64) (a := f.kind) (b := 3) rfl rfl ?_)
   refine st (ze (v := .bool (decide (f.kind = 3))) rfl ?_)
   refine zf ?_
   cases hc21 : decide (f.kind = 3)
   ·skip
    have hc21r := hc21
    have hc21 := of_decide_eq_false hc21
    refine zo rfl ?_
    refine zw ?_
    refine zd ?_
    refine za (by kernel_rfl) (fun _ => ?_)
    refine st (ze (v := .bool false) rfl ?_)
    refine zf ?_
    refine zu ?_
    refine ya Tryd.results68 (show _ = (.bool false : Value) from rfl) ?_
    have hS22 : Sep G W Rs w16 := hS18.sel 3 [] (Nat.le_add_left _ _) rfl rfl
    refine ⟨?_, hS22⟩
    unfold Xq
    first | rw [if_pos (by omega)] | rw [if_neg (by omega), if_pos (by omega)] | rw [if_neg (by omega), if_neg (by omega), if_pos (by omega)] | rw [if_neg (by omega), if_neg (by omega), if_neg (by omega)]
    all_goals first | rfl | simp_all
   ·skip
    have hc21r := hc21
    have hc21 := of_decide_eq_true hc21
    refine zq rfl ?_
    refine zd ?_
    refine zD (by kernel_rfl) ?_
    refine st (zl (k := 2) Tryd.isAgg135 Tryd.sizeOf135 rfl rfl (CellsAt.all (hS18.blk (i := 1) rfl)) ?_)
    refine st (zb (v := .int .i64 (aB)) rfl ?_)
    refine st (zS (parts' := [(0, .int .i64 (3)), (1, .int .i64 (aB))]) (v := .agg #[.int .i64 (3), .int .i64 (aB)]) rfl (by simp [Instr.build, Instr.fill, Ev.cells, go_sem, Mv.cells, Fld.cells, Typ.cells, Prj.cells, Dcl.cells, Cel.cells, AskR.cells, Ask.cells, CelS.cells, Ev.cells, Ent.cells, Sta.cells]) ?_)
    refine st (xH (e := decide (oA = 3 ∧ aA = aB)) (xs := #[.int .i64 (oA), .int .i64 (aA)]) (ys := #[.int .i64 (3), .int .i64 (aB)]) Xg rfl rfl ?_)
    refine st (zb (v := .bool (decide (oA = 3 ∧ aA = aB))) rfl ?_)
    refine stc (V := .agg #[.int .i64 (oB), .int .i64 (aB)]) rfl rfl (fun hb23 => ?_) ?_
    ·have hl24 := hb23
     have hl24 := of_decide_eq_true hl24
     exact zl (k := 2) Tryd.isAgg135 Tryd.sizeOf135 rfl rfl (CellsAt.all (hS18.blk (i := 0) rfl)) ⟨rfl, rfl⟩
    refine stc (V := .int .i64 (aA)) rfl rfl (fun hb25 => ?_) ?_
    ·have hl26 := hb25
     have hl26 := of_decide_eq_true hl26
     exact zb (v := .int .i64 (aA)) rfl ⟨rfl, rfl⟩
    refine stc (V := .agg #[.int .i64 (4), .int .i64 (aA)]) rfl rfl (fun hb27 => ?_) ?_
    ·have hl28 := hb27
     have hl28 := of_decide_eq_true hl28
     exact zS (parts' := [(0, .int .i64 (4)), (1, .int .i64 (aA))]) (v := .agg #[.int .i64 (4), .int .i64 (aA)]) (xE ⟨rfl, rfl, rfl, (show _ = (.int .i64 (aA) : Value) from (if_pos hb27)), trivial⟩) (by simp [Instr.build, Instr.fill, Ev.cells, go_sem, Mv.cells, Fld.cells, Typ.cells, Prj.cells, Dcl.cells, Cel.cells, AskR.cells, Ask.cells, CelS.cells, Ev.cells, Ent.cells, Sta.cells]) ⟨rfl, rfl⟩
    refine stc (V := .bool (decide (oB = 4 ∧ aB = aA))) rfl rfl (fun hb29 => ?_) ?_
    ·have hl30 := hb29
     have hl30 := of_decide_eq_true hl30
     exact xH (e := decide (oB = 4 ∧ aB = aA)) (xs := #[.int .i64 (oB), .int .i64 (aB)]) (ys := #[.int .i64 (4), .int .i64 (aA)]) Xg (show _ = (.agg #[.int .i64 (oB), .int .i64 (aB)] : Value) from (if_pos hb29)) (show _ = (.agg #[.int .i64 (4), .int .i64 (aA)] : Value) from (if_pos hb29)) ⟨rfl, rfl⟩
    refine st (zK (b := decide (oA = 3 ∧ aA = aB)) (b' := decide (oB = 4 ∧ aB = aA)) rfl (fun hbp => (show _ = (.bool (decide (oB = 4 ∧ aB = aA)) : Value) from (if_pos hbp))) ?_)
    refine st (zb (v := .bool ((decide (oA = 3 ∧ aA = aB)) && (decide (oB = 4 ∧ aB = aA)))) rfl ?_)
    refine stc (V := .agg #[.int .i64 (oA), .int .i64 (aA)]) rfl rfl (fun hb31 => ?_) ?_
    ·have hl32 := hb31
     try simp only [zn] at hl32
     exact zl (k := 2) Tryd.isAgg135 Tryd.sizeOf135 rfl rfl (CellsAt.all (hS18.blk (i := 1) rfl)) ⟨rfl, rfl⟩
    refine stc (V := .int .i64 (aB)) rfl rfl (fun hb33 => ?_) ?_
    ·have hl34 := hb33
     try simp only [zn] at hl34
     exact zb (v := .int .i64 (aB)) rfl ⟨rfl, rfl⟩
    refine stc (V := .agg #[.int .i64 (4), .int .i64 (aB)]) rfl rfl (fun hb35 => ?_) ?_
    ·have hl36 := hb35
     try simp only [zn] at hl36
     exact zS (parts' := [(0, .int .i64 (4)), (1, .int .i64 (aB))]) (v := .agg #[.int .i64 (4), .int .i64 (aB)]) (xE ⟨rfl, rfl, rfl, (show _ = (.int .i64 (aB) : Value) from (if_pos hb35)), trivial⟩) (by simp [Instr.build, Instr.fill, Ev.cells, go_sem, Mv.cells, Fld.cells, Typ.cells, Prj.cells, Dcl.cells, Cel.cells, AskR.cells, Ask.cells, CelS.cells, Ev.cells, Ent.cells, Sta.cells]) ⟨rfl, rfl⟩
    refine stc (V := .bool (decide (oA = 4 ∧ aA = aB))) rfl rfl (fun hb37 => ?_) ?_
    ·have hl38 := hb37
     try simp only [zn] at hl38
     exact xH (e := decide (oA = 4 ∧ aA = aB)) (xs := #[.int .i64 (oA), .int .i64 (aA)]) (ys := #[.int .i64 (4), .int .i64 (aB)]) Xg (show _ = (.agg #[.int .i64 (oA), .int .i64 (aA)] : Value) from (if_pos hb37)) (show _ = (.agg #[.int .i64 (4), .int .i64 (aB)] : Value) from (if_pos hb37)) ⟨rfl, rfl⟩
    refine stc (V := .bool (decide (oA = 4 ∧ aA = aB))) rfl rfl (fun hb39 => ?_) ?_
    ·have hl40 := hb39
     try simp only [zn] at hl40
     exact zb (v := .bool (decide (oA = 4 ∧ aA = aB))) (show _ = (.bool (decide (oA = 4 ∧ aA = aB)) : Value) from (if_pos hb39)) ⟨rfl, rfl⟩
    refine yB (V := .agg #[.int .i64 (oB), .int .i64 (aB)]) rfl rfl (fun hb41 => ?_) ?_
    ·have hl42 := hb41.1
     try simp only [zn] at hl42
     have hl43 := hb41.2
     have hl43 := of_decide_eq_true hl43
     exact zl (k := 2) Tryd.isAgg135 Tryd.sizeOf135 rfl rfl (CellsAt.all (hS18.blk (i := 0) rfl)) ⟨rfl, rfl⟩
    refine yB (V := .int .i64 (aA)) rfl rfl (fun hb44 => ?_) ?_
    ·have hl45 := hb44.1
     try simp only [zn] at hl45
     have hl46 := hb44.2
     have hl46 := of_decide_eq_true hl46
     exact zb (v := .int .i64 (aA)) rfl ⟨rfl, rfl⟩
    refine yB (V := .agg #[.int .i64 (3), .int .i64 (aA)]) rfl rfl (fun hb47 => ?_) ?_
    ·have hl48 := hb47.1
     try simp only [zn] at hl48
     have hl49 := hb47.2
     have hl49 := of_decide_eq_true hl49
     exact zS (parts' := [(0, .int .i64 (3)), (1, .int .i64 (aA))]) (v := .agg #[.int .i64 (3), .int .i64 (aA)]) (xE ⟨rfl, rfl, rfl, (show _ = (.int .i64 (aA) : Value) from (if_pos ⟨hb47.1, hb47.2⟩)), trivial⟩) (by simp [Instr.build, Instr.fill, Ev.cells, go_sem, Mv.cells, Fld.cells, Typ.cells, Prj.cells, Dcl.cells, Cel.cells, AskR.cells, Ask.cells, CelS.cells, Ev.cells, Ent.cells, Sta.cells]) ⟨rfl, rfl⟩
    refine yB (V := .bool (decide (oB = 3 ∧ aB = aA))) rfl rfl (fun hb50 => ?_) ?_
    ·have hl51 := hb50.1
     try simp only [zn] at hl51
     have hl52 := hb50.2
     have hl52 := of_decide_eq_true hl52
     exact xH (e := decide (oB = 3 ∧ aB = aA)) (xs := #[.int .i64 (oB), .int .i64 (aB)]) (ys := #[.int .i64 (3), .int .i64 (aA)]) Xg (show _ = (.agg #[.int .i64 (oB), .int .i64 (aB)] : Value) from (if_pos ⟨hb50.1, hb50.2⟩)) (show _ = (.agg #[.int .i64 (3), .int .i64 (aA)] : Value) from (if_pos ⟨hb50.1, hb50.2⟩)) ⟨rfl, rfl⟩
    refine stc (V := .bool ((decide (oA = 4 ∧ aA = aB)) && (decide (oB = 3 ∧ aB = aA)))) rfl rfl (fun hb53 => ?_) ?_
    ·have hl54 := hb53
     try simp only [zn] at hl54
     exact zK (b := decide (oA = 4 ∧ aA = aB)) (b' := decide (oB = 3 ∧ aB = aA)) (show _ = (.bool (decide (oA = 4 ∧ aA = aB)) : Value) from (if_pos hb53)) (fun hbp => (show _ = (.bool (decide (oB = 3 ∧ aB = aA)) : Value) from (if_pos ⟨hb53, hbp⟩))) ⟨rfl, rfl⟩
    refine st (zA (b := (decide (oA = 3 ∧ aA = aB)) && (decide (oB = 4 ∧ aB = aA))) (b' := (decide (oA = 4 ∧ aA = aB)) && (decide (oB = 3 ∧ aB = aA))) rfl (fun hbp => (show _ = (.bool ((decide (oA = 4 ∧ aA = aB)) && (decide (oB = 3 ∧ aB = aA))) : Value) from (if_pos hbp))) ?_)
    refine st (ze (v := .bool (((decide (oA = 3 ∧ aA = aB)) && (decide (oB = 4 ∧ aB = aA))) || ((decide (oA = 4 ∧ aA = aB)) && (decide (oB = 3 ∧ aB = aA))))) rfl ?_)
    refine zf ?_
    refine zu ?_
    refine ya Tryd.results68 (show _ = (.bool (((decide (oA = 3 ∧ aA = aB)) && (decide (oB = 4 ∧ aB = aA))) || ((decide (oA = 4 ∧ aA = aB)) && (decide (oB = 3 ∧ aB = aA)))) : Value) from rfl) ?_
    have hS55 : Sep G W Rs w16 := hS18.sel 3 [] (Nat.le_add_left _ _) rfl rfl
    refine ⟨?_, hS55⟩
    unfold Xq
    first | rw [if_pos (by omega)] | rw [if_neg (by omega), if_pos (by omega)] | rw [if_neg (by omega), if_neg (by omega), if_pos (by omega)] | rw [if_neg (by omega), if_neg (by omega), if_neg (by omega)]
    all_goals first | rfl | simp_all
  ·skip
   have hc20r := hc20
   have hc20 := of_decide_eq_true hc20
   refine zq rfl ?_
   refine zd ?_
   refine zD (by kernel_rfl) ?_
   refine st (ZW rfl ?_)
   refine st (zg (v := .int .i64 (oA)) Tryd.isAgg3 rfl (zh (hS18.blk (i := 1) rfl) rfl) ?_)
   refine st (yu (k := .i64) (a := oA) (b := 5) rfl rfl ?_)
   refine st (zb (v := .bool (decide (oA = 5))) rfl ?_)
   refine stc (V := .pointer (some ⟨b10, 0, none⟩)) rfl rfl (fun hb56 => ?_) ?_
   ·have hl57 := hb56
    have hl57 := of_decide_eq_true hl57
    exact ZW rfl ⟨rfl, rfl⟩
   refine stc (V := .int .i64 (oB)) rfl rfl (fun hb58 => ?_) ?_
   ·have hl59 := hb58
    have hl59 := of_decide_eq_true hl59
    exact zg (v := .int .i64 (oB)) Tryd.isAgg3 (show _ = (.pointer (some ⟨b10, 0, none⟩) : Value) from (if_pos hb58)) (zh (hS18.blk (i := 0) rfl) rfl) ⟨rfl, rfl⟩
   refine stc (V := .bool (decide (oB = 5))) rfl rfl (fun hb60 => ?_) ?_
   ·have hl61 := hb60
    have hl61 := of_decide_eq_true hl61
    exact yu (k := .i64) (a := oB) (b := 5) (show _ = (.int .i64 (oB) : Value) from (if_pos hb60)) rfl ⟨rfl, rfl⟩
   refine st (zK (b := decide (oA = 5)) (b' := decide (oB = 5)) rfl (fun hbp => (show _ = (.bool (decide (oB = 5)) : Value) from (if_pos hbp))) ?_)
   refine st (zb (v := .bool ((decide (oA = 5)) && (decide (oB = 5)))) rfl ?_)
   refine stc (V := .agg #[.int .i64 (oA), .int .i64 (aA)]) rfl rfl (fun hb62 => ?_) ?_
   ·have hl63 := hb62
    try simp only [zn] at hl63
    exact zl (k := 2) Tryd.isAgg135 Tryd.sizeOf135 rfl rfl (CellsAt.all (hS18.blk (i := 1) rfl)) ⟨rfl, rfl⟩
   refine stc (V := .agg #[.int .i64 (oB), .int .i64 (aB)]) rfl rfl (fun hb64 => ?_) ?_
   ·have hl65 := hb64
    try simp only [zn] at hl65
    exact zl (k := 2) Tryd.isAgg135 Tryd.sizeOf135 rfl rfl (CellsAt.all (hS18.blk (i := 0) rfl)) ⟨rfl, rfl⟩
   refine stc (V := .bool (!decide (oA = oB ∧ aA = aB))) rfl rfl (fun hb66 => ?_) ?_
   ·have hl67 := hb66
    try simp only [zn] at hl67
    exact Zx (e := decide (oA = oB ∧ aA = aB)) (xs := #[.int .i64 (oA), .int .i64 (aA)]) (ys := #[.int .i64 (oB), .int .i64 (aB)]) Vb (show _ = (.agg #[.int .i64 (oA), .int .i64 (aA)] : Value) from (if_pos hb66)) (show _ = (.agg #[.int .i64 (oB), .int .i64 (aB)] : Value) from (if_pos hb66)) ⟨rfl, rfl⟩
   refine st (zK (b := (decide (oA = 5)) && (decide (oB = 5))) (b' := !decide (oA = oB ∧ aA = aB)) rfl (fun hbp => (show _ = (.bool (!decide (oA = oB ∧ aA = aB)) : Value) from (if_pos hbp))) ?_)
   refine st (ze (v := .bool (((decide (oA = 5)) && (decide (oB = 5))) && (!decide (oA = oB ∧ aA = aB)))) rfl ?_)
   refine zf ?_
   refine zu ?_
   refine ya Tryd.results68 (show _ = (.bool (((decide (oA = 5)) && (decide (oB = 5))) && (!decide (oA = oB ∧ aA = aB))) : Value) from rfl) ?_
   have hS68 : Sep G W Rs w16 := hS18.sel 3 [] (Nat.le_add_left _ _) rfl rfl
   refine ⟨?_, hS68⟩
   unfold Xq
   first | rw [if_pos (by omega)] | rw [if_neg (by omega), if_pos (by omega)] | rw [if_neg (by omega), if_neg (by omega), if_pos (by omega)] | rw [if_neg (by omega), if_neg (by omega), if_neg (by omega)]
   all_goals first | rfl | simp_all
 ·skip
  have hc19r := hc19
  have hc19 := of_decide_eq_true hc19
  refine zq rfl ?_
  refine zd ?_
  refine zD (by kernel_rfl) ?_
  refine st (ZW rfl ?_)
  refine st (zg (v := .int .i64 (oA)) Tryd.isAgg3 rfl (zh (hS18.blk (i := 1) rfl) rfl) ?_)
  refine st (yu (k := .i64) (a := oA) (b := 2) rfl rfl ?_)
  refine st (zb (v := .bool (decide (oA = 2))) rfl ?_)
  refine stc (V := .pointer (some ⟨b10, 0, none⟩)) rfl rfl (fun hb69 => ?_) ?_
  ·have hl70 := hb69
   have hl70 := of_decide_eq_true hl70
   exact ZW rfl ⟨rfl, rfl⟩
  refine stc (V := .int .i64 (oB)) rfl rfl (fun hb71 => ?_) ?_
  ·have hl72 := hb71
   have hl72 := of_decide_eq_true hl72
   exact zg (v := .int .i64 (oB)) Tryd.isAgg3 (show _ = (.pointer (some ⟨b10, 0, none⟩) : Value) from (if_pos hb71)) (zh (hS18.blk (i := 0) rfl) rfl) ⟨rfl, rfl⟩
  refine stc (V := .bool (decide (oB = 2))) rfl rfl (fun hb73 => ?_) ?_
  ·have hl74 := hb73
   have hl74 := of_decide_eq_true hl74
   exact yu (k := .i64) (a := oB) (b := 2) (show _ = (.int .i64 (oB) : Value) from (if_pos hb73)) rfl ⟨rfl, rfl⟩
  refine st (zK (b := decide (oA = 2)) (b' := decide (oB = 2)) rfl (fun hbp => (show _ = (.bool (decide (oB = 2)) : Value) from (if_pos hbp))) ?_)
  refine st (zb (v := .bool ((decide (oA = 2)) && (decide (oB = 2)))) rfl ?_)
  refine stc (V := .agg #[.int .i64 (oA), .int .i64 (aA)]) rfl rfl (fun hb75 => ?_) ?_
  ·have hl76 := hb75
   try simp only [zn] at hl76
   exact zl (k := 2) Tryd.isAgg135 Tryd.sizeOf135 rfl rfl (CellsAt.all (hS18.blk (i := 1) rfl)) ⟨rfl, rfl⟩
  refine stc (V := .agg #[.int .i64 (oB), .int .i64 (aB)]) rfl rfl (fun hb77 => ?_) ?_
  ·have hl78 := hb77
   try simp only [zn] at hl78
   exact zl (k := 2) Tryd.isAgg135 Tryd.sizeOf135 rfl rfl (CellsAt.all (hS18.blk (i := 0) rfl)) ⟨rfl, rfl⟩
  refine stc (V := .bool (!decide (oA = oB ∧ aA = aB))) rfl rfl (fun hb79 => ?_) ?_
  ·have hl80 := hb79
   try simp only [zn] at hl80
   exact Zx (e := decide (oA = oB ∧ aA = aB)) (xs := #[.int .i64 (oA), .int .i64 (aA)]) (ys := #[.int .i64 (oB), .int .i64 (aB)]) Vb (show _ = (.agg #[.int .i64 (oA), .int .i64 (aA)] : Value) from (if_pos hb79)) (show _ = (.agg #[.int .i64 (oB), .int .i64 (aB)] : Value) from (if_pos hb79)) ⟨rfl, rfl⟩
  refine st (zK (b := (decide (oA = 2)) && (decide (oB = 2))) (b' := !decide (oA = oB ∧ aA = aB)) rfl (fun hbp => (show _ = (.bool (!decide (oA = oB ∧ aA = aB)) : Value) from (if_pos hbp))) ?_)
  refine st (ze (v := .bool (((decide (oA = 2)) && (decide (oB = 2))) && (!decide (oA = oB ∧ aA = aB)))) rfl ?_)
  refine zf ?_
  refine zu ?_
  refine ya Tryd.results68 (show _ = (.bool (((decide (oA = 2)) && (decide (oB = 2))) && (!decide (oA = oB ∧ aA = aB))) : Value) from rfl) ?_
  have hS81 : Sep G W Rs w16 := hS18.sel 3 [] (Nat.le_add_left _ _) rfl rfl
  refine ⟨?_, hS81⟩
  unfold Xq
  first | rw [if_pos (by omega)] | rw [if_neg (by omega), if_pos (by omega)] | rw [if_neg (by omega), if_neg (by omega), if_pos (by omega)] | rw [if_neg (by omega), if_neg (by omega), if_neg (by omega)]
  all_goals first | rfl | simp_all

theorem Zl {d : Option Tmp} {ty : TypeId} {pos : String} {af : Array Edge} {g : Option (Nat × Bool)} {σ : Env} {w : World} {K : Value → World → Prop} {x : Operand} {b o : Nat} (hx : ev σ x = .pointer (some ⟨b, o, none⟩)) (h : K (.pointer (some ⟨b, o + 8, none⟩)) w) : opV Tryd.prog ⟨d, .fieldAddr 59 x 7, ty, pos, af, g⟩ σ w K := zt Tryd.underlying59 rfl rfl (fun w => ⟨0, Tryd.sizeOf3 w⟩) hx h
theorem Zk {d : Option Tmp} {ty : TypeId} {pos : String} {af : Array Edge} {g : Option (Nat × Bool)} {σ : Env} {w : World} {K : Value → World → Prop} {x : Operand} {b o : Nat} (hx : ev σ x = .pointer (some ⟨b, o, none⟩)) (h : K (.pointer (some ⟨b, o + 7, none⟩)) w) : opV Tryd.prog ⟨d, .fieldAddr 59 x 6, ty, pos, af, g⟩ σ w K := zt Tryd.underlying59 rfl rfl (fun w => ⟨0, Tryd.sizeOf3 w⟩) hx h
theorem UC {G : Nat → Prop} {W w : World} {Rs : List HP} {f : Fld} {df0 : Value} (hdf0 : RdS W G df0 f.moves) (of : f.Ok) {x : Ev} {dx0 : Value} (hdx0 : RdS W G dx0 x.deps) (ox : x.Ok) {e : Ev} {de0 : Value} (hde0 : RdS W G de0 e.deps) (oe : e.Ok) (hS0 : Sep G W Rs w) : Ret Tryd.prog 41 [.agg (f.cells df0).toArray, .agg (x.cells dx0).toArray, .agg (e.cells de0).toArray] w (fun r w' => r = (.bool ((yF f x e)) : Value) ∧ Sep G W Rs w') := by
 have hdf0s : _ * 32 ≤ _ := hdf0.small
 have hdx0s : _ * 8 ≤ _ := hdx0.small
 have hde0s : _ * 8 ≤ _ := hde0.small
 refine zr (args := [.agg (f.cells df0).toArray, .agg (x.cells dx0).toArray, .agg (e.cells de0).toArray]) Tryd.func41 rfl rfl ?_
 refine zd ?_
 refine za (by kernel_rfl) (fun _ => ?_)
 refine st (yb (v := .agg (f.cells df0).toArray) rfl ?_)
 intro w3 b2 hn1
 have hS4 := hS0.new hn1
 refine st (yb (v := .agg (x.cells dx0).toArray) rfl ?_)
 intro w7 b6 hn5
 have hS8 := hS4.new hn5
 refine st (yb (v := .agg (e.cells de0).toArray) rfl ?_)
 intro w11 b10 hn9
 have hS12 := hS8.new hn9
 refine st (ze (v := .bool false) rfl ?_)
 refine zf ?_
 refine zd ?_
 refine zD (by kernel_rfl) ?_
 refine st (ZI rfl ?_)
 refine st (zg (v := .int .i64 (f.policy)) Tryd.isAgg3 rfl (zh (hS12.blk (i := 2) rfl) rfl) ?_)
 refine st (yu (k := .i64) (a := f.policy) (b := 2) rfl rfl ?_)
 refine st (zb (v := .bool (decide (f.policy = 2))) rfl ?_)
 refine stc (V := .pointer (some ⟨b2, 1, none⟩)) rfl rfl (fun hb13 => ?_) ?_
 ·have hl14 := hb13
  have hl14 := of_decide_eq_false hl14
  exact ZI rfl ⟨rfl, rfl⟩
 refine stc (V := .int .i64 (f.policy)) rfl rfl (fun hb15 => ?_) ?_
 ·have hl16 := hb15
  have hl16 := of_decide_eq_false hl16
  exact zg (v := .int .i64 (f.policy)) Tryd.isAgg3 (show _ = (.pointer (some ⟨b2, 1, none⟩) : Value) from (if_pos hb15)) (zh (hS12.blk (i := 2) rfl) rfl) ⟨rfl, rfl⟩
 refine stc (V := .bool (decide (f.policy = 3))) rfl rfl (fun hb17 => ?_) ?_
 ·have hl18 := hb17
  have hl18 := of_decide_eq_false hl18
  exact yu (k := .i64) (a := f.policy) (b := 3) (show _ = (.int .i64 (f.policy) : Value) from (if_pos hb17)) rfl ⟨rfl, rfl⟩
 refine stc (V := .bool (decide (f.policy = 3))) rfl rfl (fun hb19 => ?_) ?_
 ·have hl20 := hb19
  have hl20 := of_decide_eq_false hl20
  exact zb (v := .bool (decide (f.policy = 3))) (show _ = (.bool (decide (f.policy = 3)) : Value) from (if_pos hb19)) ⟨rfl, rfl⟩
 refine yB (V := .pointer (some ⟨b6, 8, none⟩)) rfl rfl (fun hb21 => ?_) ?_
 ·have hl22 := hb21.1
  have hl22 := of_decide_eq_false hl22
  have hl23 := hb21.2
  have hl23 := of_decide_eq_true hl23
  exact Zl rfl ⟨rfl, rfl⟩
 refine yB (V := .int .i64 (x.arg)) rfl rfl (fun hb24 => ?_) ?_
 ·have hl25 := hb24.1
  have hl25 := of_decide_eq_false hl25
  have hl26 := hb24.2
  have hl26 := of_decide_eq_true hl26
  exact zg (v := .int .i64 (x.arg)) Tryd.isAgg3 (show _ = (.pointer (some ⟨b6, 8, none⟩) : Value) from (if_pos ⟨hb24.1, hb24.2⟩)) (zh (hS12.blk (i := 1) rfl) rfl) ⟨rfl, rfl⟩
 refine yB (V := .pointer (some ⟨b10, 8, none⟩)) rfl rfl (fun hb27 => ?_) ?_
 ·have hl28 := hb27.1
  have hl28 := of_decide_eq_false hl28
  have hl29 := hb27.2
  have hl29 := of_decide_eq_true hl29
  exact Zl rfl ⟨rfl, rfl⟩
 refine yB (V := .int .i64 (e.arg)) rfl rfl (fun hb30 => ?_) ?_
 ·have hl31 := hb30.1
  have hl31 := of_decide_eq_false hl31
  have hl32 := hb30.2
  have hl32 := of_decide_eq_true hl32
  exact zg (v := .int .i64 (e.arg)) Tryd.isAgg3 (show _ = (.pointer (some ⟨b10, 8, none⟩) : Value) from (if_pos ⟨hb30.1, hb30.2⟩)) (zh (hS12.blk (i := 0) rfl) rfl) ⟨rfl, rfl⟩
 refine yB (V := .bool (decide (e.arg < x.arg))) rfl rfl (fun hb33 => ?_) ?_
 ·have hl34 := hb33.1
  have hl34 := of_decide_eq_false hl34
  have hl35 := hb33.2
  have hl35 := of_decide_eq_true hl35
  exact yP (k := .i64) (a := x.arg) (b := e.arg) (show _ = (.int .i64 (x.arg) : Value) from (if_pos ⟨hb33.1, hb33.2⟩)) (show _ = (.int .i64 (e.arg) : Value) from (if_pos ⟨hb33.1, hb33.2⟩)) ⟨rfl, rfl⟩
 refine stc (V := .bool ((decide (f.policy = 3)) && (decide (e.arg < x.arg)))) rfl rfl (fun hb36 => ?_) ?_
 ·have hl37 := hb36
  have hl37 := of_decide_eq_false hl37
  exact zK (b := decide (f.policy = 3)) (b' := decide (e.arg < x.arg)) (show _ = (.bool (decide (f.policy = 3)) : Value) from (if_pos hb36)) (fun hbp => (show _ = (.bool (decide (e.arg < x.arg)) : Value) from (if_pos ⟨hb36, hbp⟩))) ⟨rfl, rfl⟩
 refine st (zA (b := decide (f.policy = 2)) (b' := (decide (f.policy = 3)) && (decide (e.arg < x.arg))) rfl (fun hbp => (show _ = (.bool ((decide (f.policy = 3)) && (decide (e.arg < x.arg))) : Value) from (if_pos hbp))) ?_)
 refine st (ze (v := .bool ((decide (f.policy = 2)) || ((decide (f.policy = 3)) && (decide (e.arg < x.arg))))) rfl ?_)
 refine zf ?_
 refine zd ?_
 refine zD (by kernel_rfl) ?_
 refine st (zb (v := .bool ((decide (f.policy = 2)) || ((decide (f.policy = 3)) && (decide (e.arg < x.arg))))) rfl ?_)
 refine st (zb (v := .bool ((decide (f.policy = 2)) || ((decide (f.policy = 3)) && (decide (e.arg < x.arg))))) rfl ?_)
 refine stc (V := .agg (f.cells df0).toArray) rfl rfl (fun hb38 => ?_) ?_
 ·have hl39 := hb38
  try simp only [zn] at hl39
  exact zl (k := 4) Tryd.isAgg79 Tryd.sizeOf79 rfl rfl (CellsAt.all (hS12.blk (i := 2) rfl)) ⟨rfl, rfl⟩
 refine stc (V := .pointer (some ⟨b6, 7, none⟩)) rfl rfl (fun hb40 => ?_) ?_
 ·have hl41 := hb40
  try simp only [zn] at hl41
  exact Zk rfl ⟨rfl, rfl⟩
 refine stc (V := .int .i64 (x.op)) rfl rfl (fun hb42 => ?_) ?_
 ·have hl43 := hb42
  try simp only [zn] at hl43
  exact zg (v := .int .i64 (x.op)) Tryd.isAgg3 (show _ = (.pointer (some ⟨b6, 7, none⟩) : Value) from (if_pos hb42)) (zh (hS12.blk (i := 1) rfl) rfl) ⟨rfl, rfl⟩
 refine stc (V := .pointer (some ⟨b6, 8, none⟩)) rfl rfl (fun hb44 => ?_) ?_
 ·have hl45 := hb44
  try simp only [zn] at hl45
  exact Zl rfl ⟨rfl, rfl⟩
 refine stc (V := .int .i64 (x.arg)) rfl rfl (fun hb46 => ?_) ?_
 ·have hl47 := hb46
  try simp only [zn] at hl47
  exact zg (v := .int .i64 (x.arg)) Tryd.isAgg3 (show _ = (.pointer (some ⟨b6, 8, none⟩) : Value) from (if_pos hb46)) (zh (hS12.blk (i := 1) rfl) rfl) ⟨rfl, rfl⟩
 refine stc (V := .pointer (some ⟨b10, 7, none⟩)) rfl rfl (fun hb48 => ?_) ?_
 ·have hl49 := hb48
  try simp only [zn] at hl49
  exact Zk rfl ⟨rfl, rfl⟩
 refine stc (V := .int .i64 (e.op)) rfl rfl (fun hb50 => ?_) ?_
 ·have hl51 := hb50
  try simp only [zn] at hl51
  exact zg (v := .int .i64 (e.op)) Tryd.isAgg3 (show _ = (.pointer (some ⟨b10, 7, none⟩) : Value) from (if_pos hb50)) (zh (hS12.blk (i := 0) rfl) rfl) ⟨rfl, rfl⟩
 refine stc (V := .pointer (some ⟨b10, 8, none⟩)) rfl rfl (fun hb52 => ?_) ?_
 ·have hl53 := hb52
  try simp only [zn] at hl53
  exact Zl rfl ⟨rfl, rfl⟩
 refine stc (V := .int .i64 (e.arg)) rfl rfl (fun hb54 => ?_) ?_
 ·have hl55 := hb54
  try simp only [zn] at hl55
  exact zg (v := .int .i64 (e.arg)) Tryd.isAgg3 (show _ = (.pointer (some ⟨b10, 8, none⟩) : Value) from (if_pos hb54)) (zh (hS12.blk (i := 0) rfl) rfl) ⟨rfl, rfl⟩
 cases hg56 : (decide (f.policy = 2)) || ((decide (f.policy = 3)) && (decide (e.arg < x.arg)))
 ·skip
  have hg56r := hg56
  try simp only [zn] at hg56
  refine stx rfl rfl ?_
  refine st (zV (v := .bool false) rfl rfl ?_)
  refine st (zb (v := .bool false) rfl ?_)
  refine stx rfl rfl ?_
  refine stx rfl rfl ?_
  refine stx rfl rfl ?_
  refine st (zV (v := .bool false) rfl rfl ?_)
  refine st (ze (v := .bool false) rfl ?_)
  refine zf ?_
  refine zu ?_
  refine ya Tryd.results41 (show _ = (.bool false : Value) from rfl) ?_
  have hS57 : Sep G W Rs w11 := hS12.sel 3 [] (Nat.le_add_left _ _) rfl rfl
  refine ⟨?_, hS57⟩
  unfold yF
  first | rfl | simp only [hg56r, Bool.false_and, Bool.true_and, Bool.and_false, Bool.and_true, Bool.true_or, Bool.or_true]
 ·skip
  have hg56r := hg56
  try simp only [zn] at hg56
  refine sty rfl rfl (zv (f := 68) (vals := [.agg (f.cells df0).toArray, .int .i64 (x.op), .int .i64 (x.arg), .int .i64 (e.op), .int .i64 (e.arg)]) (cap := []) rfl rfl Tryd.call68 (Vw (f := f) (oA := x.op) (aA := x.arg) (oB := e.op) (aB := e.arg) hdf0 of ox.op ox.arg oe.op oe.arg hS12) ?_)
  rintro _ w58 ⟨rfl, hS59⟩
  refine st (zU (v := .bool ((Xq f.kind x.op x.arg e.op e.arg))) rfl rfl ?_)
  refine st (zb (v := .bool ((Xq f.kind x.op x.arg e.op e.arg))) rfl ?_)
  refine stc (V := .agg (x.cells dx0).toArray) rfl rfl (fun hb60 => ?_) ?_
  ·have hl61 := hb60
   exact zl (k := 10) Tryd.isAgg59 Tryd.sizeOf59 rfl rfl (CellsAt.all (hS59.blk (i := 1) rfl)) ⟨rfl, rfl⟩
  refine stc (V := .agg (e.cells de0).toArray) rfl rfl (fun hb62 => ?_) ?_
  ·have hl63 := hb62
   exact zl (k := 10) Tryd.isAgg59 Tryd.sizeOf59 rfl rfl (CellsAt.all (hS59.blk (i := 0) rfl)) ⟨rfl, rfl⟩
  cases hg64 : (Xq f.kind x.op x.arg e.op e.arg)
  ·skip
   have hg64r := hg64
   refine stx rfl rfl ?_
   refine st (zV (v := .bool false) rfl rfl ?_)
   refine st (ze (v := .bool false) rfl ?_)
   refine zf ?_
   refine zu ?_
   refine ya Tryd.results41 (show _ = (.bool false : Value) from rfl) ?_
   have hS65 : Sep G W Rs w58 := hS59.sel 3 [] (Nat.le_add_left _ _) rfl rfl
   refine ⟨?_, hS65⟩
   unfold yF
   first | rfl | simp only [hg56r, hg64r, Bool.false_and, Bool.true_and, Bool.and_false, Bool.and_true, Bool.true_or, Bool.or_true]
  ·skip
   have hg64r := hg64
   refine sty rfl rfl (zv (f := 69) (vals := [.agg (x.cells dx0).toArray, .agg (e.cells de0).toArray]) (cap := []) rfl rfl Tryd.call69 (UH (a := x) (b := e) hdx0 ox hde0 oe hS59) ?_)
   rintro _ w66 ⟨rfl, hS67⟩
   refine st (zU (v := .bool ((xL x e))) rfl rfl ?_)
   refine st (ze (v := .bool ((xL x e))) rfl ?_)
   refine zf ?_
   refine zu ?_
   refine ya Tryd.results41 (show _ = (.bool ((xL x e)) : Value) from rfl) ?_
   have hS68 : Sep G W Rs w66 := hS67.sel 3 [] (Nat.le_add_left _ _) rfl rfl
   refine ⟨?_, hS68⟩
   unfold yF
   first | rfl | simp only [hg56r, hg64r, Bool.false_and, Bool.true_and, Bool.and_false, Bool.and_true, Bool.true_or, Bool.or_true]

end Go.Proofs.YtlblilbmpdejgaaDoor
/- Steps of the proofs of this seat: part F2. -/
set_option maxRecDepth 8000
set_option maxHeartbeats 4000000
namespace Go.Proofs.YtlblilbmpdejgaaDoor
open Go.Proofs Go.RowKit

theorem ZY {G : Nat → Prop} {W w : World} {Rs : List HP} {e : Ev} {de0 : Value} (hde0 : RdS W G de0 e.deps) (oe : e.Ok) (hS0 : Sep G W Rs w) : Ret Tryd.prog 60 [.agg (e.cells de0).toArray] w (fun r w' => ∃ (v : Value), r = (.agg (e.cells v).toArray : Value) ∧ Sep G W ((RowE (α := Int) own 3 v e.deps) :: Rs) w') := by
 have hde0s : _ * 8 ≤ _ := hde0.small
 refine zr (args := [.agg (e.cells de0).toArray]) Tryd.func60 rfl rfl ?_
 refine zd ?_
 refine za (by kernel_rfl) (fun _ => ?_)
 refine st (yb (v := .agg (e.cells de0).toArray) rfl ?_)
 intro w3 b2 hn1
 have hS4 := hS0.new hn1
 refine st (zE Tryd.zeroValue59 ?_)
 intro w7 b6 hn5
 have hS8 := hS4.new hn5
 refine zf ?_
 refine zd ?_
 refine za (by kernel_rfl) (fun _ => ?_)
 refine st (xS rfl ?_)
 refine st (zg (v := de0) Tryd.isAgg40 rfl (zh (hS8.blk (i := 1) rfl) rfl) ?_)
 refine st (zv (f := 54) (vals := [de0]) (cap := []) rfl rfl Tryd.call54 (Zn (l := e.deps) (vl := de0) hde0 hS8) ?_)
 rintro v9 w10 ⟨_, rfl, hS11⟩
 have hr12 := hS11.row (i := 0) rfl
 have hr12s : _ * 8 ≤ _ := hr12.2
 refine st (xS rfl ?_)
 refine stn (yK (v := v9) (c := [.int .i64 (e.origin), .int .i64 (e.seq), .int .i64 (e.lam), de0, .int .i64 (e.typ), .int .i64 (e.agg), .int .i64 (e.field), .int .i64 (e.op), .int .i64 (e.arg), .int .i64 (e.key)]) (c' := [.int .i64 (e.origin), .int .i64 (e.seq), .int .i64 (e.lam), v9, .int .i64 (e.typ), .int .i64 (e.agg), .int .i64 (e.field), .int .i64 (e.op), .int .i64 (e.arg), .int .i64 (e.key)]) Tryd.sizeOf40 rfl rfl (hS11.blk (i := 2) rfl) hr12.1.one rfl rfl ?_)
 intro w13 hp14
 have ok15 : Ev.Ok e := ⟨(show InR (e.origin) from oe.origin), (show InR (e.seq) from oe.seq), (show InR (e.lam) from oe.lam), (show InR (e.typ) from oe.typ), (show InR (e.agg) from oe.agg), (show InR (e.field) from oe.field), (show InR (e.op) from oe.op), (show InR (e.arg) from oe.arg), (show InR (e.key) from oe.key)⟩
 have hS16 := hS11.pt2 hp14
 refine zf ?_
 refine zd ?_
 refine za (by kernel_rfl) (fun _ => ?_)
 refine st (zl (k := 10) Tryd.isAgg59 Tryd.sizeOf59 rfl rfl (CellsAt.all (hS16.blk (i := 2) rfl)) ?_)
 refine stn (zy (v := .agg (e.cells v9).toArray) (c' := (e.cells v9).toArray) Tryd.sizeOf59 rfl rfl (hS16.blk (i := 1) rfl) (yj ⟨rfl, rfl, rfl, hr12.1.one, rfl, rfl, rfl, rfl, rfl, rfl, trivial⟩) (Nat.le_of_ble_eq_true rfl) rfl ?_)
 intro w17 hp18
 have hS19 := hS16.pt1 hp18
 refine zf ?_
 refine zu ?_
 refine XJ (b := b6) Tryd.results60 Tryd.isAgg59 Tryd.sizeOf59 rfl rfl (CellsAt.all (hS19.blk (i := 1) rfl)) ?_
 have hS20 : Sep G W ((RowE (α := Int) own 3 v9 e.deps) :: Rs) w17 := hS19.sel 3 [0] (Nat.le_add_left _ _) rfl rfl
 refine ⟨v9, rfl, hS20⟩

instance : Flat Prj := ⟨fun h => h⟩
theorem el23 : Elem Tryd.prog 23 107 5 40 := ⟨Tryd.underlying23, _, _, rfl, rfl, rfl, rfl, rfl⟩
theorem Wm {G : Nat → Prop} {W w : World} {Rs : List HP} {vl : Value} {l : List Prj} (hl : RdS W G vl l) (hS0 : Sep G W Rs w) : Ret Tryd.prog 87 [vl] w (fun r w' => ∃ (v : Value), r = (v : Value) ∧ Sep G W ((RowE (α := Prj) own 107 v l) :: Rs) w') := by
 have hls : _ * 40 ≤ _ := hl.small
 refine zr (args := [vl]) Tryd.func87 rfl rfl ?_
 refine zd ?_
 refine za (by kernel_rfl) (fun _ => ?_)
 refine st (ze (v := (.slice none 0 0)) rfl ?_)
 refine zf ?_
 refine zd ?_
 refine zd ?_
 refine za (by kernel_rfl) (fun _ => ?_)
 refine st (zb (v := vl) rfl ?_)
 refine st (xr (v := vl) Tryd.underlying23 rfl hl.sl ?_)
 refine zf ?_
 cases hc1 : xp vl
 ·skip
  refine zo rfl ?_
  refine zw ?_
  refine zd ?_
  refine za (by kernel_rfl) (fun _ => ?_)
  refine st (zB (k := 5) (parts' := []) (c := #[]) Tryd.underlying23 Tryd.sizeOf107 Tryd.zeroValue107 (by decide) rfl (by kernel_rfl) ?_)
  intro w4 b3 hn2
  have hS5 := hS0.new hn2
  refine st (zb (v := vl) rfl ?_)
  have hS9 : Sep G W ((RowE (α := Prj) own 107 (.slice (some ⟨b3, 0, none⟩) 0 0) ([] : List Prj)) :: Rs) w4 := Sep.blkRow (src := own) (l := ([] : List Prj)) (css := []) hS5 rfl trivial (by first | decide | (simp only [List.length_cons, List.length_nil]; decide))
  have hr10 := hS9.row (i := 0) rfl
  have hr10s : _ * 40 ≤ _ := hr10.2
  refine st (xg (src := own) (bytes := 40) hS9 el23 rfl rfl hl (by first | omega | (simp only [List.length_append, List.length_cons, List.length_nil, List.length_take, List.length_drop]; omega)) rfl (hq' := fun _ _ h _ _ => YA h) ?_)
  intro v7 w6 hS8
  have hS8 : Sep G W ((RowE (α := Prj) own 107 v7 l) :: Rs) w6 := hS8
  have hr11 := hS8.row (i := 0) rfl
  have hr11s : _ * 40 ≤ _ := hr11.2
  refine st (ze (v := v7) rfl ?_)
  refine zf ?_
  refine zu ?_
  refine ya Tryd.results87 (show _ = (v7 : Value) from rfl) ?_
  refine ⟨v7, rfl, hS8⟩
 ·skip
  have hl0 := Za hl.sl hc1
  refine zq rfl ?_
  refine zd ?_
  refine za (by kernel_rfl) (fun _ => ?_)
  refine st (ze (v := (.slice none 0 0)) rfl ?_)
  refine zf ?_
  refine zu ?_
  refine ya Tryd.results87 (show _ = ((.slice none 0 0) : Value) from rfl) ?_
  have hS12 : Sep G W ((RowE (α := Prj) own 107 (.slice none 0 0) ([] : List Prj)) :: Rs) w := hS0.rowNil own 107
  have hl1 : l = [] := List.length_eq_zero_iff.1 hl0
  subst hl1
  refine ⟨(.slice none 0 0), rfl, hS12⟩

theorem el31 : Elem Tryd.prog 31 79 4 48 := ⟨Tryd.underlying31, _, _, rfl, rfl, rfl, rfl, rfl⟩
theorem Wv {G : Nat → Prop} {W w : World} {Rs : List HP} {vl : Value} {l : List Fld} (hl : RdS W G vl l) (hS0 : Sep G W Rs w) : Ret Tryd.prog 88 [vl] w (fun r w' => ∃ (v : Value), r = (v : Value) ∧ Sep G W ((RowE (α := Fld) (shr G W) 79 v l) :: Rs) w') := by
 have hls : _ * 48 ≤ _ := hl.small
 refine zr (args := [vl]) Tryd.func88 rfl rfl ?_
 refine zd ?_
 refine za (by kernel_rfl) (fun _ => ?_)
 refine st (ze (v := (.slice none 0 0)) rfl ?_)
 refine zf ?_
 refine zd ?_
 refine zd ?_
 refine za (by kernel_rfl) (fun _ => ?_)
 refine st (zb (v := vl) rfl ?_)
 refine st (xr (v := vl) Tryd.underlying31 rfl hl.sl ?_)
 refine zf ?_
 cases hc1 : xp vl
 ·skip
  refine zo rfl ?_
  refine zw ?_
  refine zd ?_
  refine za (by kernel_rfl) (fun _ => ?_)
  refine st (zB (k := 4) (parts' := []) (c := #[]) Tryd.underlying31 Tryd.sizeOf79 Tryd.zeroValue79 (by decide) rfl (by kernel_rfl) ?_)
  intro w4 b3 hn2
  have hS5 := hS0.new hn2
  refine st (zb (v := vl) rfl ?_)
  have hS9 : Sep G W ((RowE (α := Fld) (shr G W) 79 (.slice (some ⟨b3, 0, none⟩) 0 0) ([] : List Fld)) :: Rs) w4 := Sep.blkRow (src := (shr G W)) (l := ([] : List Fld)) (css := []) hS5 rfl trivial (by first | decide | (simp only [List.length_cons, List.length_nil]; decide))
  have hr10 := hS9.row (i := 0) rfl
  have hr10s : _ * 48 ≤ _ := hr10.2
  refine st (xg (src := (shr G W)) (bytes := 48) hS9 el31 rfl rfl hl (by first | omega | (simp only [List.length_append, List.length_cons, List.length_nil, List.length_take, List.length_drop]; omega)) rfl (hq' := fun _ _ h _ _ => h) ?_)
  intro v7 w6 hS8
  have hS8 : Sep G W ((RowE (α := Fld) (shr G W) 79 v7 l) :: Rs) w6 := hS8
  have hr11 := hS8.row (i := 0) rfl
  have hr11s : _ * 48 ≤ _ := hr11.2
  refine st (ze (v := v7) rfl ?_)
  refine zf ?_
  refine zu ?_
  refine ya Tryd.results88 (show _ = (v7 : Value) from rfl) ?_
  refine ⟨v7, rfl, hS8⟩
 ·skip
  have hl0 := Za hl.sl hc1
  refine zq rfl ?_
  refine zd ?_
  refine za (by kernel_rfl) (fun _ => ?_)
  refine st (ze (v := (.slice none 0 0)) rfl ?_)
  refine zf ?_
  refine zu ?_
  refine ya Tryd.results88 (show _ = ((.slice none 0 0) : Value) from rfl) ?_
  have hS12 : Sep G W ((RowE (α := Fld) (shr G W) 79 (.slice none 0 0) ([] : List Fld)) :: Rs) w := hS0.rowNil (shr G W) 79
  have hl1 : l = [] := List.length_eq_zero_iff.1 hl0
  subst hl1
  refine ⟨(.slice none 0 0), rfl, hS12⟩

theorem el66 : Elem Tryd.prog 66 62 13 120 := ⟨Tryd.underlying66, _, _, rfl, rfl, rfl, rfl, rfl⟩
theorem Wu {G : Nat → Prop} {W w : World} {Rs : List HP} {vl : Value} {l : List Ent} (hl : RdS W G vl l) (hS0 : Sep G W Rs w) : Ret Tryd.prog 65 [vl] w (fun r w' => ∃ (v : Value), r = (v : Value) ∧ Sep G W ((RowE (α := Ent) (shr G W) 62 v l) :: Rs) w') := by
 have hls : _ * 120 ≤ _ := hl.small
 refine zr (args := [vl]) Tryd.func65 rfl rfl ?_
 refine zd ?_
 refine za (by kernel_rfl) (fun _ => ?_)
 refine st (ze (v := (.slice none 0 0)) rfl ?_)
 refine zf ?_
 refine zd ?_
 refine zd ?_
 refine za (by kernel_rfl) (fun _ => ?_)
 refine st (zb (v := vl) rfl ?_)
 refine st (xr (v := vl) Tryd.underlying66 rfl hl.sl ?_)
 refine zf ?_
 cases hc1 : xp vl
 ·skip
  refine zo rfl ?_
  refine zw ?_
  refine zd ?_
  refine za (by kernel_rfl) (fun _ => ?_)
  refine st (zB (k := 13) (parts' := []) (c := #[]) Tryd.underlying66 Tryd.sizeOf62 Tryd.zeroValue62 (by decide) rfl (by kernel_rfl) ?_)
  intro w4 b3 hn2
  have hS5 := hS0.new hn2
  refine st (zb (v := vl) rfl ?_)
  have hS9 : Sep G W ((RowE (α := Ent) (shr G W) 62 (.slice (some ⟨b3, 0, none⟩) 0 0) ([] : List Ent)) :: Rs) w4 := Sep.blkRow (src := (shr G W)) (l := ([] : List Ent)) (css := []) hS5 rfl trivial (by first | decide | (simp only [List.length_cons, List.length_nil]; decide))
  have hr10 := hS9.row (i := 0) rfl
  have hr10s : _ * 120 ≤ _ := hr10.2
  refine st (xg (src := (shr G W)) (bytes := 120) hS9 el66 rfl rfl hl (by first | omega | (simp only [List.length_append, List.length_cons, List.length_nil, List.length_take, List.length_drop]; omega)) rfl (hq' := fun _ _ h _ _ => h) ?_)
  intro v7 w6 hS8
  have hS8 : Sep G W ((RowE (α := Ent) (shr G W) 62 v7 l) :: Rs) w6 := hS8
  have hr11 := hS8.row (i := 0) rfl
  have hr11s : _ * 120 ≤ _ := hr11.2
  refine st (ze (v := v7) rfl ?_)
  refine zf ?_
  refine zu ?_
  refine ya Tryd.results65 (show _ = (v7 : Value) from rfl) ?_
  refine ⟨v7, rfl, hS8⟩
 ·skip
  have hl0 := Za hl.sl hc1
  refine zq rfl ?_
  refine zd ?_
  refine za (by kernel_rfl) (fun _ => ?_)
  refine st (ze (v := (.slice none 0 0)) rfl ?_)
  refine zf ?_
  refine zu ?_
  refine ya Tryd.results65 (show _ = ((.slice none 0 0) : Value) from rfl) ?_
  have hS12 : Sep G W ((RowE (α := Ent) (shr G W) 62 (.slice none 0 0) ([] : List Ent)) :: Rs) w := hS0.rowNil (shr G W) 62
  have hl1 : l = [] := List.length_eq_zero_iff.1 hl0
  subst hl1
  refine ⟨(.slice none 0 0), rfl, hS12⟩

theorem xm {d : Option Tmp} {ty : TypeId} {pos : String} {af : Array Edge} {g : Option (Nat × Bool)} {σ : Env} {w : World} {K : Value → World → Prop} {x : Operand} {b o : Nat} (hx : ev σ x = .pointer (some ⟨b, o, none⟩)) (h : K (.pointer (some ⟨b, o + 1, none⟩)) w) : opV Tryd.prog ⟨d, .fieldAddr 68 x 1, ty, pos, af, g⟩ σ w K := zt Tryd.underlying68 rfl rfl (fun w => ⟨0, Tryd.sizeOf26 w⟩) hx h
theorem Uj {G : Nat → Prop} {W w : World} {Rs : List HP} {x : Sta} {dx0 : Value} (hdx0 : RdS W G dx0 x.cls) (ox : x.Ok) (hS0 : Sep G W Rs w) : Ret Tryd.prog 63 [.agg (x.cells dx0).toArray] w (fun r w' => ∃ (v : Value), r = (.agg (x.cells v).toArray : Value) ∧ Sep G W ((RowE (α := Cel) own 42 v x.cls) :: Rs) w') := by
 have hdx0s : _ * 32 ≤ _ := hdx0.small
 refine zr (args := [.agg (x.cells dx0).toArray]) Tryd.func63 rfl rfl ?_
 refine zd ?_
 refine za (by kernel_rfl) (fun _ => ?_)
 refine st (yb (v := .agg (x.cells dx0).toArray) rfl ?_)
 intro w3 b2 hn1
 have hS4 := hS0.new hn1
 refine st (zE Tryd.zeroValue68 ?_)
 intro w7 b6 hn5
 have hS8 := hS4.new hn5
 refine zf ?_
 refine zd ?_
 refine za (by kernel_rfl) (fun _ => ?_)
 refine st (xm rfl ?_)
 refine st (zg (v := dx0) Tryd.isAgg26 rfl (zh (hS8.blk (i := 1) rfl) rfl) ?_)
 refine st (zv (f := 53) (vals := [dx0]) (cap := []) rfl rfl Tryd.call53 (Yu (l := x.cls) (vl := dx0) hdx0 hS8) ?_)
 rintro v9 w10 ⟨_, rfl, hS11⟩
 have hr12 := hS11.row (i := 0) rfl
 have hr12s : _ * 32 ≤ _ := hr12.2
 refine st (xm rfl ?_)
 refine stn (yK (v := v9) (c := [.int .i64 (x.ver), dx0]) (c' := [.int .i64 (x.ver), v9]) Tryd.sizeOf26 rfl rfl (hS11.blk (i := 2) rfl) hr12.1.one rfl rfl ?_)
 intro w13 hp14
 have ok15 : Sta.Ok x := ⟨(show InR (x.ver) from ox.ver)⟩
 have hS16 := hS11.pt2 hp14
 refine zf ?_
 refine zd ?_
 refine zd ?_
 refine za (by kernel_rfl) (fun _ => ?_)
 refine st (xm rfl ?_)
 refine st (zg (v := v9) Tryd.isAgg26 rfl (zh (hS16.blk (i := 2) rfl) rfl) ?_)
 refine st (zJ (n := x.cls.length) Tryd.underlying26 rfl hr12.1 ?_)
 refine st (zb (v := .int .i64 (0)) rfl ?_)
 refine zf ?_
 refine zx ?_
 have hS17 := hS16.toMix
 refine yn (fun mq σ wq => ∃ (k : Nat) (ρ : Env), mq = x.cls.length - k ∧ σ = yp ρ [(1, .pointer (some ⟨b2, 0, none⟩)), (2, .pointer (some ⟨b6, 0, none⟩)), (10, .int .i64 ((x.cls.length : Nat) : Int)), (11, .int .i64 ((k : Nat) : Int))] ∧ (k ≤ x.cls.length) ∧ Sep G W ((RowE (α := Bool × Cel) (mix (α := Cel) G W) 42 v9 (xk k x.cls)) :: (Blk b6 #[.int .i64 (0), (.slice none 0 0)] 68) :: (Blk b2 (x.cells v9).toArray 68) :: Rs) wq) ⟨0, _, rfl, zp ⟨rfl, rfl, rfl, rfl, trivial⟩, Nat.zero_le _, hS17⟩ ?_
 rintro m19 σ20 w18 ⟨k, ρl1, rfl, rfl, hkk, hS21⟩
 have hr22 := hS21.row (i := 0) rfl
 rw [xb] at hr22
 refine zd ?_
 refine za (by kernel_rfl) (fun _ => ?_)
 refine st (zN (k := .i64) (a := ((k : Nat) : Int)) (b := ((x.cls.length : Nat) : Int)) rfl rfl ?_)
 refine zf ?_
 refine zd ?_
 cases hc23 : decide (((k : Nat) : Int) < ((x.cls.length : Nat) : Int))
 ·skip
  have hc23 := of_decide_eq_false hc23
  have hS24 : Sep G W ((RowE (α := Cel) own 42 v9 x.cls) :: (Blk b6 #[.int .i64 (0), (.slice none 0 0)] 68) :: (Blk b2 (x.cells v9).toArray 68) :: Rs) w18 := hS21.ofMix (by omega)
  have hr25 := hS24.row (i := 0) rfl
  have hr25s : _ * 32 ≤ _ := hr25.2
  refine zo rfl ?_
  refine ym ?_
  refine yd ?_
  refine zd ?_
  refine za (by kernel_rfl) (fun _ => ?_)
  refine st (zl (k := 2) Tryd.isAgg68 Tryd.sizeOf68 rfl rfl (CellsAt.all (hS24.blk (i := 2) rfl)) ?_)
  refine stn (zy (v := .agg (x.cells v9).toArray) (c' := (x.cells v9).toArray) Tryd.sizeOf68 rfl rfl (hS24.blk (i := 1) rfl) (yj ⟨rfl, hr25.1.one, trivial⟩) (Nat.le_of_ble_eq_true rfl) rfl ?_)
  intro w26 hp27
  have hS28 := hS24.pt1 hp27
  refine zf ?_
  refine zu ?_
  refine XJ (b := b6) Tryd.results63 Tryd.isAgg68 Tryd.sizeOf68 rfl rfl (CellsAt.all (hS28.blk (i := 1) rfl)) ?_
  have hS29 : Sep G W ((RowE (α := Cel) own 42 v9 x.cls) :: Rs) w26 := hS28.sel 3 [0] (Nat.le_add_left _ _) rfl rfl
  refine ⟨v9, rfl, hS29⟩
 ·skip
  have hc23 := of_decide_eq_true hc23
  refine zq rfl ?_
  refine zw ?_
  refine zd ?_
  refine zx ?_
  refine zd ?_
  refine za (by kernel_rfl) (fun _ => ?_)
  refine st (zb (v := .int .i64 ((k : Nat) : Int)) rfl ?_)
  refine st (ze (v := .int .i64 ((k : Nat) : Int)) rfl ?_)
  refine zf ?_
  refine zP ((fun TT pp0 => WF [fun vals wq => Sep G W (pp0 :: TT) wq, fun vals wq => ∃ (de95_0 : Value), (vals 8 = (de95_0 : Value)) ∧ (RdS W G de95_0 (x.cls.getD k default).set) ∧ (Cel.Ok (x.cls.getD k default)) ∧ Sep G W (pp0 :: TT) wq, fun vals wq => ∃ (de95_0 : Value) (v105 : Value), (vals 8 = (de95_0 : Value)) ∧ (vals 9 = (v105 : Value)) ∧ (RdS W G de95_0 (x.cls.getD k default).set) ∧ (Cel.Ok (x.cls.getD k default)) ∧ Sep G W ((RowE (α := Int) own 3 v105 ((x.cls.getD k default).set)) :: pp0 :: TT) wq, fun vals wq => ∃ (de95_0 : Value) (v105 : Value), (vals 8 = (de95_0 : Value)) ∧ (vals 9 = (v105 : Value)) ∧ (RdS W G de95_0 (x.cls.getD k default).set) ∧ (Cel.Ok (x.cls.getD k default)) ∧ Sep G W ((RowE (α := Bool × Cel) (mix (α := Cel) G W) 42 v9 (xk (k + 1) x.cls)) :: TT) wq]) ((Blk b6 #[.int .i64 (0), (.slice none 0 0)] 68) :: (Blk b2 (x.cells v9).toArray 68) :: Rs) (RowE (α := Bool × Cel) (mix (α := Cel) G W) 42 v9 (xk k x.cls))) (AF [Vl 0 (.pointer (some ⟨b2, 1, none⟩)), Vl 1 (v9), Vl 2 (.int .i64 ((k : Nat) : Int)), Vl 3 (.pointer (some ⟨b2, 1, none⟩)), Vl 4 (v9), Vl 5 (.int .i64 ((k : Nat) : Int)), Vl 6 (.pointer (some ⟨sb v9, so v9 + k * 2, none⟩)), Vl 7 (.pointer (some ⟨sb v9, so v9 + k * 2 + 1, none⟩)), fun _ => True, fun _ => True, Vl 10 (.pointer (some ⟨sb v9, so v9 + k * 2, none⟩)), Vl 11 (.pointer (some ⟨sb v9, so v9 + k * 2 + 1, none⟩)), fun _ => True]) [[], [0], [], [], [3], [], [3, 4, 5], [3, 4, 5, 6], [3, 4, 5, 6, 7], [3, 4, 5, 6, 7, 8], [0, 1, 2, 3, 4, 5, 6, 7, 8, 9], [0, 1, 2, 3, 4, 5, 6, 7, 8, 9, 10], [0, 1, 2, 3, 4, 5, 6, 7, 8, 9, 10, 11]] [8, 9, 12] [(0, 2), (0, 2), (0, 2), (0, 0), (0, 0), (0, 0), (0, 0), (0, 0), (0, 0), (1, 1), (2, 2), (2, 2), (2, 2)] (by kernel_rfl) (by kernel_rfl) (by kernel_rfl) rfl (by kernel_rfl) (by kernel_rfl) (fun _ h1 h2 h3 h4 _ => hS21.same h1 h2 h3 h4) ?_ (yg ⟨dA, dA, dA, dA, dA, dA, dA, dA, dT, dT, dA, dA, dT, trivial⟩) ⟨?_, ?_, ?_, ?_, ?_, ?_, ?_, ?_, ?_, ?_, ?_, ?_, ?_, trivial⟩ ?_
  ·intro k vals vals' w hv h
   have e : ∀ j ∈ ([8, 9, 12] : List Nat), vals' j = vals j := hv
   match k, h with
   | 0, h => exact h
   | 1, h => exact (by simpa only [WF, List.getElem?_cons_zero, List.getElem?_cons_succ, e 8 (by decide)] using h)
   | 2, h => exact (by simpa only [WF, List.getElem?_cons_zero, List.getElem?_cons_succ, e 8 (by decide), e 9 (by decide)] using h)
   | 3, h => exact (by simpa only [WF, List.getElem?_cons_zero, List.getElem?_cons_succ, e 8 (by decide), e 9 (by decide)] using h)
   | _ + 4, _ => trivial
  ·intro k141 vals w142 h145 h146 hW144 hA143
   refine obl rfl ?_
   exact xm rfl (fun vals' hv _ => ⟨rfl, hv⟩)
  ·intro k147 vals w148 h151 h152 hW150 hA149
   have hkk : k147 = 0 ∨ k147 = 1 ∨ k147 = 2 := by have h1 : 0 ≤ k147 := h151; have h2 : k147 ≤ 2 := h152; omega
   rcases hkk with rfl | rfl | rfl
   ·skip
    have hS153 : Sep _ _ _ _ := hW150
    have e154 := hA149 0 (by decide)
    refine obl rfl ?_
    exact zg (v := v9) Tryd.isAgg26 e154 (zh (hS153.blk (i := 2) rfl) rfl) (fun vals' hv _ => ⟨rfl, hv⟩)
   ·skip
    obtain ⟨de95_0, he97, hde95_0, hoke95, hS155⟩ := hW150
    have e156 := hA149 0 (by decide)
    refine obl rfl ?_
    exact zg (v := v9) Tryd.isAgg26 e156 (zh (hS155.blk (i := 2) rfl) rfl) (fun vals' hv _ => ⟨rfl, hv⟩)
   ·skip
    obtain ⟨de95_0, v105, he97, he109, hde95_0, hoke95, hS157⟩ := hW150
    have e158 := hA149 0 (by decide)
    refine obl rfl ?_
    exact zg (v := v9) Tryd.isAgg26 e158 (zh (hS157.blk (i := 3) rfl) rfl) (fun vals' hv _ => ⟨rfl, hv⟩)
  ·intro k159 vals w160 h163 h164 hW162 hA161
   refine obl rfl ?_
   exact zb (v := .int .i64 ((k : Nat) : Int)) rfl (fun vals' hv _ => ⟨rfl, hv⟩)
  ·intro k165 vals w166 h169 h170 hW168 hA167
   refine obl rfl ?_
   exact xm rfl (fun vals' hv _ => ⟨rfl, hv⟩)
  ·intro k171 vals w172 h175 h176 hW174 hA173
   obtain rfl : k171 = 0 := Nat.le_antisymm h176 h175
   have hS177 : Sep _ _ _ _ := hW174
   have e178 := hA173 3 (by decide)
   refine obl rfl ?_
   exact zg (v := v9) Tryd.isAgg26 e178 (zh (hS177.blk (i := 2) rfl) rfl) (fun vals' hv _ => ⟨rfl, hv⟩)
  ·intro k179 vals w180 h183 h184 hW182 hA181
   refine obl rfl ?_
   exact zb (v := .int .i64 ((k : Nat) : Int)) rfl (fun vals' hv _ => ⟨rfl, hv⟩)
  ·intro k185 vals w186 h189 h190 hW188 hA187
   obtain rfl : k185 = 0 := Nat.le_antisymm h190 h189
   have hS191 : Sep _ _ _ _ := hW188
   have e192 := hA187 4 (by decide)
   have e193 := hA187 5 (by decide)
   refine obl rfl ?_
   have hi194 : k < x.cls.length := (by first | omega | (simp only [lens]; omega))
   exact zm (k := 2) (i := k) Tryd.underlying26 Tryd.sizeOf42 e192 hr22.1 e193 hi194 (fun vals' hv _ => ⟨rfl, hv⟩)
  ·intro k195 vals w196 h199 h200 hW198 hA197
   have e201 := hA197 6 (by decide)
   refine obl rfl ?_
   exact xl e201 (fun vals' hv _ => ⟨rfl, hv⟩)
  ·intro k87 vals w88 h91 h92 hW90 hA89
   obtain rfl : k87 = 0 := Nat.le_antisymm h92 h91
   have hS93 : Sep _ _ _ _ := hW90
   have e94 := hA89 7 (by decide)
   refine obl rfl ?_
   have hi96 : k < x.cls.length := (by first | omega | (simp only [lens]; omega))
   obtain ⟨_, hce95, de95_0, rfl, hde95_0, hoke95⟩ := hS93.mixAt (i := 0) (j := k) rfl (Nat.le_refl _) hi96
   rw [← zk default hi96] at hce95 hde95_0 hoke95
   refine (zg (v := de95_0) Tryd.isAgg40 e94 (hce95.get (j := 1) rfl) ?_)
   intro vals' hv hv'
   refine ⟨?_, trivial⟩
   show ∃ (de95_0 : Value), (vals' 8 = (de95_0 : Value)) ∧ (RdS W G de95_0 (x.cls.getD k default).set) ∧ (Cel.Ok (x.cls.getD k default)) ∧ Sep G W ((RowE (α := Bool × Cel) (mix (α := Cel) G W) 42 v9 (xk k x.cls)) :: (Blk b6 #[.int .i64 (0), (.slice none 0 0)] 68) :: (Blk b2 (x.cells v9).toArray 68) :: Rs) w88
   exact ⟨de95_0, hv, hde95_0, hoke95, hS93⟩
  ·intro k98 vals w99 h102 h103 hW101 hA100
   obtain rfl : k98 = 1 := Nat.le_antisymm h103 h102
   obtain ⟨de95_0, he97, hde95_0, hoke95, hS104⟩ := hW101
   refine obl rfl ?_
   refine (zv (f := 54) (vals := [de95_0]) (cap := []) rfl (xj ⟨he97, trivial⟩) Tryd.call54 (Zn (l := (x.cls.getD k default).set) (vl := de95_0) hde95_0 hS104) ?_)
   rintro v105 w106 ⟨_, rfl, hS107⟩
   have hr108 := hS107.row (i := 0) rfl
   have hr108s : _ * 8 ≤ _ := hr108.2
   intro vals' hv hv'
   refine ⟨?_, trivial⟩
   show ∃ (de95_0 : Value) (v105 : Value), (vals' 8 = (de95_0 : Value)) ∧ (vals' 9 = (v105 : Value)) ∧ (RdS W G de95_0 (x.cls.getD k default).set) ∧ (Cel.Ok (x.cls.getD k default)) ∧ Sep G W ((RowE (α := Int) own 3 v105 ((x.cls.getD k default).set)) :: (RowE (α := Bool × Cel) (mix (α := Cel) G W) 42 v9 (xk k x.cls)) :: (Blk b6 #[.int .i64 (0), (.slice none 0 0)] 68) :: (Blk b2 (x.cells v9).toArray 68) :: Rs) w106
   exact ⟨de95_0, v105, (by rw [hv' 8 (by decide)]; exact he97), hv, hde95_0, hoke95, hS107⟩
  ·intro k202 vals w203 h206 h207 hW205 hA204
   obtain rfl : k202 = 2 := Nat.le_antisymm h207 h206
   obtain ⟨de95_0, v105, he97, he109, hde95_0, hoke95, hS208⟩ := hW205
   have e209 := hA204 1 (by decide)
   have e210 := hA204 2 (by decide)
   refine obl rfl ?_
   have hi211 : k < x.cls.length := (by first | omega | (simp only [lens]; omega))
   exact zm (k := 2) (i := k) Tryd.underlying26 Tryd.sizeOf42 e209 hr22.1 e210 hi211 (fun vals' hv _ => ⟨rfl, hv⟩)
  ·intro k212 vals w213 h216 h217 hW215 hA214
   have e218 := hA214 10 (by decide)
   refine obl rfl ?_
   exact xl e218 (fun vals' hv _ => ⟨rfl, hv⟩)
  ·intro k127 vals w128 h131 h132 hW130 hA129
   obtain rfl : k127 = 2 := Nat.le_antisymm h132 h131
   obtain ⟨de95_0, v105, he97, he109, hde95_0, hoke95, hS133⟩ := hW130
   have e134 := hA129 11 (by decide)
   refine obl rfl ?_
   have hS136 := hS133.mv1
   have hi138 : k < x.cls.length := (by first | omega | (simp only [lens]; omega))
   have hr139 := hS136.row (i := 1) rfl
   have hr139s : _ * 8 ≤ _ := hr139.2
   refine (ZH (α := Cel) (j := k) (o := 1) (u := v105) (us := [v105]) hS136 Tryd.sizeOf40 hi138 e134 he109 (congrArg Array.toList (yL hr139.1.one)) (Nat.le_of_ble_eq_true rfl) (yj ⟨hr139.1.one, trivial⟩) (fun w f cs0 hr hN => (by obtain ⟨d, rfl, hd, hok⟩ := hr; exact ⟨_, rfl, (by rw [← zk default hi138]; exact RowE.soft hN), hok⟩)) ?_)
   intro w135 hS140
   intro vals' hv hv'
   refine ⟨?_, trivial⟩
   show ∃ (de95_0 : Value) (v105 : Value), (vals' 8 = (de95_0 : Value)) ∧ (vals' 9 = (v105 : Value)) ∧ (RdS W G de95_0 (x.cls.getD k default).set) ∧ (Cel.Ok (x.cls.getD k default)) ∧ Sep G W ((RowE (α := Bool × Cel) (mix (α := Cel) G W) 42 v9 (xk (k + 1) x.cls)) :: (Blk b6 #[.int .i64 (0), (.slice none 0 0)] 68) :: (Blk b2 (x.cells v9).toArray 68) :: Rs) w135
   exact ⟨de95_0, v105, (by rw [hv' 8 (by decide)]; exact he97), (by rw [hv' 9 (by decide)]; exact he109), hde95_0, hoke95, hS140⟩
  intro vals w219 hW220 hA221
  obtain ⟨de95_0, v105, he97, he109, hde95_0, hoke95, hS222⟩ := hW220
  refine yh (kv := [(1, .pointer (some ⟨b2, 0, none⟩)), (2, .pointer (some ⟨b6, 0, none⟩)), (10, .int .i64 ((x.cls.length : Nat) : Int)), (11, .int .i64 ((k : Nat) : Int)), (12, .bool true), (13, .int .i64 ((k : Nat) : Int)), (3, .int .i64 ((k : Nat) : Int))]) ⟨rfl, rfl, rfl, rfl, rfl, rfl, rfl, trivial⟩ (fun ρw219 => ?_)
  refine zf ?_
  refine za (by kernel_rfl) (fun _ => ?_)
  have hr223 : InR ((k + 1 : Nat) : Int) := by first | omega | (simp only [lens]; omega)
  refine st (ye (r := ((k + 1 : Nat) : Int)) (k := .i64) (a := ((k : Nat) : Int)) (b := 1) rfl rfl (by rw [show (((k : Nat) : Int) + 1 : Int) = ((k + 1 : Nat) : Int) by first | omega | (simp only [lens]; omega)]; exact zQ hr223) ?_)
  refine st (zb (v := .int .i64 ((k + 1 : Nat) : Int)) rfl ?_)
  refine zf ?_
  exact ⟨_, by omega, k + 1, _, rfl, zp ⟨rfl, rfl, rfl, rfl, trivial⟩, by omega, hS222⟩

end Go.Proofs.YtlblilbmpdejgaaDoor
