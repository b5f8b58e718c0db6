/- Parts out of a star, and back; rows whose elements' slices lie in rows of their own. -/
import Derived.Test.YtgjgmojjeehieaaRowE2
set_option linter.unusedSimpArgs false
set_option linter.unusedVariables false
namespace Go.Proofs.Ytgjgmojjeehieaa
open Go.RowKit
section
variable {G : Nat → Prop} {W w w' : World} {As Bs : List HP} {A B : HP}
/-- The same parts under other numbers; what holds of nothing may come in. -/
theorem Sep.map (h : Sep G W As w) (σ : Nat → Option Nat) (h1 : ∀ i C, Bs[i]? = some C → (∃ j, σ i = some j ∧ As[j]? = some C) ∨ (σ i = none ∧ ∀ w f, C.p w f)) (h2 : ∀ i j k, i < Bs.length → j < Bs.length → σ i = some k → σ j = some k → i = j) : Sep G W Bs w := by
  obtain ⟨fs, q1, q2⟩ := h.parts
  refine ⟨h.kept, fun i b => match σ i with | some j => fs j b | none => False, fun i C hC => ?_, fun i j hi hj hne b hb => ?_⟩
  · rcases h1 i C hC with ⟨j, hj, hA⟩ | ⟨hn, hp⟩
    · simp only [hj]; exact q1 j C hA
    · simp only [hn]; exact ⟨hp _ _, fun b h => h.elim⟩
  · rcases h1 i _ (List.getElem?_eq_getElem hi) with ⟨i', hi', hAi⟩ | ⟨hn, _⟩
    · rcases h1 j _ (List.getElem?_eq_getElem hj) with ⟨j', hj', hAj⟩ | ⟨hn, _⟩
      · simp only [hi'] at hb
        simp only [hj']
        exact q2 i' j' (List.getElem?_eq_some_iff.1 hAi).1 (List.getElem?_eq_some_iff.1 hAj).1 (fun e => hne (h2 i j i' hi hj hi' (e ▸ hj'))) b hb
      · simp only [hn]; exact fun h => h
    · simp only [hn] at hb
theorem Sep.takeStar (h : Sep G W (Star Bs :: As) w) {i : Nat} (hi : Bs[i]? = some B) : Sep G W (B :: Star (Bs.set i Emp) :: As) w := by
  have hlt := (List.getElem?_eq_some_iff.1 hi).1
  have h0 : Sep G W (Bs ++ As) w := h.openStar
  have h1 : Sep G W (Bs.set i Emp ++ B :: As) w := by
    refine h0.map (fun k => if k = i then none else if k = Bs.length then some i else if k < Bs.length then some k else some (k - 1)) (fun k C hC => ?_) (fun a b c ha hb h3 h4 => ?_)
    · by_cases e1 : k = i
      · subst e1
        rw [List.getElem?_append_left (by simpa using hlt), List.getElem?_set_self hlt] at hC
        cases hC
        exact .inr ⟨if_pos rfl, fun _ _ => trivial⟩
      · left
        by_cases e2 : k = Bs.length
        · subst e2
          rw [List.getElem?_append_right (by simp)] at hC
          simp only [List.length_set, Nat.sub_self, List.getElem?_cons_zero, Option.some.injEq] at hC
          subst hC
          exact ⟨i, by simp [e1], by rw [List.getElem?_append_left hlt]; exact hi⟩
        · by_cases e3 : k < Bs.length
          · rw [List.getElem?_append_left (by simpa using e3), List.getElem?_set_ne (Ne.symm e1)] at hC
            exact ⟨k, by simp [e1, e2, e3], by rw [List.getElem?_append_left e3]; exact hC⟩
          · rw [List.getElem?_append_right (by simp; omega)] at hC
            obtain ⟨q, hq⟩ : ∃ q, k - Bs.length = q + 1 := ⟨k - Bs.length - 1, by omega⟩
            rw [List.length_set, hq, List.getElem?_cons_succ] at hC
            exact ⟨k - 1, by simp [e1, e2, e3], by rw [List.getElem?_append_right (by omega), show k - 1 - Bs.length = q by omega]; exact hC⟩
    · split at h3
      · cases h3
      · split at h4
        · cases h4
        · split at h3 <;> split at h4 <;> (try split at h3) <;> (try split at h4) <;> simp_all <;> omega
  exact (Sep.closeStar h1).map (fun k => match k with | 0 => some 1 | 1 => some 0 | k + 2 => some (k + 2)) (fun k C hC => by
    match k, hC with
    | 0, hC => exact .inl ⟨1, rfl, hC⟩
    | 1, hC => exact .inl ⟨0, rfl, hC⟩
    | k + 2, hC => exact .inl ⟨k + 2, rfl, hC⟩) (fun a b c _ _ h3 h4 => by
    match a, b, h3, h4 with
    | 0, 0, _, _ => rfl
    | 1, 1, _, _ => rfl
    | 0, 1, h3, h4 => simp at h3 h4; omega
    | 1, 0, h3, h4 => simp at h3 h4; omega
    | 0, b + 2, h3, h4 => simp at h3 h4; omega
    | 1, b + 2, h3, h4 => simp at h3 h4; omega
    | a + 2, 0, h3, h4 => simp at h3 h4; omega
    | a + 2, 1, h3, h4 => simp at h3 h4; omega
    | a + 2, b + 2, h3, h4 => simp at h3 h4; omega)
theorem Sep.putStar (h : Sep G W (B :: Star Bs :: As) w) {i : Nat} (hlt : i < Bs.length) : Sep G W (Star (Bs.set i B) :: As) w := by
  have h0 : Sep G W (Star Bs :: B :: As) w := h.sel 2 [1, 0] (Nat.le_add_left _ _) rfl rfl
  have h1 : Sep G W (Bs ++ B :: As) w := h0.openStar
  refine Sep.closeStar (h1.map (fun k => if k = i then some Bs.length else if k < Bs.length then some k else some (k + 1)) (fun k C hC => ?_) (fun a b c ha hb h3 h4 => ?_))
  · left
    by_cases e1 : k = i
    · subst e1
      rw [List.getElem?_append_left (by simpa using hlt), List.getElem?_set_self hlt] at hC
      exact ⟨Bs.length, by simp, by rw [List.getElem?_append_right (Nat.le_refl _), Nat.sub_self]; exact hC⟩
    · by_cases e3 : k < Bs.length
      · rw [List.getElem?_append_left (by simpa using e3), List.getElem?_set_ne (Ne.symm e1)] at hC
        exact ⟨k, by simp [e1, e3], by rw [List.getElem?_append_left e3]; exact hC⟩
      · rw [List.getElem?_append_right (by simp; omega), List.length_set] at hC
        exact ⟨k + 1, by simp [e1, e3], by rw [List.getElem?_append_right (by omega), show k + 1 - Bs.length = (k - Bs.length) + 1 by omega, List.getElem?_cons_succ]; exact hC⟩
  · split at h3 <;> split at h4 <;> (try split at h3) <;> (try split at h4) <;> simp_all <;> omega
theorem Sep.snocStar (h : Sep G W (B :: Star Bs :: As) w) : Sep G W (Star (Bs ++ [B]) :: As) w := by
  have h0 : Sep G W (Star Bs :: B :: As) w := h.sel 2 [1, 0] (Nat.le_add_left _ _) rfl rfl
  have h1 : Sep G W (Bs ++ B :: As) w := h0.openStar
  exact Sep.closeStar (by rw [List.append_assoc]; exact h1)
theorem Sep.nilStar (h : Sep G W As w) : Sep G W (Star [] :: As) w := h.push (Chg.refl _ _) (f := fun _ => False) ⟨fun _ _ => False, fun i A hA => by simp at hA, fun i j hi => by simp at hi⟩ (fun _ h => h.elim)
theorem Star.at_ {w : World} {f : Nat → Prop} (h : (Star Bs).p w f) {i : Nat} (hi : Bs[i]? = some B) : B.p w f := by
  obtain ⟨fs, h1, h2⟩ := h
  exact B.weak (h1 i B hi).1 (fun b hb _ => ((h1 i B hi).2 b hb).1)
end

/-- A cell of a field, its set by its slice alone. -/
structure CelS where
  n : Int
  v : Value
  deriving Inhabited
structure CelS.Ok (e : CelS) : Prop where
  n : InR e.n
  one : e.v.oneCell' = true
def CelS.cells (e : CelS) : List Value := [.int .i64 e.n, e.v]
instance : Rep CelS where
  k := 2
  rd _ _ cs x := cs = x.cells ∧ x.Ok
  bytes := 32
  bpos := by decide
  kpos := by decide
  len h := by rw [h.1]; rfl
  one h := by rw [h.1]; exact all1 ⟨rfl, h.2.one, trivial⟩
  mono h _ := h
instance : Flat CelS := ⟨fun h => h⟩
end Go.Proofs.Ytgjgmojjeehieaa
