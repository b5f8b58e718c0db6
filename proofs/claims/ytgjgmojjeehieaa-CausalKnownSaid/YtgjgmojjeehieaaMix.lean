/- Rows of one's own, of whose elements the first have memory of their own, and the others share theirs. -/
import Derived.Test.YtgjgmojjeehieaaRowE2
set_option linter.unusedSimpArgs false
set_option linter.unusedVariables false
set_option linter.unusedSectionVars false
namespace Go.Proofs.Ytgjgmojjeehieaa
open Go.RowKit

instance {α : Type} [Rep α] : Rep (Bool × α) where
  k := Rep.k α
  rd w F cs x := Rep.rd w F cs x.2
  bytes := Rep.bytes α
  bpos := Rep.bpos
  kpos := Rep.kpos
  len h := Rep.len h
  one h := Rep.one h
  mono h hF := Rep.mono h hF
/-- An element's memory: its own, or shared. -/
def mix {α : Type} [Rep α] (G : Nat → Prop) (W : World) : Src (Bool × α) :=
  ⟨fun cs x => if x.1 then (own (α := α)).el cs x.2 else (shr (α := α) G W).el cs x.2, fun {w f cs x} h => by
    split at h
    · exact (own (α := α)).len h
    · exact (shr (α := α) G W).len h, fun {w f cs x} h => by
    split at h
    · exact (own (α := α)).one h
    · exact (shr (α := α) G W).one h⟩
def mixL {α : Type} (k : Nat) (l : List α) : List (Bool × α) := (l.take k).map (Prod.mk true) ++ (l.drop k).map (Prod.mk false)
theorem mixL_len {α : Type} (k : Nat) (l : List α) : (mixL k l).length = l.length := by unfold mixL; simp; omega
theorem mixL_get {α : Type} {k i : Nat} {l : List α} (hk : k ≤ i) (hi : i < l.length) : (mixL k l)[i]? = some (false, l[i]) := by
  unfold mixL
  rw [List.getElem?_append_right (by simp; omega)]
  simp only [List.length_map, List.length_take, List.getElem?_map, List.getElem?_drop]
  rw [show k + (i - min k l.length) = i by omega, List.getElem?_eq_getElem hi]; rfl
theorem mixL_step {α : Type} {k : Nat} {l : List α} (hk : k < l.length) : (mixL k l).set k (true, l[k]) = mixL (k + 1) l := by
  unfold mixL
  rw [List.take_succ_eq_append_getElem hk, List.map_append, List.append_assoc, List.set_append_right _ _ (by simp only [List.length_map, List.length_take]; omega), List.drop_eq_getElem_cons hk]
  simp only [List.length_map, List.length_take, List.map_cons, List.map_nil, List.singleton_append]
  rw [show k - min k l.length = 0 by omega, List.set_cons_zero]
section
variable {α : Type} [Rep α] {G : Nat → Prop} {W w : World} {As : List HP} {T : TypeId} {v : Value} {l : List α}
theorem EP.mapIn {β : Type} {q : List Value → α → Prop} {q' : List Value → β → Prop} (g : α → β) (h : ∀ cs x, q cs x → q' cs (g x)) : ∀ {css : List (List Value)} {l : List α}, EP q css l → EP q' css (l.map g)
  | [], [], _ => trivial
  | _ :: _, _ :: _, hh => ⟨h _ _ hh.1, EP.mapIn g h hh.2⟩
  | [], _ :: _, hh => hh.elim
  | _ :: _, [], hh => hh.elim
theorem EP.mapOut {β : Type} {q : List Value → α → Prop} {q' : List Value → β → Prop} (g : α → β) (h : ∀ cs x, q' cs (g x) → q cs x) : ∀ {css : List (List Value)} {l : List α}, EP q' css (l.map g) → EP q css l
  | [], [], _ => trivial
  | _ :: _, _ :: _, hh => ⟨h _ _ hh.1, EP.mapOut g h hh.2⟩
  | [], _ :: _, hh => hh.elim
  | _ :: _, [], hh => hh.elim
theorem Sep.toMix (h : Sep G W (RowE (shr G W) T v l :: As) w) : Sep G W (RowE (mix (α := α) G W) T v (mixL 0 l) :: As) w := by
  refine h.impl (i := 0) rfl (fun f hA => ?_)
  obtain ⟨css, hE, hown, hrow, hsm⟩ := hA
  have e : mixL 0 l = l.map (Prod.mk false) := by unfold mixL; simp
  rw [e]
  exact ⟨css, EP.mapIn (Prod.mk false) (fun cs x hx => hx) hE, by rw [List.length_map]; exact hown, hrow, by rw [List.length_map]; exact hsm⟩
theorem Sep.ofMix {n : Nat} (h : Sep G W (RowE (mix (α := α) G W) T v (mixL n l) :: As) w) (hn : l.length ≤ n) : Sep G W (RowE (own (α := α)) T v l :: As) w := by
  refine h.impl (i := 0) rfl (fun f hA => ?_)
  have e : mixL n l = l.map (Prod.mk true) := by unfold mixL; rw [List.take_of_length_le hn, List.drop_of_length_le hn]; simp
  rw [e] at hA
  obtain ⟨css, hE, hown, hrow, hsm⟩ := hA
  exact ⟨css, EP.mapOut (Prod.mk true) (fun cs x hx => hx) hE, by rw [List.length_map] at hown; exact hown, hrow, by rw [List.length_map] at hsm; exact hsm⟩
theorem Sep.mixAt {i k j : Nat} (h : Sep G W As w) (hi : As[i]? = some (RowE (mix (α := α) G W) T v (mixL k l))) (hk : k ≤ j) (hj : j < l.length) : ∃ cs, CellsAt w (sb v) (so v + j * Rep.k α) cs ∧ Rep.rd W G cs l[j] := by
  obtain ⟨cs, f, h1, h2⟩ := h.rowAt hi (j := j) (by rw [mixL_len]; exact hj)
  have e : (mixL k l)[j]'(by rw [mixL_len]; exact hj) = (false, l[j]) := by
    have := mixL_get hk hj
    rw [List.getElem?_eq_getElem (by rw [mixL_len]; exact hj)] at this
    exact Option.some.inj this
  rw [e] at h2
  exact ⟨cs, h1, h2⟩
end
section
variable {α : Type} [Rep α] {P : Program} {d : Option Tmp} {ty : TypeId} {pos : String} {af : Array Edge} {gd : Option (Nat × Bool)} {σ : Env} {w : World} {K : Value → World → Prop} {G : Nat → Prop} {W : World} {As : List HP} {N : HP} {T : TypeId} {v : Value} {l : List α}
/-- The next element's memory becomes its own. -/
theorem ov_storeM {t : TypeId} {j o : Nat} {x y : Operand} {u : Value} {us : List Value} (h : Sep G W (RowE (mix (α := α) G W) T v (mixL j l) :: N :: As) w) (hS : ∀ w, (sizeOf t).run P w = .ok us.length w) (hj : j < l.length)
    (hx : ev σ x = .pointer (some ⟨sb v, so v + j * Rep.k α + o, none⟩)) (hy : ev σ y = u) (hu : u.cells.toList = us) (ho : o + us.length ≤ Rep.k α) (h1 : ∀ u ∈ us, u.oneCell' = true)
    (hq : ∀ w f cs0, Rep.rd W G cs0 l[j] → N.p w f → ((own (α := α)).el (cs0.take o ++ us ++ cs0.drop (o + us.length)) l[j]).p w f)
    (hK : ∀ w', Sep G W (RowE (mix (α := α) G W) T v (mixL (j + 1) l) :: As) w' → K undef w') : opV P ⟨d, .store t x y, ty, pos, af, gd⟩ σ w K := by
  have e : (mixL j l)[j]'(by rw [mixL_len]; exact hj) = (false, l[j]) := by
    have := mixL_get (Nat.le_refl j) hj
    rw [List.getElem?_eq_getElem (by rw [mixL_len]; exact hj)] at this
    exact Option.some.inj this
  refine ov_storeS (α := Bool × α) (j := j) (o := o) (u := u) (us := us) (x1 := (true, l[j])) h hS (by rw [mixL_len]; exact hj) hx hy hu ho h1 (fun w f cs0 hel hN => ?_) (fun w' h' => hK w' (by rw [mixL_step hj] at h'; exact h'))
  rw [e] at hel
  exact hq w f cs0 hel hN
end
end Go.Proofs.Ytgjgmojjeehieaa
