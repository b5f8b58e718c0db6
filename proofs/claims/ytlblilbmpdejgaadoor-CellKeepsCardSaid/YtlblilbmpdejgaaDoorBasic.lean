/- Plain laws on lists of numbers. -/
import Derived.Test.YtlblilbmpdejgaaDoorPlain11
set_option linter.unusedSimpArgs false
set_option linter.unusedVariables false
namespace Go.Proofs.YtlblilbmpdejgaaDoor
theorem asc_lt {l : List Int} (h : Asc l) {i j : Nat} (hij : i < j) (hj : j < l.length) : l.getD i 0 < l.getD j 0 := by
  rw [getD_at _ (show i < l.length by omega), getD_at _ hj]
  exact List.pairwise_iff_getElem.1 h i j (by omega) hj hij
theorem bs_lo {l : List Int} (h : Asc l) {m : Nat} {x : Int} (hm : m < l.length) (hx : l.getD m 0 < x) : ∀ q, q < m + 1 → l.getD q 0 < x := by
  intro q hq
  rcases Nat.lt_or_eq_of_le (Nat.le_of_lt_succ hq) with h1 | rfl
  · have := asc_lt h h1 hm; omega
  · exact hx
theorem bs_hi {l : List Int} (h : Asc l) {m : Nat} {x : Int} (hm : m < l.length) (hx : ¬ l.getD m 0 < x) : ∀ q, m ≤ q → q < l.length → x ≤ l.getD q 0 := by
  intro q hq hl
  rcases Nat.lt_or_eq_of_le hq with h1 | rfl
  · have := asc_lt h h1 hl; omega
  · omega
theorem bs_mem {l : List Int} (ha : Asc l) {i : Nat} {x : Int} (hi : i ≤ l.length) (hlo : ∀ q, q < i → l.getD q 0 < x) (hhi : ∀ q, i ≤ q → q < l.length → x ≤ l.getD q 0) : decide (x ∈ l) = (decide (i < l.length) && decide (l.getD i 0 = x)) := by
  rw [Bool.eq_iff_iff]
  simp only [decide_eq_true_eq, Bool.and_eq_true]
  constructor
  · intro h
    obtain ⟨q, hq, rfl⟩ := List.getElem_of_mem h
    have e : l.getD q 0 = l[q] := getD_at _ hq
    rcases Nat.lt_trichotomy q i with h1 | rfl | h1
    · have := hlo q h1; omega
    · exact ⟨hq, e⟩
    · have h2 := hhi i (Nat.le_refl _) (by omega)
      have h3 := asc_lt ha h1 hq
      omega
  · rintro ⟨h1, h2⟩
    rw [← h2, getD_at _ h1]
    exact List.getElem_mem h1
/-- What lists' lengths come to, as one (short to name). -/
theorem lens : (∀ {α : Type} (a b : List α), (a ++ b).length = a.length + b.length) ∧ (∀ {α : Type} (x : α) (a : List α), (x :: a).length = a.length + 1) ∧ (∀ {α : Type}, ([] : List α).length = 0) ∧ (∀ {α : Type} (n : Nat) (a : List α), (a.take n).length = min n a.length) ∧ (∀ {α : Type} (n : Nat) (a : List α), (a.drop n).length = a.length - n) ∧ (∀ {α : Type} (n : Nat) (x : α) (a : List α), (a.set n x).length = a.length) ∧ (∀ {α : Type} (n : Nat) (x : α), (List.replicate n x).length = n) :=
  ⟨fun _ _ => List.length_append, fun _ _ => rfl, rfl, fun _ _ => List.length_take, fun _ _ => List.length_drop, fun _ _ _ => List.length_set, fun _ _ => List.length_replicate⟩
theorem bools : (∀ a b : Bool, ((a && b) = true) = (a = true ∧ b = true)) ∧ (∀ a b : Bool, ((a || b) = true) = (a = true ∨ b = true)) ∧ (∀ a b : Bool, ((a && b) = false) = (a = false ∨ b = false)) ∧ (∀ a b : Bool, ((a || b) = false) = (a = false ∧ b = false)) ∧ (∀ (p : Prop) [Decidable p], (decide p = true) = p) ∧ (∀ (p : Prop) [Decidable p], (decide p = false) = ¬ p) ∧ (∀ b : Bool, ((!b) = true) = (b = false)) ∧ (∀ b : Bool, ((!b) = false) = (b = true)) ∧ (∀ a b : Int, (¬ a < b) = (b ≤ a)) ∧ (∀ a b : Int, (¬ a ≤ b) = (b < a)) :=
  ⟨by simp, by simp, by simp, by simp, by simp, by simp, by simp, by simp, by simp, by simp⟩
end Go.Proofs.YtlblilbmpdejgaaDoor
