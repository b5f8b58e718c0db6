/- Lengths and bools; how events stand in order. -/
import Derived.Test.YtgjgmojjeehieaaSep2
set_option linter.unusedSimpArgs false
set_option linter.unusedVariables false
namespace Go.Proofs.Ytgjgmojjeehieaa
/-- What lists' lengths come to, as one (short to name). -/
theorem lens : (∀ {α : Type} (a b : List α), (a ++ b).length = a.length + b.length) ∧ (∀ {α : Type} (x : α) (a : List α), (x :: a).length = a.length + 1) ∧ (∀ {α : Type}, ([] : List α).length = 0) ∧ (∀ {α : Type} (n : Nat) (a : List α), (a.take n).length = min n a.length) ∧ (∀ {α : Type} (n : Nat) (a : List α), (a.drop n).length = a.length - n) ∧ (∀ {α : Type} (n : Nat) (x : α) (a : List α), (a.set n x).length = a.length) ∧ (∀ {α : Type} (n : Nat) (x : α), (List.replicate n x).length = n) :=
  ⟨fun _ _ => List.length_append, fun _ _ => rfl, rfl, fun _ _ => List.length_take, fun _ _ => List.length_drop, fun _ _ _ => List.length_set, fun _ _ => List.length_replicate⟩
theorem bools : (∀ a b : Bool, ((a && b) = true) = (a = true ∧ b = true)) ∧ (∀ a b : Bool, ((a || b) = true) = (a = true ∨ b = true)) ∧ (∀ a b : Bool, ((a && b) = false) = (a = false ∨ b = false)) ∧ (∀ a b : Bool, ((a || b) = false) = (a = false ∧ b = false)) ∧ (∀ (p : Prop) [Decidable p], (decide p = true) = p) ∧ (∀ (p : Prop) [Decidable p], (decide p = false) = ¬ p) ∧ (∀ b : Bool, ((!b) = true) = (b = false)) ∧ (∀ b : Bool, ((!b) = false) = (b = true)) ∧ (∀ a b : Int, (¬ a < b) = (b ≤ a)) ∧ (∀ a b : Int, (¬ a ≤ b) = (b < a)) :=
  ⟨by simp, by simp, by simp, by simp, by simp, by simp, by simp, by simp, by simp, by simp⟩
def cmpI (a b : Int) : Int := if a < b then -1 else if b < a then 1 else 0
def orL : List Int → Int
  | [] => 0
  | x :: l => if x ≠ 0 then x else orL l
def cmpE (a b : Ev) : Int := orL [cmpI a.lam b.lam, cmpI a.origin b.origin, cmpI a.seq b.seq]
theorem decI2 (a b c d : Int) : (decide (a = c ∧ b = d)) = (a == c && b == d) := by
  by_cases h1 : a = c <;> by_cases h2 : b = d <;> simp [h1, h2]
theorem cmpI_in (a b : Int) : InR (cmpI a b) := by unfold cmpI; split <;> (try split) <;> decide
theorem orL_in : ∀ {l : List Int}, (∀ i, i < l.length → InR (l.getD i 0)) → InR (orL l)
  | [], _ => by decide
  | x :: l, h => by
    unfold orL
    split
    · exact h 0 (Nat.succ_pos _)
    · exact orL_in (fun i hi => h (i + 1) (Nat.succ_lt_succ hi))
end Go.Proofs.Ytgjgmojjeehieaa
