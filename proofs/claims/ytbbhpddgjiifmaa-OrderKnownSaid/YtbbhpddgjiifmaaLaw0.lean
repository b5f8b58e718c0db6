/- Steps of the proofs of this seat: part Law0. -/
import Derived.Test.YtbbhpddgjiifmaaFns12
set_option linter.unusedSimpArgs false
set_option linter.unusedVariables false
namespace Go.Proofs.Ytbbhpddgjiifmaa
open Go.Proofs Go.RowKit

theorem beqb_t {x y : Bool} : ((x == y) = true) ↔ (x = true ↔ y = true) := by cases x <;> cases y <;> simp
theorem beqb_f {x y : Bool} : ((x == y) = false) ↔ ¬ (x = true ↔ y = true) := by cases x <;> cases y <;> simp
def LessP (a b : Ev) : Prop := a.lam < b.lam ∨ a.lam = b.lam ∧ (a.origin < b.origin ∨ a.origin = b.origin ∧ a.seq < b.seq)
instance (a b : Ev) : Decidable (LessP a b) := by unfold LessP; infer_instance
theorem less_dec (a b : Ev) : less a b = decide (LessP a b) := by
  rw [less_eq, Bool.eq_iff_iff, decide_eq_true_eq]
  unfold lessR LessP
  repeat' split
  all_goals (simp only [decide_eq_true_eq]; omega)

end Go.Proofs.Ytbbhpddgjiifmaa
