/- Steps of the proofs of this seat: part E9. -/
import Derived.Test.YtgjgmojjeehieaaB9
set_option linter.unusedSimpArgs false
set_option linter.unusedVariables false
set_option maxRecDepth 8000
set_option maxHeartbeats 4000000
namespace Go.Proofs.Ytgjgmojjeehieaa
open Go.Proofs Go.RowKit

theorem C_CausalKnown {W : World}  : Ret Try.prog 8 [] W (fun r w' => r = .bool true ∧ Ext W w') :=
  Ret.mono (D_CausalKnown (Sep.start W)) (fun v w' ⟨h1, h2⟩ => ⟨h1, h2.fin⟩)
end Go.Proofs.Ytgjgmojjeehieaa
