/- Steps of the proofs of this seat: part C24. -/
import Derived.Test.YtlblilbmpdejgaaC23
set_option linter.unusedSimpArgs false
set_option linter.unusedVariables false
namespace Go.Proofs.Ytlblilbmpdejgaa
open Go.Proofs Go.RowKit

/-- The law's contract. -/
theorem C_CellKnown {w : World} : Ret Try.prog 4 [] w (fun r w' => r = .bool true ∧ Ext w w') :=
  Ret.mono (D_CellKnown (Sep.start w)) (fun r w' h => ⟨h.1, h.2.fin⟩)
end Go.Proofs.Ytlblilbmpdejgaa
