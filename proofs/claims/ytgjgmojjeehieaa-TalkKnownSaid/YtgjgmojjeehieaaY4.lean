/- Texts of this claim, part 4. -/
import Derived.Test.YtgjgmojjeehieaaY3
import Derived.Test.YtgjgmojjeehieaaRows
set_option linter.unusedSimpArgs false
set_option linter.unusedVariables false
/- The arguments opened. -/
set_option linter.unusedVariables false
set_option maxRecDepth 100000
namespace Go.Proofs.Ytgjgmojjeehieaa
open Go.ChangeShapes Go.WideShapes Go.ChangeAt Go.RowKit

theorem Try.own : ownKnob Try.prog.godebug = none := by kernel_rfl
theorem Try.laidOut : laidOutB Try.prog = true := by kernel_rfl
end Go.Proofs.Ytgjgmojjeehieaa
