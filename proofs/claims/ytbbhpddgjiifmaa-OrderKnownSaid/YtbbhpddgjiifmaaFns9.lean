/- Steps of the proofs of this seat: part Fns9. -/
import Derived.Test.YtbbhpddgjiifmaaFns8
set_option linter.unusedSimpArgs false
set_option linter.unusedVariables false
namespace Go.Proofs.Ytbbhpddgjiifmaa
open Go.Proofs Go.RowKit

end Go.Proofs.Ytbbhpddgjiifmaa
