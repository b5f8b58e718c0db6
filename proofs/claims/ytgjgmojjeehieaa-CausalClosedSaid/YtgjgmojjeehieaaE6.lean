/- Steps of the proofs of this seat: part E6. -/
import Derived.Test.YtgjgmojjeehieaaB6
set_option linter.unusedSimpArgs false
set_option linter.unusedVariables false
set_option maxRecDepth 8000
set_option maxHeartbeats 4000000
namespace Go.Proofs.Ytgjgmojjeehieaa
open Go.Proofs Go.RowKit

theorem C_CausalClosed {W : World} {z0 : Int} (hz0 : InR z0) {vz1 : Value} {z1 : List Ev} (hz1 : RdS W (inHeap W) vz1 z1) : Ret Try.prog 6 [.int .i64 z0, vz1] W (fun r w' => r = .bool true ∧ Ext W w') :=
  Ret.mono (D_CausalClosed hz0 hz1 (Sep.start W)) (fun v w' ⟨h1, h2⟩ => ⟨h1, h2.fin⟩)
end Go.Proofs.Ytgjgmojjeehieaa
