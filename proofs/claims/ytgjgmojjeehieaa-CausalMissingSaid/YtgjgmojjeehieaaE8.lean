/- Steps of the proofs of this seat: part E8. -/
import Derived.Test.YtgjgmojjeehieaaB8
set_option linter.unusedSimpArgs false
set_option linter.unusedVariables false
set_option maxRecDepth 8000
set_option maxHeartbeats 4000000
namespace Go.Proofs.Ytgjgmojjeehieaa
open Go.Proofs Go.RowKit

theorem C_CausalMissing {W : World} {z0 : Int} (hz0 : InR z0) {vz1 : Value} {z1 : List Ev} (hz1 : RdS W (inHeap W) vz1 z1) {z2 : Int} (hz2 : InR z2) {z3 : Int} (hz3 : InR z3) : Ret Try.prog 4 [.int .i64 z0, vz1, .int .i64 z2, .int .i64 z3] W (fun r w' => r = .bool true ∧ Ext W w') :=
  Ret.mono (D_CausalMissing hz0 hz1 hz2 hz3 (Sep.start W)) (fun v w' ⟨h1, h2⟩ => ⟨h1, h2.fin⟩)
end Go.Proofs.Ytgjgmojjeehieaa
