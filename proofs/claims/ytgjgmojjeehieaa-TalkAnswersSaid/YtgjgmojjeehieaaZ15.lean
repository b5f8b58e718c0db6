/- Texts of this claim, part 15. -/
import Derived.Test.YtgjgmojjeehieaaZ14
set_option linter.unusedSimpArgs false
set_option linter.unusedVariables false
set_option linter.unusedSectionVars false
/- Steps of the proofs of this seat: part E15. -/
set_option maxRecDepth 8000
set_option maxHeartbeats 4000000
namespace Go.Proofs.Ytgjgmojjeehieaa
open Go.Proofs Go.RowKit

theorem Yz {W : World} {z0 : Int} (hz0 : InR z0) {vz1 : Value} {z1 : List Ev} (hz1 : RdS W (xj W) vz1 z1) {z2 : Int} (hz2 : InR z2) {z3 : Msg} {z3d0 z3d1 : Value} (z3h0 : RdS W (xj W) z3d0 z3.vec) (z3h1 : RdS W (xj W) z3d1 z3.evs) (hz3 : z3.Ok) {z4 : Int} (hz4 : InR z4) : Ret Try.prog 11 [.int .i64 z0, vz1, .int .i64 z2, .agg (z3.cells z3d0 z3d1).toArray, .int .i64 z4] W (fun r w' => r = .bool true ∧ Ext W w') :=
  Ret.mono (Yv hz0 hz1 hz2 z3h0 z3h1 hz3 hz4 (Sep.start W)) (fun v w' ⟨h1, h2⟩ => ⟨h1, h2.fin⟩)
end Go.Proofs.Ytgjgmojjeehieaa
