/- Steps of the proofs of this seat: part S4. -/
import Derived.Test.YtbbpmhfcgoljdaaS3
set_option linter.unusedSimpArgs false
set_option linter.unusedVariables false
namespace Go.Proofs.Ytbbpmhfcgoljdaa
open Go.Proofs Go.RowKit

/-- The law's contract. -/
theorem C_ProjRows {w : World} {p : Prj} (op : p.Ok) {vl : Value} {l : List Ent} (hl : RdS w (inHeap w) vl l) {vg : Value} {g : List Int} (hg : RdS w (inHeap w) vg g) {c : Int} (hc : InR c) : Ret Try.prog 7 [.agg (p.cells).toArray, vl, vg, .int .i64 (c)] w (fun r w' => r = .bool true ∧ Ext w w') :=
  Ret.mono (D_ProjRows op hl hg hc (Sep.start w)) (fun r w' h => ⟨h.1, h.2.fin⟩)
end Go.Proofs.Ytbbpmhfcgoljdaa
