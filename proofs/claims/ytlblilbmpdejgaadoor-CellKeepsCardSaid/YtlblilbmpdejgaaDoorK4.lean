/- Steps of the proofs of this seat: part K4. -/
import Derived.Test.YtlblilbmpdejgaaDoorK3
set_option linter.unusedSimpArgs false
set_option linter.unusedVariables false
set_option maxRecDepth 8000
set_option maxHeartbeats 4000000
namespace Go.Proofs.YtlblilbmpdejgaaDoor
open Go.Proofs Go.RowKit

/-- The law's contract. -/
theorem C_CellKeeps {w : World} {d : Dcl} {dd0 dd1 : Value} (h0 : RdS w (inHeap w) dd0 d.types) (h1 : RdS w (inHeap w) dd1 d.projs) (od : d.Ok) {ty : Int} (hty : InR ty) {vl : Value} {l : List Cel} (hl : RdS w (inHeap w) vl l) {vq : Value} {qs : List Ask} (hq : RdS w (inHeap w) vq qs) (hK : RdS w (inHeap w) (.slice (some ⟨0, 0, none⟩) 6 6) kindsL) : Ret Tryd.prog 3 [.agg (d.cells dd0 dd1).toArray, .int .i64 ty, vl, vq] w (fun r w' => r = .bool true ∧ Ext w w') :=
  Ret.mono (D_CellKeeps h0 h1 od hty hl hq hK (Sep.start w)) (fun r w' h => ⟨h.1, h.2.fin⟩)
end Go.Proofs.YtlblilbmpdejgaaDoor
