/- Steps of the proofs of this seat: part C22. -/
import Derived.Test.YtlblilbmpdejgaaC21
set_option linter.unusedSimpArgs false
set_option linter.unusedVariables false
namespace Go.Proofs.Ytlblilbmpdejgaa
open Go.Proofs Go.RowKit

/-- The law's contract. -/
theorem C_CellNeeds {w : World} {d : Dcl} {dd0 dd1 : Value} (h0 : RdS w (inHeap w) dd0 d.types) (h1 : RdS w (inHeap w) dd1 d.projs) (od : d.Ok) {ty : Int} (hty : InR ty) {vl : Value} {l : List Cel} (hl : RdS w (inHeap w) vl l) {fi a b : Int} (hfi : InR fi) (ha : InR a) (hb : InR b) : Ret Try.prog 5 [.agg (d.cells dd0 dd1).toArray, .int .i64 ty, vl, .int .i64 fi, .int .i64 a, .int .i64 b] w (fun r w' => r = .bool true ∧ Ext w w') :=
  Ret.mono (D_CellNeeds h0 h1 od hty hl hfi ha hb (Sep.start w)) (fun r w' h => ⟨h.1, h.2.fin⟩)
end Go.Proofs.Ytlblilbmpdejgaa
