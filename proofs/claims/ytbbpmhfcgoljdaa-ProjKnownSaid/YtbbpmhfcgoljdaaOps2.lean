/- More operations: quotients, pointers held against nil. -/
import Derived.Test.YtbbpmhfcgoljdaaMaps
set_option linter.unusedSimpArgs false
set_option linter.unusedVariables false
namespace Go.Proofs.Ytbbpmhfcgoljdaa
open Go.RowKit
section
variable {P : Program} {d : Option Tmp} {ty : TypeId} {pos : String} {af : Array Edge} {g : Option (Nat × Bool)} {σ : Env} {w : World} {K : Value → World → Prop}
theorem ov_quo {x y : Operand} {a b r : Int} {t t2 : TypeId} (hx : ev σ x = .int .i64 a) (hy : ev σ y = .int .i64 b) (h0 : 0 < b) (hr : IntKind.i64.wrap (a.tdiv b) = r) (h : K (.int .i64 r) w) : opV P ⟨d, .binOp .quo t x y t2, ty, pos, af, g⟩ σ w K := by
  subst hr
  refine ov_run (v := .int .i64 (IntKind.i64.wrap (a.tdiv b))) (w' := w) ?_ h
  have hne : b ≠ 0 := by omega
  simp [execOp, hx, hy, eqGuard_quo, binOp_quo, Op.intDiv, hne, go_sem]
theorem ov_neqPtr {x : Operand} {t t2 : TypeId} {b o : Nat} (hU : P.underlying t = some (.pointer (P.pointee t))) (hx : ev σ x = .pointer (some ⟨b, o, none⟩)) (h : K (.bool true) w) :
    opV P ⟨d, .binOp .neq t x (.const (.pointer none)) t2, ty, pos, af, g⟩ σ w K := by
  have hc : ev σ (.const (.pointer none)) = .pointer none := rfl
  refine ov_run (v := .bool true) (w' := w) ?_ h
  have hr := run_neq_pointer_nil (P := P) (w := w) t (some ⟨b, o, none⟩) hU
  simp [execOp, hx, hc, eqGuard, hr, go_sem]
end
end Go.Proofs.Ytbbpmhfcgoljdaa
