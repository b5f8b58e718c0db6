/- The shelf's Insert and Delete, laid at this program. -/
import Derived.Shelf.Spec.SlicesInsertGrow
import Derived.Shelf.Slices.Delete
import Derived.Test.YtlblilbmpdejgaaProg
namespace Go.Proofs.Ytlblilbmpdejgaa
open Go.Proofs Go.Shelf

def insRen : Go.Shelf.Ren := ⟨fun | 21 => 45 | 27 => 49 | 28 => 50 | 35 => 52 | 39 => 53 | 23 => 46 | n => n, fun | 0 => 0 | 3 => 3 | 4 => 4 | 22 => 44 | n => n, fun | n => n⟩
theorem insLay : Go.Proofs.Lays2.n21 Try.prog insRen := {
  mixed := by kernel_rfl,
  f21 := Try.func45.trans (congrArg some (by kernel_rfl)),
  f27 := Try.func49.trans (congrArg some (by kernel_rfl)),
  f28 := Try.func50.trans (congrArg some (by kernel_rfl)),
  f35 := Try.func52.trans (congrArg some (by kernel_rfl)),
  f39 := Try.func53.trans (congrArg some (by kernel_rfl)),
  t0 := Try.underlying0,
  a0 := Try.isAgg0,
  z0 := Try.sizeOf0,
  v0 := Try.zeroValue0,
  t3 := Try.underlying3,
  a3 := Try.isAgg3,
  z3 := Try.sizeOf3,
  v3 := Try.zeroValue3,
  t4 := Try.underlying4,
  a4 := Try.isAgg4,
  z4 := Try.sizeOf4,
  v4 := Try.zeroValue4,
  t22 := Try.underlying44,
  a22 := Try.isAgg44,
  z22 := Try.sizeOf44,
  v22 := Try.zeroValue44,
  i3 := by kernel_rfl
}
theorem delLay : Go.Proofs.Lays2.n23 Try.prog insRen := {
  mixed := by kernel_rfl,
  f23 := Try.func46.trans (congrArg some (by kernel_rfl)),
  t0 := Try.underlying0,
  a0 := Try.isAgg0,
  z0 := Try.sizeOf0,
  v0 := Try.zeroValue0,
  t3 := Try.underlying3,
  a3 := Try.isAgg3,
  z3 := Try.sizeOf3,
  v3 := Try.zeroValue3,
  t4 := Try.underlying4,
  a4 := Try.isAgg4,
  z4 := Try.sizeOf4,
  v4 := Try.zeroValue4,
  t22 := Try.underlying44,
  a22 := Try.isAgg44,
  z22 := Try.sizeOf44,
  v22 := Try.zeroValue44,
  i3 := by kernel_rfl
}
end Go.Proofs.Ytlblilbmpdejgaa
