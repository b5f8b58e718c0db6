/- The shelf's Insert and Delete, laid at this program. -/
import Derived.Shelf.Spec.SlicesInsertGrow
import Derived.Shelf.Slices.Delete
import Derived.Test.YtlblilbmpdejgaaDoorProg
namespace Go.Proofs.YtlblilbmpdejgaaDoor
open Go.Proofs Go.Shelf

def insRen : Go.Shelf.Ren := ⟨fun | 21 => 95 | 27 => 103 | 28 => 104 | 35 => 107 | 39 => 109 | 23 => 96 | n => n, fun | 0 => 0 | 3 => 3 | 4 => 4 | 22 => 40 | n => n, fun | n => n⟩
theorem insLay : Go.Proofs.Lays2.n21 Tryd.prog insRen := {
  mixed := by kernel_rfl,
  f21 := Tryd.func95.trans (congrArg some (by kernel_rfl)),
  f27 := Tryd.func103.trans (congrArg some (by kernel_rfl)),
  f28 := Tryd.func104.trans (congrArg some (by kernel_rfl)),
  f35 := Tryd.func107.trans (congrArg some (by kernel_rfl)),
  f39 := Tryd.func109.trans (congrArg some (by kernel_rfl)),
  t0 := Tryd.underlying0,
  a0 := Tryd.isAgg0,
  z0 := Tryd.sizeOf0,
  v0 := Tryd.zeroValue0,
  t3 := Tryd.underlying3,
  a3 := Tryd.isAgg3,
  z3 := Tryd.sizeOf3,
  v3 := Tryd.zeroValue3,
  t4 := Tryd.underlying4,
  a4 := Tryd.isAgg4,
  z4 := Tryd.sizeOf4,
  v4 := Tryd.zeroValue4,
  t22 := Tryd.underlying40,
  a22 := Tryd.isAgg40,
  z22 := Tryd.sizeOf40,
  v22 := Tryd.zeroValue40,
  i3 := by kernel_rfl
}
theorem delLay : Go.Proofs.Lays2.n23 Tryd.prog insRen := {
  mixed := by kernel_rfl,
  f23 := Tryd.func96.trans (congrArg some (by kernel_rfl)),
  t0 := Tryd.underlying0,
  a0 := Tryd.isAgg0,
  z0 := Tryd.sizeOf0,
  v0 := Tryd.zeroValue0,
  t3 := Tryd.underlying3,
  a3 := Tryd.isAgg3,
  z3 := Tryd.sizeOf3,
  v3 := Tryd.zeroValue3,
  t4 := Tryd.underlying4,
  a4 := Tryd.isAgg4,
  z4 := Tryd.sizeOf4,
  v4 := Tryd.zeroValue4,
  t22 := Tryd.underlying40,
  a22 := Tryd.isAgg40,
  z22 := Tryd.sizeOf40,
  v22 := Tryd.zeroValue40,
  i3 := by kernel_rfl
}
end Go.Proofs.YtlblilbmpdejgaaDoor
