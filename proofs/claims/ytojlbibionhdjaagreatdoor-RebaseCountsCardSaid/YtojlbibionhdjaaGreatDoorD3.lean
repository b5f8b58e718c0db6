import Derived.Test.YtojlbibionhdjaaGreatDoorProg
import Derived.Test.YtojlbibionhdjaaGreatDoorD1
import Derived.Test.YtojlbibionhdjaaGreatDoorD2
import Derived.Shelf.Spec.SlicesInsertGrow
import Derived.Shelf.Slices.Delete
set_option linter.unusedSimpArgs false
set_option linter.unusedVariables false
set_option linter.unusedSectionVars false
set_option linter.deprecated false
set_option maxRecDepth 8000
open Go.Proofs.Tryz renaming sizeOf3 → kT, isAgg3 → lT, underlying3 → mT, underlying62 → nT, underlying64 → oT, underlying182 → pT, sizeOf4 → qT, underlying46 → rT, underlying81 → sT, underlying55 → tT, underlying185 → uT, underlying88 → vT, sizeOf62 → wT, underlying91 → kR, underlying119 → lR, underlying38 → mR, isAgg185 → nR, sizeOf185 → oR, call132 → pR, isAgg4 → qR, isAgg62 → rR, sizeOf88 → sR, underlying44 → tR, underlying4 → uR, zeroValue3 → vR, sizeOf107 → wR, results144 → kY, sizeOf91 → lY, zeroValue180 → mY, results100 → nY, sizeOf55 → oY, underlying107 → pY, underlying180 → qY, underlying25 → rY, underlying61 → sY, underlying57 → tY, sizeOf25 → uY, underlying66 → vY, underlying122 → wY, underlying78 → kA, results87 → lA, results92 → mA, underlying110 → nA, isAgg55 → pA, results130 → qA, results135 → rA, call133 → sA, sizeOf180 → tA, underlying0 → uA, isAgg0 → vA, sizeOf0 → wA, zeroValue0 → kB, zeroValue4 → lB, zeroValue62 → mB
namespace Go.Proofs.YtojlbibionhdjaaGreatDoor
open Go.Proofs Go.RowKit
section
variable {d : Option Tmp} {ty : TypeId} {pos : String} {af : Array Edge} {g : Option (Nat × Bool)} {σ : Env} {w : World} {K : Value → World → Prop} {x : Operand} {b o : Nat}
theorem WT (hx : ev σ x = Ix b o) (h : K (Ix b (o + 4)) w) : opV Tryz.prog ⟨d, .fieldAddr 185 x 1, ty, pos, af, g⟩ σ w K := zj uT rfl rfl (fun w => ⟨0, oY w⟩) hx h
theorem UF (hx : ev σ x = Ix b o) (h : K (Ix b (o + 5)) w) : opV Tryz.prog ⟨d, .fieldAddr 185 x 2, ty, pos, af, g⟩ σ w K := zj uT rfl rfl (fun w => ⟨0, kT w⟩) hx h
theorem xP (hx : ev σ x = Ix b o) (h : K (Ix b (o + 0)) w) : opV Tryz.prog ⟨d, .fieldAddr 107 x 0, ty, pos, af, g⟩ σ w K := zj pY rfl rfl (fun w => ⟨0, kT w⟩) hx h
theorem xf (hx : ev σ x = Ix b o) (h : K (Ix b (o + 6)) w) : opV Tryz.prog ⟨d, .fieldAddr 185 x 3, ty, pos, af, g⟩ σ w K := zj uT rfl rfl (fun w => ⟨0, kT w⟩) hx h
theorem YT (hx : ev σ x = Ix b o) (h : K (Ix b (o + 0)) w) : opV Tryz.prog ⟨d, .fieldAddr 185 x 0, ty, pos, af, g⟩ σ w K := zj uT rfl rfl (fun w => ⟨3, sR w⟩) hx h
theorem Um (hx : ev σ x = Ix b o) (h : K (Ix b (o + 2)) w) : opV Tryz.prog ⟨d, .fieldAddr 88 x 2, ty, pos, af, g⟩ σ w K := zj vT rfl rfl (fun w => ⟨0, qT w⟩) hx h
theorem xg (hx : ev σ x = Ix b o) (h : K (Ix b (o + 1)) w) : opV Tryz.prog ⟨d, .fieldAddr 107 x 1, ty, pos, af, g⟩ σ w K := zj pY rfl rfl (fun w => ⟨0, wT w⟩) hx h
theorem yM (hx : ev σ x = Ix b o) (h : K (Ix b (o + 3)) w) : opV Tryz.prog ⟨d, .fieldAddr 88 x 3, ty, pos, af, g⟩ σ w K := zj vT rfl rfl (fun w => ⟨0, Tryz.sizeOf86 w⟩) hx h
theorem KI (hx : ev σ x = Ix b o) (h : K (Ix b (o + 0)) w) : opV Tryz.prog ⟨d, .fieldAddr 91 x 0, ty, pos, af, g⟩ σ w K := zj kR rfl rfl (fun w => ⟨0, kT w⟩) hx h
theorem Xb (hx : ev σ x = Ix b o) (h : K (Ix b (o + 2)) w) : opV Tryz.prog ⟨d, .fieldAddr 91 x 2, ty, pos, af, g⟩ σ w K := zj kR rfl rfl (fun w => ⟨0, kT w⟩) hx h
theorem Kd (hx : ev σ x = Ix b o) (h : K (Ix b (o + 3)) w) : opV Tryz.prog ⟨d, .fieldAddr 91 x 3, ty, pos, af, g⟩ σ w K := zj kR rfl rfl (fun w => ⟨0, kT w⟩) hx h
theorem Jz (hx : ev σ x = Ix b o) (h : K (Ix b (o + 0)) w) : opV Tryz.prog ⟨d, .fieldAddr 180 x 0, ty, pos, af, g⟩ σ w K := zj qY rfl rfl (fun w => ⟨0, Tryz.sizeOf177 w⟩) hx h
theorem yR (hx : ev σ x = Ix b o) (h : K (Ix b (o + 0)) w) : opV Tryz.prog ⟨d, .fieldAddr 84 x 0, ty, pos, af, g⟩ σ w K := zj Tryz.underlying84 rfl rfl (fun w => ⟨0, Tryz.sizeOf82 w⟩) hx h
theorem QW (hx : ev σ x = Ix b o) (h : K (Ix b (o + 1)) w) : opV Tryz.prog ⟨d, .fieldAddr 91 x 1, ty, pos, af, g⟩ σ w K := zj kR rfl rfl (fun w => ⟨0, kT w⟩) hx h
theorem JE (hx : ev σ x = Ix b o) (h : K (Ix b (o + 1)) w) : opV Tryz.prog ⟨d, .fieldAddr 180 x 1, ty, pos, af, g⟩ σ w K := zj qY rfl rfl (fun w => ⟨0, Tryz.sizeOf178 w⟩) hx h
theorem yx (hx : ev σ x = Ix b o) (h : K (Ix b (o + 0)) w) : opV Tryz.prog ⟨d, .fieldAddr 25 x 0, ty, pos, af, g⟩ σ w K := zj rY rfl rfl (fun w => ⟨0, Tryz.sizeOf22 w⟩) hx h
theorem xv (hx : ev σ x = Ix b o) (h : K (Ix b (o + 1)) w) : opV Tryz.prog ⟨d, .fieldAddr 25 x 1, ty, pos, af, g⟩ σ w K := zj rY rfl rfl (fun w => ⟨0, Tryz.sizeOf23 w⟩) hx h
theorem xU (hx : ev σ x = Ix b o) (h : K (Ix b (o + 0)) w) : opV Tryz.prog ⟨d, .fieldAddr 88 x 0, ty, pos, af, g⟩ σ w K := zj vT rfl rfl (fun w => ⟨0, kT w⟩) hx h
theorem Xs (hx : ev σ x = Ix b o) (h : K (Ix b (o + 1)) w) : opV Tryz.prog ⟨d, .fieldAddr 88 x 1, ty, pos, af, g⟩ σ w K := zj vT rfl rfl (fun w => ⟨0, kT w⟩) hx h
theorem Uw (hx : ev σ x = Ix b o) (h : K (Ix b (o + 0)) w) : opV Tryz.prog ⟨d, .fieldAddr 46 x 0, ty, pos, af, g⟩ σ w K := zj rT rfl rfl (fun w => ⟨0, kT w⟩) hx h
theorem Kn (hx : ev σ x = Ix b o) (h : K (Ix b (o + 1)) w) : opV Tryz.prog ⟨d, .fieldAddr 46 x 1, ty, pos, af, g⟩ σ w K := zj rT rfl rfl (fun w => ⟨0, kT w⟩) hx h
theorem Xl (hx : ev σ x = Ix b o) (h : K (Ix b (o + 2)) w) : opV Tryz.prog ⟨d, .fieldAddr 46 x 2, ty, pos, af, g⟩ σ w K := zj rT rfl rfl (fun w => ⟨0, kT w⟩) hx h
theorem Wt (hx : ev σ x = Ix b o) (h : K (Ix b (o + 3)) w) : opV Tryz.prog ⟨d, .fieldAddr 46 x 3, ty, pos, af, g⟩ σ w K := zj rT rfl rfl (fun w => ⟨0, kT w⟩) hx h
theorem Us (hx : ev σ x = Ix b o) (h : K (Ix b (o + 4)) w) : opV Tryz.prog ⟨d, .fieldAddr 46 x 4, ty, pos, af, g⟩ σ w K := zj rT rfl rfl (fun w => ⟨0, kT w⟩) hx h
theorem Ze (hx : ev σ x = Ix b o) (h : K (Ix b (o + 3)) w) : opV Tryz.prog ⟨d, .fieldAddr 64 x 2, ty, pos, af, g⟩ σ w K := zj oT rfl rfl (fun w => ⟨0, wT w⟩) hx h
theorem xu (hx : ev σ x = Ix b o) (h : K (Ix b (o + 0)) w) : opV Tryz.prog ⟨d, .fieldAddr 64 x 0, ty, pos, af, g⟩ σ w K := zj oT rfl rfl (fun w => ⟨1, Tryz.sizeOf61 w⟩) hx h
theorem WD (hx : ev σ x = Ix b o) (h : K (Ix b (o + 0)) w) : opV Tryz.prog ⟨d, .fieldAddr 61 x 0, ty, pos, af, g⟩ σ w K := zj sY rfl rfl (fun w => ⟨0, kT w⟩) hx h
theorem Ur (hx : ev σ x = Ix b o) (h : K (Ix b (o + 1)) w) : opV Tryz.prog ⟨d, .fieldAddr 61 x 1, ty, pos, af, g⟩ σ w K := zj sY rfl rfl (fun w => ⟨0, kT w⟩) hx h
theorem YW (hx : ev σ x = Ix b o) (h : K (Ix b (o + 0)) w) : opV Tryz.prog ⟨d, .fieldAddr 194 x 0, ty, pos, af, g⟩ σ w K := zj Tryz.underlying194 rfl rfl (fun w => ⟨0, kT w⟩) hx h
theorem Ya (hx : ev σ x = Ix b o) (h : K (Ix b (o + 8)) w) : opV Tryz.prog ⟨d, .fieldAddr 64 x 7, ty, pos, af, g⟩ σ w K := zj oT rfl rfl (fun w => ⟨0, kT w⟩) hx h
theorem Ye (hx : ev σ x = Ix b o) (h : K (Ix b (o + 7)) w) : opV Tryz.prog ⟨d, .fieldAddr 64 x 6, ty, pos, af, g⟩ σ w K := zj oT rfl rfl (fun w => ⟨0, kT w⟩) hx h
theorem xR (hx : ev σ x = Ix b o) (h : K (Ix b (o + 1)) w) : opV Tryz.prog ⟨d, .fieldAddr 57 x 1, ty, pos, af, g⟩ σ w K := zj tY rfl rfl (fun w => ⟨0, oY w⟩) hx h
theorem UN (hx : ev σ x = Ix b o) (h : K (Ix b (o + 0)) w) : opV Tryz.prog ⟨d, .fieldAddr 119 x 0, ty, pos, af, g⟩ σ w K := zj lR rfl rfl (fun w => ⟨1, uY w⟩) hx h
theorem ZY (hx : ev σ x = Ix b o) (h : K (Ix b (o + 4)) w) : opV Tryz.prog ⟨d, .fieldAddr 64 x 3, ty, pos, af, g⟩ σ w K := zj oT rfl rfl (fun w => ⟨0, kT w⟩) hx h
theorem Zr (hx : ev σ x = Ix b o) (h : K (Ix b (o + 6)) w) : opV Tryz.prog ⟨d, .fieldAddr 64 x 5, ty, pos, af, g⟩ σ w K := zj oT rfl rfl (fun w => ⟨0, kT w⟩) hx h
theorem WO (hx : ev σ x = Ix b o) (h : K (Ix b (o + 5)) w) : opV Tryz.prog ⟨d, .fieldAddr 64 x 4, ty, pos, af, g⟩ σ w K := zj oT rfl rfl (fun w => ⟨0, kT w⟩) hx h
theorem UU (hx : ev σ x = Ix b o) (h : K (Ix b (o + 4)) w) : opV Tryz.prog ⟨d, .fieldAddr 119 x 3, ty, pos, af, g⟩ σ w K := zj lR rfl rfl (fun w => ⟨0, Tryz.sizeOf117 w⟩) hx h
theorem WC (hx : ev σ x = Ix b o) (h : K (Ix b (o + 3)) w) : opV Tryz.prog ⟨d, .fieldAddr 119 x 2, ty, pos, af, g⟩ σ w K := zj lR rfl rfl (fun w => ⟨0, Tryz.sizeOf116 w⟩) hx h
theorem UL (hx : ev σ x = Ix b o) (h : K (Ix b (o + 0)) w) : opV Tryz.prog ⟨d, .fieldAddr 159 x 0, ty, pos, af, g⟩ σ w K := zj Tryz.underlying159 rfl rfl (fun w => ⟨1, Tryz.sizeOf138 w⟩) hx h
theorem zaC (hx : ev σ x = Ix b o) (h : K (Ix b (o + 0)) w) : opV Tryz.prog ⟨d, .fieldAddr 57 x 0, ty, pos, af, g⟩ σ w K := zj tY rfl rfl (fun w => ⟨0, kT w⟩) hx h
theorem WU (hx : ev σ x = Ix b o) (h : K (Ix b (o + 2)) w) : opV Tryz.prog ⟨d, .fieldAddr 119 x 1, ty, pos, af, g⟩ σ w K := zj lR rfl rfl (fun w => ⟨0, Tryz.sizeOf39 w⟩) hx h
theorem VN (hx : ev σ x = Ix b o) (h : K (Ix b (o + 0)) w) : opV Tryz.prog ⟨d, .fieldAddr 66 x 0, ty, pos, af, g⟩ σ w K := zj vY rfl rfl (fun w => ⟨9, Tryz.sizeOf64 w⟩) hx h
theorem zaH (hx : ev σ x = Ix b o) (h : K (Ix b (o + 2)) w) : opV Tryz.prog ⟨d, .fieldAddr 64 x 1, ty, pos, af, g⟩ σ w K := zj oT rfl rfl (fun w => ⟨0, kT w⟩) hx h
theorem zar (hx : ev σ x = Ix b o) (h : K (Ix b (o + 9)) w) : opV Tryz.prog ⟨d, .fieldAddr 64 x 8, ty, pos, af, g⟩ σ w K := zj oT rfl rfl (fun w => ⟨0, kT w⟩) hx h
theorem zaL (hx : ev σ x = Ix b o) (h : K (Ix b (o + 10)) w) : opV Tryz.prog ⟨d, .fieldAddr 66 x 1, ty, pos, af, g⟩ σ w K := zj vY rfl rfl (fun w => ⟨0, qT w⟩) hx h
theorem JD (hx : ev σ x = Ix b o) (h : K (Ix b (o + 0)) w) : opV Tryz.prog ⟨d, .fieldAddr 122 x 0, ty, pos, af, g⟩ σ w K := zj wY rfl rfl (fun w => ⟨4, Tryz.sizeOf46 w⟩) hx h
theorem JW (hx : ev σ x = Ix b o) (h : K (Ix b (o + 5)) w) : opV Tryz.prog ⟨d, .fieldAddr 122 x 1, ty, pos, af, g⟩ σ w K := zj wY rfl rfl (fun w => ⟨0, Tryz.sizeOf120 w⟩) hx h
theorem Yz (hx : ev σ x = Ix b o) (h : K (Ix b (o + 0)) w) : opV Tryz.prog ⟨d, .fieldAddr 81 x 0, ty, pos, af, g⟩ σ w K := zj sT rfl rfl (fun w => ⟨1, uY w⟩) hx h
theorem xW (hx : ev σ x = Ix b o) (h : K (Ix b (o + 3)) w) : opV Tryz.prog ⟨d, .fieldAddr 81 x 2, ty, pos, af, g⟩ σ w K := zj sT rfl rfl (fun w => ⟨0, Tryz.sizeOf26 w⟩) hx h
theorem ZA (hx : ev σ x = Ix b o) (h : K (Ix b (o + 1)) w) : opV Tryz.prog ⟨d, .fieldAddr 78 x 1, ty, pos, af, g⟩ σ w K := zj kA rfl rfl (fun w => ⟨0, Tryz.sizeOf76 w⟩) hx h
theorem Yh (hx : ev σ x = Ix b o) (h : K (Ix b (o + 6)) w) : opV Tryz.prog ⟨d, .fieldAddr 81 x 4, ty, pos, af, g⟩ σ w K := zj sT rfl rfl (fun w => ⟨0, Tryz.sizeOf79 w⟩) hx h
theorem Ud (hx : ev σ x = Ix b o) (h : K (Ix b (o + 2)) w) : opV Tryz.prog ⟨d, .fieldAddr 81 x 1, ty, pos, af, g⟩ σ w K := zj sT rfl rfl (fun w => ⟨0, kT w⟩) hx h
theorem xM (hx : ev σ x = Ix b o) (h : K (Ix b (o + 4)) w) : opV Tryz.prog ⟨d, .fieldAddr 81 x 3, ty, pos, af, g⟩ σ w K := zj sT rfl rfl (fun w => ⟨1, Tryz.sizeOf78 w⟩) hx h
theorem WI (hx : ev σ x = Ix b o) (h : K (Ix b (o + 0)) w) : opV Tryz.prog ⟨d, .fieldAddr 78 x 0, ty, pos, af, g⟩ σ w K := zj kA rfl rfl (fun w => ⟨0, Tryz.sizeOf75 w⟩) hx h
theorem zaq (hx : ev σ x = Ix b o) (h : K (Ix b (o + 0)) w) : opV Tryz.prog ⟨d, .fieldAddr 38 x 0, ty, pos, af, g⟩ σ w K := zj mR rfl rfl (fun w => ⟨0, kT w⟩) hx h
theorem zaE (hx : ev σ x = Ix b o) (h : K (Ix b (o + 1)) w) : opV Tryz.prog ⟨d, .fieldAddr 38 x 1, ty, pos, af, g⟩ σ w K := zj mR rfl rfl (fun w => ⟨0, kT w⟩) hx h
theorem zbe (hx : ev σ x = Ix b o) (h : K (Ix b (o + 2)) w) : opV Tryz.prog ⟨d, .fieldAddr 38 x 2, ty, pos, af, g⟩ σ w K := zj mR rfl rfl (fun w => ⟨0, kT w⟩) hx h
theorem zba (hx : ev σ x = Ix b o) (h : K (Ix b (o + 3)) w) : opV Tryz.prog ⟨d, .fieldAddr 38 x 3, ty, pos, af, g⟩ σ w K := zj mR rfl rfl (fun w => ⟨0, qT w⟩) hx h
theorem WK (hx : ev σ x = Ix b o) (h : K (Ix b (o + 2)) w) : opV Tryz.prog ⟨d, .fieldAddr 44 x 2, ty, pos, af, g⟩ σ w K := zj tR rfl rfl (fun w => ⟨0, kT w⟩) hx h
theorem Ub (hx : ev σ x = Ix b o) (h : K (Ix b (o + 0)) w) : opV Tryz.prog ⟨d, .fieldAddr 44 x 0, ty, pos, af, g⟩ σ w K := zj tR rfl rfl (fun w => ⟨0, kT w⟩) hx h
theorem zaw (hx : ev σ x = Ix b o) (h : K (Ix b (o + 1)) w) : opV Tryz.prog ⟨d, .fieldAddr 44 x 1, ty, pos, af, g⟩ σ w K := zj tR rfl rfl (fun w => ⟨0, kT w⟩) hx h
end
theorem yqb {p : Prop} (h : p := by first | omega | (simp only [List.length_append, List.length_cons, List.length_nil, List.length_take, List.length_drop]; omega)) : p := h
theorem yqa {p : Prop} (h : p := by first | decide | (simp only [List.length_cons, List.length_nil]; decide)) : p := h

theorem zak {G : Nat → Prop} {W w : World} {Rs : List HP} {x : Int} (hx : InR x) (hS0 : Sep G W Rs w) : Ret Tryz.prog 152 [.int .i64 (x)] w (fun r w' => r = (.bool false : Value) ∧ Sep G W Rs w') := by
 refine zk (args := [Iv x]) Tryz.func152 rfl rfl ?_
 refine za (R0 fun _ => st (aS (.bool false) (zb (za (R0 fun _ => st (mV (Iv x) (st (mV (Iv x) (st (yw (k := .i64) (a := x) (b := x) rfl rfl (st (aS (.bool (!decide (x = x))) (zb (zm (zT Tryz.results152 (show _ = (.bool (!decide (x = x)) : Value) from rfl) ?_)))))))))))))))
 refine ⟨?_, hS0⟩
 simp

theorem zbf {G : Nat → Prop} {W w : World} {Rs : List HP} {x : Int} (hx : InR x) (hS0 : Sep G W Rs w) : Ret Tryz.prog 149 [.int .i64 (x)] w (fun r w' => r = (.bool false : Value) ∧ Sep G W Rs w') := by
 refine zk (args := [Iv x]) Tryz.func149 rfl rfl ?_
 refine za (R0 fun _ => st (aS (.bool false) (zb (za (R0 fun _ => st (mV (Iv x) (st (mV (Iv x) (st (yw (k := .i64) (a := x) (b := x) rfl rfl (st (aS (.bool (!decide (x = x))) (zb (zm (zT Tryz.results149 (show _ = (.bool (!decide (x = x)) : Value) from rfl) ?_)))))))))))))))
 refine ⟨?_, hS0⟩
 simp

theorem zah {G : Nat → Prop} {W w : World} {Rs : List HP} {x : Int} (hx : InR x) {y : Int} (hy : InR y) (hS0 : Sep G W Rs w) : Ret Tryz.prog 148 [.int .i64 (x), .int .i64 (y)] w (fun r w' => r = (.bool (decide (x < y)) : Value) ∧ Sep G W Rs w') := by
 refine zk (args := [Iv x, Iv y]) Tryz.func148 rfl rfl ?_
 refine za (R0 fun _ => st (aS (.bool false) (zb (za (zH kr (st (mV (Iv x) (st (cL Tryz.call152 (zak (x := x) hx hS0) ?_)))))))))
 rintro _ w1 ⟨rfl, c⟩
 refine st (mV (.bool false) (stx rfl rfl (stx rfl rfl (stx rfl rfl (st (yd (v := .bool false) rfl rfl (st (mV (.bool false) (sty rfl rfl (mV (Iv x) (sty rfl rfl (mV (Iv y) (sty rfl rfl (zJ (k := .i64) (a := x) (b := y) rfl rfl (st (yd (v := .bool (decide (x < y))) rfl rfl (st (aS (.bool (decide (x < y))) (zb (zm (zT Tryz.results148 (show _ = (.bool (decide (x < y)) : Value) from rfl) ?_)))))))))))))))))))))
 refine ⟨?_, c⟩
 simp

theorem D_sum {G : Nat → Prop} {W w : World} {Rs : List HP} {x : Int} (hx : InR x) {y : Int} (hy : InR y) (hS0 : Sep G W Rs w) : Ret Tryz.prog 143 [.int .i64 (x), .int .i64 (y)] w (fun r w' => r = (.bool ((decide (x < Xh (x + y)) == decide (0 < y))) : Value) ∧ Sep G W Rs w') := by
 refine zk (args := [Iv x, Iv y]) Tryz.func143 rfl rfl ?_
 refine za (R0 fun _ => st (aS (.bool false) (zb (za (R0 fun _ => st (mV (Iv x) (st (mV (Iv y) (st (zO (r := IntKind.i64.wrap (x + y)) (k := .i64) (a := x) (b := y) rfl rfl rfl (st (mV (Iv x) (st (yS (k := .i64) (a := IntKind.i64.wrap (x + y)) (b := x) rfl rfl (st (mV (Iv y) (st (yS (k := .i64) (a := y) (b := 0) rfl rfl (st (Jh (a := decide (x < (IntKind.i64.wrap (x + y)))) (b := decide (0 < y)) uR rfl rfl (st (aS (.bool ((decide (x < (IntKind.i64.wrap (x + y)))) == (decide (0 < y)))) (zb (zm (zT Tryz.results143 (show _ = (.bool ((decide (x < (IntKind.i64.wrap (x + y)))) == (decide (0 < y))) : Value) from rfl) ?_)))))))))))))))))))))))))
 refine ⟨?_, hS0⟩
 rfl

theorem el62 : Elem Tryz.prog 62 3 1 8 := ⟨nT, _, _, rfl, rfl, rfl, rfl, rfl⟩
theorem Zh {G : Nat → Prop} {W w : World} {Rs : List HP} {vl : Value} {l : List Int} (hl : RdS W G vl l) (hS0 : Sep G W Rs w) : Ret Tryz.prog 87 [vl] w (fun r w' => ∃ (v : Value), r = (v : Value) ∧ Sep G W ((RowE (α := Int) own 3 v l) :: Rs) w') := by
 have hls : _ * 8 ≤ _ := hl.small
 refine zk (args := [vl]) Tryz.func87 rfl rfl ?_
 refine za (R0 fun _ => st (aS (Iz) (zb (za (za (R0 fun _ => st (mV vl (st (xK (v := vl) nT rfl hl.sl (zb ?_))))))))))
 cases i : xE vl
 refine zf rfl (zn (za (R0 fun _ => st (zD (k := 1) (parts' := []) (c := #[]) nT kT vR dc rfl kr ?_))))
 intro o p j
 refine st (mV vl ?_)
 have d : Sep G W ((RowE (α := Int) own 3 (Iy p 0 0) ([] : List Int)) :: Rs) o := Sep.blkRow (src := own) (l := ([] : List Int)) (css := []) (hS0.new j) rfl trivial yqa
 have e := d.r0
 have hr10s : _ * 8 ≤ _ := e.2
 refine st (xw (src := own) (bytes := 8) d el62 rfl rfl hl yqb rfl (hq' := fun _ _ h _ _ => XA h) ?_)
 intro b q a
 have a : Sep G W ((RowE (α := Int) own 3 b l) :: Rs) q := a
 have f := a.r0
 have hr11s : _ * 8 ≤ _ := f.2
 refine st (aS b (zb (zm (zT lA (show _ = (b : Value) from rfl) ?_))))
 refine ⟨b, rfl, a⟩
 have m := ZK hl.sl i
 refine zi rfl (za (R0 fun _ => st (aS (Iz) (zb (zm (zT lA (show _ = ((Iz) : Value) from rfl) ?_))))))
 have g : Sep G W ((RowE (α := Int) own 3 (Iz) ([] : List Int)) :: Rs) w := hS0.rowNil own 3
 have n : l = [] := List.length_eq_zero_iff.1 m
 subst n
 refine ⟨(Iz), rfl, g⟩

theorem el55 : Elem Tryz.prog 55 107 2 32 := ⟨tT, _, _, rfl, rfl, rfl, rfl, rfl⟩
theorem Xd {G : Nat → Prop} {W w : World} {Rs : List HP} {vl : Value} {l : List Cel} (hl : RdS W G vl l) (hS0 : Sep G W Rs w) : Ret Tryz.prog 92 [vl] w (fun r w' => ∃ (v : Value), r = (v : Value) ∧ Sep G W ((RowE (α := Cel) (shr G W) 107 v l) :: Rs) w') := by
 have hls : _ * 32 ≤ _ := hl.small
 refine zk (args := [vl]) Tryz.func92 rfl rfl ?_
 refine za (R0 fun _ => st (aS (Iz) (zb (za (za (R0 fun _ => st (mV vl (st (xK (v := vl) tT rfl hl.sl (zb ?_))))))))))
 cases i : xE vl
 refine zf rfl (zn (za (R0 fun _ => st (zD (k := 2) (parts' := []) (c := #[]) tT wR Tryz.zeroValue107 dc rfl kr ?_))))
 intro o p j
 refine st (mV vl ?_)
 have d : Sep G W ((RowE (α := Cel) (shr G W) 107 (Iy p 0 0) ([] : List Cel)) :: Rs) o := Sep.blkRow (src := (shr G W)) (l := ([] : List Cel)) (css := []) (hS0.new j) rfl trivial yqa
 have e := d.r0
 have hr10s : _ * 32 ≤ _ := e.2
 refine st (xw (src := (shr G W)) (bytes := 32) d el55 rfl rfl hl yqb rfl (hq' := fun _ _ h _ _ => h) ?_)
 intro b q a
 have a : Sep G W ((RowE (α := Cel) (shr G W) 107 b l) :: Rs) q := a
 have f := a.r0
 have hr11s : _ * 32 ≤ _ := f.2
 refine st (aS b (zb (zm (zT mA (show _ = (b : Value) from rfl) ?_))))
 refine ⟨b, rfl, a⟩
 have m := ZK hl.sl i
 refine zi rfl (za (R0 fun _ => st (aS (Iz) (zb (zm (zT mA (show _ = ((Iz) : Value) from rfl) ?_))))))
 have g : Sep G W ((RowE (α := Cel) (shr G W) 107 (Iz) ([] : List Cel)) :: Rs) w := hS0.rowNil (shr G W) 107
 have n : l = [] := List.length_eq_zero_iff.1 m
 subst n
 refine ⟨(Iz), rfl, g⟩

theorem YF {G : Nat → Prop} {W w : World} {Rs : List HP} {vl : Value} {l : List Int} (hl : RdS W G vl l) {x : Int} (hx : InR x) (hS0 : Sep G W Rs w) (hasc : Asc l) : Ret Tryz.prog 144 [vl, .int .i64 (x)] w (fun r w' => ∃ (ix : Nat), r = (.tuple #[.int .i64 ((ix : Nat) : Int), .bool (decide (x ∈ l))] : Value) ∧ (ix ≤ l.length ∧ (∀ q, q < ix → l.getD q 0 < x) ∧ (∀ q, ix ≤ q → q < l.length → x ≤ l.getD q 0)) ∧ Sep G W Rs w') := by
 have hls : _ * 8 ≤ _ := hl.small
 refine zk (args := [vl, Iv x]) Tryz.func144 rfl rfl ?_
 refine za (R0 fun _ => st (aS (Iv 0) (st (aS (.bool false) (zb (za (R0 fun _ => st (mV vl (st (zG (n := l.length) nT rfl hl.sl (st (aS (Iw l.length) (zb (za (R0 fun _ => st (mV (Iw l.length) (st (aS (Iv 0) (st (aS (Iw l.length) (zb (za (zp (zZ (fun mq σ L => ∃ (i : Nat) (j : Nat) (ρ : Env), mq = j - i ∧ σ = ya ρ [(0, vl), (1, Iv x), (6, Iw l.length), (7, Iw i), (8, Iw j)] ∧ (i ≤ j ∧ j ≤ l.length) ∧ (∀ q, q < i → l.getD q 0 < x) ∧ (∀ q, j ≤ q → q < l.length → x ≤ l.getD q 0) ∧ Sep G W Rs L) ⟨0, l.length, _, rfl, sSf, ⟨Nat.zero_le _, Nat.le_refl _⟩, (fun q h => absurd h (Nat.not_lt_zero q)), (fun q h1 M => absurd M om), hS0⟩ ?_))))))))))))))))))))))))
 rintro m2 σ3 w1 ⟨i, j, ρl1, rfl, rfl, hij, hlo, hhi, e⟩
 refine za (za (R0 fun _ => st (mV (Iw i) (st (mV (Iw j) (st (zJ (k := .i64) (a := ((i : Nat) : Int)) (b := ((j : Nat) : Int)) rfl rfl (zb ?_))))))))
 cases m : decide (((i : Nat) : Int) < ((j : Nat) : Int))
 have m := fD m
 refine zf rfl (zY (zR (za (zH kr (st (mV (Iw i) (st (mV (Iw i) (st (mV (Iw l.length) (st (zJ (k := .i64) (a := ((i : Nat) : Int)) (b := ((l.length : Nat) : Int)) rfl rfl (st (mV (.bool (decide (((i : Nat) : Int) < ((l.length : Nat) : Int)))) ?_))))))))))))))
 cases g : decide (((i : Nat) : Int) < ((l.length : Nat) : Int))
 have hg6r := g
 have g := fD g
 refine stx rfl rfl (stx rfl rfl (stx rfl rfl (stx rfl rfl (stx rfl rfl (stx rfl rfl (stx rfl rfl (stu rfl rfl (stu rfl rfl (stu rfl rfl (stu rfl rfl (stu rfl rfl (stu rfl rfl (stu rfl rfl (stu rfl rfl (stu rfl rfl (stx rfl rfl (st (yd (v := .bool false) rfl rfl (st (aS (Iw i) (st (aS (.bool false) (zb (zm (VS kY (show _ = (Iw i : Value) from rfl) (show _ = (.bool false : Value) from rfl) ?_)))))))))))))))))))))))))
 refine ⟨i, ?_, ?_, e⟩
 have c : i = j := by omega
 subst c
 rw [WS hasc hij.2 hlo hhi]
 have hz : (decide (i < l.length) && decide (l.getD i 0 = x)) = false := by first | (rw [Bool.and_eq_true, decide_eq_true_eq, decide_eq_true_eq]; omega) | (rw [Bool.and_eq_false_iff, decide_eq_false_iff_not, decide_eq_false_iff_not]; omega)
 rw [hz]
 have c : i = j := by omega
 subst c
 exact ⟨hij.2, hlo, hhi⟩
 have g := tD g
 refine sty rfl rfl (mV vl (sty rfl rfl (mV (Iw i) ?_)))
 have K : i < l.length := by omega
 refine sty rfl rfl (ze (k := 1) (i := i) nT kT rfl hl.sl rfl K ?_)
 have o : i < l.length := bo
 obtain ⟨p, D⟩ := hl.intD o
 have u := e.cells p (hl.foot (ne_of_lt o))
 refine sty rfl rfl (lD (Iv ((l.getD i 0))) lT rfl (u.get (j := 0) rfl) (sty rfl rfl (mV (Iv x) (sty rfl rfl (zX (k := .i64) (a := (l.getD i 0)) (b := x) rfl rfl (sty rfl rfl (mV (.bool (decide ((l.getD i 0) = x))) ?_)))))))
 cases f : decide ((l.getD i 0) = x)
 have hg11r := f
 have f := fD f
 refine sty rfl rfl (mV vl (sty rfl rfl (mV (Iw i) ?_)))
 have E : i < l.length := bo
 refine sty rfl rfl (ze (k := 1) (i := i) nT kT rfl hl.sl rfl E ?_)
 have z := e.cells p (hl.foot (ne_of_lt o))
 refine sty rfl rfl (lD (Iv ((l.getD i 0))) lT rfl (z.get (j := 0) rfl) (sty rfl rfl (cL Tryz.call149 (zbf (x := (l.getD i 0)) D e) ?_)))
 rintro _ w15 ⟨rfl, F⟩
 refine sty rfl rfl (mV (.bool false) (stx rfl rfl (stx rfl rfl (sty rfl rfl (yd (v := .bool false) rfl rfl (sty rfl rfl (yd (v := .bool false) rfl rfl (st (yn (v := .bool false) rfl rfl (st (aS (Iw i) (st (aS (.bool false) (zb (zm (VS kY (show _ = (Iw i : Value) from rfl) (show _ = (.bool false : Value) from rfl) ?_))))))))))))))))
 refine ⟨i, ?_, ?_, F⟩
 have c : i = j := by omega
 subst c
 rw [WS hasc hij.2 hlo hhi]
 have hz : (decide (i < l.length) && decide (l.getD i 0 = x)) = false := by first | (rw [Bool.and_eq_true, decide_eq_true_eq, decide_eq_true_eq]; omega) | (rw [Bool.and_eq_false_iff, decide_eq_false_iff_not, decide_eq_false_iff_not]; omega)
 rw [hz]
 have c : i = j := by omega
 subst c
 exact ⟨hij.2, hlo, hhi⟩
 have f := tD f
 refine stx rfl rfl (stx rfl rfl (stx rfl rfl (stx rfl rfl (stx rfl rfl (stx rfl rfl (stu rfl rfl (stu rfl rfl (stx rfl rfl (sty rfl rfl (yn (v := .bool true) rfl rfl (st (yn (v := .bool true) rfl rfl (st (aS (Iw i) (st (aS (.bool true) (zb (zm (VS kY (show _ = (Iw i : Value) from rfl) (show _ = (.bool true : Value) from rfl) ?_)))))))))))))))))))
 refine ⟨i, ?_, ?_, e⟩
 have c : i = j := by omega
 subst c
 rw [WS hasc hij.2 hlo hhi]
 have hz : (decide (i < l.length) && decide (l.getD i 0 = x)) = true := by first | (rw [Bool.and_eq_true, decide_eq_true_eq, decide_eq_true_eq]; omega) | (rw [Bool.and_eq_false_iff, decide_eq_false_iff_not, decide_eq_false_iff_not]; omega)
 rw [hz]
 have c : i = j := by omega
 subst c
 exact ⟨hij.2, hlo, hhi⟩
 have m := tD m
 refine zi rfl (zn (zp (za (R0 fun _ => st (mV (Iw i) (st (mV (Iw j) ?_)))))))
 have H : InR ((i + j : Nat) : Int) := bo
 refine st (zO (r := ((i + j : Nat) : Int)) (k := .i64) (a := ((i : Nat) : Int)) (b := ((j : Nat) : Int)) rfl rfl (by rw [show (((i : Nat) : Int) + ((j : Nat) : Int) : Int) = ((i + j : Nat) : Int) from bo]; exact zy H) (st (Un (k := .i64) (k2 := .u64) (a := ((i + j : Nat) : Int)) (r := ((i + j : Nat) : Int)) (by rw [mT]; rfl) nA rfl (WZ ⟨by omega, by omega⟩) (st (zaU (k := .u64) (yk := .u64) (a := ((i + j : Nat) : Int)) (b := 1) (r := (((i + j) / 2 : Nat) : Int)) rfl rfl (by decide) (by decide) (by show ((i + j : Nat) : Int) / (2 : Int) ^ (1 : Nat) = (((i + j) / 2 : Nat) : Int); omega) (st (Un (k := .u64) (k2 := .i64) (a := (((i + j) / 2 : Nat) : Int)) (r := (((i + j) / 2 : Nat) : Int)) (by rw [nA]; rfl) mT rfl (zy (by omega)) (st (aS (Iv ((((i + j) / 2 : Nat) : Int))) (zb (za (zt (by kernel_rfl) (fun _ => (st (mV vl (st (mV (Iv ((((i + j) / 2 : Nat) : Int))) ?_)))))))))))))))))
 have I : (i + j) / 2 < l.length := by omega
 refine st (ze (k := 1) (i := (i + j) / 2) nT kT rfl hl.sl rfl I ?_)
 have s : (i + j) / 2 < l.length := bo
 obtain ⟨A, B⟩ := hl.intD s
 have C := e.cells A (hl.foot (ne_of_lt s))
 refine st (lD (Iv ((l.getD ((i + j) / 2) 0))) lT rfl (C.get (j := 0) rfl) (st (mV (Iv x) (st (cL Tryz.call148 (zah (x := (l.getD ((i + j) / 2) 0)) (y := x) B hx e) ?_)))))
 rintro _ w22 ⟨rfl, t⟩
 refine zb ?_
 cases d : decide ((l.getD ((i + j) / 2) 0) < x)
 have d := fD d
 refine zf rfl (R0 fun _ => st (mV (Iv ((((i + j) / 2 : Nat) : Int))) (st (aS (Iv ((((i + j) / 2 : Nat) : Int))) (zb ?_)))))
 exact ⟨_, by omega, i, (i + j) / 2, _, rfl, sSf, by omega, hlo, (bs_hi hasc om d), t⟩
 have d := tD d
 refine zi rfl (R0 fun _ => st (mV (Iv ((((i + j) / 2 : Nat) : Int))) ?_))
 have J : InR (((i + j) / 2 + 1 : Nat) : Int) := bo
 refine st (zO (r := (((i + j) / 2 + 1 : Nat) : Int)) (k := .i64) (a := (((i + j) / 2 : Nat) : Int)) (b := 1) rfl rfl (by rw [show ((((i + j) / 2 : Nat) : Int) + 1 : Int) = (((i + j) / 2 + 1 : Nat) : Int) from bo]; exact zy J) (st (aS (Iw ((i + j) / 2 + 1)) (zb ?_))))
 exact ⟨_, by omega, (i + j) / 2 + 1, j, _, rfl, sSf, by omega, (bs_lo hasc om d), hhi, t⟩

end Go.Proofs.YtojlbibionhdjaaGreatDoor
set_option maxRecDepth 8000
namespace Go.Proofs.YtojlbibionhdjaaGreatDoor
open Go.Proofs Go.RowKit
theorem yqc {a b : Nat} (h : Nat.ble a b = true := by rfl) : a ≤ b := Nat.le_of_ble_eq_true h

theorem WV {G : Nat → Prop} {W w : World} {Rs : List HP} {a : AskR} {da0 : Value} (hda0 : RdS W G da0 a.fld.moves) {da1 : Value} (hda1 : RdS W G da1 a.cls) (oa : a.Ok) (hS0 : Sep G W Rs w) (hno : 0 ≤ a.no ∧ a.no < a.cls.length) : Ret Tryz.prog 132 [.agg (a.cells da0 da1).toArray] w (fun r w' => r = (.pointer (some ⟨sb da1, so da1 + a.no.toNat * 2, none⟩) : Value) ∧ Sep G W Rs w') := by
 have hda0s : _ * 32 ≤ _ := hda0.small
 have hda1s : _ * 32 ≤ _ := hda1.small
 refine zk (args := [.agg (a.cells da0 da1).toArray]) Tryz.func132 rfl rfl ?_
 refine za (R0 fun _ => st (zS (v := .agg (a.cells da0 da1).toArray) rfl ?_))
 intro w3 b2 c
 have b := hS0.new c
 refine st (aS (.pointer none) (zb (za (R0 fun _ => st (WT rfl (st (lD da1 pA rfl (zd (b.b0) rfl) (st (UF rfl (st (lD (Iv (a.no)) lT rfl (zd (b.b0) rfl) ?_)))))))))))
 have hi5 : a.no.toNat < a.cls.length := bo
 refine st (zN (k := 2) (i := a.no) tT wR rfl hda1.sl rfl ⟨by omega, by omega⟩ (st (aS (Ix (sb da1) (so da1 + a.no.toNat * 2)) (zb (zm (zT Tryz.results132 (show _ = (Ix (sb da1) (so da1 + a.no.toNat * 2) : Value) from rfl) ?_))))))
 refine ⟨rfl, (b.s1_)⟩

theorem VJ {G : Nat → Prop} {W w : World} {Rs : List HP} {a : AskR} {da0 : Value} (hda0 : RdS W G da0 a.fld.moves) {da1 : Value} (hda1 : RdS W G da1 a.cls) (oa : a.Ok) (hS0 : Sep G W Rs w) : Ret Tryz.prog 133 [.agg (a.cells da0 da1).toArray] w (fun r w' => r = (.bool true : Value) ∧ Sep G W Rs w') := by
 have hda0s : _ * 32 ≤ _ := hda0.small
 have hda1s : _ * 32 ≤ _ := hda1.small
 refine zk (args := [.agg (a.cells da0 da1).toArray]) Tryz.func133 rfl rfl ?_
 refine za (R0 fun _ => st (zS (v := .agg (a.cells da0 da1).toArray) rfl ?_))
 intro w3 b2 b
 refine st (aS (.bool false) (zb (za (R0 fun _ => st (aS (.bool true) (zb (zm (zT Tryz.results133 (show _ = (.bool true : Value) from rfl) ?_))))))))
 refine ⟨rfl, ((hS0.new b).s1_)⟩

theorem KO {G : Nat → Prop} {W w : World} {Rs : List HP} {a : AskR} {da0 : Value} (hda0 : RdS W G da0 a.fld.moves) {da1 : Value} (hda1 : RdS W G da1 a.cls) (oa : a.Ok) (hS0 : Sep G W Rs w) (hno : 0 ≤ a.no ∧ a.no < a.cls.length) : Ret Tryz.prog 130 [.agg (a.cells da0 da1).toArray] w (fun r w' => r = (.bool (xD a.fld a.cls (yj a.cls a.no) 1 a.arg) : Value) ∧ Sep G W Rs w') := by
 let n := (a.cls.getD a.no.toNat default).n
 let ae := IntKind.i64.wrap (n + a.arg)
 let ac := decide (n < Xh (n + a.arg)) == decide (0 < a.arg)
 let ab := decide ((IntKind.i64.wrap (n + a.arg)) < 0)
 let ad := a.fld.floor && ab
 have hda0s : _ * 32 ≤ _ := hda0.small
 have hda1s : _ * 32 ≤ _ := hda1.small
 refine zk (args := [.agg (a.cells da0 da1).toArray]) Tryz.func130 rfl rfl ?_
 refine za (R0 fun _ => st (zS (v := .agg (a.cells da0 da1).toArray) rfl ?_))
 intro w3 b2 aa
 have E := hS0.new aa
 refine st (aS (.bool false) (zb (za (R0 fun _ => st (zg (k := 7) nR oR rfl rfl (CellsAt.all (E.b0)) ?_)))))
 refine st (cL pR (WV (a := a) hda0 hda1 oa E bo) ?_)
 rintro _ w5 ⟨rfl, e⟩
 refine st (zl (b := sb da1) (o := so da1 + a.no.toNat * 2) rfl (st (xP rfl ?_)))
 have F : a.no.toNat < a.cls.length := bo
 obtain ⟨H, m, C⟩ := hda1.celD F
 have hsm9 : ((a.cls.getD a.no.toNat default).set).length * 8 ≤ 140737488355328 := m.small
 have D := e.cells H (hda1.foot (ne_of_lt F))
 refine st (lD (Iv n) lT rfl (D.get (j := 0) rfl) (st (aS (Iv n) (zb (za (zH kr (st (xf rfl (st (lD (Iv (a.arg)) lT rfl (zd (e.b0) rfl) (st (zX (k := .i64) (a := a.arg) (b := 0) rfl rfl (st (mV (.bool (decide (a.arg = 0))) (stc (V := Iv n) rfl rfl (fun I => ?_) ?_)))))))))))))))
 have hl12 := fD I
 exact mV (Iv n) ⟨rfl, rfl⟩
 refine stc (V := Ix b2 6) rfl rfl (fun J => ?_) ?_
 have hl14 := fD J
 exact xf rfl ⟨rfl, rfl⟩
 refine stc (V := Iv (a.arg)) rfl rfl (fun p => ?_) ?_
 have hl16 := fD p
 exact lD (Iv (a.arg)) lT (if_pos p) (zd (e.b0) rfl) ⟨rfl, rfl⟩
 cases c : decide (a.arg = 0)
 have f := c
 have c := fD c
 refine sty rfl rfl (cL Tryz.call143 (D_sum (x := (a.cls.getD a.no.toNat default).n) (y := a.arg) C.n oa.arg e) ?_)
 rintro _ w18 ⟨rfl, i⟩
 refine st (yd (v := .bool (ac)) rfl rfl (st (mV (.bool (ac)) (stc (V := Ix b2 0) rfl rfl (fun K => ?_) ?_))))
 have L := K
 try simp only [zh] at L
 exact YT rfl ⟨rfl, rfl⟩
 refine stc (V := Ix b2 2) rfl rfl (fun q => ?_) ?_
 have M := q
 try simp only [zh] at M
 exact Um (if_pos q) ⟨rfl, rfl⟩
 refine stc (V := .bool (a.fld.floor)) rfl rfl (fun s => ?_) ?_
 have N := s
 try simp only [zh] at N
 exact lD (.bool (a.fld.floor)) qR (if_pos s) (zd (i.b0) rfl) ⟨rfl, rfl⟩
 refine stc (V := .bool (a.fld.floor)) rfl rfl (fun t => ?_) ?_
 have O := t
 try simp only [zh] at O
 exact zq (v := .bool (a.fld.floor)) (if_pos t) ⟨rfl, rfl⟩
 refine yD (V := Iv n) rfl rfl (fun u => ?_) ?_
 have P := u.1
 try simp only [zh] at P
 have hl30 := u.2
 exact mV (Iv n) ⟨rfl, rfl⟩
 refine yD (V := Ix b2 6) rfl rfl (fun z => ?_) ?_
 have Q := z.1
 try simp only [zh] at Q
 have hl33 := z.2
 exact xf rfl ⟨rfl, rfl⟩
 refine yD (V := Iv (a.arg)) rfl rfl (fun g => ?_) ?_
 have R := g.1
 try simp only [zh] at R
 have hl36 := g.2
 exact lD (Iv (a.arg)) lT (if_pos ⟨g.1, g.2⟩) (zd (i.b0) rfl) ⟨rfl, rfl⟩
 refine yD (V := Iv ae) rfl rfl (fun d => ?_) ?_
 have S := d.1
 try simp only [zh] at S
 have hl39 := d.2
 exact zO (r := IntKind.i64.wrap (n + a.arg)) (k := .i64) (a := (a.cls.getD a.no.toNat default).n) (b := a.arg) (if_pos ⟨d.1, d.2⟩) (if_pos ⟨d.1, d.2⟩) rfl ⟨rfl, rfl⟩
 refine yD (V := .bool ab) rfl rfl (fun h => ?_) ?_
 have T := h.1
 try simp only [zh] at T
 have hl42 := h.2
 exact zJ (k := .i64) (a := IntKind.i64.wrap (n + a.arg)) (b := 0) (if_pos ⟨h.1, h.2⟩) rfl ⟨rfl, rfl⟩
 refine stc (V := .bool ad) rfl rfl (fun l => ?_) ?_
 have U := l
 try simp only [zh] at U
 exact zB (b := a.fld.floor) (b' := decide (ae < 0)) (if_pos l) (fun hbp => (if_pos ⟨l, hbp⟩)) ⟨rfl, rfl⟩
 refine stc (V := .bool (!ad)) rfl rfl (fun A => ?_) ?_
 have X := A
 try simp only [zh] at X
 exact yK (a := a.fld.floor && ab) (if_pos A) ⟨rfl, rfl⟩
 refine st (zB (b := ac) (b' := !ad) rfl (fun hbp => (if_pos hbp)) (st (aS (.bool (ac && (!ad))) (zb (zm (zT qA (show _ = (.bool (ac && (!ad)) : Value) from rfl) ?_))))))
 refine ⟨?_, (i.s1_)⟩
 unfold xD
 rw [if_pos rfl, f]
 rfl
 have f := c
 have c := tD c
 refine stx rfl rfl (st (yn (v := .bool true) rfl rfl (st (mV (.bool true) (sty rfl rfl (YT rfl (sty rfl rfl (Um rfl (sty rfl rfl (lD (.bool (a.fld.floor)) qR rfl (zd (e.b0) rfl) (sty rfl rfl (mV (.bool (a.fld.floor)) (stc (V := Iv n) rfl rfl (fun hb48 => ?_) ?_)))))))))))))
 exact mV (Iv n) ⟨rfl, rfl⟩
 refine stc (V := Ix b2 6) rfl rfl (fun hb50 => ?_) ?_
 exact xf rfl ⟨rfl, rfl⟩
 refine stc (V := Iv (a.arg)) rfl rfl (fun Y => ?_) ?_
 exact lD (Iv (a.arg)) lT (if_pos Y) (zd (e.b0) rfl) ⟨rfl, rfl⟩
 refine stc (V := Iv ae) rfl rfl (fun B => ?_) ?_
 exact zO (r := IntKind.i64.wrap (n + a.arg)) (k := .i64) (a := (a.cls.getD a.no.toNat default).n) (b := a.arg) (if_pos B) (if_pos B) rfl ⟨rfl, rfl⟩
 refine stc (V := .bool ab) rfl rfl (fun Z => ?_) ?_
 exact zJ (k := .i64) (a := IntKind.i64.wrap (n + a.arg)) (b := 0) (if_pos Z) rfl ⟨rfl, rfl⟩
 refine sty rfl rfl (zB (b := a.fld.floor) (b' := decide (ae < 0)) rfl (fun hbp => (if_pos hbp)) (sty rfl rfl (yK (a := a.fld.floor && ab) rfl (st (yn (v := .bool (!ad)) rfl rfl (st (aS (.bool (!ad)) (zb (zm (zT qA (show _ = (.bool (!ad) : Value) from rfl) ?_))))))))))
 refine ⟨?_, (e.s1_)⟩
 unfold xD
 rw [if_pos rfl, f]
 rfl

theorem Kh {G : Nat → Prop} {W w : World} {Rs : List HP} {a : AskR} {da0 : Value} (hda0 : RdS W G da0 a.fld.moves) {da1 : Value} (hda1 : RdS W G da1 a.cls) (oa : a.Ok) (hS0 : Sep G W Rs w) (hno : 0 ≤ a.no ∧ a.no < a.cls.length) (hasc : Asc (yj a.cls a.no).set) : Ret Tryz.prog 135 [.agg (a.cells da0 da1).toArray] w (fun r w' => r = (.bool (xD a.fld a.cls (yj a.cls a.no) 3 a.arg) : Value) ∧ Sep G W Rs w') := by
 let aE := zC W (sb da1) (so da1 + a.no.toNat * 2 + 1)
 have hda0s : _ * 32 ≤ _ := hda0.small
 have hda1s : _ * 32 ≤ _ := hda1.small
 refine zk (args := [.agg (a.cells da0 da1).toArray]) Tryz.func135 rfl rfl ?_
 refine za (R0 fun _ => st (zS (v := .agg (a.cells da0 da1).toArray) rfl ?_))
 intro w3 b2 aD
 refine st (aS (.bool false) (zb (za ?_)))
 refine WD4 ((fun L => WF [fun vals M => Sep G W (L :: Rs) M, fun vals M => (vals 1 = (Ix (sb da1) (so da1 + a.no.toNat * 2) : Value)) ∧ Sep G W (L :: Rs) M, fun vals M => ∃ (c : Nat), (vals 1 = (Ix (sb da1) (so da1 + a.no.toNat * 2) : Value)) ∧ (vals 7 = (.tuple #[Iw c, .bool (decide (a.arg ∈ ((a.cls.getD a.no.toNat default).set)))] : Value)) ∧ (c ≤ ((a.cls.getD a.no.toNat default).set).length ∧ (∀ q, q < c → ((a.cls.getD a.no.toNat default).set).getD q 0 < a.arg) ∧ (∀ q, c ≤ q → q < ((a.cls.getD a.no.toNat default).set).length → a.arg ≤ ((a.cls.getD a.no.toNat default).set).getD q 0)) ∧ Sep G W (L :: Rs) M]) (Blk b2 (a.cells da0 da1).toArray 185)) (AF [Vl 0 (.agg (a.cells da0 da1).toArray), fun _ => True, Vl 2 (Ix (sb da1) (so da1 + a.no.toNat * 2)), Vl 3 (Ix (sb da1) (so da1 + a.no.toNat * 2 + 1)), Vl 4 (aE), Vl 5 (Ix b2 6), Vl 6 (Iv (a.arg)), fun _ => True, fun vals => ∀ (c : Nat), vals 7 = (.tuple #[Iw c, .bool (decide (a.arg ∈ ((a.cls.getD a.no.toNat default).set)))] : Value) → vals 8 = (.tuple #[Iw c, .bool (decide (a.arg ∈ ((a.cls.getD a.no.toNat default).set)))] : Value), fun vals => ∀ (c : Nat), vals 7 = (.tuple #[Iw c, .bool (decide (a.arg ∈ ((a.cls.getD a.no.toNat default).set)))] : Value) → vals 9 = (Iw c : Value), Vl 10 (.bool (decide (a.arg ∈ ((a.cls.getD a.no.toNat default).set)))), fun vals => ∀ (c : Nat), vals 7 = (.tuple #[Iw c, .bool (decide (a.arg ∈ ((a.cls.getD a.no.toNat default).set)))] : Value) → vals 11 = (Iw c : Value), Vl 12 (.bool (decide (a.arg ∈ ((a.cls.getD a.no.toNat default).set))))]) [[], [0], [0, 1], [0, 1, 2], (rg 4), [], [5], (rg 7), (rg 8), (rg 9), (rg 9), (rg 10), (rg 12)] [1, 7] [(0, 0), (0, 0), (1, 1), (1, 1), (1, 1), (0, 1), (0, 1), (1, 1), (2, 2), (2, 2), (2, 2), (2, 2), (2, 2)] (hS0.new aD) ⟨ob1 0 fun _ _ (U : Sep _ _ _ _) _ => obl rfl (zg (k := 7) nR oR rfl rfl (CellsAt.all (U.b0)) dR), ?_, ?_, fun _ _ _ _ _ _ X => obl rfl (xg (X 2 dc) dR), ?_, fun _ _ _ _ _ _ _ => obl rfl (xf rfl dR), ?_, ?_, ?_, ?_, ?_, ?_, fun _ _ _ _ _ _ Y => obl rfl (zv (v := .bool (decide (a.arg ∈ ((a.cls.getD a.no.toNat default).set)))) (Y 10 dc) dR), trivial⟩ ?_ (hlocA := xt ⟨dA, dT, dA, dA, dA, dA, dA, dT, fun vals m p h => fun c e => (p 8 (.inl rfl)).trans (h c ((p 7 (.inr dc)).symm.trans e)), fun vals m p h => fun c e => (p 9 (.inl rfl)).trans (h c ((p 7 (.inr dc)).symm.trans e)), dA, fun vals m p h => fun c e => (p 11 (.inl rfl)).trans (h c ((p 7 (.inr dc)).symm.trans e)), dA, trivial⟩)
 refine ob1 0 fun vals _ (aq : Sep _ _ _ _) ar => (obl rfl ?_)
 refine (zL (f := 132) (vals := [.agg (a.cells da0 da1).toArray]) (cap := []) rfl (yN ⟨(ar 0 dc), trivial⟩) pR (WV (a := a) hda0 hda1 oa aq bo) ?_)
 rintro _ w20 ⟨rfl, au⟩
 exact fun m p u => ⟨(And.intro p au), trivial⟩
 refine ob1 1 fun _ _ Z _ => ?_
 obtain ⟨g, hS132⟩ := Z
 exact obl rfl (zl (b := sb da1) (o := so da1 + a.no.toNat * 2) g dR)
 refine ob1 1 fun _ _ aa ab => ?_
 obtain ⟨g, ac⟩ := aa
 refine obl rfl ?_
 have E : a.no.toNat < a.cls.length := bo
 obtain ⟨N, D, hoke148⟩ := hda1.celD E
 have hsm150 : ((a.cls.getD a.no.toNat default).set).length * 8 ≤ 140737488355328 := D.small
 have O := ac.cells N (hda1.foot (ne_of_lt E))
 exact lD aE rR (ab 3 dc) (O.get (j := 1) rfl) dR
 refine fun B _ _ av aw F H => ?_
 have hkk : B = 0 ∨ B = 1 := by have h1 : 0 ≤ B := av; have h2 : B ≤ 1 := aw; omega
 rcases hkk with rfl | rfl
 have ad : Sep _ _ _ _ := F
 exact obl rfl (lD (Iv (a.arg)) lT (H 5 dc) (zd (ad.b0) rfl) dR)
 obtain ⟨g, ae⟩ := F
 exact obl rfl (lD (Iv (a.arg)) lT (H 5 dc) (zd (ae.b0) rfl) dR)
 refine ob1 1 fun vals _ ax P => ?_
 obtain ⟨g, Q⟩ := ax
 refine obl rfl ?_
 have R : a.no.toNat < a.cls.length := bo
 obtain ⟨af, A, hoke72⟩ := hda1.celD R
 have hsm74 : ((a.cls.getD a.no.toNat default).set).length * 8 ≤ 140737488355328 := A.small
 have hcw75 := Q.cells af (hda1.foot (ne_of_lt R))
 refine (zL (f := 144) (vals := [aE, Iv (a.arg)]) (cap := []) rfl (yN ⟨(P 4 dc), (P 6 dc), trivial⟩) Tryz.call144 (YF (l := (a.cls.getD a.no.toNat default).set) (vl := aE) (x := a.arg) A oa.arg Q (hasc)) ?_)
 rintro _ w78 ⟨c, rfl, s, ay⟩
 exact fun m p u => ⟨(Exists.intro c (And.intro ((u 1 dc).trans g) (And.intro p (And.intro s ay)))), trivial⟩
 refine ob1 2 fun _ _ ag _ => ?_
 obtain ⟨c, g, d, s, hS174⟩ := ag
 refine obl rfl (zq (v := .tuple #[Iw c, .bool (decide (a.arg ∈ ((a.cls.getD a.no.toNat default).set)))]) d (fun m p u => ⟨rfl, ?_⟩))
 intro I e
 rw [u 7 (by decide)] at e; cases d.symm.trans e
 exact p
 refine ob1 2 fun vals _ ah ai => ?_
 obtain ⟨c, g, d, s, hS181⟩ := ah
 have az : vals 8 = (.tuple #[Iw c, .bool (decide (a.arg ∈ ((a.cls.getD a.no.toNat default).set)))] : Value) := ai 8 dc c d
 refine obl rfl (zF (vs := [Iw c, .bool (decide (a.arg ∈ ((a.cls.getD a.no.toNat default).set)))]) (i := 0) (v := Iw c) az rfl (fun m p u => ⟨rfl, ?_⟩))
 intro I e
 rw [u 7 (by decide)] at e; cases d.symm.trans e
 exact p
 refine ob1 2 fun vals _ aj ak => ?_
 obtain ⟨c, g, d, s, hS189⟩ := aj
 have aA : vals 8 = (.tuple #[Iw c, .bool (decide (a.arg ∈ ((a.cls.getD a.no.toNat default).set)))] : Value) := ak 8 dc c d
 exact obl rfl (zF (vs := [Iw c, .bool (decide (a.arg ∈ ((a.cls.getD a.no.toNat default).set)))]) (i := 1) (v := .bool (decide (a.arg ∈ ((a.cls.getD a.no.toNat default).set)))) aA rfl dR)
 refine ob1 2 fun vals _ al am => ?_
 obtain ⟨c, g, d, s, hS197⟩ := al
 have aB : vals 9 = (Iw c : Value) := am 9 dc c d
 refine obl rfl (zv (v := Iw c) aB (fun m p u => ⟨rfl, ?_⟩))
 intro I e
 rw [u 7 (by decide)] at e; cases d.symm.trans e
 exact p
 intro vals w206 an ao
 obtain ⟨c, g, d, s, C⟩ := an
 have aC := ao 12 dc
 refine zW (kv := [(0, .agg (a.cells da0 da1).toArray), (1, Ix b2 0), (2, .bool false), (4, .bool (decide (a.arg ∈ ((a.cls.getD a.no.toNat default).set))))]) ⟨rfl, rfl, rfl, (by exact aC), trivial⟩ (fun ρw206 => (zb (za (zH kr (st (mV (.bool (decide (a.arg ∈ ((a.cls.getD a.no.toNat default).set)))) (st (mV (.bool (decide (a.arg ∈ ((a.cls.getD a.no.toNat default).set)))) (stc (V := .agg (a.cells da0 da1).toArray) rfl rfl (fun ap => ?_) ?_)))))))))
 have hl212 := fD ap
 exact zg (k := 7) nR oR rfl rfl (CellsAt.all (C.b0)) ⟨rfl, rfl⟩
 cases t : decide (a.arg ∈ ((a.cls.getD a.no.toNat default).set))
 have y := t
 have t := fD t
 refine sty rfl rfl (cL pR (WV (a := a) hda0 hda1 oa C bo) ?_)
 rintro _ w214 ⟨rfl, J⟩
 refine sty rfl rfl (zl (b := sb da1) (o := so da1 + a.no.toNat * 2) rfl (sty rfl rfl (xg rfl ?_)))
 have K : a.no.toNat < a.cls.length := bo
 obtain ⟨S, z, hoke216⟩ := hda1.celD K
 have hsm218 : ((a.cls.getD a.no.toNat default).set).length * 8 ≤ 140737488355328 := z.small
 have T := J.cells S (hda1.foot (ne_of_lt K))
 refine sty rfl rfl (lD aE rR rfl (T.get (j := 1) rfl) (sty rfl rfl (zG (n := ((a.cls.getD a.no.toNat default).set).length) nT rfl z.sl (sty rfl rfl (zJ (k := .i64) (a := ((((a.cls.getD a.no.toNat default).set).length : Nat) : Int)) (b := 64) rfl rfl (st (yd (v := .bool (decide (((((a.cls.getD a.no.toNat default).set).length : Nat) : Int) < 64))) rfl rfl (st (aS (.bool (decide (((((a.cls.getD a.no.toNat default).set).length : Nat) : Int) < 64))) (zb (zm (zT rA (show _ = (.bool (decide (((((a.cls.getD a.no.toNat default).set).length : Nat) : Int) < 64)) : Value) from rfl) ?_))))))))))))
 refine ⟨?_, (J.s1_)⟩
 unfold xD
 rw [if_neg (by decide), if_pos rfl, show decide (a.arg ∈ (yj a.cls a.no).set) = _ from y]
 rfl
 have y := t
 have t := tD t
 refine stx rfl rfl (stx rfl rfl (stx rfl rfl (stx rfl rfl (stx rfl rfl (stx rfl rfl (st (yn (v := .bool true) rfl rfl (st (aS (.bool true) (zb (zm (zT rA (show _ = (.bool true : Value) from rfl) ?_))))))))))))
 refine ⟨?_, (C.s1_)⟩
 unfold xD
 rw [if_neg (by decide), if_pos rfl, show decide (a.arg ∈ (yj a.cls a.no).set) = _ from y]
 rfl

theorem Qz {G : Nat → Prop} {W w : World} {Rs : List HP} {a : AskR} {da0 : Value} (hda0 : RdS W G da0 a.fld.moves) {da1 : Value} (hda1 : RdS W G da1 a.cls) (oa : a.Ok) (hS0 : Sep G W Rs w) (hno : 0 ≤ a.no ∧ a.no < a.cls.length) (hmv : 0 ≤ a.arg ∧ a.arg < a.fld.moves.length) (hnd : (Yu a.fld a.arg).need < 0 ∨ (Yu a.fld a.arg).need < a.cls.length) : Ret Tryz.prog 138 [.agg (a.cells da0 da1).toArray] w (fun r w' => r = (.bool (xD a.fld a.cls (yj a.cls a.no) 5 a.arg) : Value) ∧ Sep G W Rs w') := by
 let n := (a.fld.moves.getD a.arg.toNat default).cells
 have hda0s : _ * 32 ≤ _ := hda0.small
 have hda1s : _ * 32 ≤ _ := hda1.small
 have hnd1 : (a.fld.moves.getD a.arg.toNat default).need < 0 ∨ (a.fld.moves.getD a.arg.toNat default).need < a.cls.length := hnd
 refine zk (args := [.agg (a.cells da0 da1).toArray]) Tryz.func138 rfl rfl ?_
 refine za (R0 fun _ => st (zS (v := .agg (a.cells da0 da1).toArray) rfl ?_))
 intro w3 b2 ba
 have L := hS0.new ba
 refine st (aS (.bool false) (zb (za (R0 fun _ => st (YT rfl (st (yM rfl (st (lD da0 Tryz.isAgg86 rfl (zd (L.b0) rfl) (st (xf rfl (st (lD (Iv (a.arg)) lT rfl (zd (L.b0) rfl) ?_)))))))))))))
 have hi5 : a.arg.toNat < a.fld.moves.length := bo
 refine st (zN (k := 4) (i := a.arg) Tryz.underlying86 lY rfl hda0.sl rfl ⟨by omega, by omega⟩ ?_)
 have aN : a.arg.toNat < a.fld.moves.length := bo
 obtain ⟨aP, hoke6⟩ := hda0.mvD aN
 have aQ := L.cells aP (hda0.foot (ne_of_lt aN))
 refine st (zg (k := 4) Tryz.isAgg91 lY rfl rfl aQ (st (zI Tryz.zeroValue91 ?_)))
 intro w11 D bb
 have ab := L.new bb
 refine stn (zA (v := .agg n.toArray) (c' := n.toArray) lY rfl rfl (ab.b0) (yf ⟨rfl, rfl, rfl, rfl, trivial⟩) yqc rfl ?_)
 intro w13 aR
 refine zb (za ?_)
 refine WD4 ((fun TT aO => WF [fun vals wq => Sep G W (aO :: TT) wq, fun vals wq => (vals 1 = (Ix (sb da1) (so da1 + a.no.toNat * 2) : Value)) ∧ Sep G W (aO :: TT) wq]) ((Blk b2 (a.cells da0 da1).toArray 185) :: Rs) (Blk D n.toArray 91)) (AF [Vl 0 (.agg (a.cells da0 da1).toArray), fun _ => True, Vl 2 (Ix (sb da1) (so da1 + a.no.toNat * 2)), Vl 3 (Ix (sb da1) (so da1 + a.no.toNat * 2)), Vl 4 (Iv ((a.cls.getD a.no.toNat default).n)), Vl 5 (Ix D 0), Vl 6 (Iv ((a.fld.moves.getD a.arg.toNat default).frm)), Vl 7 (.bool (decide (((a.cls.getD a.no.toNat default).n) = ((a.fld.moves.getD a.arg.toNat default).frm)))), Vl 8 (.bool (decide (((a.cls.getD a.no.toNat default).n) = ((a.fld.moves.getD a.arg.toNat default).frm)))), Vl 9 (if (decide (((a.cls.getD a.no.toNat default).n) = ((a.fld.moves.getD a.arg.toNat default).frm))) = true then Ix D 2 else undef), Vl 10 (if (decide (((a.cls.getD a.no.toNat default).n) = ((a.fld.moves.getD a.arg.toNat default).frm))) = true then Iv ((a.fld.moves.getD a.arg.toNat default).need) else undef), Vl 11 (if (decide (((a.cls.getD a.no.toNat default).n) = ((a.fld.moves.getD a.arg.toNat default).frm))) = true then .bool (decide (((a.fld.moves.getD a.arg.toNat default).need) < 0)) else undef), Vl 12 (if (decide (((a.cls.getD a.no.toNat default).n) = ((a.fld.moves.getD a.arg.toNat default).frm))) = true then .bool (decide (((a.fld.moves.getD a.arg.toNat default).need) < 0)) else undef), Vl 13 (if ((decide (((a.cls.getD a.no.toNat default).n) = ((a.fld.moves.getD a.arg.toNat default).frm))) = true) ∧ (decide (((a.fld.moves.getD a.arg.toNat default).need) < 0)) = false then Ix b2 4 else undef), Vl 14 (if ((decide (((a.cls.getD a.no.toNat default).n) = ((a.fld.moves.getD a.arg.toNat default).frm))) = true) ∧ (decide (((a.fld.moves.getD a.arg.toNat default).need) < 0)) = false then da1 else undef), Vl 15 (if ((decide (((a.cls.getD a.no.toNat default).n) = ((a.fld.moves.getD a.arg.toNat default).frm))) = true) ∧ (decide (((a.fld.moves.getD a.arg.toNat default).need) < 0)) = false then Ix D 2 else undef), Vl 16 (if ((decide (((a.cls.getD a.no.toNat default).n) = ((a.fld.moves.getD a.arg.toNat default).frm))) = true) ∧ (decide (((a.fld.moves.getD a.arg.toNat default).need) < 0)) = false then Iv ((a.fld.moves.getD a.arg.toNat default).need) else undef), Vl 17 (if ((decide (((a.cls.getD a.no.toNat default).n) = ((a.fld.moves.getD a.arg.toNat default).frm))) = true) ∧ (decide (((a.fld.moves.getD a.arg.toNat default).need) < 0)) = false then Ix (sb da1) (so da1 + (((a.fld.moves.getD a.arg.toNat default).need).toNat) * 2) else undef), Vl 18 (if ((decide (((a.cls.getD a.no.toNat default).n) = ((a.fld.moves.getD a.arg.toNat default).frm))) = true) ∧ (decide (((a.fld.moves.getD a.arg.toNat default).need) < 0)) = false then Ix (sb da1) (so da1 + (((a.fld.moves.getD a.arg.toNat default).need).toNat) * 2) else undef), Vl 19 (if ((decide (((a.cls.getD a.no.toNat default).n) = ((a.fld.moves.getD a.arg.toNat default).frm))) = true) ∧ (decide (((a.fld.moves.getD a.arg.toNat default).need) < 0)) = false then Iv ((a.cls.getD (((a.fld.moves.getD a.arg.toNat default).need).toNat) default).n) else undef), Vl 20 (if ((decide (((a.cls.getD a.no.toNat default).n) = ((a.fld.moves.getD a.arg.toNat default).frm))) = true) ∧ (decide (((a.fld.moves.getD a.arg.toNat default).need) < 0)) = false then Ix D 3 else undef), Vl 21 (if ((decide (((a.cls.getD a.no.toNat default).n) = ((a.fld.moves.getD a.arg.toNat default).frm))) = true) ∧ (decide (((a.fld.moves.getD a.arg.toNat default).need) < 0)) = false then Iv ((a.fld.moves.getD a.arg.toNat default).least) else undef), Vl 22 (if ((decide (((a.cls.getD a.no.toNat default).n) = ((a.fld.moves.getD a.arg.toNat default).frm))) = true) ∧ (decide (((a.fld.moves.getD a.arg.toNat default).need) < 0)) = false then .bool (decide (((a.fld.moves.getD a.arg.toNat default).least) ≤ ((a.cls.getD (((a.fld.moves.getD a.arg.toNat default).need).toNat) default).n))) else undef), Vl 23 (if (decide (((a.cls.getD a.no.toNat default).n) = ((a.fld.moves.getD a.arg.toNat default).frm))) = true then .bool ((decide (((a.fld.moves.getD a.arg.toNat default).need) < 0)) || (decide (((a.fld.moves.getD a.arg.toNat default).least) ≤ ((a.cls.getD (((a.fld.moves.getD a.arg.toNat default).need).toNat) default).n)))) else undef), Vl 24 (.bool ((decide (((a.cls.getD a.no.toNat default).n) = ((a.fld.moves.getD a.arg.toNat default).frm))) && ((decide (((a.fld.moves.getD a.arg.toNat default).need) < 0)) || (decide (((a.fld.moves.getD a.arg.toNat default).least) ≤ ((a.cls.getD (((a.fld.moves.getD a.arg.toNat default).need).toNat) default).n)))))), Vl 25 (.bool ((decide (((a.cls.getD a.no.toNat default).n) = ((a.fld.moves.getD a.arg.toNat default).frm))) && ((decide (((a.fld.moves.getD a.arg.toNat default).need) < 0)) || (decide (((a.fld.moves.getD a.arg.toNat default).least) ≤ ((a.cls.getD (((a.fld.moves.getD a.arg.toNat default).need).toNat) default).n))))))]) [[], [0], [0, 1], [0, 1, 2], (rg 4), [], [5], (rg 7), (rg 8), (rg 9), (rg 10), (rg 11), (rg 12), (rg 13), (rg 14), (rg 13), [0, 1, 2, 3, 4, 5, 6, 7, 8, 9, 10, 11, 12, 15], (rg 17), (rg 18), (rg 19), (rg 13), [0, 1, 2, 3, 4, 5, 6, 7, 8, 9, 10, 11, 12, 20], (rg 22), (rg 23), (rg 24), (rg 25)] [1] [(0, 0), (0, 0), (1, 1), (1, 1), (1, 1), (0, 1), (0, 1), (1, 1), (1, 1), (1, 1), (1, 1), (1, 1), (1, 1), (1, 1), (1, 1), (1, 1), (1, 1), (1, 1), (1, 1), (1, 1), (1, 1), (1, 1), (1, 1), (1, 1), (1, 1), (1, 1)] (ab.pt0 aR) ⟨ob1 0 fun _ _ (ag : Sep _ _ _ _) _ => obl rfl (zg (k := 7) nR oR rfl rfl (CellsAt.all (ag.b1)) dR), ?_, ?_, fun _ _ _ _ _ _ ah => obl rfl (xP (ah 2 dc) dR), ?_, fun _ _ _ _ _ _ _ => obl rfl (KI rfl dR), ?_, ?_, fun _ _ _ _ _ _ ai => obl rfl (zq (v := .bool (decide (((a.cls.getD a.no.toNat default).n) = ((a.fld.moves.getD a.arg.toNat default).frm)))) (ai 7 dc) dR), ?_, ?_, ?_, ?_, ?_, ?_, ?_, ?_, ?_, ?_, ?_, ?_, ?_, ?_, ?_, ?_, fun _ _ _ _ _ _ aj => obl rfl (zv (v := .bool ((decide (((a.cls.getD a.no.toNat default).n) = ((a.fld.moves.getD a.arg.toNat default).frm))) && ((decide (((a.fld.moves.getD a.arg.toNat default).need) < 0)) || (decide (((a.fld.moves.getD a.arg.toNat default).least) ≤ ((a.cls.getD (((a.fld.moves.getD a.arg.toNat default).need).toNat) default).n)))))) (aj 24 dc) dR), trivial⟩ ?_
 refine ob1 0 fun vals _ (aU : Sep _ _ _ _) aV => (obl rfl ?_)
 refine (zL (f := 132) (vals := [.agg (a.cells da0 da1).toArray]) (cap := []) rfl (yN ⟨(aV 0 dc), trivial⟩) pR (WV (a := a) hda0 hda1 oa aU bo) ?_)
 rintro _ w31 ⟨rfl, aW⟩
 exact fun c d hv' => ⟨(And.intro d aW), trivial⟩
 refine ob1 1 fun _ _ ak _ => ?_
 obtain ⟨e, hS290⟩ := ak
 exact obl rfl (zl (b := sb da1) (o := so da1 + a.no.toNat * 2) e dR)
 refine ob1 1 fun _ _ al am => ?_
 obtain ⟨e, an⟩ := al
 refine obl rfl ?_
 have M : a.no.toNat < a.cls.length := bo
 obtain ⟨ac, J, hoke306⟩ := hda1.celD M
 have hsm308 : ((a.cls.getD a.no.toNat default).set).length * 8 ≤ 140737488355328 := J.small
 have ad := an.cells ac (hda1.foot (ne_of_lt M))
 exact lD (Iv ((a.cls.getD a.no.toNat default).n)) lT (am 3 dc) (ad.get (j := 0) rfl) dR
 refine fun E _ _ aX aY N O => ?_
 have hkk : E = 0 ∨ E = 1 := by have h1 : 0 ≤ E := aX; have h2 : E ≤ 1 := aY; omega
 rcases hkk with rfl | rfl
 have ao : Sep _ _ _ _ := N
 exact obl rfl (lD (Iv ((a.fld.moves.getD a.arg.toNat default).frm)) lT (O 5 dc) (zd (ao.b0) rfl) dR)
 obtain ⟨e, ap⟩ := N
 exact obl rfl (lD (Iv ((a.fld.moves.getD a.arg.toNat default).frm)) lT (O 5 dc) (zd (ap.b0) rfl) dR)
 refine ob1 1 fun _ _ aq P => ?_
 obtain ⟨e, hS332⟩ := aq
 exact obl rfl (zX (k := .i64) (a := (a.cls.getD a.no.toNat default).n) (b := (a.fld.moves.getD a.arg.toNat default).frm) (P 4 dc) (P 6 dc) dR)
 refine fun _ _ _ _ _ _ ar => (zz rfl rfl (ar 8 dc) (fun C => ?_) (fun C => fun c d _ => ⟨trivial, d.trans (if_neg C).symm⟩))
 have hl350 := tD C
 exact Xb rfl (fun c d _ => ⟨rfl, d.trans (if_pos C).symm⟩)
 refine ob1 1 fun _ _ au Q => ?_
 obtain ⟨e, av⟩ := au
 refine zz rfl rfl (Q 8 dc) (fun u => ?_) (fun u => fun c d _ => ⟨trivial, d.trans (if_neg u).symm⟩)
 have hl361 := tD u
 exact lD (Iv ((a.fld.moves.getD a.arg.toNat default).need)) lT (Eq.trans (Q 9 dc) (if_pos u)) (zd (av.b0) rfl) (fun c d _ => ⟨rfl, d.trans (if_pos u).symm⟩)
 refine ob1 1 fun _ _ aw R => ?_
 obtain ⟨e, hS368⟩ := aw
 refine zz rfl rfl (R 8 dc) (fun x => ?_) (fun x => fun c d _ => ⟨trivial, d.trans (if_neg x).symm⟩)
 have hl372 := tD x
 exact zJ (k := .i64) (a := (a.fld.moves.getD a.arg.toNat default).need) (b := 0) (Eq.trans (R 10 dc) (if_pos x)) rfl (fun c d _ => ⟨rfl, d.trans (if_pos x).symm⟩)
 refine fun _ _ _ _ _ _ S => (zz rfl rfl (S 8 dc) (fun y => ?_) (fun y => fun c d _ => ⟨trivial, d.trans (if_neg y).symm⟩))
 have hl382 := tD y
 exact zq (v := .bool (decide (((a.fld.moves.getD a.arg.toNat default).need) < 0))) (Eq.trans (S 11 dc) (if_pos y)) (fun c d _ => ⟨rfl, d.trans (if_pos y).symm⟩)
 refine fun _ _ _ _ _ _ ax => (yy rfl rfl (ax 12 dc) (fun z => ?_) (fun z => fun c d _ => ⟨trivial, d.trans (if_neg z).symm⟩))
 have hl391 := tD z.1
 have hl392 := fD z.2
 exact WT rfl (fun c d _ => ⟨rfl, d.trans (if_pos z).symm⟩)
 refine ob1 1 fun _ _ ay T => ?_
 obtain ⟨e, az⟩ := ay
 refine yy rfl rfl (T 12 dc) (fun l => ?_) (fun l => fun c d _ => ⟨trivial, d.trans (if_neg l).symm⟩)
 have hl403 := tD l.1
 have hl404 := fD l.2
 exact lD da1 pA (Eq.trans (T 13 dc) (if_pos ⟨l.1, l.2⟩)) (zd (az.b1) rfl) (fun c d _ => ⟨rfl, d.trans (if_pos l).symm⟩)
 refine fun _ _ _ _ _ _ aA => (yy rfl rfl (aA 12 dc) (fun A => ?_) (fun A => fun c d _ => ⟨trivial, d.trans (if_neg A).symm⟩))
 have hl413 := tD A.1
 have hl414 := fD A.2
 exact Xb rfl (fun c d _ => ⟨rfl, d.trans (if_pos A).symm⟩)
 refine ob1 1 fun _ _ aB U => ?_
 obtain ⟨e, aC⟩ := aB
 refine yy rfl rfl (U 12 dc) (fun m => ?_) (fun m => fun c d _ => ⟨trivial, d.trans (if_neg m).symm⟩)
 have hl425 := tD m.1
 have hl426 := fD m.2
 exact lD (Iv ((a.fld.moves.getD a.arg.toNat default).need)) lT (Eq.trans (U 15 dc) (if_pos ⟨m.1, m.2⟩)) (zd (aC.b0) rfl) (fun c d _ => ⟨rfl, d.trans (if_pos m).symm⟩)
 refine ob1 1 fun _ _ aD F => ?_
 obtain ⟨e, hS433⟩ := aD
 refine yy rfl rfl (F 12 dc) (fun g => ?_) (fun g => fun c d _ => ⟨trivial, d.trans (if_neg g).symm⟩)
 have hl438 := tD g.1
 have hl439 := fD g.2
 have hi440 : ((a.fld.moves.getD a.arg.toNat default).need).toNat < a.cls.length := bo
 exact zN (k := 2) (i := (a.fld.moves.getD a.arg.toNat default).need) tT wR (Eq.trans (F 14 dc) (if_pos ⟨g.1, g.2⟩)) hda1.sl (Eq.trans (F 16 dc) (if_pos ⟨g.1, g.2⟩)) ⟨by omega, by omega⟩ (fun c d _ => ⟨rfl, d.trans (if_pos g).symm⟩)
 refine fun _ _ _ _ _ _ V => (yy rfl rfl (V 12 dc) (fun p => ?_) (fun p => fun c d _ => ⟨trivial, d.trans (if_neg p).symm⟩))
 have hl450 := tD p.1
 have hl451 := fD p.2
 exact xP (Eq.trans (V 17 dc) (if_pos ⟨p.1, p.2⟩)) (fun c d _ => ⟨rfl, d.trans (if_pos p).symm⟩)
 refine ob1 1 fun _ _ aE X => ?_
 obtain ⟨e, aF⟩ := aE
 refine yy rfl rfl (X 12 dc) (fun q => ?_) (fun q => fun c d _ => ⟨trivial, d.trans (if_neg q).symm⟩)
 have hl462 := tD q.1
 have hl463 := fD q.2
 have Y : ((a.fld.moves.getD a.arg.toNat default).need).toNat < a.cls.length := bo
 obtain ⟨ae, K, hoke464⟩ := hda1.celD Y
 have hsm466 : ((a.cls.getD (((a.fld.moves.getD a.arg.toNat default).need).toNat) default).set).length * 8 ≤ 140737488355328 := K.small
 have af := aF.cells ae (hda1.foot (ne_of_lt Y))
 exact lD (Iv ((a.cls.getD (((a.fld.moves.getD a.arg.toNat default).need).toNat) default).n)) lT (Eq.trans (X 18 dc) (if_pos ⟨q.1, q.2⟩)) (af.get (j := 0) rfl) (fun c d _ => ⟨rfl, d.trans (if_pos q).symm⟩)
 refine fun _ _ _ _ _ _ aG => (yy rfl rfl (aG 12 dc) (fun B => ?_) (fun B => fun c d _ => ⟨trivial, d.trans (if_neg B).symm⟩))
 have hl476 := tD B.1
 have hl477 := fD B.2
 exact Kd rfl (fun c d _ => ⟨rfl, d.trans (if_pos B).symm⟩)
 refine ob1 1 fun _ _ aH Z => ?_
 obtain ⟨e, aI⟩ := aH
 refine yy rfl rfl (Z 12 dc) (fun s => ?_) (fun s => fun c d _ => ⟨trivial, d.trans (if_neg s).symm⟩)
 have hl488 := tD s.1
 have hl489 := fD s.2
 exact lD (Iv ((a.fld.moves.getD a.arg.toNat default).least)) lT (Eq.trans (Z 20 dc) (if_pos ⟨s.1, s.2⟩)) (zd (aI.b0) rfl) (fun c d _ => ⟨rfl, d.trans (if_pos s).symm⟩)
 refine ob1 1 fun _ _ aJ H => ?_
 obtain ⟨e, hS496⟩ := aJ
 refine yy rfl rfl (H 12 dc) (fun h => ?_) (fun h => fun c d _ => ⟨trivial, d.trans (if_neg h).symm⟩)
 have hl501 := tD h.1
 have hl502 := fD h.2
 exact xS (k := .i64) (a := (a.cls.getD (((a.fld.moves.getD a.arg.toNat default).need).toNat) default).n) (b := (a.fld.moves.getD a.arg.toNat default).least) (Eq.trans (H 19 dc) (if_pos ⟨h.1, h.2⟩)) (Eq.trans (H 21 dc) (if_pos ⟨h.1, h.2⟩)) (fun c d _ => ⟨rfl, d.trans (if_pos h).symm⟩)
 refine fun _ _ _ _ _ _ I => (zz rfl rfl (I 8 dc) (fun t => ?_) (fun t => fun c d _ => ⟨trivial, d.trans (if_neg t).symm⟩))
 have hl513 := tD t
 exact zx (b := decide (((a.fld.moves.getD a.arg.toNat default).need) < 0)) (b' := decide (((a.fld.moves.getD a.arg.toNat default).least) ≤ ((a.cls.getD (((a.fld.moves.getD a.arg.toNat default).need).toNat) default).n))) (Eq.trans (I 12 dc) (if_pos t)) (fun hbp => (Eq.trans (I 22 dc) (if_pos ⟨t, hbp⟩))) (fun c d _ => ⟨rfl, d.trans (if_pos t).symm⟩)
 exact fun _ _ _ _ _ _ aa => obl rfl (zB (b := decide (((a.cls.getD a.no.toNat default).n) = ((a.fld.moves.getD a.arg.toNat default).frm))) (b' := (decide (((a.fld.moves.getD a.arg.toNat default).need) < 0)) || (decide (((a.fld.moves.getD a.arg.toNat default).least) ≤ ((a.cls.getD (((a.fld.moves.getD a.arg.toNat default).need).toNat) default).n)))) (aa 8 dc) (fun hbp => (Eq.trans (aa 23 dc) (if_pos hbp))) dR)
 intro vals w529 aK aL
 obtain ⟨e, aM⟩ := aK
 have aZ := aL 25 dc
 refine zW (kv := [(0, .agg (a.cells da0 da1).toArray), (1, Ix b2 0), (2, .bool ((decide (((a.cls.getD a.no.toNat default).n) = ((a.fld.moves.getD a.arg.toNat default).frm))) && ((decide (((a.fld.moves.getD a.arg.toNat default).need) < 0)) || (decide (((a.fld.moves.getD a.arg.toNat default).least) ≤ ((a.cls.getD (((a.fld.moves.getD a.arg.toNat default).need).toNat) default).n)))))), (4, Ix b2 0), (5, Ix b2 3), (6, da0), (7, Ix b2 6), (8, Iv (a.arg)), (9, Ix (sb da0) (so da0 + a.arg.toNat * 4)), (10, .agg ((a.fld.moves.getD a.arg.toNat default).cells).toArray), (3, Ix D 0)]) ⟨rfl, rfl, (by exact aZ), rfl, rfl, rfl, rfl, rfl, rfl, rfl, rfl, trivial⟩ (fun ρw529 => (zb (zm ?_)))
 refine zT Tryz.results138 (show _ = (.bool ((decide (((a.cls.getD a.no.toNat default).n) = ((a.fld.moves.getD a.arg.toNat default).frm))) && ((decide (((a.fld.moves.getD a.arg.toNat default).need) < 0)) || (decide (((a.fld.moves.getD a.arg.toNat default).least) ≤ ((a.cls.getD (((a.fld.moves.getD a.arg.toNat default).need).toNat) default).n))))) : Value) from rfl) ?_
 refine ⟨?_, (aM.s2_)⟩
 unfold xD
 rw [if_neg (by decide), if_neg (by decide), if_pos rfl]
 rfl

theorem yqe {α : Sort _} {a : α} {X : Prop} (h : a ≠ a) : X := absurd rfl h
theorem yqd {p : Prop} (h : p := by simp [Instr.build, Instr.fill, Ev.cells, go_sem, Mv.cells, Fld.cells, Typ.cells, Prj.cells, Dcl.cells, Cel.cells, AskR.cells]) : p := h

structure Rul where
  may : Nat
  does : Nat
instance : Rep Rul where
  k := 2
  rd _ _ cs x := cs = [.func (.func x.may) #[] #[], .func (.func x.does) #[] #[]]
  bytes := 16
  bpos := by decide
  kpos := by decide
  len h := by rw [h]; rfl
  one h := by rw [h]; exact yf ⟨rfl, rfl, trivial⟩
  mono h _ := h
instance : Flat Rul := ⟨fun h => h⟩
def xO : List (Int × Rul) := [(1, ⟨130, 131⟩), (2, ⟨133, 134⟩), (3, ⟨135, 136⟩), (4, ⟨133, 137⟩), (5, ⟨138, 139⟩)]
theorem Xw {op : Int} (h : op ≠ 1 ∧ op ≠ 2 ∧ op ≠ 3 ∧ op ≠ 4 ∧ op ≠ 5) : zK xO op = none := by
  unfold zK
  rw [Option.map_eq_none_iff, List.find?_eq_none]
  intro p hp
  simp only [xO, List.mem_cons, List.not_mem_nil, or_false] at hp
  rcases hp with rfl | rfl | rfl | rfl | rfl <;> simp <;> omega
theorem UO {G : Nat → Prop} {W w : World} {Rs : List HP}  (hS0 : Sep G W Rs w) : Ret Tryz.prog 120 [] w (fun r w' => ∃ (m : Nat), r = (.map (some m) : Value) ∧ Sep G W ((Zw (α := Rul) m xO) :: Rs) w') := by
 refine zk (args := []) Tryz.func120 rfl rfl ?_
 refine za (R0 fun _ => st (aS (.map none) (zb (za (R0 fun _ => st (Zd ?_))))))
 intro D x
 obtain ⟨a, l⟩ : ∃ z, z = w.heap.size := ⟨_, rfl⟩; rw [← l]
 have n : Sep G W ((Zw (α := Rul) a []) :: Rs) D := (by rw [l]; exact hS0.mapNew x)
 refine st (zQ (parts' := [(0, .func (.func 130) #[] #[]), (1, .func (.func 131) #[] #[])]) (v := .agg #[.func (.func 130) #[] #[], .func (.func 131) #[] #[]]) rfl yqd (stn (xY (α := Rul) (F := fun _ => False) (x1 := (⟨130, 131⟩ : Rul)) (cs := [.func (.func 130) #[] #[], .func (.func 131) #[] #[]]) pT mT rfl rfl rfl (by decide) (n.map_ (i := 0) rfl) rfl (fun h => h) ?_)))
 intro E y p
 have o : Sep G W ((Zw (α := Rul) a (yU ([] : List (Int × Rul)) 1 (⟨130, 131⟩ : Rul))) :: Rs) E := n.mapPut (i := 0) rfl y p
 refine st (zQ (parts' := [(0, .func (.func 133) #[] #[]), (1, .func (.func 134) #[] #[])]) (v := .agg #[.func (.func 133) #[] #[], .func (.func 134) #[] #[]]) rfl yqd (stn (xY (α := Rul) (F := fun _ => False) (x1 := (⟨133, 134⟩ : Rul)) (cs := [.func (.func 133) #[] #[], .func (.func 134) #[] #[]]) pT mT rfl rfl rfl (by decide) (o.map_ (i := 0) rfl) rfl (fun h => h) ?_)))
 intro H q f
 have b : Sep G W ((Zw (α := Rul) a (yU (yU ([] : List (Int × Rul)) 1 (⟨130, 131⟩ : Rul)) 2 (⟨133, 134⟩ : Rul))) :: Rs) H := o.mapPut (i := 0) rfl q f
 refine st (zQ (parts' := [(0, .func (.func 135) #[] #[]), (1, .func (.func 136) #[] #[])]) (v := .agg #[.func (.func 135) #[] #[], .func (.func 136) #[] #[]]) rfl yqd (stn (xY (α := Rul) (F := fun _ => False) (x1 := (⟨135, 136⟩ : Rul)) (cs := [.func (.func 135) #[] #[], .func (.func 136) #[] #[]]) pT mT rfl rfl rfl (by decide) (b.map_ (i := 0) rfl) rfl (fun h => h) ?_)))
 intro A s g
 have c : Sep G W ((Zw (α := Rul) a (yU (yU (yU ([] : List (Int × Rul)) 1 (⟨130, 131⟩ : Rul)) 2 (⟨133, 134⟩ : Rul)) 3 (⟨135, 136⟩ : Rul))) :: Rs) A := b.mapPut (i := 0) rfl s g
 refine st (zQ (parts' := [(0, .func (.func 133) #[] #[]), (1, .func (.func 137) #[] #[])]) (v := .agg #[.func (.func 133) #[] #[], .func (.func 137) #[] #[]]) rfl yqd (stn (xY (α := Rul) (F := fun _ => False) (x1 := (⟨133, 137⟩ : Rul)) (cs := [.func (.func 133) #[] #[], .func (.func 137) #[] #[]]) pT mT rfl rfl rfl (by decide) (c.map_ (i := 0) rfl) rfl (fun h => h) ?_)))
 intro B t j
 have d : Sep G W ((Zw (α := Rul) a (yU (yU (yU (yU ([] : List (Int × Rul)) 1 (⟨130, 131⟩ : Rul)) 2 (⟨133, 134⟩ : Rul)) 3 (⟨135, 136⟩ : Rul)) 4 (⟨133, 137⟩ : Rul))) :: Rs) B := c.mapPut (i := 0) rfl t j
 refine st (zQ (parts' := [(0, .func (.func 138) #[] #[]), (1, .func (.func 139) #[] #[])]) (v := .agg #[.func (.func 138) #[] #[], .func (.func 139) #[] #[]]) rfl yqd (stn (xY (α := Rul) (F := fun _ => False) (x1 := (⟨138, 139⟩ : Rul)) (cs := [.func (.func 138) #[] #[], .func (.func 139) #[] #[]]) pT mT rfl rfl rfl (by decide) (d.map_ (i := 0) rfl) rfl (fun h => h) ?_)))
 intro C u k
 have e : Sep G W ((Zw (α := Rul) a (yU (yU (yU (yU (yU ([] : List (Int × Rul)) 1 (⟨130, 131⟩ : Rul)) 2 (⟨133, 134⟩ : Rul)) 3 (⟨135, 136⟩ : Rul)) 4 (⟨133, 137⟩ : Rul)) 5 (⟨138, 139⟩ : Rul))) :: Rs) C := d.mapPut (i := 0) rfl u k
 refine st (mV (.map (some a)) (st (aS (.map (some a)) (zb (zm (zT Tryz.results120 (show _ = (.map (some a) : Value) from rfl) ?_))))))
 have hz : yU (yU (yU (yU (yU ([] : List (Int × Rul)) 1 (⟨130, 131⟩ : Rul)) 2 (⟨133, 134⟩ : Rul)) 3 (⟨135, 136⟩ : Rul)) 4 (⟨133, 137⟩ : Rul)) 5 (⟨138, 139⟩ : Rul) = xO := rfl
 rw [hz] at e
 refine ⟨a, rfl, e⟩

theorem Wj {op : Int} (h : op = 1 ∨ op = 2 ∨ op = 3 ∨ op = 4 ∨ op = 5) : ∃ x, zK xO op = some x := by rcases h with rfl | rfl | rfl | rfl | rfl <;> exact ⟨_, rfl⟩
theorem Wd {op : Int} {x : Rul} (h : op = 1 ∨ op = 2 ∨ op = 3 ∨ op = 4 ∨ op = 5) (hx : zK xO op = some x) : (∀ args w, (callFunc x.may args).run Tryz.prog w = .ok (.enter x.may args) w) ∧ (∀ args w, (callFunc x.does args).run Tryz.prog w = .ok (.enter x.does args) w) := by
  rcases h with rfl | rfl | rfl | rfl | rfl <;> cases hx
  · exact ⟨Tryz.call130, Tryz.call131⟩
  · exact ⟨sA, Tryz.call134⟩
  · exact ⟨Tryz.call135, Tryz.call136⟩
  · exact ⟨sA, Tryz.call137⟩
  · exact ⟨Tryz.call138, Tryz.call139⟩
theorem zaF {G : Nat → Prop} {W w : World} {Rs : List HP} {op : Int} {x : Rul} {a : AskR} {da0 : Value} (hda0 : RdS W G da0 a.fld.moves) {da1 : Value} (hda1 : RdS W G da1 a.cls) (oa : a.Ok) (hS0 : Sep G W Rs w) (hx : zK xO op = some x) (hop : op = 1 ∨ op = 2 ∨ op = 3 ∨ op = 4 ∨ op = 5) (hak : 0 ≤ a.no ∧ a.no < a.cls.length ∧ ((op = 3 ∨ op = 4) → Asc (yj a.cls a.no).set) ∧ (op = 5 → 0 ≤ a.arg ∧ a.arg < a.fld.moves.length ∧ ((Yu a.fld a.arg).need < 0 ∨ (Yu a.fld a.arg).need < a.cls.length))) : Ret Tryz.prog x.may [.agg (a.cells da0 da1).toArray] w (fun r w' => r = (.bool (xD a.fld a.cls (yj a.cls a.no) op a.arg) : Value) ∧ Sep G W Rs w') := by
  rcases hop with rfl | rfl | rfl | rfl | rfl <;> cases hx
  · exact KO hda0 hda1 oa hS0 ⟨hak.1, hak.2.1⟩
  · exact VJ hda0 hda1 oa hS0
  · exact Kh hda0 hda1 oa hS0 ⟨hak.1, hak.2.1⟩ (hak.2.2.1 (.inl rfl))
  · exact VJ hda0 hda1 oa hS0
  · exact Qz hda0 hda1 oa hS0 ⟨hak.1, hak.2.1⟩ ⟨(hak.2.2.2 rfl).1, (hak.2.2.2 rfl).2.1⟩ (hak.2.2.2 rfl).2.2
set_option maxHeartbeats 4000000 in
theorem D_May {G : Nat → Prop} {W w : World} {Rs : List HP} {t : Typ} {dt0 : Value} (hdt0 : RdS W G dt0 t.fields) (ot : t.Ok) {vc : Value} {c : List Cel} (hc : RdS W G vc c) {f : Int} (hf : InR f) {op : Int} (hop : InR op) {arg : Int} (harg : InR arg) (hS0 : Sep G W Rs w) (hak : Vb t c f op arg) : Ret Tryz.prog 100 [.agg (t.cells dt0).toArray, vc, .int .i64 (f), .int .i64 (op), .int .i64 (arg)] w (fun r w' => r = (.int .i64 (ZW t c f op arg) : Value) ∧ Sep G W Rs w') := by
 have hdt0s : _ * 48 ≤ _ := hdt0.small
 have hcs : _ * 32 ≤ _ := hc.small
 have hf0 := hak.1; have hf1 := hak.2.1; have hf2 := hak.2.2.1
 refine zk (args := [.agg (t.cells dt0).toArray, vc, Iv f, Iv op, Iv arg]) Tryz.func100 rfl rfl ?_
 refine za (R0 fun _ => st (zS (v := .agg (t.cells dt0).toArray) rfl ?_))
 intro w3 b2 aM
 refine st (aS (Iv 0) (zb (za (za (R0 fun _ => st (cL Tryz.call120 (UO  (hS0.new aM)) ?_))))))
 rintro _ w6 ⟨Q, rfl, A⟩
 refine st (mV (Iv op) ?_)
 have hops : (op = 1 ∨ op = 2 ∨ op = 3 ∨ op = 4 ∨ op = 5) ∨ (op ≠ 1 ∧ op ≠ 2 ∧ op ≠ 3 ∧ op ≠ 4 ∧ op ≠ 5) := by omega
 rcases hops with hop | hop
 obtain ⟨rx, hrx⟩ := Wj hop
 refine st (ZQ (α := Rul) (a := rx) pT mT rfl rfl (A.map_ (i := 0) rfl) hrx ?_)
 rintro _ rfl
 refine st (mV (.tuple #[.agg #[.func (.func rx.may) #[] #[], .func (.func rx.does) #[] #[]], .bool true]) (st (zF (vs := [.agg #[.func (.func rx.may) #[] #[], .func (.func rx.does) #[] #[]], .bool true]) (i := 0) (v := .agg #[.func (.func rx.may) #[] #[], .func (.func rx.does) #[] #[]]) rfl rfl (st (zF (vs := [.agg #[.func (.func rx.may) #[] #[], .func (.func rx.does) #[] #[]], .bool true]) (i := 1) (v := .bool true) rfl rfl (st (zI mY ?_)))))))
 intro w10 b9 aN
 have R := A.new aN
 refine stn (zA (v := .agg #[.func (.func rx.may) #[] #[], .func (.func rx.does) #[] #[]]) (c' := #[.func (.func rx.may) #[] #[], .func (.func rx.does) #[] #[]]) tA rfl rfl (R.b0) (yf ⟨rfl, rfl, trivial⟩) yqc rfl ?_)
 intro w12 aF
 refine st (aS (.bool true) (zb (za ?_)))
 refine WD4 ((fun TT s => WF [fun vals u => Sep G W (s :: TT) u, fun vals u => (vals 13 = (.bool (xD (⟨((t.fields.getD f.toNat default)), c, f, arg⟩ : AskR).fld (⟨((t.fields.getD f.toNat default)), c, f, arg⟩ : AskR).cls (yj (⟨((t.fields.getD f.toNat default)), c, f, arg⟩ : AskR).cls (⟨((t.fields.getD f.toNat default)), c, f, arg⟩ : AskR).no) op (⟨((t.fields.getD f.toNat default)), c, f, arg⟩ : AskR).arg) : Value)) ∧ Sep G W (s :: TT) u]) ((Zw (α := Rul) Q xO) :: (Blk b2 (t.cells dt0).toArray 84) :: Rs) (Blk b9 #[.func (.func rx.may) #[] #[], .func (.func rx.does) #[] #[]] 180)) (AF [Vl 0 (.bool true), Vl 1 (.bool true), Vl 2 (Ix b9 0), Vl 3 (.func (.func rx.may) #[] #[]), Vl 4 (Ix b2 0), Vl 5 (dt0), Vl 6 (Iv f), Vl 7 (Ix (sb dt0) (so dt0 + f.toNat * 4)), Vl 8 (.agg ((t.fields.getD f.toNat default).cells (zC W (sb dt0) (so dt0 + f.toNat * 4 + 3))).toArray), Vl 9 (vc), Vl 10 (Iv f), Vl 11 (Iv arg), Vl 12 (.agg ((⟨((t.fields.getD f.toNat default)), c, f, arg⟩ : AskR).cells (zC W (sb dt0) (so dt0 + f.toNat * 4 + 3)) vc).toArray), fun _ => True, Vl 14 (.bool (!(xD (⟨((t.fields.getD f.toNat default)), c, f, arg⟩ : AskR).fld (⟨((t.fields.getD f.toNat default)), c, f, arg⟩ : AskR).cls (yj (⟨((t.fields.getD f.toNat default)), c, f, arg⟩ : AskR).cls (⟨((t.fields.getD f.toNat default)), c, f, arg⟩ : AskR).no) op (⟨((t.fields.getD f.toNat default)), c, f, arg⟩ : AskR).arg))), Vl 15 (.bool (!(xD (⟨((t.fields.getD f.toNat default)), c, f, arg⟩ : AskR).fld (⟨((t.fields.getD f.toNat default)), c, f, arg⟩ : AskR).cls (yj (⟨((t.fields.getD f.toNat default)), c, f, arg⟩ : AskR).cls (⟨((t.fields.getD f.toNat default)), c, f, arg⟩ : AskR).no) op (⟨((t.fields.getD f.toNat default)), c, f, arg⟩ : AskR).arg)))]) [[], [0], [0, 1], [0, 1, 2], [0, 1], [0, 1, 4], [0, 1], [0, 1, 4, 5, 6], [0, 1, 4, 5, 6, 7], [0, 1], [0, 1], [0, 1], [0, 1, 4, 5, 6, 7, 8, 9, 10, 11], (rg 13), (rg 14), (rg 15)] [13] [(0, 0), (0, 0), (0, 0), (0, 0), (0, 0), (0, 0), (0, 0), (0, 0), (0, 0), (0, 0), (0, 0), (0, 0), (0, 0), (0, 0), (1, 1), (1, 1)] (R.pt0 aF) ⟨fun _ _ _ _ _ _ _ => obl rfl (mV (.bool true) dR), fun _ _ _ _ _ _ V => obl rfl (zq (v := .bool true) (V 0 dc) dR), ?_, ?_, ?_, ?_, ?_, ?_, ?_, ?_, ?_, ?_, ?_, ?_, ?_, fun _ _ _ _ _ _ B => obl rfl (yn (v := .bool (!(xD (⟨((t.fields.getD f.toNat default)), c, f, arg⟩ : AskR).fld (⟨((t.fields.getD f.toNat default)), c, f, arg⟩ : AskR).cls (yj (⟨((t.fields.getD f.toNat default)), c, f, arg⟩ : AskR).cls (⟨((t.fields.getD f.toNat default)), c, f, arg⟩ : AskR).no) op (⟨((t.fields.getD f.toNat default)), c, f, arg⟩ : AskR).arg))) (B 1 dc) (B 14 dc) dR), trivial⟩ ?_
 refine fun _ _ _ _ _ _ X => (zz rfl rfl (X 1 dc) (fun _ => ?_) yqe)
 exact Jz rfl dR
 refine ob1 0 fun _ _ (Y : Sep _ _ _ _) C => (zz rfl rfl (C 1 dc) (fun _ => ?_) yqe)
 exact lD (.func (.func rx.may) #[] #[]) Tryz.isAgg177 (C 2 dc) (zd (Y.b0) rfl) dR
 refine fun _ _ _ _ _ _ Z => (zz rfl rfl (Z 1 dc) (fun _ => ?_) yqe)
 exact yR rfl dR
 refine ob1 0 fun _ _ (aa : Sep _ _ _ _) D => (zz rfl rfl (D 1 dc) (fun _ => ?_) yqe)
 exact lD dt0 Tryz.isAgg82 (D 4 dc) (zd (aa.b2) rfl) dR
 refine fun _ _ _ _ _ _ ab => (zz rfl rfl (ab 1 dc) (fun _ => ?_) yqe)
 exact mV (Iv f) dR
 refine ob1 0 fun _ _ _ n => (zz rfl rfl (n 1 dc) (fun _ => ?_) yqe)
 have hi224 : f.toNat < t.fields.length := (by have h1 := hak.1; have h2 := hak.2.1; have h3 := hak.2.2.1; omega)
 exact zN (k := 4) (i := f) Tryz.underlying82 sR (n 5 dc) hdt0.sl (n 6 dc) ⟨by omega, by omega⟩ dR
 refine ob1 0 fun _ _ (ac : Sep _ _ _ _) E => (zz rfl rfl (E 1 dc) (fun _ => ?_) yqe)
 have F : f.toNat < t.fields.length := (by have h1 := hak.1; have h2 := hak.2.1; have h3 := hak.2.2.1; omega)
 obtain ⟨S, x, hoke234⟩ := hdt0.fldD F
 have hsm236 : ((t.fields.getD f.toNat default).moves).length * 32 ≤ 140737488355328 := x.small
 have T := ac.cells S (hdt0.foot (ne_of_lt F))
 exact zg (k := 4) Tryz.isAgg88 sR rfl (E 7 dc) T dR
 refine fun _ _ _ _ _ _ ad => (zz rfl rfl (ad 1 dc) (fun _ => ?_) yqe)
 exact mV vc dR
 refine fun _ _ _ _ _ _ ae => (zz rfl rfl (ae 1 dc) (fun _ => ?_) yqe)
 exact mV (Iv f) dR
 refine fun _ _ _ _ _ _ af => (zz rfl rfl (af 1 dc) (fun _ => ?_) yqe)
 exact mV (Iv arg) dR
 refine fun _ _ _ _ _ _ e => (zz rfl rfl (e 1 dc) (fun _ => ?_) yqe)
 have ag : f.toNat < t.fields.length := (by have h1 := hak.1; have h2 := hak.2.1; have h3 := hak.2.2.1; omega)
 obtain ⟨hce270, y, l⟩ := hdt0.fldD ag
 have hsm272 : ((t.fields.getD f.toNat default).moves).length * 32 ≤ 140737488355328 := y.small
 have ok273 : AskR.Ok (⟨((t.fields.getD f.toNat default)), c, f, arg⟩ : AskR) := ⟨⟨(show InR ((t.fields.getD f.toNat default).kind) from l.kind), (show InR ((t.fields.getD f.toNat default).policy) from l.policy)⟩, (show InR (f) from om), (show InR (arg) from om)⟩
 exact zQ (parts' := [(0, .agg ((t.fields.getD f.toNat default).cells (zC W (sb dt0) (so dt0 + f.toNat * 4 + 3))).toArray), (1, vc), (2, Iv f), (3, Iv arg)]) (v := .agg ((⟨((t.fields.getD f.toNat default)), c, f, arg⟩ : AskR).cells (zC W (sb dt0) (so dt0 + f.toNat * 4 + 3)) vc).toArray) (xH ⟨rfl, (e 8 (by decide)), rfl, (e 9 (by decide)), rfl, (e 10 (by decide)), rfl, (e 11 (by decide)), trivial⟩) (by obtain ⟨_, _, ah, _⟩ := hc.sl; rw [show vc = Value.slice _ _ _ from ah]; simp [Instr.build, Instr.fill, Ev.cells, go_sem, Mv.cells, Fld.cells, Typ.cells, Prj.cells, Dcl.cells, Cel.cells, AskR.cells]) dR
 refine ob1 0 fun vals _ (H : Sep _ _ _ _) o => (zz rfl rfl (o 1 dc) (fun _ => ?_) yqe)
 have I : f.toNat < t.fields.length := (by have h1 := hak.1; have h2 := hak.2.1; have h3 := hak.2.2.1; omega)
 obtain ⟨U, j, m⟩ := hdt0.fldD I
 have hsm140 : ((t.fields.getD f.toNat default).moves).length * 32 ≤ 140737488355328 := j.small
 have hcw141 := H.cells U (hdt0.foot (ne_of_lt I))
 have ai : AskR.Ok (⟨((t.fields.getD f.toNat default)), c, f, arg⟩ : AskR) := ⟨⟨(show InR ((t.fields.getD f.toNat default).kind) from m.kind), (show InR ((t.fields.getD f.toNat default).policy) from m.policy)⟩, (show InR (f) from om), (show InR (arg) from om)⟩
 refine (zL (f := rx.may) (vals := [.agg ((⟨((t.fields.getD f.toNat default)), c, f, arg⟩ : AskR).cells (zC W (sb dt0) (so dt0 + f.toNat * 4 + 3)) vc).toArray]) (cap := []) (show _ = (.func (.func rx.may) #[] #[] : Value) from (o 3 dc)) (yN ⟨(o 12 dc), trivial⟩) (Wd hop hrx).1 (zaF (a := (⟨((t.fields.getD f.toNat default)), c, f, arg⟩ : AskR)) j hc ai H (hrx) (hop) (⟨hak.1, hak.2.2.1, hak.2.2.2.1, hak.2.2.2.2⟩)) ?_)
 rintro _ w143 ⟨rfl, aj⟩
 exact fun b d aO => ⟨(And.intro d aj), trivial⟩
 refine ob1 1 fun _ _ ak al => ?_
 obtain ⟨J, hS281⟩ := ak
 refine zz rfl rfl (al 1 dc) (fun _ => ?_) yqe
 exact yK (a := xD (⟨((t.fields.getD f.toNat default)), c, f, arg⟩ : AskR).fld (⟨((t.fields.getD f.toNat default)), c, f, arg⟩ : AskR).cls (yj (⟨((t.fields.getD f.toNat default)), c, f, arg⟩ : AskR).cls (⟨((t.fields.getD f.toNat default)), c, f, arg⟩ : AskR).no) op (⟨((t.fields.getD f.toNat default)), c, f, arg⟩ : AskR).arg) J dR
 intro vals w291 am an
 obtain ⟨J, K⟩ := am
 have aJ := an 15 dc
 refine zW (kv := [(0, .agg (t.cells dt0).toArray), (1, vc), (2, Iv f), (3, Iv op), (4, Iv arg), (5, Ix b2 0), (10, Iv 0), (14, .map (some Q)), (15, Iv op), (16, .tuple #[.agg #[.func (.func rx.may) #[] #[], .func (.func rx.does) #[] #[]], .bool true]), (13, .tuple #[.agg #[.func (.func rx.may) #[] #[], .func (.func rx.does) #[] #[]], .bool true]), (17, .agg #[.func (.func rx.may) #[] #[], .func (.func rx.does) #[] #[]]), (18, .bool true), (11, Ix b9 0), (12, .bool true), (34, .bool (!(xD (⟨((t.fields.getD f.toNat default)), c, f, arg⟩ : AskR).fld (⟨((t.fields.getD f.toNat default)), c, f, arg⟩ : AskR).cls (yj (⟨((t.fields.getD f.toNat default)), c, f, arg⟩ : AskR).cls (⟨((t.fields.getD f.toNat default)), c, f, arg⟩ : AskR).no) op (⟨((t.fields.getD f.toNat default)), c, f, arg⟩ : AskR).arg)))]) ⟨rfl, rfl, rfl, rfl, rfl, rfl, rfl, rfl, rfl, rfl, rfl, rfl, rfl, rfl, rfl, (by exact aJ), trivial⟩ (fun ρw291 => (zb ?_))
 cases h : !(xD (⟨((t.fields.getD f.toNat default)), c, f, arg⟩ : AskR).fld (⟨((t.fields.getD f.toNat default)), c, f, arg⟩ : AskR).cls (yj (⟨((t.fields.getD f.toNat default)), c, f, arg⟩ : AskR).cls (⟨((t.fields.getD f.toNat default)), c, f, arg⟩ : AskR).no) op (⟨((t.fields.getD f.toNat default)), c, f, arg⟩ : AskR).arg)
 try simp only [zh] at h
 refine zf rfl (zn (za (R0 fun _ => st (aS (Iv 0) (zb (zm (zT nY (show _ = (Iv 0 : Value) from rfl) ?_)))))))
 refine ⟨?_, (K.s3_)⟩
 have hm : xD (xb t f) c (yj c f) op arg = true := h
 unfold ZW
 rw [hm]
 rfl
 try simp only [zh] at h
 refine zi rfl (za (R0 fun _ => st (aS (Iv 10) (zb (zm (zT nY (show _ = (Iv 10 : Value) from rfl) ?_))))))
 refine ⟨?_, (K.s3_)⟩
 have hm : xD (xb t f) c (yj c f) op arg = false := h
 unfold ZW
 rw [hm]
 rfl
 refine st (ZT (α := Rul) (zc := [.nilFunc, .nilFunc]) pT mT mY rfl rfl (A.map_ (i := 0) rfl) (Xw hop) (st (mV (.tuple #[.agg #[.nilFunc, .nilFunc], .bool false]) (st (zF (vs := [.agg #[.nilFunc, .nilFunc], .bool false]) (i := 0) (v := .agg #[.nilFunc, .nilFunc]) rfl rfl (st (zF (vs := [.agg #[.nilFunc, .nilFunc], .bool false]) (i := 1) (v := .bool false) rfl rfl (st (zI mY ?_)))))))))
 intro w301 z ao
 have L := A.new ao
 refine stn (zA (v := .agg #[.nilFunc, .nilFunc]) (c' := #[.nilFunc, .nilFunc]) tA rfl rfl (L.b0) (yf ⟨rfl, rfl, trivial⟩) yqc rfl ?_)
 intro w303 ap
 refine st (aS (.bool false) (zb (za (WD4 ((fun TT s => WF [fun vals u => Sep G W (s :: TT) u, fun vals u => Sep G W (s :: TT) u]) ((Zw (α := Rul) Q xO) :: (Blk b2 (t.cells dt0).toArray 84) :: Rs) (Blk z #[.nilFunc, .nilFunc] 180)) (AF [Vl 0 (.bool false), Vl 1 (.bool false), Vl 2 (undef), Vl 3 (undef), Vl 4 (undef), Vl 5 (undef), Vl 6 (undef), Vl 7 (undef), Vl 8 (undef), Vl 9 (undef), Vl 10 (undef), Vl 11 (undef), Vl 12 (undef), fun _ => True, Vl 14 (undef), Vl 15 (.bool false)]) [[], [0], [0, 1], [0, 1, 2], [0, 1], [0, 1, 4], [0, 1], [0, 1, 4, 5, 6], [0, 1, 4, 5, 6, 7], [0, 1], [0, 1], [0, 1], [0, 1, 4, 5, 6, 7, 8, 9, 10, 11], (rg 13), (rg 14), (rg 15)] [13] [(0, 0), (0, 0), (0, 0), (0, 0), (0, 0), (0, 0), (0, 0), (0, 0), (0, 0), (0, 0), (0, 0), (0, 0), (0, 0), (0, 0), (1, 1), (1, 1)] (L.pt0 ap) ⟨fun _ _ _ _ _ _ _ => obl rfl (mV (.bool false) dR), fun _ _ _ _ _ _ aq => obl rfl (zq (v := .bool false) (aq 0 dc) dR), ?_, ?_, ?_, ?_, ?_, ?_, ?_, ?_, ?_, ?_, ?_, ?_, ?_, ?_, trivial⟩ ?_))))
 exact fun _ _ _ _ _ _ ar => (zz rfl rfl (ar 1 dc) (fun hb => absurd hb dc) (fun _ b d _ => ⟨trivial, d⟩))
 refine ob1 0 fun _ _ _ M => ?_
 have e463 := M 2 dc
 exact zz rfl rfl (M 1 dc) (fun hb => absurd hb dc) (fun _ b d _ => ⟨trivial, d⟩)
 exact fun _ _ _ _ _ _ au => (zz rfl rfl (au 1 dc) (fun hb => absurd hb dc) (fun _ b d _ => ⟨trivial, d⟩))
 refine ob1 0 fun _ _ _ N => ?_
 have e479 := N 4 dc
 exact zz rfl rfl (N 1 dc) (fun hb => absurd hb dc) (fun _ b d _ => ⟨trivial, d⟩)
 exact fun _ _ _ _ _ _ av => (zz rfl rfl (av 1 dc) (fun hb => absurd hb dc) (fun _ b d _ => ⟨trivial, d⟩))
 refine ob1 0 fun _ _ _ p => ?_
 have e495 := p 5 dc
 have e496 := p 6 dc
 exact zz rfl rfl (p 1 dc) (fun hb => absurd hb dc) (fun _ b d _ => ⟨trivial, d⟩)
 refine ob1 0 fun _ _ _ O => ?_
 have e505 := O 7 dc
 exact zz rfl rfl (O 1 dc) (fun hb => absurd hb dc) (fun _ b d _ => ⟨trivial, d⟩)
 exact fun _ _ _ _ _ _ aw => (zz rfl rfl (aw 1 dc) (fun hb => absurd hb dc) (fun _ b d _ => ⟨trivial, d⟩))
 exact fun _ _ _ _ _ _ ax => (zz rfl rfl (ax 1 dc) (fun hb => absurd hb dc) (fun _ b d _ => ⟨trivial, d⟩))
 exact fun _ _ _ _ _ _ ay => (zz rfl rfl (ay 1 dc) (fun hb => absurd hb dc) (fun _ b d _ => ⟨trivial, d⟩))
 refine fun _ _ _ _ _ _ g => ?_
 have e534 := g 8 dc
 have e535 := g 9 dc
 have e536 := g 10 dc
 have e537 := g 11 dc
 exact zz rfl rfl (g 1 dc) (fun hb => absurd hb dc) (fun _ b d _ => ⟨trivial, d⟩)
 refine ob1 0 fun _ aK (az : Sep _ _ _ _) q => ?_
 have e417 := q 3 dc
 have e418 := q 12 dc
 refine zz rfl rfl (q 1 dc) (fun hb => absurd hb dc) (fun _ b d aO => ?_)
 refine ⟨?_, trivial⟩
 show Sep G W ((Blk z #[.nilFunc, .nilFunc] 180) :: (Zw (α := Rul) Q xO) :: (Blk b2 (t.cells dt0).toArray 84) :: Rs) aK
 exact az
 exact ob1 1 fun _ _ _ aA => (zz rfl rfl (aA 1 dc) (fun hb => absurd hb dc) (fun _ b d _ => ⟨trivial, d⟩))
 refine fun _ _ _ _ _ _ P => ?_
 have e553 := P 14 dc
 exact obl rfl (yd (v := .bool false) (P 1 dc) rfl dR)
 intro vals w554 aB aC
 have aD : Sep _ _ _ _ := aB
 have aL := aC 15 dc
 refine zW (kv := [(0, .agg (t.cells dt0).toArray), (1, vc), (2, Iv f), (3, Iv op), (4, Iv arg), (5, Ix b2 0), (10, Iv 0), (14, .map (some Q)), (15, Iv op), (16, .tuple #[.agg #[.nilFunc, .nilFunc], .bool false]), (13, .tuple #[.agg #[.nilFunc, .nilFunc], .bool false]), (17, .agg #[.nilFunc, .nilFunc]), (18, .bool false), (11, Ix z 0), (12, .bool false), (34, .bool false)]) ⟨rfl, rfl, rfl, rfl, rfl, rfl, rfl, rfl, rfl, rfl, rfl, rfl, rfl, rfl, rfl, (by exact aL), trivial⟩ (fun ρw554 => (zb (zf rfl (zn (za (R0 fun _ => st (aS (Iv 0) (zb (zm (zT nY (show _ = (Iv 0 : Value) from rfl) ?_))))))))))
 refine ⟨?_, (aD.s3_)⟩
 have hm : xD (xb t f) c (yj c f) op arg = true := by unfold xD; rw [if_neg hop.1, if_neg hop.2.2.1, if_neg hop.2.2.2.2]
 unfold ZW
 rw [hm]
 rfl

end Go.Proofs.YtojlbibionhdjaaGreatDoor
namespace Go.Proofs.YtojlbibionhdjaaGreatDoor
open Go.Proofs Go.Shelf

def Ka : Go.Shelf.Ren := ⟨fun | 21 => 145 | 27 => 150 | 28 => 151 | 35 => 153 | 39 => 154 | 23 => 146 | n => n, fun | 0 => 0 | 3 => 3 | 4 => 4 | 22 => 62 | n => n, fun | n => n⟩
theorem zag : Go.Proofs.Lays2.n21 Tryz.prog Ka := {
  mixed := by kernel_rfl,
  f21 := Tryz.func145.trans (congrArg some (by kernel_rfl)),
  f27 := Tryz.func150.trans (congrArg some (by kernel_rfl)),
  f28 := Tryz.func151.trans (congrArg some (by kernel_rfl)),
  f35 := Tryz.func153.trans (congrArg some (by kernel_rfl)),
  f39 := Tryz.func154.trans (congrArg some (by kernel_rfl)),
  t0 := uA,
  a0 := vA,
  z0 := wA,
  v0 := kB,
  t3 := mT,
  a3 := lT,
  z3 := kT,
  v3 := vR,
  t4 := uR,
  a4 := qR,
  z4 := qT,
  v4 := lB,
  t22 := nT,
  a22 := rR,
  z22 := wT,
  v22 := mB,
  i3 := by kernel_rfl
}
theorem zaV : Go.Proofs.Lays2.n23 Tryz.prog Ka := {
  mixed := by kernel_rfl,
  f23 := Tryz.func146.trans (congrArg some (by kernel_rfl)),
  t0 := uA,
  a0 := vA,
  z0 := wA,
  v0 := kB,
  t3 := mT,
  a3 := lT,
  z3 := kT,
  v3 := vR,
  t4 := uR,
  a4 := qR,
  z4 := qT,
  v4 := lB,
  t22 := nT,
  a22 := rR,
  z22 := wT,
  v22 := mB,
  i3 := by kernel_rfl
}
end Go.Proofs.YtojlbibionhdjaaGreatDoor
namespace Go.Proofs.YtojlbibionhdjaaGreatDoor
open Go.RowKit Go.Sort

structure Wr (w w' : World) (b : Nat) (c' : List Value) (T : TypeId) : Prop where
  at_ : ∃ a : Array Value, a.toList = c' ∧ w'.heap[b]? = some (.cells a T)
  other : ∀ i, i ≠ b → w'.heap[i]? = w.heap[i]?
  size : w'.heap.size = w.heap.size
  os : w'.os = w.os
  tape : w'.tape = w.tape
  output : w'.output = w.output
  drawn : w.drawn ≤ w'.drawn
theorem Wr.trans {w1 w2 w3 : World} {b : Nat} {c c' : List Value} {T : TypeId} (h : Wr w1 w2 b c T) (k : Wr w2 w3 b c' T) : Wr w1 w3 b c' T :=
  ⟨k.at_, fun i hi => (k.other i hi).trans (h.other i hi), k.size.trans h.size, k.os.trans h.os, k.tape.trans h.tape, k.output.trans h.output, Nat.le_trans h.drawn k.drawn⟩
theorem Wr.drew {w : World} {b : Nat} {a : Array Value} {T : TypeId} (h : w.heap[b]? = some (.cells a T)) : Wr w w.drew b a.toList T := ⟨⟨a, rfl, h⟩, fun _ _ => rfl, rfl, rfl, rfl, rfl, Nat.le_succ _⟩
theorem Wr.ahead {w : World} {b q : Nat} {a : Array Value} {T : TypeId} (h : w.heap[b]? = some (.cells a T)) : Wr w (Sort.ahead w q) b a.toList T := ⟨⟨a, rfl, h⟩, fun _ _ => rfl, rfl, rfl, rfl, rfl, Nat.le_add_right _ _⟩
theorem Wr.chg {w w' : World} {b : Nat} {c : List Value} {T : TypeId} (h : Wr w w' b c T) {c0 : Array Value} (h0 : w.heap[b]? = some (.cells c0 T)) : Chg (fun i => i = b) w w' :=
  ⟨h.os, h.tape, h.output, Nat.le_of_eq h.size.symm, fun i _ hne => h.other i hne, fun i ⟨a, t, hi⟩ => by
    by_cases e : i = b
    · subst e; obtain ⟨z, _, hz⟩ := h.at_; exact ⟨z, T, hz⟩
    · exact ⟨a, t, by rw [h.other i e]; exact hi⟩, h.drawn⟩
theorem Uj {w : World} {b o : Nat} {a : Array Value} {T : TypeId} (h : w.heap[b]? = some (.cells a T)) (v : Value) : Wr w (w.setCell ⟨b, o, none⟩ v) b (a.toList.set o v) T := by
  refine ⟨⟨a.setIfInBounds o v, by simp, ?_⟩, fun i hi => ?_, by simp [World.setCell], rfl, rfl, rfl, Nat.le_refl _⟩
  · simp [World.setCell, Array.getElem?_modify, h]
  · simp only [World.setCell, Array.getElem?_modify]; rw [if_neg (fun e => hi e.symm)]
def Kj (c : List Value) (o : Nat) : List Value → List Value
  | [] => c
  | v :: vs => Kj (c.set o v) (o + 1) vs
theorem yY {b : Nat} {T : TypeId} : ∀ (vs : List Value) (o : Nat) (w : World) (a : Array Value), w.heap[b]? = some (.cells a T) → Wr w (w.setCells b o vs) b (Kj a.toList o vs) T
  | [], _, w, a, h => ⟨⟨a, rfl, h⟩, fun _ _ => rfl, rfl, rfl, rfl, rfl, Nat.le_refl _⟩
  | v :: vs, o, w, a, h => by
    have h1 := Uj (o := o) h v
    obtain ⟨a1, e1, h2⟩ := h1.at_
    have h3 := yY vs (o + 1) _ a1 h2
    rw [e1] at h3
    exact h1.trans h3
theorem Zm : ∀ (vs : List Value) (o : Nat) (c : List Value), o + vs.length ≤ c.length → Kj c o vs = c.take o ++ vs ++ c.drop (o + vs.length)
  | [], o, c, _ => by simp [Kj]
  | v :: vs, o, c, h => by
    simp only [List.length_cons] at h
    rw [Kj, Zm vs (o + 1) (c.set o v) (by simp; omega)]
    have e1 : (c.set o v).take (o + 1) = c.take o ++ [v] := by
      rw [List.take_set, List.take_succ_eq_append_getElem (by omega), List.set_append_right _ _ (by simp; omega), List.length_take, Nat.min_eq_left (by omega), Nat.sub_self]; rfl
    have e2 : (c.set o v).drop (o + 1 + vs.length) = c.drop (o + 1 + vs.length) := by rw [List.drop_set_of_lt (by omega)]
    rw [e1, e2, List.length_cons, show o + 1 + vs.length = o + (vs.length + 1) by omega]
    simp only [List.append_assoc, List.cons_append, List.nil_append]

section
variable {G : Nat → Prop} {W w : World} {Rs : List HP} {Ti : TypeId} {v : Value} {l : List Int}
def yu (l : List Int) : List Value := l.map fun x => Value.int .i64 x
theorem Wh {q : List Value → Int → Prop} (hq : ∀ cs x, q cs x → cs = [.int .i64 x]) : ∀ {css : List (List Value)} {l : List Int}, EP q css l → css.flatten = yu l
  | [], [], _ => rfl
  | _ :: _, _ :: _, h => by rw [List.flatten_cons, hq _ _ h.1, Wh hq h.2]; rfl
  | [], _ :: _, h => h.elim
  | _ :: _, [], h => h.elim
theorem VV {q : List Value → Int → Prop} : ∀ {l : List Int}, (∀ x ∈ l, q [.int .i64 x] x) → EP q (l.map fun x => [Value.int .i64 x]) l
  | [], _ => trivial
  | x :: l, h => ⟨h x (by simp), VV (fun y hy => h y (by simp [hy]))⟩
theorem Yp (l : List Int) : (l.map fun x => [Value.int .i64 x]).flatten = yu l := by
  induction l with
  | nil => rfl
  | cons x l ih => simp [yu] at *; exact ih
theorem Sep.intRow (h : Sep G W (RowE (α := Int) own Ti v l :: Rs) w) : (∀ x ∈ l, InR x) ∧ l.length * 8 ≤ 140737488355328 ∧ ((v = .slice none 0 0 ∧ l = []) ∨ ∃ g cap cur, v = .slice (some ⟨g, 0, none⟩) l.length cap ∧ w.heap[g]? = some (.cells cur Ti) ∧ l.length ≤ cap ∧ cap ≤ maxLen ∧ cur.size = cap ∧ cur.toList.take l.length = yu l ∧
    ∀ w' v' (l' : List Int) cur', Wr w w' g cur' Ti → v' = .slice (some ⟨g, 0, none⟩) l'.length cap → l'.length ≤ cap → cur'.length = cap → cur'.take l'.length = yu l' → (∀ x ∈ l', InR x) → l'.length * 8 ≤ 140737488355328 → Sep G W (RowE (α := Int) own Ti v' l' :: Rs) w') := by
  obtain ⟨f, hA, hl, hT⟩ := h.take (i := 0) rfl
  obtain ⟨css, hE, hown, hrow, hsm⟩ := hA
  have hin : ∀ x ∈ l, InR x := by
    intro x hx
    obtain ⟨i, hi, rfl⟩ := List.getElem_of_mem hx
    exact (EP.at2 hE i (by rw [hE.length]; exact hi) hi).2
  refine ⟨hin, hsm, ?_⟩
  have hcf : css.flatten = yu l := Wh (fun cs x h => h.1) hE
  rcases hown.2 with ⟨rfl, h0⟩ | ⟨g, cap, cur, rfl, hg, hb, hn, hm, hs, ht⟩
  · exact .inl ⟨rfl, List.length_eq_zero_iff.1 h0⟩
  · have hk : Rep.k Int = 1 := rfl
    rw [hk, Nat.mul_one] at hs ht
    refine .inr ⟨g, cap, cur, rfl, hb, hn, hm, hs, by rw [ht, hcf], fun w' v' l' cur' hw hv' hl' hc' ht' hin' hsm' => ?_⟩
    obtain ⟨a, ha, hat⟩ := hw.at_
    refine hT w' _ f ((hw.chg hb).weak (fun i _ hi => by subst hi; exact hrow _ rfl)) ⟨l'.map fun x => [Value.int .i64 x], VV (fun x hx => ⟨rfl, hin' x hx⟩), ⟨by rw [Yp]; simp [yu, hk], .inr ⟨g, cap, a, hv', hg, hat, hl', hm, ?_, ?_⟩⟩, fun b hb' => ?_, hsm'⟩ (fun _ h => .inl h)
    · rw [hk, Nat.mul_one, ← hc', ← ha]; simp
    · rw [hk, Nat.mul_one, Yp, ← ht', ← ha]
    · subst hv'; exact hrow b hb'
theorem Sep.intNew (h : Sep G W Rs w) {w' : World} {cap : Nat} {cur' : List Value} {l' : List Int} {c0 : Array Value} {w1 : World} (hn : New w w1 w.heap.size (.cells c0 Ti)) (hw : Wr w1 w' w.heap.size cur' Ti) (hl' : l'.length ≤ cap) (hc' : cur'.length = cap) (hm : cap ≤ maxLen) (ht' : cur'.take l'.length = yu l') (hin' : ∀ x ∈ l', InR x) (hsm' : l'.length * 8 ≤ 140737488355328) :
    Sep G W (RowE (α := Int) own Ti (.slice (some ⟨w.heap.size, 0, none⟩) l'.length cap) l' :: Rs) w' := by
  obtain ⟨a, ha, hat⟩ := hw.at_
  have hk : Rep.k Int = 1 := rfl
  have hx : Ext w w' := hn.ext.new (hw.chg hn.at_) (fun i hi e => by omega)
  refine h.push hx (f := fun b => b = w.heap.size) ⟨l'.map fun x => [Value.int .i64 x], VV (fun x hx => ⟨rfl, hin' x hx⟩), ⟨by rw [Yp]; simp [yu, hk], .inr ⟨w.heap.size, cap, a, rfl, Nat.zero_le _, hat, hl', hm, ?_, ?_⟩⟩, fun b hb' => ?_, hsm'⟩ (fun b h => by omega)
  · rw [hk, Nat.mul_one, ← hc', ← ha]; simp
  · rw [hk, Nat.mul_one, Yp, ← ht', ← ha]
  · simp only [Value.ownBlock, Option.some.injEq] at hb'; exact hb'.symm
theorem Sep.intNew' (h : Sep G W Rs w) {w' : World} {cap : Nat} {l' : List Int} {c0 : Array Value} (hn : New w w' w.heap.size (.cells c0 Ti)) (hl' : l'.length ≤ cap) (hc' : c0.toList.length = cap) (hm : cap ≤ maxLen) (ht' : c0.toList.take l'.length = yu l') (hin' : ∀ x ∈ l', InR x) (hsm' : l'.length * 8 ≤ 140737488355328) :
    Sep G W (RowE (α := Int) own Ti (.slice (some ⟨w.heap.size, 0, none⟩) l'.length cap) l' :: Rs) w' :=
  h.intNew hn ⟨⟨c0, rfl, hn.at_⟩, fun _ _ => rfl, rfl, rfl, rfl, rfl, Nat.le_refl _⟩ hl' hc' hm ht' hin' hsm'
theorem UE {w : World} {b o : Nat} {a : Array Value} {T : TypeId} {u : Value} (h : w.heap[b]? = some (.cells a T)) (hu : a.toList[o]? = some u) : w.cell? ⟨b, o, none⟩ = some u := xp h (by simpa using hu)
theorem Vm (l : List Int) : ∀ u ∈ yu l, u.oneCell' = true := by
  intro u hu; simp only [yu, List.mem_map] at hu; obtain ⟨x, _, rfl⟩ := hu; rfl
theorem QF (a b : List Int) : yu (a ++ b) = yu a ++ yu b := by simp [yu]
theorem yp (a : List Int) : (yu a).length = a.length := by simp [yu]
theorem Ks (n : Nat) : (Builtin.zeroCells (Value.int .i64 0).cells n).toList.length = n := by simp [Builtin.zeroCells, Value.cells]
theorem Uq (w : World) (o : Obj) : New w (w.alloc o) w.heap.size o := New.mk' w o
theorem Qu (w : World) (o : Obj) : New w (w.drew.alloc o) w.heap.size o :=
  have h : New w.drew (w.drew.alloc o) w.heap.size o := New.mk' w.drew o
  ⟨Chg.trans (Yi (w0 := w.drew) rfl rfl rfl ⟨rfl, Nat.le_succ _⟩) h.ext, h.eq, h.size, h.at_⟩

set_option maxHeartbeats 1000000 in
theorem Jj {P : Program} {ρ : Go.Shelf.Ren} (L : Go.Proofs.Lays2.n21 P ρ) {i b : Nat} {x : Int} (hTi : ρ.t 3 = Ti) (hS0 : Sep G W (RowE (α := Int) own Ti v l :: Blk b #[.int .i64 x] Ti :: Rs) w) (hi : i ≤ l.length) (hx : InR x) (hbig : (l.length + 1) * 8 ≤ 140737488355328) :
    Ret P (ρ.f 21) [v, .int .i64 ((i : Nat) : Int), .slice (some ⟨b, 0, none⟩) 1 1] w (fun r w' => Sep G W (RowE (α := Int) own Ti r (l.take i ++ x :: l.drop i) :: Rs) w') := by
  have hb := hS0.blk (i := 1) rfl
  have hvs : ∀ j u, [Value.int .i64 x][j]? = some u → w.cell? ⟨b, 0 + j, none⟩ = some u := fun j u hu => by rw [Nat.zero_add]; exact UE hb hu
  have h1v : ∀ u ∈ [Value.int .i64 x], u.oneCell' = true := by intro u hu; simp at hu; subst hu; rfl
  have hS : Sep G W (RowE (α := Int) own Ti v l :: Rs) w := hS0.sel 2 [0] (Nat.le_add_left _ _) rfl rfl
  have hR : Sep G W Rs w := hS.sel 1 [] (Nat.le_add_left _ _) rfl rfl
  obtain ⟨hin, hsm, hc⟩ := hS.intRow
  have hin' : ∀ y ∈ l.take i ++ x :: l.drop i, InR y := by
    intro y hy
    rcases List.mem_append.1 hy with h | h
    · exact hin y (List.mem_of_mem_take h)
    · rcases List.mem_cons.1 h with rfl | h
      · exact hx
      · exact hin y (List.mem_of_mem_drop h)
  have hlen : (l.take i ++ x :: l.drop i).length = l.length + 1 := by simp; omega
  have hsm' : (l.take i ++ x :: l.drop i).length * 8 ≤ 140737488355328 := by rw [hlen]; exact hbig
  have hml : l.length + 1 ≤ maxLen := by unfold maxLen; omega
  have henc : yu (l.take i ++ x :: l.drop i) = yu (l.take i) ++ [.int .i64 x] ++ yu (l.drop i) := by simp [yu]
  have hend : i = l.length → yu (l.take i ++ x :: l.drop i) = yu l ++ [.int .i64 x] := fun e => by subst e; rw [henc, List.take_length, List.drop_length]; simp [yu]
  have grow : ∀ (base : Option Addr) (c : Nat), v = .slice base l.length c → i = l.length → c < l.length + 1 → l.length ≤ c → (base = none → l.length = 0) → (∀ a, base = some a → ∀ j u, (yu l)[j]? = some u → w.cell? (a.add j) = some u) →
      Ret P (ρ.f 21) [v, .int .i64 ((i : Nat) : Int), .slice (some ⟨b, 0, none⟩) 1 1] w (fun r w' => Sep G W (RowE (α := Int) own Ti r (l.take i ++ x :: l.drop i) :: Rs) w') := by
    intro base c hv hil hcl hlc hnil hcs
    have h := Any2.slices_Insert_int_end_grow L base l.length c b 0 1 1 (yu l) [.int .i64 x] w (by omega) hlc hcl hbig (yp l) rfl hnil hcs hvs h1v
    subst hv
    refine Calls.mono (by subst hil; exact h) ?_
    rintro e w' ⟨rfl, rfl⟩
    refine ⟨_, rfl, ?_⟩
    rw [hTi]
    have hg := grownCap_ge w (l.length + 1) c Ti
    have hgm := grownCap_le_maxLen w (l.length + 1) c Ti hml
    have hn := Qu w (.cells ((yu l ++ [Value.int .i64 x]).toArray ++ Builtin.zeroCells (Value.int .i64 0).cells (grownCap w (l.length + 1) c Ti - (l.length + 1))) Ti)
    have := hR.intNew' hn (cap := grownCap w (l.length + 1) c Ti) (l' := l.take i ++ x :: l.drop i) (by rw [hlen]; exact hg) ?_ hgm ?_ hin' hsm'
    · rw [hlen] at this; exact this
    · simp only [Array.toList_append, List.length_append, yp, Ks, List.length_cons, List.length_nil]; omega
    · rw [hlen, hend hil]
      simp only [Array.toList_append]
      rw [List.take_append_of_le_length (by simp [yp])]
      exact List.take_of_length_le (by simp [yp])
  rcases hc with ⟨rfl, rfl⟩ | ⟨g, cap, cur, rfl, hg, hlc, hcm, hcs, ht, back⟩
  · exact grow none 0 rfl (by simpa using hi) (by simp) (by simp) (fun _ => rfl) (fun a h => by cases h)
  · have hne : b ≠ g := by
      obtain ⟨f1, f2, hA, hB, hd, _, _⟩ := hS0.apart2 (i := 0) (j := 1) rfl rfl (by decide)
      obtain ⟨_, _, _, hrow, _⟩ := hA
      exact fun e => hd g (hrow g rfl) (e ▸ hB.2)
    have hcells : ∀ j u, (yu l)[j]? = some u → w.cell? ⟨g, 0 + j, none⟩ = some u := fun j u hu => by
      rw [Nat.zero_add]
      refine UE hg ?_
      rw [← ht, List.getElem?_take] at hu
      split at hu
      · exact hu
      · cases hu
    have hlc' : cur.toList.length = cap := by simpa using hcs
    have hcell : ∀ j, j < cap → (w.cell? ⟨g, 0 + j, none⟩).isSome = true := fun j hj => by
      rw [Nat.zero_add, UE hg (List.getElem?_eq_getElem (by omega))]; rfl
    have hfz : ∀ j, w.frozen? ⟨g, j, none⟩ = false := fun j => by simp [World.frozen?, hg]
    by_cases hil : i = l.length
    · by_cases hroom : l.length + 1 ≤ cap
      · have h := Any2.slices_Insert_int_end_room L g 0 l.length cap b 0 1 1 [.int .i64 x] w (by omega) hroom (by unfold maxLen at hcm; omega) rfl (fun j hj => by rw [Nat.add_assoc]; exact hcell _ (by omega)) (fun j _ => hfz _) hvs h1v
        refine Calls.mono (by subst hil; exact h) ?_
        rintro e w' ⟨rfl, rfl⟩
        refine ⟨_, rfl, ?_⟩
        have hw := yY [.int .i64 x] (0 + l.length) w cur hg
        rw [Nat.zero_add, Zm _ _ _ (by simp only [List.length_cons, List.length_nil]; omega)] at hw
        rw [Nat.zero_add]
        refine back _ _ _ _ hw (by rw [hlen]) (by rw [hlen]; exact hroom) (by simp; omega) ?_ hin' hsm'
        rw [hlen, hend hil, ht, List.take_append_of_le_length (by simp [yp])]
        exact List.take_of_length_le (by simp [yp])
      · exact grow (some ⟨g, 0, none⟩) cap rfl hil (by omega) hlc (fun h => by cases h) (fun a ha j u hu => by cases ha; rw [Zs]; exact hcells j u hu)
    · have hlt : i < l.length := by omega
      have ed : (yu l).drop i = yu (l.drop i) := by simp [yu, List.map_drop]
      have et : (yu l).take i = yu (l.take i) := by simp [yu, List.map_take]
      by_cases hroom : l.length + 1 ≤ cap
      · have h := Any2.slices_Insert_int_shift L g 0 l.length cap i b 0 1 1 (yu l) [.int .i64 x] w hlt (by omega) hroom (by unfold maxLen at hcm; omega) hne (yp l) rfl hcells (fun j hj => hcell j (by omega)) (fun j _ => by rw [Nat.zero_add]; exact hfz _) hvs (Vm l) h1v
          Ti Ti 1 cap (by simp [World.shape?, hb]) (by simp [World.shape?, hg, hcs]) (by omega) (by simp [World.frozen?, hb]) (by simp [World.frozen?, hb])
        refine Calls.mono h ?_
        rintro e w' ⟨rfl, rfl⟩
        refine ⟨_, rfl, ?_⟩
        have h1 := Wr.drew hg
        obtain ⟨a1, e1, hg1⟩ := h1.at_
        have h2 := yY ((yu l).drop i) (0 + (i + 1)) w.drew a1 hg1
        rw [e1, Nat.zero_add, Zm _ _ _ (by simp only [List.length_drop, yp]; omega)] at h2
        obtain ⟨a2, e2, hg2⟩ := h2.at_
        have h3 := yY [.int .i64 x] (0 + i) _ a2 hg2
        rw [e2, Nat.zero_add, Zm _ _ _ (by simp only [List.length_append, List.length_take, List.length_drop, yp, List.length_cons, List.length_nil]; omega)] at h3
        rw [Nat.zero_add, Nat.zero_add]
        refine back _ _ _ _ ((h1.trans h2).trans h3) (by rw [hlen]) (by rw [hlen]; exact hroom) (by simp [yp]; omega) ?_ hin' hsm'
        rw [hlen, henc, ed]
        have k1 : (cur.toList.take (i + 1) ++ yu (l.drop i) ++ cur.toList.drop (i + 1 + (yu (l.drop i)).length)).take i = yu (l.take i) := by
          rw [List.append_assoc, List.take_append_of_le_length (by simp; omega), List.take_take, Nat.min_eq_left (by omega), ← et, ← ht, List.take_take, Nat.min_eq_left (by omega)]
        have k2 : (cur.toList.take (i + 1) ++ yu (l.drop i) ++ cur.toList.drop (i + 1 + (yu (l.drop i)).length)).drop (i + [Value.int .i64 x].length) = yu (l.drop i) ++ cur.toList.drop (i + 1 + (yu (l.drop i)).length) := by
          have hh : (cur.toList.take (i + 1)).length = i + 1 := by rw [List.length_take]; omega
          show (cur.toList.take (i + 1) ++ yu (l.drop i) ++ cur.toList.drop (i + 1 + (yu (l.drop i)).length)).drop (i + 1) = _
          rw [List.append_assoc]; exact List.drop_left' hh
        rw [k1, k2, ← List.append_assoc, List.take_append_of_le_length (by simp [yp]; omega)]
        exact List.take_of_length_le (by simp [yp]; omega)
      · have h := Any2.slices_Insert_int_grow L g 0 l.length cap i b 0 1 1 (yu l) [.int .i64 x] w hlt (by omega) hlc (by omega) hbig (yp l) rfl hcells hvs (Vm l) h1v
        refine Calls.mono h ?_
        rintro e w' ⟨rfl, rfl⟩
        refine ⟨_, rfl, ?_⟩
        rw [hTi]
        have hg' := grownCap_ge w (l.length + 1) cap Ti
        have hgm := grownCap_le_maxLen w (l.length + 1) cap Ti hml
        obtain ⟨gc, hgc⟩ : ∃ gc, gc = grownCap w (l.length + 1) cap Ti := ⟨_, rfl⟩
        rw [← hgc] at hg' hgm ⊢
        have hn := Uq w (.cells (((yu l).take i).toArray ++ Builtin.zeroCells (Value.int .i64 0).cells (l.length + 1 - i) ++ Builtin.zeroCells (Value.int .i64 0).cells (gc - (l.length + 1))) Ti)
        have hlen0 : (((yu l).take i).toArray ++ Builtin.zeroCells (Value.int .i64 0).cells (l.length + 1 - i) ++ Builtin.zeroCells (Value.int .i64 0).cells (gc - (l.length + 1))).toList.length = gc := by
          simp only [Array.toList_append, List.length_append, Ks, List.length_take, yp]; omega
        have htk0 : (((yu l).take i).toArray ++ Builtin.zeroCells (Value.int .i64 0).cells (l.length + 1 - i) ++ Builtin.zeroCells (Value.int .i64 0).cells (gc - (l.length + 1))).toList.take i = yu (l.take i) := by
          simp only [Array.toList_append]
          rw [List.append_assoc, List.take_append_of_le_length (by simp [yp]; omega), et]
          exact List.take_of_length_le (by simp [yp]; omega)
        obtain ⟨A0, hA0⟩ : ∃ A0, A0 = ((yu l).take i).toArray ++ Builtin.zeroCells (Value.int .i64 0).cells (l.length + 1 - i) ++ Builtin.zeroCells (Value.int .i64 0).cells (gc - (l.length + 1)) := ⟨_, rfl⟩
        rw [← hA0] at hn hlen0 htk0 ⊢
        have h1 := Wr.drew hn.at_
        obtain ⟨a1, e1, hg1⟩ := h1.at_
        have h2 := yY [.int .i64 x] i _ a1 hg1
        rw [e1, Zm _ _ _ (by simp only [List.length_cons, List.length_nil]; omega)] at h2
        obtain ⟨a2, e2, hg2⟩ := h2.at_
        have h3 := Wr.drew hg2
        obtain ⟨a3, e3, hg3⟩ := h3.at_
        have h4 := yY ((yu l).drop i) (i + 1) _ a3 hg3
        have hl2 : (A0.toList.take i ++ [Value.int .i64 x] ++ A0.toList.drop (i + [Value.int .i64 x].length)).length = gc := by
          simp only [List.length_append, List.length_take, List.length_drop, List.length_cons, List.length_nil]; omega
        rw [e3, e2, Zm _ _ _ (by rw [hl2]; simp only [List.length_drop, yp]; omega)] at h4
        have hpre : (A0.toList.take i ++ [Value.int .i64 x] ++ A0.toList.drop (i + [Value.int .i64 x].length)).take (i + 1) = A0.toList.take i ++ [Value.int .i64 x] := by
          have hh : (A0.toList.take i ++ [Value.int .i64 x]).length = i + 1 := by rw [List.length_append, List.length_take, List.length_cons, List.length_nil]; omega
          exact List.take_left' hh
        have := hR.intNew hn (((h1.trans h2).trans h3).trans h4) (cap := gc) (l' := l.take i ++ x :: l.drop i) (by rw [hlen]; exact hg') ?_ hgm ?_ hin' hsm'
        · rw [hlen] at this; exact this
        · simp only [List.length_append, List.length_take, List.length_drop, hl2, yp]; omega
        · rw [hlen, henc, hpre, htk0, ed, List.take_append_of_le_length (by simp [yp]; omega)]
          exact List.take_of_length_le (by simp [yp]; omega)
theorem XP (d : List Int) (c : Array Value) (h : d.length ≤ c.size) : (putCells (Value.int .i64) 0 d.toArray c).toList = yu d ++ c.toList.drop d.length := by
  refine List.ext_getElem (by simp [putCells, yu]; omega) (fun j h1 h2 => ?_)
  have hj : j < c.size := by simpa [putCells] using h1
  by_cases hd : j < d.length
  · rw [List.getElem_append_left (by simpa [yu] using hd)]
    simp [putCells, yu, hd]
  · rw [List.getElem_append_right (by simp [yu]; omega)]
    simp [putCells, yu, hd, show d.length + (j - d.length) = j by omega]
theorem UX {b : Nat} {a : Array Value} {T : TypeId} (h : w.heap[b]? = some (.cells a T)) (d : List Int) (hd : d.length ≤ a.size) : Wr w (putRow (Value.int .i64) w b 0 d.toArray) b (yu d ++ a.toList.drop d.length) T := by
  refine ⟨⟨putCells (Value.int .i64) 0 d.toArray a, XP d a hd, ?_⟩, fun i hi => ?_, by simp, rfl, rfl, rfl, Nat.le_refl _⟩
  · simp [putRow, mapBlock, Array.getElem?_modify, h, onCells]
  · simp only [putRow, mapBlock, Array.getElem?_modify]; rw [if_neg (fun e => hi e.symm)]
theorem Jf {P : Program} {ρ : Go.Shelf.Ren} (L : Go.Proofs.Lays2.n23 P ρ) {i : Nat} (hS : Sep G W (RowE (α := Int) own Ti v l :: Rs) w) (hi : i < l.length) :
    Ret P (ρ.f 23) [v, .int .i64 ((i : Nat) : Int), .int .i64 ((i + 1 : Nat) : Int)] w (fun r w' => Sep G W (RowE (α := Int) own Ti r (l.take i ++ l.drop (i + 1)) :: Rs) w') := by
  obtain ⟨hin, hsm, hc⟩ := hS.intRow
  rcases hc with ⟨rfl, rfl⟩ | ⟨g, cap, cur, rfl, hg, hlc, hcm, hcs, ht, back⟩
  · exact absurd hi (Nat.not_lt_zero i)
  · have hH : Holds (Value.int .i64) w g 0 l.toArray := by
      intro j hj
      have hj' : j < l.length := by simpa using hj
      refine ⟨?_, by simp [World.frozen?, hg]⟩
      rw [Nat.zero_add]
      refine UE hg ?_
      have : (yu l)[j]? = some (.int .i64 l[j]) := by simp [yu, hj']
      rw [← ht, List.getElem?_take, if_pos hj'] at this
      rw [this]
      simp [hj']
    have h := Any.slices_Delete_int L g 0 cap i (i + 1) l w hH hlc (by unfold maxLen at hcm; omega) (by omega) hi
    refine Calls.mono h ?_
    rintro e w' ⟨rfl, q, rfl⟩
    refine ⟨_, rfl, ?_⟩
    have h1 := Wr.ahead (q := q) hg
    obtain ⟨a1, e1, hg1⟩ := h1.at_
    have ha1 : a1.size = cap := by have := congrArg List.length e1; simpa [hcs] using this
    have hdl : (l.take i ++ l.drop (i + 1) ++ List.replicate (i + 1 - i) 0).length = l.length := by simp; omega
    have h2 := UX hg1 (l.take i ++ l.drop (i + 1) ++ List.replicate (i + 1 - i) 0) (by rw [hdl]; omega)
    have hlen : (l.take i ++ l.drop (i + 1)).length = l.length - (i + 1 - i) := by simp; omega
    refine back _ _ _ _ (h1.trans h2) (by rw [hlen]) (by rw [hlen]; omega) ?_ ?_ (fun x hx => ?_) (by rw [hlen]; omega)
    · have ha2 : a1.toList.length = cap := by simpa using ha1
      rw [List.length_append, yp, hdl, List.length_drop, ha2]; omega
    · rw [hlen, QF, List.append_assoc, List.take_append_of_le_length (by rw [yp, hlen]; exact Nat.le_refl _)]
      exact List.take_of_length_le (by rw [yp, hlen]; exact Nat.le_refl _)
    · rcases List.mem_append.1 hx with h | h
      · exact hin x (List.mem_of_mem_take h)
      · exact hin x (List.mem_of_mem_drop h)
end
end Go.Proofs.YtojlbibionhdjaaGreatDoor
