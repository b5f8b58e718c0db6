/- Texts of this claim, part 4. -/
import Derived.Test.YtgjgmojjeehieaaZ3
import Derived.Test.YtgjgmojjeehieaaRows
set_option linter.unusedSimpArgs false
set_option linter.unusedVariables false
set_option linter.unusedSectionVars false
/- The arguments opened. -/
set_option maxRecDepth 100000
namespace Go.Proofs.Ytgjgmojjeehieaa
open Go.ChangeShapes Go.WideShapes Go.ChangeAt Go.RowKit

theorem opI : xv Try.prog 3 Int := Vb Try.underlying3
theorem opId : xv Try.prog 33 (Int × Int) := Wh Try.underlying33 (by kernel_rfl) rfl rfl rfl rfl (by kernel_rfl) (by kernel_rfl) opI opI
theorem WB : xv Try.prog 34 (List Int) := ZZ Try.underlying34 opI (by kernel_rfl) (by kernel_rfl)
theorem Qv {α : Type} {l : List α} (h : l.length = 10) : ∃ a0 a1 a2 a3 a4 a5 a6 a7 a8 a9, l = [a0, a1, a2, a3, a4, a5, a6, a7, a8, a9] := by
  match l, h with
  | [a0, a1, a2, a3, a4, a5, a6, a7, a8, a9], _ => exact ⟨a0, a1, a2, a3, a4, a5, a6, a7, a8, a9, rfl⟩
theorem op_Ev : xv Try.prog 36 Ev := by
  intro H enc w fuel cs x h hx
  obtain ⟨_, _, _, _, hl, _⟩ := DataW.trod_struct Try.underlying36 h
  obtain ⟨c0, c1, c2, c3, c4, c5, c6, c7, c8, c9, rfl⟩ := Qv (hl.trans (by kernel_rfl))
  obtain ⟨⟨m0, m1⟩, e0, r0, r1⟩ := yi (α := Int × Int) (i := 0) Try.underlying36 h hx rfl (by kernel_rfl) opId
  obtain rfl : c0 = .int .i64 m0 := List.cons.inj e0 |>.1
  obtain rfl : c1 = .int .i64 m1 := List.cons.inj (List.cons.inj e0 |>.2) |>.1
  obtain ⟨m2, e2, r2⟩ := yi (α := Int) (i := 1) Try.underlying36 h hx rfl (by kernel_rfl) opI
  obtain rfl : c2 = .int .i64 m2 := List.cons.inj e2 |>.1
  obtain ⟨l3, v3, e3, r3⟩ := yi (α := List Int) (i := 2) Try.underlying36 h hx rfl (by kernel_rfl) WB
  obtain rfl : c3 = v3 := List.cons.inj e3 |>.1
  obtain ⟨m4, e4, r4⟩ := yi (α := Int) (i := 3) Try.underlying36 h hx rfl (by kernel_rfl) opI
  obtain rfl : c4 = .int .i64 m4 := List.cons.inj e4 |>.1
  obtain ⟨m5, e5, r5⟩ := yi (α := Int) (i := 4) Try.underlying36 h hx rfl (by kernel_rfl) opI
  obtain rfl : c5 = .int .i64 m5 := List.cons.inj e5 |>.1
  obtain ⟨m6, e6, r6⟩ := yi (α := Int) (i := 5) Try.underlying36 h hx rfl (by kernel_rfl) opI
  obtain rfl : c6 = .int .i64 m6 := List.cons.inj e6 |>.1
  obtain ⟨m7, e7, r7⟩ := yi (α := Int) (i := 6) Try.underlying36 h hx rfl (by kernel_rfl) opI
  obtain rfl : c7 = .int .i64 m7 := List.cons.inj e7 |>.1
  obtain ⟨m8, e8, r8⟩ := yi (α := Int) (i := 7) Try.underlying36 h hx rfl (by kernel_rfl) opI
  obtain rfl : c8 = .int .i64 m8 := List.cons.inj e8 |>.1
  obtain ⟨m9, e9, r9⟩ := yi (α := Int) (i := 8) Try.underlying36 h hx rfl (by kernel_rfl) opI
  obtain rfl : c9 = .int .i64 m9 := List.cons.inj e9 |>.1
  exact ⟨⟨m0, m1, m2, l3, m4, m5, m6, m7, m8, m9⟩, c3, rfl, r3, ⟨r0, r1, r2, r4, r5, r6, r7, r8, r9⟩⟩
theorem VI : xv Try.prog 22 (List Ev) := ZZ Try.underlying22 op_Ev (by kernel_rfl) (by kernel_rfl)
theorem lst_5 {α : Type} {l : List α} (h : l.length = 5) : ∃ a0 a1 a2 a3 a4, l = [a0, a1, a2, a3, a4] := by
  match l, h with
  | [a0, a1, a2, a3, a4], _ => exact ⟨a0, a1, a2, a3, a4, rfl⟩
theorem Qz : xv Try.prog 57 Msg := by
  intro H enc w fuel cs x h hx
  obtain ⟨_, _, _, _, hl, _⟩ := DataW.trod_struct Try.underlying57 h
  obtain ⟨c0, c1, c2, c3, c4, rfl⟩ := lst_5 (hl.trans (by kernel_rfl))
  obtain ⟨m0, e0, r0⟩ := yi (α := Int) (i := 0) Try.underlying57 h hx rfl (by kernel_rfl) opI
  obtain rfl : c0 = .int .i64 m0 := List.cons.inj e0 |>.1
  obtain ⟨m1, e1, r1⟩ := yi (α := Int) (i := 1) Try.underlying57 h hx rfl (by kernel_rfl) opI
  obtain rfl : c1 = .int .i64 m1 := List.cons.inj e1 |>.1
  obtain ⟨m2, e2, r2⟩ := yi (α := Int) (i := 2) Try.underlying57 h hx rfl (by kernel_rfl) opI
  obtain rfl : c2 = .int .i64 m2 := List.cons.inj e2 |>.1
  obtain ⟨l3, v3, e3, r3⟩ := yi (α := List Int) (i := 3) Try.underlying57 h hx rfl (by kernel_rfl) WB
  obtain rfl : c3 = v3 := List.cons.inj e3 |>.1
  obtain ⟨l4, v4, e4, r4⟩ := yi (α := List Ev) (i := 4) Try.underlying57 h hx rfl (by kernel_rfl) VI
  obtain rfl : c4 = v4 := List.cons.inj e4 |>.1
  exact ⟨⟨m0, m1, m2, l3, l4⟩, c3, c4, rfl, r3, r4, ⟨r0, r1, r2⟩⟩
theorem Ya {H : Type} {enc : TypeId × Value → H} {W : World} {base : Nat} {v : Value} {d : DataW H} {ps : List MemPlace} (hval : Value.okWide Try.prog W .any base 3 v) (h : DataW.Trod enc Try.prog W 0 (fun _ => true) true 3 v d ps) (hx : xP Try.prog 3 d) : ∃ n : Int, v = .int .i64 n ∧ InR n := by
  obtain ⟨n, rfl⟩ := okWide_int Try.underlying3 hval
  obtain ⟨fuel, hf⟩ := h
  obtain ⟨m, he, hr⟩ := opI H enc W fuel _ _ hf hx
  obtain rfl : n = m := by
    have := List.cons.inj he |>.1
    cases this; rfl
  exact ⟨n, rfl, hr⟩
theorem Wa {H : Type} {enc : TypeId × Value → H} {W : World} {base : Nat} {v : Value} {d : DataW H} {ps : List MemPlace} (hval : Value.okWide Try.prog W .any base 22 v) (h : DataW.Trod enc Try.prog W 0 (fun _ => true) true 22 v d ps) (hx : xP Try.prog 22 d) : ∃ l : List Ev, RdS W (xj W) v l := by
  obtain ⟨a, len, cap, rfl⟩ := okWide_slice Try.underlying22 hval
  obtain ⟨fuel, hf⟩ := h
  obtain ⟨l, v, he, hr⟩ := VI H enc W fuel _ _ hf hx
  obtain rfl := List.cons.inj he |>.1
  exact ⟨l, hr⟩
theorem YU {H : Type} {enc : TypeId × Value → H} {W : World} {base : Nat} {v : Value} {d : DataW H} {ps : List MemPlace} (hval : Value.okWide Try.prog W .any base 57 v) (h : DataW.Trod enc Try.prog W 0 (fun _ => true) true 57 v d ps) (hx : xP Try.prog 57 d) : ∃ (p : Msg) (d1 : Value) (d2 : Value), v = .agg (p.cells d1 d2).toArray ∧ RdS W (xj W) d1 p.vec ∧ RdS W (xj W) d2 p.evs ∧ p.Ok := by
  obtain ⟨cs, rfl, _⟩ := okWide_struct Try.underlying57 hval
  obtain ⟨fuel, hf⟩ := h
  obtain ⟨e, d1, d2, he, hd1, hd2, ho⟩ := Qz H enc W fuel _ _ hf hx
  refine ⟨e, d1, d2, ?_, hd1, hd2, ho⟩
  have : cs.toList = e.cells d1 d2 := he
  rw [← this]
theorem Try.own : ownKnob Try.prog.godebug = none := by kernel_rfl
theorem Try.laidOut : laidOutB Try.prog = true := by kernel_rfl
end Go.Proofs.Ytgjgmojjeehieaa
