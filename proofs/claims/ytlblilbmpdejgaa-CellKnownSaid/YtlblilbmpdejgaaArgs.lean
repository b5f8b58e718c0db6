/- The arguments opened. -/
import Derived.Test.YtlblilbmpdejgaaOpens
import Derived.Test.YtlblilbmpdejgaaRows
import Derived.Test.YtlblilbmpdejgaaRecs
set_option linter.unusedVariables false
namespace Go.Proofs.Ytlblilbmpdejgaa
open Go.ChangeShapes Go.WideShapes Go.ChangeAt Go.RowKit

theorem opI : Opens Try.prog 3 Int := opens_int Try.underlying3
theorem opB : Opens Try.prog 4 Bool := opens_bool Try.underlying4
theorem lst_4 {α : Type} {l : List α} (h : l.length = 4) : ∃ a0 a1 a2 a3, l = [a0, a1, a2, a3] := by
  match l, h with
  | [a0, a1, a2, a3], _ => exact ⟨a0, a1, a2, a3, rfl⟩
theorem op_Mv : Opens Try.prog 49 Mv := by
  intro H enc w fuel cs x h hx
  obtain ⟨_, _, _, _, hl, _⟩ := DataW.trod_struct Try.underlying49 h
  obtain ⟨c0, c1, c2, c3, rfl⟩ := lst_4 (hl.trans (by kernel_rfl))
  obtain ⟨m0, e0, r0⟩ := open_field (α := Int) (i := 0) Try.underlying49 h hx rfl (by kernel_rfl) opI
  obtain rfl : c0 = .int .i64 m0 := List.cons.inj e0 |>.1
  obtain ⟨m1, e1, r1⟩ := open_field (α := Int) (i := 1) Try.underlying49 h hx rfl (by kernel_rfl) opI
  obtain rfl : c1 = .int .i64 m1 := List.cons.inj e1 |>.1
  obtain ⟨m2, e2, r2⟩ := open_field (α := Int) (i := 2) Try.underlying49 h hx rfl (by kernel_rfl) opI
  obtain rfl : c2 = .int .i64 m2 := List.cons.inj e2 |>.1
  obtain ⟨m3, e3, r3⟩ := open_field (α := Int) (i := 3) Try.underlying49 h hx rfl (by kernel_rfl) opI
  obtain rfl : c3 = .int .i64 m3 := List.cons.inj e3 |>.1
  exact ⟨⟨m0, m1, m2, m3⟩, rfl, ⟨r0, r1, r2, r3⟩⟩
theorem opL_Mv : Opens Try.prog 34 (List Mv) := opens_list Try.underlying34 op_Mv (by kernel_rfl) (by kernel_rfl)
theorem op_Fld : Opens Try.prog 36 Fld := by
  intro H enc w fuel cs x h hx
  obtain ⟨_, _, _, _, hl, _⟩ := DataW.trod_struct Try.underlying36 h
  obtain ⟨c0, c1, c2, c3, rfl⟩ := lst_4 (hl.trans (by kernel_rfl))
  obtain ⟨m0, e0, r0⟩ := open_field (α := Int) (i := 0) Try.underlying36 h hx rfl (by kernel_rfl) opI
  obtain rfl : c0 = .int .i64 m0 := List.cons.inj e0 |>.1
  obtain ⟨m1, e1, r1⟩ := open_field (α := Int) (i := 1) Try.underlying36 h hx rfl (by kernel_rfl) opI
  obtain rfl : c1 = .int .i64 m1 := List.cons.inj e1 |>.1
  obtain ⟨m2, e2⟩ := open_field (α := Bool) (i := 2) Try.underlying36 h hx rfl (by kernel_rfl) opB
  obtain rfl : c2 = .bool m2 := List.cons.inj e2 |>.1
  obtain ⟨l3, v3, e3, r3⟩ := open_field (α := List Mv) (i := 3) Try.underlying36 h hx rfl (by kernel_rfl) opL_Mv
  obtain rfl : c3 = v3 := List.cons.inj e3 |>.1
  exact ⟨⟨m0, m1, m2, l3⟩, c3, rfl, r3, ⟨r0, r1⟩⟩
theorem opL_Fld : Opens Try.prog 29 (List Fld) := opens_list Try.underlying29 op_Fld (by kernel_rfl) (by kernel_rfl)
theorem lst_1 {α : Type} {l : List α} (h : l.length = 1) : ∃ a0, l = [a0] := by
  match l, h with
  | [a0], _ => exact ⟨a0, rfl⟩
theorem op_Typ : Opens Try.prog 31 Typ := by
  intro H enc w fuel cs x h hx
  obtain ⟨_, _, _, _, hl, _⟩ := DataW.trod_struct Try.underlying31 h
  obtain ⟨c0, rfl⟩ := lst_1 (hl.trans (by kernel_rfl))
  obtain ⟨l0, v0, e0, r0⟩ := open_field (α := List Fld) (i := 0) Try.underlying31 h hx rfl (by kernel_rfl) opL_Fld
  obtain rfl : c0 = v0 := List.cons.inj e0 |>.1
  exact ⟨⟨l0⟩, c0, rfl, r0, ⟨⟩⟩
theorem lst_5 {α : Type} {l : List α} (h : l.length = 5) : ∃ a0 a1 a2 a3 a4, l = [a0, a1, a2, a3, a4] := by
  match l, h with
  | [a0, a1, a2, a3, a4], _ => exact ⟨a0, a1, a2, a3, a4, rfl⟩
theorem op_Prj : Opens Try.prog 67 Prj := by
  intro H enc w fuel cs x h hx
  obtain ⟨_, _, _, _, hl, _⟩ := DataW.trod_struct Try.underlying67 h
  obtain ⟨c0, c1, c2, c3, c4, rfl⟩ := lst_5 (hl.trans (by kernel_rfl))
  obtain ⟨m0, e0, r0⟩ := open_field (α := Int) (i := 0) Try.underlying67 h hx rfl (by kernel_rfl) opI
  obtain rfl : c0 = .int .i64 m0 := List.cons.inj e0 |>.1
  obtain ⟨m1, e1, r1⟩ := open_field (α := Int) (i := 1) Try.underlying67 h hx rfl (by kernel_rfl) opI
  obtain rfl : c1 = .int .i64 m1 := List.cons.inj e1 |>.1
  obtain ⟨m2, e2, r2⟩ := open_field (α := Int) (i := 2) Try.underlying67 h hx rfl (by kernel_rfl) opI
  obtain rfl : c2 = .int .i64 m2 := List.cons.inj e2 |>.1
  obtain ⟨m3, e3, r3⟩ := open_field (α := Int) (i := 3) Try.underlying67 h hx rfl (by kernel_rfl) opI
  obtain rfl : c3 = .int .i64 m3 := List.cons.inj e3 |>.1
  obtain ⟨m4, e4, r4⟩ := open_field (α := Int) (i := 4) Try.underlying67 h hx rfl (by kernel_rfl) opI
  obtain rfl : c4 = .int .i64 m4 := List.cons.inj e4 |>.1
  exact ⟨⟨m0, m1, m2, m3, m4⟩, rfl, ⟨r0, r1, r2, r3, r4⟩⟩
theorem opL_Typ : Opens Try.prog 22 (List Typ) := opens_list Try.underlying22 op_Typ (by kernel_rfl) (by kernel_rfl)
theorem opL_Prj : Opens Try.prog 23 (List Prj) := opens_list Try.underlying23 op_Prj (by kernel_rfl) (by kernel_rfl)
theorem lst_2 {α : Type} {l : List α} (h : l.length = 2) : ∃ a0 a1, l = [a0, a1] := by
  match l, h with
  | [a0, a1], _ => exact ⟨a0, a1, rfl⟩
theorem op_Dcl : Opens Try.prog 25 Dcl := by
  intro H enc w fuel cs x h hx
  obtain ⟨_, _, _, _, hl, _⟩ := DataW.trod_struct Try.underlying25 h
  obtain ⟨c0, c1, rfl⟩ := lst_2 (hl.trans (by kernel_rfl))
  obtain ⟨l0, v0, e0, r0⟩ := open_field (α := List Typ) (i := 0) Try.underlying25 h hx rfl (by kernel_rfl) opL_Typ
  obtain rfl : c0 = v0 := List.cons.inj e0 |>.1
  obtain ⟨l1, v1, e1, r1⟩ := open_field (α := List Prj) (i := 1) Try.underlying25 h hx rfl (by kernel_rfl) opL_Prj
  obtain rfl : c1 = v1 := List.cons.inj e1 |>.1
  exact ⟨⟨l0, l1⟩, c0, c1, rfl, r0, r1, ⟨⟩⟩
theorem opL_Int : Opens Try.prog 44 (List Int) := opens_list Try.underlying44 opI (by kernel_rfl) (by kernel_rfl)
theorem op_Cel : Opens Try.prog 47 Cel := by
  intro H enc w fuel cs x h hx
  obtain ⟨_, _, _, _, hl, _⟩ := DataW.trod_struct Try.underlying47 h
  obtain ⟨c0, c1, rfl⟩ := lst_2 (hl.trans (by kernel_rfl))
  obtain ⟨m0, e0, r0⟩ := open_field (α := Int) (i := 0) Try.underlying47 h hx rfl (by kernel_rfl) opI
  obtain rfl : c0 = .int .i64 m0 := List.cons.inj e0 |>.1
  obtain ⟨l1, v1, e1, r1⟩ := open_field (α := List Int) (i := 1) Try.underlying47 h hx rfl (by kernel_rfl) opL_Int
  obtain rfl : c1 = v1 := List.cons.inj e1 |>.1
  exact ⟨⟨m0, l1⟩, c1, rfl, r1, ⟨r0⟩⟩
theorem open_rec_Dcl {H : Type} {enc : TypeId × Value → H} {W : World} {base : Nat} {v : Value} {d : DataW H} {ps : List MemPlace} (hval : Value.okWide Try.prog W .any base 25 v) (h : DataW.Trod enc Try.prog W 0 (fun _ => true) true 25 v d ps) (hx : light Try.prog 25 d) : ∃ (p : Dcl) (d1 : Value) (d2 : Value), v = .agg (p.cells d1 d2).toArray ∧ RdS W (inHeap W) d1 p.types ∧ RdS W (inHeap W) d2 p.projs ∧ p.Ok := by
  obtain ⟨cs, rfl, _⟩ := okWide_struct Try.underlying25 hval
  obtain ⟨fuel, hf⟩ := h
  obtain ⟨e, d1, d2, he, hd1, hd2, ho⟩ := op_Dcl H enc W fuel _ _ hf hx
  refine ⟨e, d1, d2, ?_, hd1, hd2, ho⟩
  have : cs.toList = e.cells d1 d2 := he
  rw [← this]
theorem open_int {H : Type} {enc : TypeId × Value → H} {W : World} {base : Nat} {v : Value} {d : DataW H} {ps : List MemPlace} (hval : Value.okWide Try.prog W .any base 3 v) (h : DataW.Trod enc Try.prog W 0 (fun _ => true) true 3 v d ps) (hx : light Try.prog 3 d) : ∃ n : Int, v = .int .i64 n ∧ InR n := by
  obtain ⟨n, rfl⟩ := okWide_int Try.underlying3 hval
  obtain ⟨fuel, hf⟩ := h
  obtain ⟨m, he, hr⟩ := opI H enc W fuel _ _ hf hx
  obtain rfl : n = m := by
    have := List.cons.inj he |>.1
    cases this; rfl
  exact ⟨n, rfl, hr⟩
theorem opL_Cel : Opens Try.prog 26 (List Cel) := opens_list Try.underlying26 op_Cel (by kernel_rfl) (by kernel_rfl)
theorem open_sl_Cel {H : Type} {enc : TypeId × Value → H} {W : World} {base : Nat} {v : Value} {d : DataW H} {ps : List MemPlace} (hval : Value.okWide Try.prog W .any base 26 v) (h : DataW.Trod enc Try.prog W 0 (fun _ => true) true 26 v d ps) (hx : light Try.prog 26 d) : ∃ l : List Cel, RdS W (inHeap W) v l := by
  obtain ⟨a, len, cap, rfl⟩ := okWide_slice Try.underlying26 hval
  obtain ⟨fuel, hf⟩ := h
  obtain ⟨l, v, he, hr⟩ := opL_Cel H enc W fuel _ _ hf hx
  obtain rfl := List.cons.inj he |>.1
  exact ⟨l, hr⟩
theorem Try.own : ownKnob Try.prog.godebug = none := by kernel_rfl
theorem Try.laidOut : laidOutB Try.prog = true := by kernel_rfl
end Go.Proofs.Ytlblilbmpdejgaa
