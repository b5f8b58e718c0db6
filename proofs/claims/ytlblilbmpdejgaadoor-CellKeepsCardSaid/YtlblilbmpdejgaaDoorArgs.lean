/- The arguments opened. -/
import Derived.Test.YtlblilbmpdejgaaDoorOpens
import Derived.Test.YtlblilbmpdejgaaDoorRows
import Derived.Test.YtlblilbmpdejgaaDoorRecs
import Derived.Test.YtlblilbmpdejgaaDoorK1
import Derived.OpenShut
import Derived.Stop.Joined
import Derived.LaidMore
import Derived.MakeChecks
set_option linter.unusedVariables false
set_option maxRecDepth 100000
namespace Go.Proofs.YtlblilbmpdejgaaDoor
open Go.ChangeShapes Go.WideShapes Go.ChangeAt Go.RowKit

theorem opI : Opens Tryd.prog 3 Int := opens_int Tryd.underlying3
theorem opB : Opens Tryd.prog 4 Bool := opens_bool Tryd.underlying4
theorem opId : Opens Tryd.prog 57 (Int × Int) := opens_pair Tryd.underlying57 (by kernel_rfl) rfl rfl rfl rfl (by kernel_rfl) (by kernel_rfl) opI opI
theorem lst_4 {α : Type} {l : List α} (h : l.length = 4) : ∃ a0 a1 a2 a3, l = [a0, a1, a2, a3] := by
  match l, h with
  | [a0, a1, a2, a3], _ => exact ⟨a0, a1, a2, a3, rfl⟩
theorem op_Mv : Opens Tryd.prog 115 Mv := by
  intro H enc w fuel cs x h hx
  obtain ⟨_, _, _, _, hl, _⟩ := DataW.trod_struct Tryd.underlying115 h
  obtain ⟨c0, c1, c2, c3, rfl⟩ := lst_4 (hl.trans (by kernel_rfl))
  obtain ⟨m0, e0, r0⟩ := open_field (α := Int) (i := 0) Tryd.underlying115 h hx rfl (by kernel_rfl) opI
  obtain rfl : c0 = .int .i64 m0 := List.cons.inj e0 |>.1
  obtain ⟨m1, e1, r1⟩ := open_field (α := Int) (i := 1) Tryd.underlying115 h hx rfl (by kernel_rfl) opI
  obtain rfl : c1 = .int .i64 m1 := List.cons.inj e1 |>.1
  obtain ⟨m2, e2, r2⟩ := open_field (α := Int) (i := 2) Tryd.underlying115 h hx rfl (by kernel_rfl) opI
  obtain rfl : c2 = .int .i64 m2 := List.cons.inj e2 |>.1
  obtain ⟨m3, e3, r3⟩ := open_field (α := Int) (i := 3) Tryd.underlying115 h hx rfl (by kernel_rfl) opI
  obtain rfl : c3 = .int .i64 m3 := List.cons.inj e3 |>.1
  exact ⟨⟨m0, m1, m2, m3⟩, rfl, ⟨r0, r1, r2, r3⟩⟩
theorem opL_Mv : Opens Tryd.prog 77 (List Mv) := opens_list Tryd.underlying77 op_Mv (by kernel_rfl) (by kernel_rfl)
theorem op_Fld : Opens Tryd.prog 79 Fld := by
  intro H enc w fuel cs x h hx
  obtain ⟨_, _, _, _, hl, _⟩ := DataW.trod_struct Tryd.underlying79 h
  obtain ⟨c0, c1, c2, c3, rfl⟩ := lst_4 (hl.trans (by kernel_rfl))
  obtain ⟨m0, e0, r0⟩ := open_field (α := Int) (i := 0) Tryd.underlying79 h hx rfl (by kernel_rfl) opI
  obtain rfl : c0 = .int .i64 m0 := List.cons.inj e0 |>.1
  obtain ⟨m1, e1, r1⟩ := open_field (α := Int) (i := 1) Tryd.underlying79 h hx rfl (by kernel_rfl) opI
  obtain rfl : c1 = .int .i64 m1 := List.cons.inj e1 |>.1
  obtain ⟨m2, e2⟩ := open_field (α := Bool) (i := 2) Tryd.underlying79 h hx rfl (by kernel_rfl) opB
  obtain rfl : c2 = .bool m2 := List.cons.inj e2 |>.1
  obtain ⟨l3, v3, e3, r3⟩ := open_field (α := List Mv) (i := 3) Tryd.underlying79 h hx rfl (by kernel_rfl) opL_Mv
  obtain rfl : c3 = v3 := List.cons.inj e3 |>.1
  exact ⟨⟨m0, m1, m2, l3⟩, c3, rfl, r3, ⟨r0, r1⟩⟩
theorem opL_Fld : Opens Tryd.prog 31 (List Fld) := opens_list Tryd.underlying31 op_Fld (by kernel_rfl) (by kernel_rfl)
theorem lst_1 {α : Type} {l : List α} (h : l.length = 1) : ∃ a0, l = [a0] := by
  match l, h with
  | [a0], _ => exact ⟨a0, rfl⟩
theorem op_Typ : Opens Tryd.prog 33 Typ := by
  intro H enc w fuel cs x h hx
  obtain ⟨_, _, _, _, hl, _⟩ := DataW.trod_struct Tryd.underlying33 h
  obtain ⟨c0, rfl⟩ := lst_1 (hl.trans (by kernel_rfl))
  obtain ⟨l0, v0, e0, r0⟩ := open_field (α := List Fld) (i := 0) Tryd.underlying33 h hx rfl (by kernel_rfl) opL_Fld
  obtain rfl : c0 = v0 := List.cons.inj e0 |>.1
  exact ⟨⟨l0⟩, c0, rfl, r0, ⟨⟩⟩
theorem lst_5 {α : Type} {l : List α} (h : l.length = 5) : ∃ a0 a1 a2 a3 a4, l = [a0, a1, a2, a3, a4] := by
  match l, h with
  | [a0, a1, a2, a3, a4], _ => exact ⟨a0, a1, a2, a3, a4, rfl⟩
theorem op_Prj : Opens Tryd.prog 107 Prj := by
  intro H enc w fuel cs x h hx
  obtain ⟨_, _, _, _, hl, _⟩ := DataW.trod_struct Tryd.underlying107 h
  obtain ⟨c0, c1, c2, c3, c4, rfl⟩ := lst_5 (hl.trans (by kernel_rfl))
  obtain ⟨m0, e0, r0⟩ := open_field (α := Int) (i := 0) Tryd.underlying107 h hx rfl (by kernel_rfl) opI
  obtain rfl : c0 = .int .i64 m0 := List.cons.inj e0 |>.1
  obtain ⟨m1, e1, r1⟩ := open_field (α := Int) (i := 1) Tryd.underlying107 h hx rfl (by kernel_rfl) opI
  obtain rfl : c1 = .int .i64 m1 := List.cons.inj e1 |>.1
  obtain ⟨m2, e2, r2⟩ := open_field (α := Int) (i := 2) Tryd.underlying107 h hx rfl (by kernel_rfl) opI
  obtain rfl : c2 = .int .i64 m2 := List.cons.inj e2 |>.1
  obtain ⟨m3, e3, r3⟩ := open_field (α := Int) (i := 3) Tryd.underlying107 h hx rfl (by kernel_rfl) opI
  obtain rfl : c3 = .int .i64 m3 := List.cons.inj e3 |>.1
  obtain ⟨m4, e4, r4⟩ := open_field (α := Int) (i := 4) Tryd.underlying107 h hx rfl (by kernel_rfl) opI
  obtain rfl : c4 = .int .i64 m4 := List.cons.inj e4 |>.1
  exact ⟨⟨m0, m1, m2, m3, m4⟩, rfl, ⟨r0, r1, r2, r3, r4⟩⟩
theorem opL_Typ : Opens Tryd.prog 22 (List Typ) := opens_list Tryd.underlying22 op_Typ (by kernel_rfl) (by kernel_rfl)
theorem opL_Prj : Opens Tryd.prog 23 (List Prj) := opens_list Tryd.underlying23 op_Prj (by kernel_rfl) (by kernel_rfl)
theorem lst_2 {α : Type} {l : List α} (h : l.length = 2) : ∃ a0 a1, l = [a0, a1] := by
  match l, h with
  | [a0, a1], _ => exact ⟨a0, a1, rfl⟩
theorem op_Dcl : Opens Tryd.prog 25 Dcl := by
  intro H enc w fuel cs x h hx
  obtain ⟨_, _, _, _, hl, _⟩ := DataW.trod_struct Tryd.underlying25 h
  obtain ⟨c0, c1, rfl⟩ := lst_2 (hl.trans (by kernel_rfl))
  obtain ⟨l0, v0, e0, r0⟩ := open_field (α := List Typ) (i := 0) Tryd.underlying25 h hx rfl (by kernel_rfl) opL_Typ
  obtain rfl : c0 = v0 := List.cons.inj e0 |>.1
  obtain ⟨l1, v1, e1, r1⟩ := open_field (α := List Prj) (i := 1) Tryd.underlying25 h hx rfl (by kernel_rfl) opL_Prj
  obtain rfl : c1 = v1 := List.cons.inj e1 |>.1
  exact ⟨⟨l0, l1⟩, c0, c1, rfl, r0, r1, ⟨⟩⟩
theorem opL_Int : Opens Tryd.prog 40 (List Int) := opens_list Tryd.underlying40 opI (by kernel_rfl) (by kernel_rfl)
theorem op_Cel : Opens Tryd.prog 42 Cel := by
  intro H enc w fuel cs x h hx
  obtain ⟨_, _, _, _, hl, _⟩ := DataW.trod_struct Tryd.underlying42 h
  obtain ⟨c0, c1, rfl⟩ := lst_2 (hl.trans (by kernel_rfl))
  obtain ⟨m0, e0, r0⟩ := open_field (α := Int) (i := 0) Tryd.underlying42 h hx rfl (by kernel_rfl) opI
  obtain rfl : c0 = .int .i64 m0 := List.cons.inj e0 |>.1
  obtain ⟨l1, v1, e1, r1⟩ := open_field (α := List Int) (i := 1) Tryd.underlying42 h hx rfl (by kernel_rfl) opL_Int
  obtain rfl : c1 = v1 := List.cons.inj e1 |>.1
  exact ⟨⟨m0, l1⟩, c1, rfl, r1, ⟨r0⟩⟩
theorem lst_3 {α : Type} {l : List α} (h : l.length = 3) : ∃ a0 a1 a2, l = [a0, a1, a2] := by
  match l, h with
  | [a0, a1, a2], _ => exact ⟨a0, a1, a2, rfl⟩
theorem op_Ask : Opens Tryd.prog 36 Ask := by
  intro H enc w fuel cs x h hx
  obtain ⟨_, _, _, _, hl, _⟩ := DataW.trod_struct Tryd.underlying36 h
  obtain ⟨c0, c1, c2, rfl⟩ := lst_3 (hl.trans (by kernel_rfl))
  obtain ⟨m0, e0, r0⟩ := open_field (α := Int) (i := 0) Tryd.underlying36 h hx rfl (by kernel_rfl) opI
  obtain rfl : c0 = .int .i64 m0 := List.cons.inj e0 |>.1
  obtain ⟨m1, e1, r1⟩ := open_field (α := Int) (i := 1) Tryd.underlying36 h hx rfl (by kernel_rfl) opI
  obtain rfl : c1 = .int .i64 m1 := List.cons.inj e1 |>.1
  obtain ⟨m2, e2, r2⟩ := open_field (α := Int) (i := 2) Tryd.underlying36 h hx rfl (by kernel_rfl) opI
  obtain rfl : c2 = .int .i64 m2 := List.cons.inj e2 |>.1
  exact ⟨⟨m0, m1, m2⟩, rfl, ⟨r0, r1, r2⟩⟩
theorem open_rec_Dcl {H : Type} {enc : TypeId × Value → H} {W : World} {base : Nat} {v : Value} {d : DataW H} {ps : List MemPlace} (hval : Value.okWide Tryd.prog W .any base 25 v) (h : DataW.Trod enc Tryd.prog W 0 (fun _ => true) true 25 v d ps) (hx : light Tryd.prog 25 d) : ∃ (p : Dcl) (d1 : Value) (d2 : Value), v = .agg (p.cells d1 d2).toArray ∧ RdS W (inHeap W) d1 p.types ∧ RdS W (inHeap W) d2 p.projs ∧ p.Ok := by
  obtain ⟨cs, rfl, _⟩ := okWide_struct Tryd.underlying25 hval
  obtain ⟨fuel, hf⟩ := h
  obtain ⟨e, d1, d2, he, hd1, hd2, ho⟩ := op_Dcl H enc W fuel _ _ hf hx
  refine ⟨e, d1, d2, ?_, hd1, hd2, ho⟩
  have : cs.toList = e.cells d1 d2 := he
  rw [← this]
theorem open_int {H : Type} {enc : TypeId × Value → H} {W : World} {base : Nat} {v : Value} {d : DataW H} {ps : List MemPlace} (hval : Value.okWide Tryd.prog W .any base 3 v) (h : DataW.Trod enc Tryd.prog W 0 (fun _ => true) true 3 v d ps) (hx : light Tryd.prog 3 d) : ∃ n : Int, v = .int .i64 n ∧ InR n := by
  obtain ⟨n, rfl⟩ := okWide_int Tryd.underlying3 hval
  obtain ⟨fuel, hf⟩ := h
  obtain ⟨m, he, hr⟩ := opI H enc W fuel _ _ hf hx
  obtain rfl : n = m := by
    have := List.cons.inj he |>.1
    cases this; rfl
  exact ⟨n, rfl, hr⟩
theorem opL_Cel : Opens Tryd.prog 26 (List Cel) := opens_list Tryd.underlying26 op_Cel (by kernel_rfl) (by kernel_rfl)
theorem open_sl_Cel {H : Type} {enc : TypeId × Value → H} {W : World} {base : Nat} {v : Value} {d : DataW H} {ps : List MemPlace} (hval : Value.okWide Tryd.prog W .any base 26 v) (h : DataW.Trod enc Tryd.prog W 0 (fun _ => true) true 26 v d ps) (hx : light Tryd.prog 26 d) : ∃ l : List Cel, RdS W (inHeap W) v l := by
  obtain ⟨a, len, cap, rfl⟩ := okWide_slice Tryd.underlying26 hval
  obtain ⟨fuel, hf⟩ := h
  obtain ⟨l, v, he, hr⟩ := opL_Cel H enc W fuel _ _ hf hx
  obtain rfl := List.cons.inj he |>.1
  exact ⟨l, hr⟩
theorem opL_Ask : Opens Tryd.prog 27 (List Ask) := opens_list Tryd.underlying27 op_Ask (by kernel_rfl) (by kernel_rfl)
theorem open_sl_Ask {H : Type} {enc : TypeId × Value → H} {W : World} {base : Nat} {v : Value} {d : DataW H} {ps : List MemPlace} (hval : Value.okWide Tryd.prog W .any base 27 v) (h : DataW.Trod enc Tryd.prog W 0 (fun _ => true) true 27 v d ps) (hx : light Tryd.prog 27 d) : ∃ l : List Ask, RdS W (inHeap W) v l := by
  obtain ⟨a, len, cap, rfl⟩ := okWide_slice Tryd.underlying27 hval
  obtain ⟨fuel, hf⟩ := h
  obtain ⟨l, v, he, hr⟩ := opL_Ask H enc W fuel _ _ hf hx
  obtain rfl := List.cons.inj he |>.1
  exact ⟨l, hr⟩
theorem Tryd.own : ownKnob Tryd.prog.godebug = none := by kernel_rfl
theorem Tryd.laidOut : laidOutB Tryd.prog = true := by kernel_rfl
theorem gKinds : Tryd.prog.globalNamed "quayside/schema.kinds" = some 0 := by kernel_rfl
theorem tKinds : (Tryd.prog.globals[0]?).map (·.type) = some 92 := by kernel_rfl
theorem kinds_rds {W : World} (h : laidMetH Tryd.prog [("quayside/schema.kinds", Rows.laid_quayside_schema_kinds)] W) : RdS W (inHeap W) (.slice (some ⟨0, 0, none⟩) 6 6) kindsL := by
  rw [MakeChecks.laidMetH_plain _ _ _ (by kernel_rfl)] at h
  exact rds_tab gKinds (Lib.tabIs_of_head (k := .i64) (zs := kindsL) gKinds tKinds Tryd.underlying92 Tryd.underlying3 (by kernel_rfl) (by kernel_rfl) h) (by decide) (by decide)
theorem door_met (os : Os) (args : Array Value) : laidMetH Tryd.prog [("quayside/schema.kinds", Rows.laid_quayside_schema_kinds)] ((World.doorLaid Tryd.prog 14 os).forCall (fun _ _ => 0) ⟨#[], args, []⟩).memory :=
  laidMetH_of_parts3 (fuel := 8) (laidMet_of_run' 8 (by kernel_rfl) (by kernel_rfl)) (by kernel_rfl) (by kernel_rfl)
end Go.Proofs.YtlblilbmpdejgaaDoor
