import Derived.Test.YtlblilbmpdejgaaDoorU2
import Derived.Shelf.Spec.SlicesInsertGrow
import Derived.Shelf.Slices.Delete
import Derived.Test.YtlblilbmpdejgaaDoorProg
set_option linter.unusedSimpArgs false
set_option linter.unusedVariables false
set_option linter.unusedSectionVars false
set_option linter.deprecated false
/- Steps of the proofs of this seat: part C2. -/
set_option maxRecDepth 8000
namespace Go.Proofs.YtlblilbmpdejgaaDoor
open Go.Proofs Go.RowKit

theorem Xi {d : Option Tmp} {ty : TypeId} {pos : String} {af : Array Edge} {g : Option (Nat × Bool)} {σ : Env} {w : World} {K : Value → World → Prop} {x : Operand} {b o : Nat} (hx : ev σ x = .pointer (some ⟨b, o, none⟩)) (h : K (.pointer (some ⟨b, o + 4, none⟩)) w) : opV Tryd.prog ⟨d, .fieldAddr 101 x 1, ty, pos, af, g⟩ σ w K := zt Tryd.underlying101 rfl rfl (fun w => ⟨0, Tryd.sizeOf26 w⟩) hx h
theorem Vf {d : Option Tmp} {ty : TypeId} {pos : String} {af : Array Edge} {g : Option (Nat × Bool)} {σ : Env} {w : World} {K : Value → World → Prop} {x : Operand} {b o : Nat} (hx : ev σ x = .pointer (some ⟨b, o, none⟩)) (h : K (.pointer (some ⟨b, o + 5, none⟩)) w) : opV Tryd.prog ⟨d, .fieldAddr 101 x 2, ty, pos, af, g⟩ σ w K := zt Tryd.underlying101 rfl rfl (fun w => ⟨0, Tryd.sizeOf3 w⟩) hx h
theorem Xs {G : Nat → Prop} {W w : World} {Rs : List HP} {a : AskR} {da0 : Value} (hda0 : RdS W G da0 a.fld.moves) {da1 : Value} (hda1 : RdS W G da1 a.cls) (oa : a.Ok) (hS0 : Sep G W Rs w) (hno : 0 ≤ a.no ∧ a.no < a.cls.length) : Ret Tryd.prog 79 [.agg (a.cells da0 da1).toArray] w (fun r w' => r = (.pointer (some ⟨sb da1, so da1 + a.no.toNat * 2, none⟩) : Value) ∧ Sep G W Rs w') := by
 have hda0s : _ * 32 ≤ _ := hda0.small
 have hda1s : _ * 32 ≤ _ := hda1.small
 refine zr (args := [.agg (a.cells da0 da1).toArray]) Tryd.func79 rfl rfl ?_
 refine zd ?_
 refine za (by kernel_rfl) (fun _ => ?_)
 refine st (yb (v := .agg (a.cells da0 da1).toArray) rfl ?_)
 intro w3 b2 hn1
 have hS4 := hS0.new hn1
 refine st (ze (v := .pointer none) rfl ?_)
 refine zf ?_
 refine zd ?_
 refine za (by kernel_rfl) (fun _ => ?_)
 refine st (Xi rfl ?_)
 refine st (zg (v := da1) Tryd.isAgg26 rfl (zh (hS4.blk (i := 0) rfl) rfl) ?_)
 refine st (Vf rfl ?_)
 refine st (zg (v := .int .i64 (a.no)) Tryd.isAgg3 rfl (zh (hS4.blk (i := 0) rfl) rfl) ?_)
 have hi5 : a.no.toNat < a.cls.length := (by first | omega | (simp only [lens]; omega))
 refine st (zG (k := 2) (i := a.no) Tryd.underlying26 Tryd.sizeOf42 rfl hda1.sl rfl ⟨by omega, by omega⟩ ?_)
 refine st (ze (v := .pointer (some ⟨sb da1, so da1 + a.no.toNat * 2, none⟩)) rfl ?_)
 refine zf ?_
 refine zu ?_
 refine ya Tryd.results79 (show _ = (.pointer (some ⟨sb da1, so da1 + a.no.toNat * 2, none⟩) : Value) from rfl) ?_
 have hS6 : Sep G W Rs w3 := hS4.sel 1 [] (Nat.le_add_left _ _) rfl rfl
 refine ⟨rfl, hS6⟩

theorem XV {G : Nat → Prop} {W w : World} {Rs : List HP} {a : AskR} {da0 : Value} (hda0 : RdS W G da0 a.fld.moves) {da1 : Value} (hda1 : RdS W G da1 a.cls) (oa : a.Ok) (hS0 : Sep G W Rs w) : Ret Tryd.prog 80 [.agg (a.cells da0 da1).toArray] w (fun r w' => r = (.bool true : Value) ∧ Sep G W Rs w') := by
 have hda0s : _ * 32 ≤ _ := hda0.small
 have hda1s : _ * 32 ≤ _ := hda1.small
 refine zr (args := [.agg (a.cells da0 da1).toArray]) Tryd.func80 rfl rfl ?_
 refine zd ?_
 refine za (by kernel_rfl) (fun _ => ?_)
 refine st (yb (v := .agg (a.cells da0 da1).toArray) rfl ?_)
 intro w3 b2 hn1
 have hS4 := hS0.new hn1
 refine st (ze (v := .bool false) rfl ?_)
 refine zf ?_
 refine zd ?_
 refine za (by kernel_rfl) (fun _ => ?_)
 refine st (ze (v := .bool true) rfl ?_)
 refine zf ?_
 refine zu ?_
 refine ya Tryd.results80 (show _ = (.bool true : Value) from rfl) ?_
 have hS5 : Sep G W Rs w3 := hS4.sel 1 [] (Nat.le_add_left _ _) rfl rfl
 refine ⟨rfl, hS5⟩

theorem xM {d : Option Tmp} {ty : TypeId} {pos : String} {af : Array Edge} {g : Option (Nat × Bool)} {σ : Env} {w : World} {K : Value → World → Prop} {x : Operand} {b o : Nat} (hx : ev σ x = .pointer (some ⟨b, o, none⟩)) (h : K (.pointer (some ⟨b, o + 0, none⟩)) w) : opV Tryd.prog ⟨d, .fieldAddr 42 x 0, ty, pos, af, g⟩ σ w K := zt Tryd.underlying42 rfl rfl (fun w => ⟨0, Tryd.sizeOf3 w⟩) hx h
theorem yT {d : Option Tmp} {ty : TypeId} {pos : String} {af : Array Edge} {g : Option (Nat × Bool)} {σ : Env} {w : World} {K : Value → World → Prop} {x : Operand} {b o : Nat} (hx : ev σ x = .pointer (some ⟨b, o, none⟩)) (h : K (.pointer (some ⟨b, o + 6, none⟩)) w) : opV Tryd.prog ⟨d, .fieldAddr 101 x 3, ty, pos, af, g⟩ σ w K := zt Tryd.underlying101 rfl rfl (fun w => ⟨0, Tryd.sizeOf3 w⟩) hx h
theorem ZX {d : Option Tmp} {ty : TypeId} {pos : String} {af : Array Edge} {g : Option (Nat × Bool)} {σ : Env} {w : World} {K : Value → World → Prop} {x : Operand} {b o : Nat} (hx : ev σ x = .pointer (some ⟨b, o, none⟩)) (h : K (.pointer (some ⟨b, o + 0, none⟩)) w) : opV Tryd.prog ⟨d, .fieldAddr 101 x 0, ty, pos, af, g⟩ σ w K := zt Tryd.underlying101 rfl rfl (fun w => ⟨3, Tryd.sizeOf79 w⟩) hx h
theorem Wp {d : Option Tmp} {ty : TypeId} {pos : String} {af : Array Edge} {g : Option (Nat × Bool)} {σ : Env} {w : World} {K : Value → World → Prop} {x : Operand} {b o : Nat} (hx : ev σ x = .pointer (some ⟨b, o, none⟩)) (h : K (.pointer (some ⟨b, o + 2, none⟩)) w) : opV Tryd.prog ⟨d, .fieldAddr 79 x 2, ty, pos, af, g⟩ σ w K := zt Tryd.underlying79 rfl rfl (fun w => ⟨0, Tryd.sizeOf4 w⟩) hx h
theorem VS {G : Nat → Prop} {W w : World} {Rs : List HP} {a : AskR} {da0 : Value} (hda0 : RdS W G da0 a.fld.moves) {da1 : Value} (hda1 : RdS W G da1 a.cls) (oa : a.Ok) (hS0 : Sep G W Rs w) (hno : 0 ≤ a.no ∧ a.no < a.cls.length) : Ret Tryd.prog 77 [.agg (a.cells da0 da1).toArray] w (fun r w' => r = (.bool (xi a.fld a.cls (yc a.cls a.no) 1 a.arg) : Value) ∧ Sep G W Rs w') := by
 have hda0s : _ * 32 ≤ _ := hda0.small
 have hda1s : _ * 32 ≤ _ := hda1.small
 refine zr (args := [.agg (a.cells da0 da1).toArray]) Tryd.func77 rfl rfl ?_
 refine zd ?_
 refine za (by kernel_rfl) (fun _ => ?_)
 refine st (yb (v := .agg (a.cells da0 da1).toArray) rfl ?_)
 intro w3 b2 hn1
 have hS4 := hS0.new hn1
 refine st (ze (v := .bool false) rfl ?_)
 refine zf ?_
 refine zd ?_
 refine za (by kernel_rfl) (fun _ => ?_)
 refine st (zl (k := 7) Tryd.isAgg101 Tryd.sizeOf101 rfl rfl (CellsAt.all (hS4.blk (i := 0) rfl)) ?_)
 refine st (zv (f := 79) (vals := [.agg (a.cells da0 da1).toArray]) (cap := []) rfl rfl Tryd.call79 (Xs (a := a) hda0 hda1 oa hS4 (by first | omega | (simp only [lens]; omega))) ?_)
 rintro _ w5 ⟨rfl, hS6⟩
 refine st (zL (b := sb da1) (o := so da1 + a.no.toNat * 2) rfl ?_)
 refine st (xM rfl ?_)
 have hi8 : a.no.toNat < a.cls.length := (by first | omega | (simp only [lens]; omega))
 obtain ⟨hce7, hde7_0, hoke7⟩ := hda1.cel hi8
 rw [← zk default hi8] at hce7 hde7_0 hoke7
 have hsm9 : ((a.cls.getD a.no.toNat default).set).length * 8 ≤ 140737488355328 := hde7_0.small
 have hcw10 := hS6.cells hce7 (hda1.foot (ne_of_lt hi8))
 refine st (zg (v := .int .i64 ((a.cls.getD a.no.toNat default).n)) Tryd.isAgg3 rfl (hcw10.get (j := 0) rfl) ?_)
 refine st (ze (v := .int .i64 ((a.cls.getD a.no.toNat default).n)) rfl ?_)
 refine zf ?_
 refine zd ?_
 refine zD (by kernel_rfl) ?_
 refine st (yT rfl ?_)
 refine st (zg (v := .int .i64 (a.arg)) Tryd.isAgg3 rfl (zh (hS6.blk (i := 0) rfl) rfl) ?_)
 refine st (yu (k := .i64) (a := a.arg) (b := 0) rfl rfl ?_)
 refine st (zb (v := .bool (decide (a.arg = 0))) rfl ?_)
 refine stc (V := .int .i64 ((a.cls.getD a.no.toNat default).n)) rfl rfl (fun hb11 => ?_) ?_
 ·have hl12 := hb11
  have hl12 := of_decide_eq_false hl12
  exact zb (v := .int .i64 ((a.cls.getD a.no.toNat default).n)) rfl ⟨rfl, rfl⟩
 refine stc (V := .pointer (some ⟨b2, 6, none⟩)) rfl rfl (fun hb13 => ?_) ?_
 ·have hl14 := hb13
  have hl14 := of_decide_eq_false hl14
  exact yT rfl ⟨rfl, rfl⟩
 refine stc (V := .int .i64 (a.arg)) rfl rfl (fun hb15 => ?_) ?_
 ·have hl16 := hb15
  have hl16 := of_decide_eq_false hl16
  exact zg (v := .int .i64 (a.arg)) Tryd.isAgg3 (show _ = (.pointer (some ⟨b2, 6, none⟩) : Value) from (if_pos hb15)) (zh (hS6.blk (i := 0) rfl) rfl) ⟨rfl, rfl⟩
 cases hg17 : decide (a.arg = 0)
 ·skip
  have hg17r := hg17
  have hg17 := of_decide_eq_false hg17
  refine sty rfl rfl (zv (f := 93) (vals := [.int .i64 ((a.cls.getD a.no.toNat default).n), .int .i64 (a.arg)]) (cap := []) rfl rfl Tryd.call93 (D_sum (x := (a.cls.getD a.no.toNat default).n) (y := a.arg) hoke7.n oa.arg hS6) ?_)
  rintro _ w18 ⟨rfl, hS19⟩
  refine st (zV (v := .bool ((decide (((a.cls.getD a.no.toNat default).n) < xT (((a.cls.getD a.no.toNat default).n) + a.arg)) == decide (0 < a.arg)))) rfl rfl ?_)
  refine st (zb (v := .bool ((decide (((a.cls.getD a.no.toNat default).n) < xT (((a.cls.getD a.no.toNat default).n) + a.arg)) == decide (0 < a.arg)))) rfl ?_)
  refine stc (V := .pointer (some ⟨b2, 0, none⟩)) rfl rfl (fun hb20 => ?_) ?_
  ·have hl21 := hb20
   try simp only [zn] at hl21
   exact ZX rfl ⟨rfl, rfl⟩
  refine stc (V := .pointer (some ⟨b2, 2, none⟩)) rfl rfl (fun hb22 => ?_) ?_
  ·have hl23 := hb22
   try simp only [zn] at hl23
   exact Wp (show _ = (.pointer (some ⟨b2, 0, none⟩) : Value) from (if_pos hb22)) ⟨rfl, rfl⟩
  refine stc (V := .bool (a.fld.floor)) rfl rfl (fun hb24 => ?_) ?_
  ·have hl25 := hb24
   try simp only [zn] at hl25
   exact zg (v := .bool (a.fld.floor)) Tryd.isAgg4 (show _ = (.pointer (some ⟨b2, 2, none⟩) : Value) from (if_pos hb24)) (zh (hS19.blk (i := 0) rfl) rfl) ⟨rfl, rfl⟩
  refine stc (V := .bool (a.fld.floor)) rfl rfl (fun hb26 => ?_) ?_
  ·have hl27 := hb26
   try simp only [zn] at hl27
   exact zb (v := .bool (a.fld.floor)) (show _ = (.bool (a.fld.floor) : Value) from (if_pos hb26)) ⟨rfl, rfl⟩
  refine yB (V := .int .i64 ((a.cls.getD a.no.toNat default).n)) rfl rfl (fun hb28 => ?_) ?_
  ·have hl29 := hb28.1
   try simp only [zn] at hl29
   have hl30 := hb28.2
   exact zb (v := .int .i64 ((a.cls.getD a.no.toNat default).n)) rfl ⟨rfl, rfl⟩
  refine yB (V := .pointer (some ⟨b2, 6, none⟩)) rfl rfl (fun hb31 => ?_) ?_
  ·have hl32 := hb31.1
   try simp only [zn] at hl32
   have hl33 := hb31.2
   exact yT rfl ⟨rfl, rfl⟩
  refine yB (V := .int .i64 (a.arg)) rfl rfl (fun hb34 => ?_) ?_
  ·have hl35 := hb34.1
   try simp only [zn] at hl35
   have hl36 := hb34.2
   exact zg (v := .int .i64 (a.arg)) Tryd.isAgg3 (show _ = (.pointer (some ⟨b2, 6, none⟩) : Value) from (if_pos ⟨hb34.1, hb34.2⟩)) (zh (hS19.blk (i := 0) rfl) rfl) ⟨rfl, rfl⟩
  refine yB (V := .int .i64 (IntKind.i64.wrap (((a.cls.getD a.no.toNat default).n) + a.arg))) rfl rfl (fun hb37 => ?_) ?_
  ·have hl38 := hb37.1
   try simp only [zn] at hl38
   have hl39 := hb37.2
   exact ye (r := IntKind.i64.wrap (((a.cls.getD a.no.toNat default).n) + a.arg)) (k := .i64) (a := (a.cls.getD a.no.toNat default).n) (b := a.arg) (show _ = (.int .i64 ((a.cls.getD a.no.toNat default).n) : Value) from (if_pos ⟨hb37.1, hb37.2⟩)) (show _ = (.int .i64 (a.arg) : Value) from (if_pos ⟨hb37.1, hb37.2⟩)) rfl ⟨rfl, rfl⟩
  refine yB (V := .bool (decide ((IntKind.i64.wrap (((a.cls.getD a.no.toNat default).n) + a.arg)) < 0))) rfl rfl (fun hb40 => ?_) ?_
  ·have hl41 := hb40.1
   try simp only [zn] at hl41
   have hl42 := hb40.2
   exact zN (k := .i64) (a := IntKind.i64.wrap (((a.cls.getD a.no.toNat default).n) + a.arg)) (b := 0) (show _ = (.int .i64 (IntKind.i64.wrap (((a.cls.getD a.no.toNat default).n) + a.arg)) : Value) from (if_pos ⟨hb40.1, hb40.2⟩)) rfl ⟨rfl, rfl⟩
  refine stc (V := .bool (a.fld.floor && (decide ((IntKind.i64.wrap (((a.cls.getD a.no.toNat default).n) + a.arg)) < 0)))) rfl rfl (fun hb43 => ?_) ?_
  ·have hl44 := hb43
   try simp only [zn] at hl44
   exact zK (b := a.fld.floor) (b' := decide ((IntKind.i64.wrap (((a.cls.getD a.no.toNat default).n) + a.arg)) < 0)) (show _ = (.bool (a.fld.floor) : Value) from (if_pos hb43)) (fun hbp => (show _ = (.bool (decide ((IntKind.i64.wrap (((a.cls.getD a.no.toNat default).n) + a.arg)) < 0)) : Value) from (if_pos ⟨hb43, hbp⟩))) ⟨rfl, rfl⟩
  refine stc (V := .bool (!(a.fld.floor && (decide ((IntKind.i64.wrap (((a.cls.getD a.no.toNat default).n) + a.arg)) < 0))))) rfl rfl (fun hb45 => ?_) ?_
  ·have hl46 := hb45
   try simp only [zn] at hl46
   exact yJ (a := a.fld.floor && (decide ((IntKind.i64.wrap (((a.cls.getD a.no.toNat default).n) + a.arg)) < 0))) (show _ = (.bool (a.fld.floor && (decide ((IntKind.i64.wrap (((a.cls.getD a.no.toNat default).n) + a.arg)) < 0))) : Value) from (if_pos hb45)) ⟨rfl, rfl⟩
  refine st (zK (b := (decide (((a.cls.getD a.no.toNat default).n) < xT (((a.cls.getD a.no.toNat default).n) + a.arg)) == decide (0 < a.arg))) (b' := !(a.fld.floor && (decide ((IntKind.i64.wrap (((a.cls.getD a.no.toNat default).n) + a.arg)) < 0)))) rfl (fun hbp => (show _ = (.bool (!(a.fld.floor && (decide ((IntKind.i64.wrap (((a.cls.getD a.no.toNat default).n) + a.arg)) < 0)))) : Value) from (if_pos hbp))) ?_)
  refine st (ze (v := .bool ((decide (((a.cls.getD a.no.toNat default).n) < xT (((a.cls.getD a.no.toNat default).n) + a.arg)) == decide (0 < a.arg)) && (!(a.fld.floor && (decide ((IntKind.i64.wrap (((a.cls.getD a.no.toNat default).n) + a.arg)) < 0)))))) rfl ?_)
  refine zf ?_
  refine zu ?_
  refine ya Tryd.results77 (show _ = (.bool ((decide (((a.cls.getD a.no.toNat default).n) < xT (((a.cls.getD a.no.toNat default).n) + a.arg)) == decide (0 < a.arg)) && (!(a.fld.floor && (decide ((IntKind.i64.wrap (((a.cls.getD a.no.toNat default).n) + a.arg)) < 0))))) : Value) from rfl) ?_
  have hS47 : Sep G W Rs w18 := hS19.sel 1 [] (Nat.le_add_left _ _) rfl rfl
  refine ⟨?_, hS47⟩
  unfold xi
  rw [if_pos rfl, hg17r]
  rfl
 ·skip
  have hg17r := hg17
  have hg17 := of_decide_eq_true hg17
  refine stx rfl rfl ?_
  refine st (zU (v := .bool true) rfl rfl ?_)
  refine st (zb (v := .bool true) rfl ?_)
  refine sty rfl rfl (ZX rfl ?_)
  refine sty rfl rfl (Wp rfl ?_)
  refine sty rfl rfl (zg (v := .bool (a.fld.floor)) Tryd.isAgg4 rfl (zh (hS6.blk (i := 0) rfl) rfl) ?_)
  refine sty rfl rfl (zb (v := .bool (a.fld.floor)) rfl ?_)
  refine stc (V := .int .i64 ((a.cls.getD a.no.toNat default).n)) rfl rfl (fun hb48 => ?_) ?_
  ·have hl49 := hb48
   exact zb (v := .int .i64 ((a.cls.getD a.no.toNat default).n)) rfl ⟨rfl, rfl⟩
  refine stc (V := .pointer (some ⟨b2, 6, none⟩)) rfl rfl (fun hb50 => ?_) ?_
  ·have hl51 := hb50
   exact yT rfl ⟨rfl, rfl⟩
  refine stc (V := .int .i64 (a.arg)) rfl rfl (fun hb52 => ?_) ?_
  ·have hl53 := hb52
   exact zg (v := .int .i64 (a.arg)) Tryd.isAgg3 (show _ = (.pointer (some ⟨b2, 6, none⟩) : Value) from (if_pos hb52)) (zh (hS6.blk (i := 0) rfl) rfl) ⟨rfl, rfl⟩
  refine stc (V := .int .i64 (IntKind.i64.wrap (((a.cls.getD a.no.toNat default).n) + a.arg))) rfl rfl (fun hb54 => ?_) ?_
  ·have hl55 := hb54
   exact ye (r := IntKind.i64.wrap (((a.cls.getD a.no.toNat default).n) + a.arg)) (k := .i64) (a := (a.cls.getD a.no.toNat default).n) (b := a.arg) (show _ = (.int .i64 ((a.cls.getD a.no.toNat default).n) : Value) from (if_pos hb54)) (show _ = (.int .i64 (a.arg) : Value) from (if_pos hb54)) rfl ⟨rfl, rfl⟩
  refine stc (V := .bool (decide ((IntKind.i64.wrap (((a.cls.getD a.no.toNat default).n) + a.arg)) < 0))) rfl rfl (fun hb56 => ?_) ?_
  ·have hl57 := hb56
   exact zN (k := .i64) (a := IntKind.i64.wrap (((a.cls.getD a.no.toNat default).n) + a.arg)) (b := 0) (show _ = (.int .i64 (IntKind.i64.wrap (((a.cls.getD a.no.toNat default).n) + a.arg)) : Value) from (if_pos hb56)) rfl ⟨rfl, rfl⟩
  refine sty rfl rfl (zK (b := a.fld.floor) (b' := decide ((IntKind.i64.wrap (((a.cls.getD a.no.toNat default).n) + a.arg)) < 0)) rfl (fun hbp => (show _ = (.bool (decide ((IntKind.i64.wrap (((a.cls.getD a.no.toNat default).n) + a.arg)) < 0)) : Value) from (if_pos hbp))) ?_)
  refine sty rfl rfl (yJ (a := a.fld.floor && (decide ((IntKind.i64.wrap (((a.cls.getD a.no.toNat default).n) + a.arg)) < 0))) rfl ?_)
  refine st (zU (v := .bool (!(a.fld.floor && (decide ((IntKind.i64.wrap (((a.cls.getD a.no.toNat default).n) + a.arg)) < 0))))) rfl rfl ?_)
  refine st (ze (v := .bool (!(a.fld.floor && (decide ((IntKind.i64.wrap (((a.cls.getD a.no.toNat default).n) + a.arg)) < 0))))) rfl ?_)
  refine zf ?_
  refine zu ?_
  refine ya Tryd.results77 (show _ = (.bool (!(a.fld.floor && (decide ((IntKind.i64.wrap (((a.cls.getD a.no.toNat default).n) + a.arg)) < 0)))) : Value) from rfl) ?_
  have hS58 : Sep G W Rs w5 := hS6.sel 1 [] (Nat.le_add_left _ _) rfl rfl
  refine ⟨?_, hS58⟩
  unfold xi
  rw [if_pos rfl, hg17r]
  rfl

theorem xl {d : Option Tmp} {ty : TypeId} {pos : String} {af : Array Edge} {g : Option (Nat × Bool)} {σ : Env} {w : World} {K : Value → World → Prop} {x : Operand} {b o : Nat} (hx : ev σ x = .pointer (some ⟨b, o, none⟩)) (h : K (.pointer (some ⟨b, o + 1, none⟩)) w) : opV Tryd.prog ⟨d, .fieldAddr 42 x 1, ty, pos, af, g⟩ σ w K := zt Tryd.underlying42 rfl rfl (fun w => ⟨0, Tryd.sizeOf40 w⟩) hx h
theorem VL {G : Nat → Prop} {W w : World} {Rs : List HP} {a : AskR} {da0 : Value} (hda0 : RdS W G da0 a.fld.moves) {da1 : Value} (hda1 : RdS W G da1 a.cls) (oa : a.Ok) (hS0 : Sep G W Rs w) (hno : 0 ≤ a.no ∧ a.no < a.cls.length) (hasc : Asc (yc a.cls a.no).set) : Ret Tryd.prog 82 [.agg (a.cells da0 da1).toArray] w (fun r w' => r = (.bool (xi a.fld a.cls (yc a.cls a.no) 3 a.arg) : Value) ∧ Sep G W Rs w') := by
 have hda0s : _ * 32 ≤ _ := hda0.small
 have hda1s : _ * 32 ≤ _ := hda1.small
 refine zr (args := [.agg (a.cells da0 da1).toArray]) Tryd.func82 rfl rfl ?_
 refine zd ?_
 refine za (by kernel_rfl) (fun _ => ?_)
 refine st (yb (v := .agg (a.cells da0 da1).toArray) rfl ?_)
 intro w3 b2 hn1
 have hS4 := hS0.new hn1
 refine st (ze (v := .bool false) rfl ?_)
 refine zf ?_
 refine zd ?_
 refine zP ((fun pp0 => WF [fun vals wq => Sep G W (pp0 :: Rs) wq, fun vals wq => (vals 1 = (.pointer (some ⟨sb da1, so da1 + a.no.toNat * 2, none⟩) : Value)) ∧ Sep G W (pp0 :: Rs) wq, fun vals wq => ∃ (ix76 : Nat), (vals 1 = (.pointer (some ⟨sb da1, so da1 + a.no.toNat * 2, none⟩) : Value)) ∧ (vals 7 = (.tuple #[.int .i64 ((ix76 : Nat) : Int), .bool (decide (a.arg ∈ ((a.cls.getD a.no.toNat default).set)))] : Value)) ∧ (ix76 ≤ ((a.cls.getD a.no.toNat default).set).length ∧ (∀ q, q < ix76 → ((a.cls.getD a.no.toNat default).set).getD q 0 < a.arg) ∧ (∀ q, ix76 ≤ q → q < ((a.cls.getD a.no.toNat default).set).length → a.arg ≤ ((a.cls.getD a.no.toNat default).set).getD q 0)) ∧ Sep G W (pp0 :: Rs) wq]) (Blk b2 (a.cells da0 da1).toArray 101)) (AF [Vl 0 (.agg (a.cells da0 da1).toArray), fun _ => True, Vl 2 (.pointer (some ⟨sb da1, so da1 + a.no.toNat * 2, none⟩)), Vl 3 (.pointer (some ⟨sb da1, so da1 + a.no.toNat * 2 + 1, none⟩)), Vl 4 ((zi W (sb da1) (so da1 + a.no.toNat * 2 + 1))), Vl 5 (.pointer (some ⟨b2, 6, none⟩)), Vl 6 (.int .i64 (a.arg)), fun _ => True, fun vals => ∀ (ix76 : Nat), vals 7 = (.tuple #[.int .i64 ((ix76 : Nat) : Int), .bool (decide (a.arg ∈ ((a.cls.getD a.no.toNat default).set)))] : Value) → vals 8 = (.tuple #[.int .i64 ((ix76 : Nat) : Int), .bool (decide (a.arg ∈ ((a.cls.getD a.no.toNat default).set)))] : Value), fun vals => ∀ (ix76 : Nat), vals 7 = (.tuple #[.int .i64 ((ix76 : Nat) : Int), .bool (decide (a.arg ∈ ((a.cls.getD a.no.toNat default).set)))] : Value) → vals 9 = (.int .i64 ((ix76 : Nat) : Int) : Value), Vl 10 (.bool (decide (a.arg ∈ ((a.cls.getD a.no.toNat default).set)))), fun vals => ∀ (ix76 : Nat), vals 7 = (.tuple #[.int .i64 ((ix76 : Nat) : Int), .bool (decide (a.arg ∈ ((a.cls.getD a.no.toNat default).set)))] : Value) → vals 11 = (.int .i64 ((ix76 : Nat) : Int) : Value), Vl 12 (.bool (decide (a.arg ∈ ((a.cls.getD a.no.toNat default).set))))]) [[], [0], [0, 1], [0, 1, 2], [0, 1, 2, 3], [], [5], [0, 1, 2, 3, 4, 5, 6], [0, 1, 2, 3, 4, 5, 6, 7], [0, 1, 2, 3, 4, 5, 6, 7, 8], [0, 1, 2, 3, 4, 5, 6, 7, 8], [0, 1, 2, 3, 4, 5, 6, 7, 8, 9], [0, 1, 2, 3, 4, 5, 6, 7, 8, 9, 10, 11]] [1, 7] [(0, 0), (0, 0), (1, 1), (1, 1), (1, 1), (0, 1), (0, 1), (1, 1), (2, 2), (2, 2), (2, 2), (2, 2), (2, 2)] (by kernel_rfl) (by kernel_rfl) (by kernel_rfl) rfl (by kernel_rfl) (by kernel_rfl) (fun _ h1 h2 h3 h4 _ => hS4.same h1 h2 h3 h4) ?_ (yg ⟨dA, dT, dA, dA, dA, dA, dA, dT, fun vals vals' hv h => fun ix76 hq0 => (hv 8 (.inl rfl)).trans (h ix76 ((hv 7 (.inr (by decide))).symm.trans hq0)), fun vals vals' hv h => fun ix76 hq0 => (hv 9 (.inl rfl)).trans (h ix76 ((hv 7 (.inr (by decide))).symm.trans hq0)), dA, fun vals vals' hv h => fun ix76 hq0 => (hv 11 (.inl rfl)).trans (h ix76 ((hv 7 (.inr (by decide))).symm.trans hq0)), dA, trivial⟩) ⟨?_, ?_, ?_, ?_, ?_, ?_, ?_, ?_, ?_, ?_, ?_, ?_, ?_, trivial⟩ ?_
 ·intro k vals vals' w hv h
  have e : ∀ j ∈ ([1, 7] : List Nat), vals' j = vals j := hv
  match k, h with
  | 0, h => exact h
  | 1, h => exact (by simpa only [WF, List.getElem?_cons_zero, List.getElem?_cons_succ, e 1 (by decide)] using h)
  | 2, h => exact (by simpa only [WF, List.getElem?_cons_zero, List.getElem?_cons_succ, e 1 (by decide), e 7 (by decide)] using h)
  | _ + 3, _ => trivial
 ·intro k120 vals w121 h124 h125 hW123 hA122
  obtain rfl : k120 = 0 := Nat.le_antisymm h125 h124
  have hS126 : Sep _ _ _ _ := hW123
  refine obl rfl ?_
  exact zl (k := 7) Tryd.isAgg101 Tryd.sizeOf101 rfl rfl (CellsAt.all (hS126.blk (i := 0) rfl)) (fun vals' hv _ => ⟨rfl, hv⟩)
 ·intro k12 vals w13 h16 h17 hW15 hA14
  obtain rfl : k12 = 0 := Nat.le_antisymm h17 h16
  have hS18 : Sep _ _ _ _ := hW15
  have e19 := hA14 0 (by decide)
  refine obl rfl ?_
  refine (zv (f := 79) (vals := [.agg (a.cells da0 da1).toArray]) (cap := []) rfl (xj ⟨e19, trivial⟩) Tryd.call79 (Xs (a := a) hda0 hda1 oa hS18 (by first | omega | (simp only [lens]; omega))) ?_)
  rintro _ w20 ⟨rfl, hS21⟩
  intro vals' hv hv'
  refine ⟨?_, trivial⟩
  show (vals' 1 = (.pointer (some ⟨sb da1, so da1 + a.no.toNat * 2, none⟩) : Value)) ∧ Sep G W ((Blk b2 (a.cells da0 da1).toArray 101) :: Rs) w20
  exact ⟨hv, hS21⟩
 ·intro k127 vals w128 h131 h132 hW130 hA129
  obtain rfl : k127 = 1 := Nat.le_antisymm h132 h131
  obtain ⟨he22, hS133⟩ := hW130
  refine obl rfl ?_
  exact zL (b := sb da1) (o := so da1 + a.no.toNat * 2) he22 (fun vals' hv _ => ⟨rfl, hv⟩)
 ·intro k134 vals w135 h138 h139 hW137 hA136
  have e140 := hA136 2 (by decide)
  refine obl rfl ?_
  exact xl e140 (fun vals' hv _ => ⟨rfl, hv⟩)
 ·intro k141 vals w142 h145 h146 hW144 hA143
  obtain rfl : k141 = 1 := Nat.le_antisymm h146 h145
  obtain ⟨he22, hS147⟩ := hW144
  have e148 := hA143 3 (by decide)
  refine obl rfl ?_
  have hi150 : a.no.toNat < a.cls.length := (by first | omega | (simp only [lens]; omega))
  obtain ⟨hce149, hde149_0, hoke149⟩ := hda1.cel hi150
  rw [← zk default hi150] at hce149 hde149_0 hoke149
  have hsm151 : ((a.cls.getD a.no.toNat default).set).length * 8 ≤ 140737488355328 := hde149_0.small
  have hcw152 := hS147.cells hce149 (hda1.foot (ne_of_lt hi150))
  exact zg (v := (zi W (sb da1) (so da1 + a.no.toNat * 2 + 1))) Tryd.isAgg40 e148 (hcw152.get (j := 1) rfl) (fun vals' hv _ => ⟨rfl, hv⟩)
 ·intro k153 vals w154 h157 h158 hW156 hA155
  refine obl rfl ?_
  exact yT rfl (fun vals' hv _ => ⟨rfl, hv⟩)
 ·intro k159 vals w160 h163 h164 hW162 hA161
  have hkk : k159 = 0 ∨ k159 = 1 := by have h1 : 0 ≤ k159 := h163; have h2 : k159 ≤ 1 := h164; omega
  rcases hkk with rfl | rfl
  ·skip
   have hS165 : Sep _ _ _ _ := hW162
   have e166 := hA161 5 (by decide)
   refine obl rfl ?_
   exact zg (v := .int .i64 (a.arg)) Tryd.isAgg3 e166 (zh (hS165.blk (i := 0) rfl) rfl) (fun vals' hv _ => ⟨rfl, hv⟩)
  ·skip
   obtain ⟨he22, hS167⟩ := hW162
   have e168 := hA161 5 (by decide)
   refine obl rfl ?_
   exact zg (v := .int .i64 (a.arg)) Tryd.isAgg3 e168 (zh (hS167.blk (i := 0) rfl) rfl) (fun vals' hv _ => ⟨rfl, hv⟩)
 ·intro k63 vals w64 h67 h68 hW66 hA65
  obtain rfl : k63 = 1 := Nat.le_antisymm h68 h67
  obtain ⟨he22, hS69⟩ := hW66
  have e70 := hA65 4 (by decide)
  have e71 := hA65 6 (by decide)
  refine obl rfl ?_
  have hi73 : a.no.toNat < a.cls.length := (by first | omega | (simp only [lens]; omega))
  obtain ⟨hce72, hde72_0, hoke72⟩ := hda1.cel hi73
  rw [← zk default hi73] at hce72 hde72_0 hoke72
  have hsm74 : ((a.cls.getD a.no.toNat default).set).length * 8 ≤ 140737488355328 := hde72_0.small
  have hcw75 := hS69.cells hce72 (hda1.foot (ne_of_lt hi73))
  refine (zv (f := 94) (vals := [(zi W (sb da1) (so da1 + a.no.toNat * 2 + 1)), .int .i64 (a.arg)]) (cap := []) rfl (xj ⟨e70, e71, trivial⟩) Tryd.call94 (ZK (l := (a.cls.getD a.no.toNat default).set) (vl := (zi W (sb da1) (so da1 + a.no.toNat * 2 + 1))) (x := a.arg) hde72_0 oa.arg hS69 (hasc)) ?_)
  rintro _ w78 ⟨ix76, rfl, hix77, hS79⟩
  intro vals' hv hv'
  refine ⟨?_, trivial⟩
  show ∃ (ix76 : Nat), (vals' 1 = (.pointer (some ⟨sb da1, so da1 + a.no.toNat * 2, none⟩) : Value)) ∧ (vals' 7 = (.tuple #[.int .i64 ((ix76 : Nat) : Int), .bool (decide (a.arg ∈ ((a.cls.getD a.no.toNat default).set)))] : Value)) ∧ (ix76 ≤ ((a.cls.getD a.no.toNat default).set).length ∧ (∀ q, q < ix76 → ((a.cls.getD a.no.toNat default).set).getD q 0 < a.arg) ∧ (∀ q, ix76 ≤ q → q < ((a.cls.getD a.no.toNat default).set).length → a.arg ≤ ((a.cls.getD a.no.toNat default).set).getD q 0)) ∧ Sep G W ((Blk b2 (a.cells da0 da1).toArray 101) :: Rs) w78
  exact ⟨ix76, (by rw [hv' 1 (by decide)]; exact he22), hv, hix77, hS79⟩
 ·intro k169 vals w170 h173 h174 hW172 hA171
  obtain rfl : k169 = 2 := Nat.le_antisymm h174 h173
  obtain ⟨ix76, he22, he80, hix77, hS175⟩ := hW172
  refine obl rfl ?_
  refine zb (v := .tuple #[.int .i64 ((ix76 : Nat) : Int), .bool (decide (a.arg ∈ ((a.cls.getD a.no.toNat default).set)))]) he80 (fun vals' hv hv' => ⟨rfl, ?_⟩)
  intro ix76q hq0
  rw [hv' 7 (by decide)] at hq0; cases he80.symm.trans hq0
  exact hv
 ·intro k176 vals w177 h180 h181 hW179 hA178
  obtain rfl : k176 = 2 := Nat.le_antisymm h181 h180
  obtain ⟨ix76, he22, he80, hix77, hS182⟩ := hW179
  have e183 : vals 8 = (.tuple #[.int .i64 ((ix76 : Nat) : Int), .bool (decide (a.arg ∈ ((a.cls.getD a.no.toNat default).set)))] : Value) := hA178 8 (by decide) ix76 he80
  refine obl rfl ?_
  refine zH (vs := [.int .i64 ((ix76 : Nat) : Int), .bool (decide (a.arg ∈ ((a.cls.getD a.no.toNat default).set)))]) (i := 0) (v := .int .i64 ((ix76 : Nat) : Int)) e183 rfl (fun vals' hv hv' => ⟨rfl, ?_⟩)
  intro ix76q hq0
  rw [hv' 7 (by decide)] at hq0; cases he80.symm.trans hq0
  exact hv
 ·intro k184 vals w185 h188 h189 hW187 hA186
  obtain rfl : k184 = 2 := Nat.le_antisymm h189 h188
  obtain ⟨ix76, he22, he80, hix77, hS190⟩ := hW187
  have e191 : vals 8 = (.tuple #[.int .i64 ((ix76 : Nat) : Int), .bool (decide (a.arg ∈ ((a.cls.getD a.no.toNat default).set)))] : Value) := hA186 8 (by decide) ix76 he80
  refine obl rfl ?_
  exact zH (vs := [.int .i64 ((ix76 : Nat) : Int), .bool (decide (a.arg ∈ ((a.cls.getD a.no.toNat default).set)))]) (i := 1) (v := .bool (decide (a.arg ∈ ((a.cls.getD a.no.toNat default).set)))) e191 rfl (fun vals' hv _ => ⟨rfl, hv⟩)
 ·intro k192 vals w193 h196 h197 hW195 hA194
  obtain rfl : k192 = 2 := Nat.le_antisymm h197 h196
  obtain ⟨ix76, he22, he80, hix77, hS198⟩ := hW195
  have e199 : vals 9 = (.int .i64 ((ix76 : Nat) : Int) : Value) := hA194 9 (by decide) ix76 he80
  refine obl rfl ?_
  refine ze (v := .int .i64 ((ix76 : Nat) : Int)) e199 (fun vals' hv hv' => ⟨rfl, ?_⟩)
  intro ix76q hq0
  rw [hv' 7 (by decide)] at hq0; cases he80.symm.trans hq0
  exact hv
 ·intro k200 vals w201 h204 h205 hW203 hA202
  obtain rfl : k200 = 2 := Nat.le_antisymm h205 h204
  obtain ⟨ix76, he22, he80, hix77, hS206⟩ := hW203
  have e207 := hA202 10 (by decide)
  refine obl rfl ?_
  exact ze (v := .bool (decide (a.arg ∈ ((a.cls.getD a.no.toNat default).set)))) e207 (fun vals' hv _ => ⟨rfl, hv⟩)
 intro vals w208 hW209 hA210
 obtain ⟨ix76, he22, he80, hix77, hS211⟩ := hW209
 have e212 := hA210 12 (by decide)
 refine yh (kv := [(0, .agg (a.cells da0 da1).toArray), (1, .pointer (some ⟨b2, 0, none⟩)), (2, .bool false), (4, .bool (decide (a.arg ∈ ((a.cls.getD a.no.toNat default).set))))]) ⟨rfl, rfl, rfl, (by exact e212), trivial⟩ (fun ρw208 => ?_)
 refine zf ?_
 refine zd ?_
 refine zD (by kernel_rfl) ?_
 refine st (zb (v := .bool (decide (a.arg ∈ ((a.cls.getD a.no.toNat default).set)))) rfl ?_)
 refine st (zb (v := .bool (decide (a.arg ∈ ((a.cls.getD a.no.toNat default).set)))) rfl ?_)
 refine stc (V := .agg (a.cells da0 da1).toArray) rfl rfl (fun hb213 => ?_) ?_
 ·have hl214 := hb213
  have hl214 := of_decide_eq_false hl214
  exact zl (k := 7) Tryd.isAgg101 Tryd.sizeOf101 rfl rfl (CellsAt.all (hS211.blk (i := 0) rfl)) ⟨rfl, rfl⟩
 cases hg215 : decide (a.arg ∈ ((a.cls.getD a.no.toNat default).set))
 ·skip
  have hg215r := hg215
  have hg215 := of_decide_eq_false hg215
  refine sty rfl rfl (zv (f := 79) (vals := [.agg (a.cells da0 da1).toArray]) (cap := []) rfl rfl Tryd.call79 (Xs (a := a) hda0 hda1 oa hS211 (by first | omega | (simp only [lens]; omega))) ?_)
  rintro _ w216 ⟨rfl, hS217⟩
  refine sty rfl rfl (zL (b := sb da1) (o := so da1 + a.no.toNat * 2) rfl ?_)
  refine sty rfl rfl (xl rfl ?_)
  have hi219 : a.no.toNat < a.cls.length := (by first | omega | (simp only [lens]; omega))
  obtain ⟨hce218, hde218_0, hoke218⟩ := hda1.cel hi219
  rw [← zk default hi219] at hce218 hde218_0 hoke218
  have hsm220 : ((a.cls.getD a.no.toNat default).set).length * 8 ≤ 140737488355328 := hde218_0.small
  have hcw221 := hS217.cells hce218 (hda1.foot (ne_of_lt hi219))
  refine sty rfl rfl (zg (v := (zi W (sb da1) (so da1 + a.no.toNat * 2 + 1))) Tryd.isAgg40 rfl (hcw221.get (j := 1) rfl) ?_)
  refine sty rfl rfl (zJ (n := ((a.cls.getD a.no.toNat default).set).length) Tryd.underlying40 rfl hde218_0.sl ?_)
  refine sty rfl rfl (zN (k := .i64) (a := ((((a.cls.getD a.no.toNat default).set).length : Nat) : Int)) (b := 64) rfl rfl ?_)
  refine st (zV (v := .bool (decide (((((a.cls.getD a.no.toNat default).set).length : Nat) : Int) < 64))) rfl rfl ?_)
  refine st (ze (v := .bool (decide (((((a.cls.getD a.no.toNat default).set).length : Nat) : Int) < 64))) rfl ?_)
  refine zf ?_
  refine zu ?_
  refine ya Tryd.results82 (show _ = (.bool (decide (((((a.cls.getD a.no.toNat default).set).length : Nat) : Int) < 64)) : Value) from rfl) ?_
  have hS222 : Sep G W Rs w216 := hS217.sel 1 [] (Nat.le_add_left _ _) rfl rfl
  refine ⟨?_, hS222⟩
  unfold xi
  rw [if_neg (by decide), if_pos rfl, show decide (a.arg ∈ (yc a.cls a.no).set) = _ from hg215r]
  rfl
 ·skip
  have hg215r := hg215
  have hg215 := of_decide_eq_true hg215
  refine stx rfl rfl ?_
  refine stx rfl rfl ?_
  refine stx rfl rfl ?_
  refine stx rfl rfl ?_
  refine stx rfl rfl ?_
  refine stx rfl rfl ?_
  refine st (zU (v := .bool true) rfl rfl ?_)
  refine st (ze (v := .bool true) rfl ?_)
  refine zf ?_
  refine zu ?_
  refine ya Tryd.results82 (show _ = (.bool true : Value) from rfl) ?_
  have hS223 : Sep G W Rs w208 := hS211.sel 1 [] (Nat.le_add_left _ _) rfl rfl
  refine ⟨?_, hS223⟩
  unfold xi
  rw [if_neg (by decide), if_pos rfl, show decide (a.arg ∈ (yc a.cls a.no).set) = _ from hg215r]
  rfl

theorem yE {d : Option Tmp} {ty : TypeId} {pos : String} {af : Array Edge} {g : Option (Nat × Bool)} {σ : Env} {w : World} {K : Value → World → Prop} {x : Operand} {b o : Nat} (hx : ev σ x = .pointer (some ⟨b, o, none⟩)) (h : K (.pointer (some ⟨b, o + 3, none⟩)) w) : opV Tryd.prog ⟨d, .fieldAddr 79 x 3, ty, pos, af, g⟩ σ w K := zt Tryd.underlying79 rfl rfl (fun w => ⟨0, Tryd.sizeOf77 w⟩) hx h
theorem WZ {d : Option Tmp} {ty : TypeId} {pos : String} {af : Array Edge} {g : Option (Nat × Bool)} {σ : Env} {w : World} {K : Value → World → Prop} {x : Operand} {b o : Nat} (hx : ev σ x = .pointer (some ⟨b, o, none⟩)) (h : K (.pointer (some ⟨b, o + 0, none⟩)) w) : opV Tryd.prog ⟨d, .fieldAddr 115 x 0, ty, pos, af, g⟩ σ w K := zt Tryd.underlying115 rfl rfl (fun w => ⟨0, Tryd.sizeOf3 w⟩) hx h
theorem ZB {d : Option Tmp} {ty : TypeId} {pos : String} {af : Array Edge} {g : Option (Nat × Bool)} {σ : Env} {w : World} {K : Value → World → Prop} {x : Operand} {b o : Nat} (hx : ev σ x = .pointer (some ⟨b, o, none⟩)) (h : K (.pointer (some ⟨b, o + 2, none⟩)) w) : opV Tryd.prog ⟨d, .fieldAddr 115 x 2, ty, pos, af, g⟩ σ w K := zt Tryd.underlying115 rfl rfl (fun w => ⟨0, Tryd.sizeOf3 w⟩) hx h
theorem WV {d : Option Tmp} {ty : TypeId} {pos : String} {af : Array Edge} {g : Option (Nat × Bool)} {σ : Env} {w : World} {K : Value → World → Prop} {x : Operand} {b o : Nat} (hx : ev σ x = .pointer (some ⟨b, o, none⟩)) (h : K (.pointer (some ⟨b, o + 3, none⟩)) w) : opV Tryd.prog ⟨d, .fieldAddr 115 x 3, ty, pos, af, g⟩ σ w K := zt Tryd.underlying115 rfl rfl (fun w => ⟨0, Tryd.sizeOf3 w⟩) hx h
theorem Vy {G : Nat → Prop} {W w : World} {Rs : List HP} {a : AskR} {da0 : Value} (hda0 : RdS W G da0 a.fld.moves) {da1 : Value} (hda1 : RdS W G da1 a.cls) (oa : a.Ok) (hS0 : Sep G W Rs w) (hno : 0 ≤ a.no ∧ a.no < a.cls.length) (hmv : 0 ≤ a.arg ∧ a.arg < a.fld.moves.length) (hnd : (ZC a.fld a.arg).need < 0 ∨ (ZC a.fld a.arg).need < a.cls.length) : Ret Tryd.prog 85 [.agg (a.cells da0 da1).toArray] w (fun r w' => r = (.bool (xi a.fld a.cls (yc a.cls a.no) 5 a.arg) : Value) ∧ Sep G W Rs w') := by
 have hda0s : _ * 32 ≤ _ := hda0.small
 have hda1s : _ * 32 ≤ _ := hda1.small
 have hnd1 : (a.fld.moves.getD a.arg.toNat default).need < 0 ∨ (a.fld.moves.getD a.arg.toNat default).need < a.cls.length := hnd
 refine zr (args := [.agg (a.cells da0 da1).toArray]) Tryd.func85 rfl rfl ?_
 refine zd ?_
 refine za (by kernel_rfl) (fun _ => ?_)
 refine st (yb (v := .agg (a.cells da0 da1).toArray) rfl ?_)
 intro w3 b2 hn1
 have hS4 := hS0.new hn1
 refine st (ze (v := .bool false) rfl ?_)
 refine zf ?_
 refine zd ?_
 refine za (by kernel_rfl) (fun _ => ?_)
 refine st (ZX rfl ?_)
 refine st (yE rfl ?_)
 refine st (zg (v := da0) Tryd.isAgg77 rfl (zh (hS4.blk (i := 0) rfl) rfl) ?_)
 refine st (yT rfl ?_)
 refine st (zg (v := .int .i64 (a.arg)) Tryd.isAgg3 rfl (zh (hS4.blk (i := 0) rfl) rfl) ?_)
 have hi5 : a.arg.toNat < a.fld.moves.length := (by first | omega | (simp only [lens]; omega))
 refine st (zG (k := 4) (i := a.arg) Tryd.underlying77 Tryd.sizeOf115 rfl hda0.sl rfl ⟨by omega, by omega⟩ ?_)
 have hi7 : a.arg.toNat < a.fld.moves.length := (by first | omega | (simp only [lens]; omega))
 obtain ⟨hce6, hoke6⟩ := hda0.mv hi7
 rw [← zk default hi7] at hce6 hoke6
 have hcw8 := hS4.cells hce6 (hda0.foot (ne_of_lt hi7))
 refine st (zl (k := 4) Tryd.isAgg115 Tryd.sizeOf115 rfl rfl hcw8 ?_)
 refine st (zE Tryd.zeroValue115 ?_)
 intro w11 b10 hn9
 have hS12 := hS4.new hn9
 refine stn (zy (v := .agg ((a.fld.moves.getD a.arg.toNat default).cells).toArray) (c' := ((a.fld.moves.getD a.arg.toNat default).cells).toArray) Tryd.sizeOf115 rfl rfl (hS12.blk (i := 0) rfl) (yj ⟨rfl, rfl, rfl, rfl, trivial⟩) (Nat.le_of_ble_eq_true rfl) rfl ?_)
 intro w13 hp14
 have hS15 := hS12.pt0 hp14
 refine zf ?_
 refine zd ?_
 refine zP ((fun TT pp0 => WF [fun vals wq => Sep G W (pp0 :: TT) wq, fun vals wq => (vals 1 = (.pointer (some ⟨sb da1, so da1 + a.no.toNat * 2, none⟩) : Value)) ∧ Sep G W (pp0 :: TT) wq]) ((Blk b2 (a.cells da0 da1).toArray 101) :: Rs) (Blk b10 ((a.fld.moves.getD a.arg.toNat default).cells).toArray 115)) (AF [Vl 0 (.agg (a.cells da0 da1).toArray), fun _ => True, Vl 2 (.pointer (some ⟨sb da1, so da1 + a.no.toNat * 2, none⟩)), Vl 3 (.pointer (some ⟨sb da1, so da1 + a.no.toNat * 2, none⟩)), Vl 4 (.int .i64 ((a.cls.getD a.no.toNat default).n)), Vl 5 (.pointer (some ⟨b10, 0, none⟩)), Vl 6 (.int .i64 ((a.fld.moves.getD a.arg.toNat default).frm)), Vl 7 (.bool (decide (((a.cls.getD a.no.toNat default).n) = ((a.fld.moves.getD a.arg.toNat default).frm)))), Vl 8 (.bool (decide (((a.cls.getD a.no.toNat default).n) = ((a.fld.moves.getD a.arg.toNat default).frm)))), Vl 9 (if (decide (((a.cls.getD a.no.toNat default).n) = ((a.fld.moves.getD a.arg.toNat default).frm))) = true then .pointer (some ⟨b10, 2, none⟩) else undef), Vl 10 (if (decide (((a.cls.getD a.no.toNat default).n) = ((a.fld.moves.getD a.arg.toNat default).frm))) = true then .int .i64 ((a.fld.moves.getD a.arg.toNat default).need) else undef), Vl 11 (if (decide (((a.cls.getD a.no.toNat default).n) = ((a.fld.moves.getD a.arg.toNat default).frm))) = true then .bool (decide (((a.fld.moves.getD a.arg.toNat default).need) < 0)) else undef), Vl 12 (if (decide (((a.cls.getD a.no.toNat default).n) = ((a.fld.moves.getD a.arg.toNat default).frm))) = true then .bool (decide (((a.fld.moves.getD a.arg.toNat default).need) < 0)) else undef), Vl 13 (if ((decide (((a.cls.getD a.no.toNat default).n) = ((a.fld.moves.getD a.arg.toNat default).frm))) = true) ∧ (decide (((a.fld.moves.getD a.arg.toNat default).need) < 0)) = false then .pointer (some ⟨b2, 4, none⟩) else undef), Vl 14 (if ((decide (((a.cls.getD a.no.toNat default).n) = ((a.fld.moves.getD a.arg.toNat default).frm))) = true) ∧ (decide (((a.fld.moves.getD a.arg.toNat default).need) < 0)) = false then da1 else undef), Vl 15 (if ((decide (((a.cls.getD a.no.toNat default).n) = ((a.fld.moves.getD a.arg.toNat default).frm))) = true) ∧ (decide (((a.fld.moves.getD a.arg.toNat default).need) < 0)) = false then .pointer (some ⟨b10, 2, none⟩) else undef), Vl 16 (if ((decide (((a.cls.getD a.no.toNat default).n) = ((a.fld.moves.getD a.arg.toNat default).frm))) = true) ∧ (decide (((a.fld.moves.getD a.arg.toNat default).need) < 0)) = false then .int .i64 ((a.fld.moves.getD a.arg.toNat default).need) else undef), Vl 17 (if ((decide (((a.cls.getD a.no.toNat default).n) = ((a.fld.moves.getD a.arg.toNat default).frm))) = true) ∧ (decide (((a.fld.moves.getD a.arg.toNat default).need) < 0)) = false then .pointer (some ⟨sb da1, so da1 + (((a.fld.moves.getD a.arg.toNat default).need).toNat) * 2, none⟩) else undef), Vl 18 (if ((decide (((a.cls.getD a.no.toNat default).n) = ((a.fld.moves.getD a.arg.toNat default).frm))) = true) ∧ (decide (((a.fld.moves.getD a.arg.toNat default).need) < 0)) = false then .pointer (some ⟨sb da1, so da1 + (((a.fld.moves.getD a.arg.toNat default).need).toNat) * 2, none⟩) else undef), Vl 19 (if ((decide (((a.cls.getD a.no.toNat default).n) = ((a.fld.moves.getD a.arg.toNat default).frm))) = true) ∧ (decide (((a.fld.moves.getD a.arg.toNat default).need) < 0)) = false then .int .i64 ((a.cls.getD (((a.fld.moves.getD a.arg.toNat default).need).toNat) default).n) else undef), Vl 20 (if ((decide (((a.cls.getD a.no.toNat default).n) = ((a.fld.moves.getD a.arg.toNat default).frm))) = true) ∧ (decide (((a.fld.moves.getD a.arg.toNat default).need) < 0)) = false then .pointer (some ⟨b10, 3, none⟩) else undef), Vl 21 (if ((decide (((a.cls.getD a.no.toNat default).n) = ((a.fld.moves.getD a.arg.toNat default).frm))) = true) ∧ (decide (((a.fld.moves.getD a.arg.toNat default).need) < 0)) = false then .int .i64 ((a.fld.moves.getD a.arg.toNat default).least) else undef), Vl 22 (if ((decide (((a.cls.getD a.no.toNat default).n) = ((a.fld.moves.getD a.arg.toNat default).frm))) = true) ∧ (decide (((a.fld.moves.getD a.arg.toNat default).need) < 0)) = false then .bool (decide (((a.fld.moves.getD a.arg.toNat default).least) ≤ ((a.cls.getD (((a.fld.moves.getD a.arg.toNat default).need).toNat) default).n))) else undef), Vl 23 (if (decide (((a.cls.getD a.no.toNat default).n) = ((a.fld.moves.getD a.arg.toNat default).frm))) = true then .bool ((decide (((a.fld.moves.getD a.arg.toNat default).need) < 0)) || (decide (((a.fld.moves.getD a.arg.toNat default).least) ≤ ((a.cls.getD (((a.fld.moves.getD a.arg.toNat default).need).toNat) default).n)))) else undef), Vl 24 (.bool ((decide (((a.cls.getD a.no.toNat default).n) = ((a.fld.moves.getD a.arg.toNat default).frm))) && ((decide (((a.fld.moves.getD a.arg.toNat default).need) < 0)) || (decide (((a.fld.moves.getD a.arg.toNat default).least) ≤ ((a.cls.getD (((a.fld.moves.getD a.arg.toNat default).need).toNat) default).n)))))), Vl 25 (.bool ((decide (((a.cls.getD a.no.toNat default).n) = ((a.fld.moves.getD a.arg.toNat default).frm))) && ((decide (((a.fld.moves.getD a.arg.toNat default).need) < 0)) || (decide (((a.fld.moves.getD a.arg.toNat default).least) ≤ ((a.cls.getD (((a.fld.moves.getD a.arg.toNat default).need).toNat) default).n))))))]) [[], [0], [0, 1], [0, 1, 2], [0, 1, 2, 3], [], [5], [0, 1, 2, 3, 4, 5, 6], [0, 1, 2, 3, 4, 5, 6, 7], [0, 1, 2, 3, 4, 5, 6, 7, 8], [0, 1, 2, 3, 4, 5, 6, 7, 8, 9], [0, 1, 2, 3, 4, 5, 6, 7, 8, 9, 10], [0, 1, 2, 3, 4, 5, 6, 7, 8, 9, 10, 11], [0, 1, 2, 3, 4, 5, 6, 7, 8, 9, 10, 11, 12], [0, 1, 2, 3, 4, 5, 6, 7, 8, 9, 10, 11, 12, 13], [0, 1, 2, 3, 4, 5, 6, 7, 8, 9, 10, 11, 12], [0, 1, 2, 3, 4, 5, 6, 7, 8, 9, 10, 11, 12, 15], [0, 1, 2, 3, 4, 5, 6, 7, 8, 9, 10, 11, 12, 13, 14, 15, 16], [0, 1, 2, 3, 4, 5, 6, 7, 8, 9, 10, 11, 12, 13, 14, 15, 16, 17], [0, 1, 2, 3, 4, 5, 6, 7, 8, 9, 10, 11, 12, 13, 14, 15, 16, 17, 18], [0, 1, 2, 3, 4, 5, 6, 7, 8, 9, 10, 11, 12], [0, 1, 2, 3, 4, 5, 6, 7, 8, 9, 10, 11, 12, 20], [0, 1, 2, 3, 4, 5, 6, 7, 8, 9, 10, 11, 12, 13, 14, 15, 16, 17, 18, 19, 20, 21], [0, 1, 2, 3, 4, 5, 6, 7, 8, 9, 10, 11, 12, 13, 14, 15, 16, 17, 18, 19, 20, 21, 22], [0, 1, 2, 3, 4, 5, 6, 7, 8, 9, 10, 11, 12, 13, 14, 15, 16, 17, 18, 19, 20, 21, 22, 23], [0, 1, 2, 3, 4, 5, 6, 7, 8, 9, 10, 11, 12, 13, 14, 15, 16, 17, 18, 19, 20, 21, 22, 23, 24]] [1] [(0, 0), (0, 0), (1, 1), (1, 1), (1, 1), (0, 1), (0, 1), (1, 1), (1, 1), (1, 1), (1, 1), (1, 1), (1, 1), (1, 1), (1, 1), (1, 1), (1, 1), (1, 1), (1, 1), (1, 1), (1, 1), (1, 1), (1, 1), (1, 1), (1, 1), (1, 1)] (by kernel_rfl) (by kernel_rfl) (by kernel_rfl) rfl (by kernel_rfl) (by kernel_rfl) (fun _ h1 h2 h3 h4 _ => hS15.same h1 h2 h3 h4) ?_ (yg ⟨dA, dT, dA, dA, dA, dA, dA, dA, dA, dA, dA, dA, dA, dA, dA, dA, dA, dA, dA, dA, dA, dA, dA, dA, dA, dA, trivial⟩) ⟨?_, ?_, ?_, ?_, ?_, ?_, ?_, ?_, ?_, ?_, ?_, ?_, ?_, ?_, ?_, ?_, ?_, ?_, ?_, ?_, ?_, ?_, ?_, ?_, ?_, ?_, trivial⟩ ?_
 ·intro k vals vals' w hv h
  have e : ∀ j ∈ ([1] : List Nat), vals' j = vals j := hv
  match k, h with
  | 0, h => exact h
  | 1, h => exact (by simpa only [WF, List.getElem?_cons_zero, List.getElem?_cons_succ, e 1 (by decide)] using h)
  | _ + 2, _ => trivial
 ·intro k277 vals w278 h281 h282 hW280 hA279
  obtain rfl : k277 = 0 := Nat.le_antisymm h282 h281
  have hS283 : Sep _ _ _ _ := hW280
  refine obl rfl ?_
  exact zl (k := 7) Tryd.isAgg101 Tryd.sizeOf101 rfl rfl (CellsAt.all (hS283.blk (i := 1) rfl)) (fun vals' hv _ => ⟨rfl, hv⟩)
 ·intro k23 vals w24 h27 h28 hW26 hA25
  obtain rfl : k23 = 0 := Nat.le_antisymm h28 h27
  have hS29 : Sep _ _ _ _ := hW26
  have e30 := hA25 0 (by decide)
  refine obl rfl ?_
  refine (zv (f := 79) (vals := [.agg (a.cells da0 da1).toArray]) (cap := []) rfl (xj ⟨e30, trivial⟩) Tryd.call79 (Xs (a := a) hda0 hda1 oa hS29 (by first | omega | (simp only [lens]; omega))) ?_)
  rintro _ w31 ⟨rfl, hS32⟩
  intro vals' hv hv'
  refine ⟨?_, trivial⟩
  show (vals' 1 = (.pointer (some ⟨sb da1, so da1 + a.no.toNat * 2, none⟩) : Value)) ∧ Sep G W ((Blk b10 ((a.fld.moves.getD a.arg.toNat default).cells).toArray 115) :: (Blk b2 (a.cells da0 da1).toArray 101) :: Rs) w31
  exact ⟨hv, hS32⟩
 ·intro k284 vals w285 h288 h289 hW287 hA286
  obtain rfl : k284 = 1 := Nat.le_antisymm h289 h288
  obtain ⟨he33, hS290⟩ := hW287
  refine obl rfl ?_
  exact zL (b := sb da1) (o := so da1 + a.no.toNat * 2) he33 (fun vals' hv _ => ⟨rfl, hv⟩)
 ·intro k291 vals w292 h295 h296 hW294 hA293
  have e297 := hA293 2 (by decide)
  refine obl rfl ?_
  exact xM e297 (fun vals' hv _ => ⟨rfl, hv⟩)
 ·intro k298 vals w299 h302 h303 hW301 hA300
  obtain rfl : k298 = 1 := Nat.le_antisymm h303 h302
  obtain ⟨he33, hS304⟩ := hW301
  have e305 := hA300 3 (by decide)
  refine obl rfl ?_
  have hi307 : a.no.toNat < a.cls.length := (by first | omega | (simp only [lens]; omega))
  obtain ⟨hce306, hde306_0, hoke306⟩ := hda1.cel hi307
  rw [← zk default hi307] at hce306 hde306_0 hoke306
  have hsm308 : ((a.cls.getD a.no.toNat default).set).length * 8 ≤ 140737488355328 := hde306_0.small
  have hcw309 := hS304.cells hce306 (hda1.foot (ne_of_lt hi307))
  exact zg (v := .int .i64 ((a.cls.getD a.no.toNat default).n)) Tryd.isAgg3 e305 (hcw309.get (j := 0) rfl) (fun vals' hv _ => ⟨rfl, hv⟩)
 ·intro k310 vals w311 h314 h315 hW313 hA312
  refine obl rfl ?_
  exact WZ rfl (fun vals' hv _ => ⟨rfl, hv⟩)
 ·intro k316 vals w317 h320 h321 hW319 hA318
  have hkk : k316 = 0 ∨ k316 = 1 := by have h1 : 0 ≤ k316 := h320; have h2 : k316 ≤ 1 := h321; omega
  rcases hkk with rfl | rfl
  ·skip
   have hS322 : Sep _ _ _ _ := hW319
   have e323 := hA318 5 (by decide)
   refine obl rfl ?_
   exact zg (v := .int .i64 ((a.fld.moves.getD a.arg.toNat default).frm)) Tryd.isAgg3 e323 (zh (hS322.blk (i := 0) rfl) rfl) (fun vals' hv _ => ⟨rfl, hv⟩)
  ·skip
   obtain ⟨he33, hS324⟩ := hW319
   have e325 := hA318 5 (by decide)
   refine obl rfl ?_
   exact zg (v := .int .i64 ((a.fld.moves.getD a.arg.toNat default).frm)) Tryd.isAgg3 e325 (zh (hS324.blk (i := 0) rfl) rfl) (fun vals' hv _ => ⟨rfl, hv⟩)
 ·intro k326 vals w327 h330 h331 hW329 hA328
  obtain rfl : k326 = 1 := Nat.le_antisymm h331 h330
  obtain ⟨he33, hS332⟩ := hW329
  have e333 := hA328 4 (by decide)
  have e334 := hA328 6 (by decide)
  refine obl rfl ?_
  exact yu (k := .i64) (a := (a.cls.getD a.no.toNat default).n) (b := (a.fld.moves.getD a.arg.toNat default).frm) e333 e334 (fun vals' hv _ => ⟨rfl, hv⟩)
 ·intro k335 vals w336 h339 h340 hW338 hA337
  have e341 := hA337 7 (by decide)
  refine obl rfl ?_
  exact zb (v := .bool (decide (((a.cls.getD a.no.toNat default).n) = ((a.fld.moves.getD a.arg.toNat default).frm)))) e341 (fun vals' hv _ => ⟨rfl, hv⟩)
 ·intro k342 vals w343 h346 h347 hW345 hA344
  have e348 := hA344 8 (by decide)
  refine zC rfl rfl e348 (fun hb349 => ?_) (fun hb349 => fun vals' hv _ => ⟨trivial, hv.trans (if_neg hb349).symm⟩)
  have hl350 := hb349
  have hl350 := of_decide_eq_true hl350
  exact ZB rfl (fun vals' hv _ => ⟨rfl, hv.trans (if_pos hb349).symm⟩)
 ·intro k351 vals w352 h355 h356 hW354 hA353
  obtain rfl : k351 = 1 := Nat.le_antisymm h356 h355
  obtain ⟨he33, hS357⟩ := hW354
  have e358 := hA353 8 (by decide)
  have e359 : vals 9 = (if (decide (((a.cls.getD a.no.toNat default).n) = ((a.fld.moves.getD a.arg.toNat default).frm))) = true then (.pointer (some ⟨b10, 2, none⟩) : Value) else undef) := hA353 9 (by decide)
  refine zC rfl rfl e358 (fun hb360 => ?_) (fun hb360 => fun vals' hv _ => ⟨trivial, hv.trans (if_neg hb360).symm⟩)
  have hl361 := hb360
  have hl361 := of_decide_eq_true hl361
  exact zg (v := .int .i64 ((a.fld.moves.getD a.arg.toNat default).need)) Tryd.isAgg3 (show _ = (.pointer (some ⟨b10, 2, none⟩) : Value) from (Eq.trans e359 (if_pos hb360))) (zh (hS357.blk (i := 0) rfl) rfl) (fun vals' hv _ => ⟨rfl, hv.trans (if_pos hb360).symm⟩)
 ·intro k362 vals w363 h366 h367 hW365 hA364
  obtain rfl : k362 = 1 := Nat.le_antisymm h367 h366
  obtain ⟨he33, hS368⟩ := hW365
  have e369 := hA364 8 (by decide)
  have e370 : vals 10 = (if (decide (((a.cls.getD a.no.toNat default).n) = ((a.fld.moves.getD a.arg.toNat default).frm))) = true then (.int .i64 ((a.fld.moves.getD a.arg.toNat default).need) : Value) else undef) := hA364 10 (by decide)
  refine zC rfl rfl e369 (fun hb371 => ?_) (fun hb371 => fun vals' hv _ => ⟨trivial, hv.trans (if_neg hb371).symm⟩)
  have hl372 := hb371
  have hl372 := of_decide_eq_true hl372
  exact zN (k := .i64) (a := (a.fld.moves.getD a.arg.toNat default).need) (b := 0) (show _ = (.int .i64 ((a.fld.moves.getD a.arg.toNat default).need) : Value) from (Eq.trans e370 (if_pos hb371))) rfl (fun vals' hv _ => ⟨rfl, hv.trans (if_pos hb371).symm⟩)
 ·intro k373 vals w374 h377 h378 hW376 hA375
  have e379 := hA375 8 (by decide)
  have e380 : vals 11 = (if (decide (((a.cls.getD a.no.toNat default).n) = ((a.fld.moves.getD a.arg.toNat default).frm))) = true then (.bool (decide (((a.fld.moves.getD a.arg.toNat default).need) < 0)) : Value) else undef) := hA375 11 (by decide)
  refine zC rfl rfl e379 (fun hb381 => ?_) (fun hb381 => fun vals' hv _ => ⟨trivial, hv.trans (if_neg hb381).symm⟩)
  have hl382 := hb381
  have hl382 := of_decide_eq_true hl382
  exact zb (v := .bool (decide (((a.fld.moves.getD a.arg.toNat default).need) < 0))) (show _ = (.bool (decide (((a.fld.moves.getD a.arg.toNat default).need) < 0)) : Value) from (Eq.trans e380 (if_pos hb381))) (fun vals' hv _ => ⟨rfl, hv.trans (if_pos hb381).symm⟩)
 ·intro k383 vals w384 h387 h388 hW386 hA385
  have e389 : vals 12 = (if (decide (((a.cls.getD a.no.toNat default).n) = ((a.fld.moves.getD a.arg.toNat default).frm))) = true then (.bool (decide (((a.fld.moves.getD a.arg.toNat default).need) < 0)) : Value) else undef) := hA385 12 (by decide)
  refine xC rfl rfl e389 (fun hb390 => ?_) (fun hb390 => fun vals' hv _ => ⟨trivial, hv.trans (if_neg hb390).symm⟩)
  have hl391 := hb390.1
  have hl391 := of_decide_eq_true hl391
  have hl392 := hb390.2
  have hl392 := of_decide_eq_false hl392
  exact Xi rfl (fun vals' hv _ => ⟨rfl, hv.trans (if_pos hb390).symm⟩)
 ·intro k393 vals w394 h397 h398 hW396 hA395
  obtain rfl : k393 = 1 := Nat.le_antisymm h398 h397
  obtain ⟨he33, hS399⟩ := hW396
  have e400 : vals 12 = (if (decide (((a.cls.getD a.no.toNat default).n) = ((a.fld.moves.getD a.arg.toNat default).frm))) = true then (.bool (decide (((a.fld.moves.getD a.arg.toNat default).need) < 0)) : Value) else undef) := hA395 12 (by decide)
  have e401 : vals 13 = (if ((decide (((a.cls.getD a.no.toNat default).n) = ((a.fld.moves.getD a.arg.toNat default).frm))) = true) ∧ (decide (((a.fld.moves.getD a.arg.toNat default).need) < 0)) = false then (.pointer (some ⟨b2, 4, none⟩) : Value) else undef) := hA395 13 (by decide)
  refine xC rfl rfl e400 (fun hb402 => ?_) (fun hb402 => fun vals' hv _ => ⟨trivial, hv.trans (if_neg hb402).symm⟩)
  have hl403 := hb402.1
  have hl403 := of_decide_eq_true hl403
  have hl404 := hb402.2
  have hl404 := of_decide_eq_false hl404
  exact zg (v := da1) Tryd.isAgg26 (show _ = (.pointer (some ⟨b2, 4, none⟩) : Value) from (Eq.trans e401 (if_pos ⟨hb402.1, hb402.2⟩))) (zh (hS399.blk (i := 1) rfl) rfl) (fun vals' hv _ => ⟨rfl, hv.trans (if_pos hb402).symm⟩)
 ·intro k405 vals w406 h409 h410 hW408 hA407
  have e411 : vals 12 = (if (decide (((a.cls.getD a.no.toNat default).n) = ((a.fld.moves.getD a.arg.toNat default).frm))) = true then (.bool (decide (((a.fld.moves.getD a.arg.toNat default).need) < 0)) : Value) else undef) := hA407 12 (by decide)
  refine xC rfl rfl e411 (fun hb412 => ?_) (fun hb412 => fun vals' hv _ => ⟨trivial, hv.trans (if_neg hb412).symm⟩)
  have hl413 := hb412.1
  have hl413 := of_decide_eq_true hl413
  have hl414 := hb412.2
  have hl414 := of_decide_eq_false hl414
  exact ZB rfl (fun vals' hv _ => ⟨rfl, hv.trans (if_pos hb412).symm⟩)
 ·intro k415 vals w416 h419 h420 hW418 hA417
  obtain rfl : k415 = 1 := Nat.le_antisymm h420 h419
  obtain ⟨he33, hS421⟩ := hW418
  have e422 : vals 12 = (if (decide (((a.cls.getD a.no.toNat default).n) = ((a.fld.moves.getD a.arg.toNat default).frm))) = true then (.bool (decide (((a.fld.moves.getD a.arg.toNat default).need) < 0)) : Value) else undef) := hA417 12 (by decide)
  have e423 : vals 15 = (if ((decide (((a.cls.getD a.no.toNat default).n) = ((a.fld.moves.getD a.arg.toNat default).frm))) = true) ∧ (decide (((a.fld.moves.getD a.arg.toNat default).need) < 0)) = false then (.pointer (some ⟨b10, 2, none⟩) : Value) else undef) := hA417 15 (by decide)
  refine xC rfl rfl e422 (fun hb424 => ?_) (fun hb424 => fun vals' hv _ => ⟨trivial, hv.trans (if_neg hb424).symm⟩)
  have hl425 := hb424.1
  have hl425 := of_decide_eq_true hl425
  have hl426 := hb424.2
  have hl426 := of_decide_eq_false hl426
  exact zg (v := .int .i64 ((a.fld.moves.getD a.arg.toNat default).need)) Tryd.isAgg3 (show _ = (.pointer (some ⟨b10, 2, none⟩) : Value) from (Eq.trans e423 (if_pos ⟨hb424.1, hb424.2⟩))) (zh (hS421.blk (i := 0) rfl) rfl) (fun vals' hv _ => ⟨rfl, hv.trans (if_pos hb424).symm⟩)
 ·intro k427 vals w428 h431 h432 hW430 hA429
  obtain rfl : k427 = 1 := Nat.le_antisymm h432 h431
  obtain ⟨he33, hS433⟩ := hW430
  have e434 : vals 12 = (if (decide (((a.cls.getD a.no.toNat default).n) = ((a.fld.moves.getD a.arg.toNat default).frm))) = true then (.bool (decide (((a.fld.moves.getD a.arg.toNat default).need) < 0)) : Value) else undef) := hA429 12 (by decide)
  have e435 : vals 14 = (if ((decide (((a.cls.getD a.no.toNat default).n) = ((a.fld.moves.getD a.arg.toNat default).frm))) = true) ∧ (decide (((a.fld.moves.getD a.arg.toNat default).need) < 0)) = false then (da1 : Value) else undef) := hA429 14 (by decide)
  have e436 : vals 16 = (if ((decide (((a.cls.getD a.no.toNat default).n) = ((a.fld.moves.getD a.arg.toNat default).frm))) = true) ∧ (decide (((a.fld.moves.getD a.arg.toNat default).need) < 0)) = false then (.int .i64 ((a.fld.moves.getD a.arg.toNat default).need) : Value) else undef) := hA429 16 (by decide)
  refine xC rfl rfl e434 (fun hb437 => ?_) (fun hb437 => fun vals' hv _ => ⟨trivial, hv.trans (if_neg hb437).symm⟩)
  have hl438 := hb437.1
  have hl438 := of_decide_eq_true hl438
  have hl439 := hb437.2
  have hl439 := of_decide_eq_false hl439
  have hi440 : ((a.fld.moves.getD a.arg.toNat default).need).toNat < a.cls.length := (by first | omega | (simp only [lens]; omega))
  exact zG (k := 2) (i := (a.fld.moves.getD a.arg.toNat default).need) Tryd.underlying26 Tryd.sizeOf42 (show _ = (da1 : Value) from (Eq.trans e435 (if_pos ⟨hb437.1, hb437.2⟩))) hda1.sl (show _ = (.int .i64 ((a.fld.moves.getD a.arg.toNat default).need) : Value) from (Eq.trans e436 (if_pos ⟨hb437.1, hb437.2⟩))) ⟨by omega, by omega⟩ (fun vals' hv _ => ⟨rfl, hv.trans (if_pos hb437).symm⟩)
 ·intro k441 vals w442 h445 h446 hW444 hA443
  have e447 : vals 12 = (if (decide (((a.cls.getD a.no.toNat default).n) = ((a.fld.moves.getD a.arg.toNat default).frm))) = true then (.bool (decide (((a.fld.moves.getD a.arg.toNat default).need) < 0)) : Value) else undef) := hA443 12 (by decide)
  have e448 : vals 17 = (if ((decide (((a.cls.getD a.no.toNat default).n) = ((a.fld.moves.getD a.arg.toNat default).frm))) = true) ∧ (decide (((a.fld.moves.getD a.arg.toNat default).need) < 0)) = false then (.pointer (some ⟨sb da1, so da1 + (((a.fld.moves.getD a.arg.toNat default).need).toNat) * 2, none⟩) : Value) else undef) := hA443 17 (by decide)
  refine xC rfl rfl e447 (fun hb449 => ?_) (fun hb449 => fun vals' hv _ => ⟨trivial, hv.trans (if_neg hb449).symm⟩)
  have hl450 := hb449.1
  have hl450 := of_decide_eq_true hl450
  have hl451 := hb449.2
  have hl451 := of_decide_eq_false hl451
  exact xM (show _ = (.pointer (some ⟨sb da1, so da1 + (((a.fld.moves.getD a.arg.toNat default).need).toNat) * 2, none⟩) : Value) from (Eq.trans e448 (if_pos ⟨hb449.1, hb449.2⟩))) (fun vals' hv _ => ⟨rfl, hv.trans (if_pos hb449).symm⟩)
 ·intro k452 vals w453 h456 h457 hW455 hA454
  obtain rfl : k452 = 1 := Nat.le_antisymm h457 h456
  obtain ⟨he33, hS458⟩ := hW455
  have e459 : vals 12 = (if (decide (((a.cls.getD a.no.toNat default).n) = ((a.fld.moves.getD a.arg.toNat default).frm))) = true then (.bool (decide (((a.fld.moves.getD a.arg.toNat default).need) < 0)) : Value) else undef) := hA454 12 (by decide)
  have e460 : vals 18 = (if ((decide (((a.cls.getD a.no.toNat default).n) = ((a.fld.moves.getD a.arg.toNat default).frm))) = true) ∧ (decide (((a.fld.moves.getD a.arg.toNat default).need) < 0)) = false then (.pointer (some ⟨sb da1, so da1 + (((a.fld.moves.getD a.arg.toNat default).need).toNat) * 2, none⟩) : Value) else undef) := hA454 18 (by decide)
  refine xC rfl rfl e459 (fun hb461 => ?_) (fun hb461 => fun vals' hv _ => ⟨trivial, hv.trans (if_neg hb461).symm⟩)
  have hl462 := hb461.1
  have hl462 := of_decide_eq_true hl462
  have hl463 := hb461.2
  have hl463 := of_decide_eq_false hl463
  have hi465 : ((a.fld.moves.getD a.arg.toNat default).need).toNat < a.cls.length := (by first | omega | (simp only [lens]; omega))
  obtain ⟨hce464, hde464_0, hoke464⟩ := hda1.cel hi465
  rw [← zk default hi465] at hce464 hde464_0 hoke464
  have hsm466 : ((a.cls.getD (((a.fld.moves.getD a.arg.toNat default).need).toNat) default).set).length * 8 ≤ 140737488355328 := hde464_0.small
  have hcw467 := hS458.cells hce464 (hda1.foot (ne_of_lt hi465))
  exact zg (v := .int .i64 ((a.cls.getD (((a.fld.moves.getD a.arg.toNat default).need).toNat) default).n)) Tryd.isAgg3 (show _ = (.pointer (some ⟨sb da1, so da1 + (((a.fld.moves.getD a.arg.toNat default).need).toNat) * 2, none⟩) : Value) from (Eq.trans e460 (if_pos ⟨hb461.1, hb461.2⟩))) (hcw467.get (j := 0) rfl) (fun vals' hv _ => ⟨rfl, hv.trans (if_pos hb461).symm⟩)
 ·intro k468 vals w469 h472 h473 hW471 hA470
  have e474 : vals 12 = (if (decide (((a.cls.getD a.no.toNat default).n) = ((a.fld.moves.getD a.arg.toNat default).frm))) = true then (.bool (decide (((a.fld.moves.getD a.arg.toNat default).need) < 0)) : Value) else undef) := hA470 12 (by decide)
  refine xC rfl rfl e474 (fun hb475 => ?_) (fun hb475 => fun vals' hv _ => ⟨trivial, hv.trans (if_neg hb475).symm⟩)
  have hl476 := hb475.1
  have hl476 := of_decide_eq_true hl476
  have hl477 := hb475.2
  have hl477 := of_decide_eq_false hl477
  exact WV rfl (fun vals' hv _ => ⟨rfl, hv.trans (if_pos hb475).symm⟩)
 ·intro k478 vals w479 h482 h483 hW481 hA480
  obtain rfl : k478 = 1 := Nat.le_antisymm h483 h482
  obtain ⟨he33, hS484⟩ := hW481
  have e485 : vals 12 = (if (decide (((a.cls.getD a.no.toNat default).n) = ((a.fld.moves.getD a.arg.toNat default).frm))) = true then (.bool (decide (((a.fld.moves.getD a.arg.toNat default).need) < 0)) : Value) else undef) := hA480 12 (by decide)
  have e486 : vals 20 = (if ((decide (((a.cls.getD a.no.toNat default).n) = ((a.fld.moves.getD a.arg.toNat default).frm))) = true) ∧ (decide (((a.fld.moves.getD a.arg.toNat default).need) < 0)) = false then (.pointer (some ⟨b10, 3, none⟩) : Value) else undef) := hA480 20 (by decide)
  refine xC rfl rfl e485 (fun hb487 => ?_) (fun hb487 => fun vals' hv _ => ⟨trivial, hv.trans (if_neg hb487).symm⟩)
  have hl488 := hb487.1
  have hl488 := of_decide_eq_true hl488
  have hl489 := hb487.2
  have hl489 := of_decide_eq_false hl489
  exact zg (v := .int .i64 ((a.fld.moves.getD a.arg.toNat default).least)) Tryd.isAgg3 (show _ = (.pointer (some ⟨b10, 3, none⟩) : Value) from (Eq.trans e486 (if_pos ⟨hb487.1, hb487.2⟩))) (zh (hS484.blk (i := 0) rfl) rfl) (fun vals' hv _ => ⟨rfl, hv.trans (if_pos hb487).symm⟩)
 ·intro k490 vals w491 h494 h495 hW493 hA492
  obtain rfl : k490 = 1 := Nat.le_antisymm h495 h494
  obtain ⟨he33, hS496⟩ := hW493
  have e497 : vals 12 = (if (decide (((a.cls.getD a.no.toNat default).n) = ((a.fld.moves.getD a.arg.toNat default).frm))) = true then (.bool (decide (((a.fld.moves.getD a.arg.toNat default).need) < 0)) : Value) else undef) := hA492 12 (by decide)
  have e498 : vals 19 = (if ((decide (((a.cls.getD a.no.toNat default).n) = ((a.fld.moves.getD a.arg.toNat default).frm))) = true) ∧ (decide (((a.fld.moves.getD a.arg.toNat default).need) < 0)) = false then (.int .i64 ((a.cls.getD (((a.fld.moves.getD a.arg.toNat default).need).toNat) default).n) : Value) else undef) := hA492 19 (by decide)
  have e499 : vals 21 = (if ((decide (((a.cls.getD a.no.toNat default).n) = ((a.fld.moves.getD a.arg.toNat default).frm))) = true) ∧ (decide (((a.fld.moves.getD a.arg.toNat default).need) < 0)) = false then (.int .i64 ((a.fld.moves.getD a.arg.toNat default).least) : Value) else undef) := hA492 21 (by decide)
  refine xC rfl rfl e497 (fun hb500 => ?_) (fun hb500 => fun vals' hv _ => ⟨trivial, hv.trans (if_neg hb500).symm⟩)
  have hl501 := hb500.1
  have hl501 := of_decide_eq_true hl501
  have hl502 := hb500.2
  have hl502 := of_decide_eq_false hl502
  exact xI (k := .i64) (a := (a.cls.getD (((a.fld.moves.getD a.arg.toNat default).need).toNat) default).n) (b := (a.fld.moves.getD a.arg.toNat default).least) (show _ = (.int .i64 ((a.cls.getD (((a.fld.moves.getD a.arg.toNat default).need).toNat) default).n) : Value) from (Eq.trans e498 (if_pos ⟨hb500.1, hb500.2⟩))) (show _ = (.int .i64 ((a.fld.moves.getD a.arg.toNat default).least) : Value) from (Eq.trans e499 (if_pos ⟨hb500.1, hb500.2⟩))) (fun vals' hv _ => ⟨rfl, hv.trans (if_pos hb500).symm⟩)
 ·intro k503 vals w504 h507 h508 hW506 hA505
  have e509 := hA505 8 (by decide)
  have e510 : vals 12 = (if (decide (((a.cls.getD a.no.toNat default).n) = ((a.fld.moves.getD a.arg.toNat default).frm))) = true then (.bool (decide (((a.fld.moves.getD a.arg.toNat default).need) < 0)) : Value) else undef) := hA505 12 (by decide)
  have e511 : vals 22 = (if ((decide (((a.cls.getD a.no.toNat default).n) = ((a.fld.moves.getD a.arg.toNat default).frm))) = true) ∧ (decide (((a.fld.moves.getD a.arg.toNat default).need) < 0)) = false then (.bool (decide (((a.fld.moves.getD a.arg.toNat default).least) ≤ ((a.cls.getD (((a.fld.moves.getD a.arg.toNat default).need).toNat) default).n))) : Value) else undef) := hA505 22 (by decide)
  refine zC rfl rfl e509 (fun hb512 => ?_) (fun hb512 => fun vals' hv _ => ⟨trivial, hv.trans (if_neg hb512).symm⟩)
  have hl513 := hb512
  have hl513 := of_decide_eq_true hl513
  exact zA (b := decide (((a.fld.moves.getD a.arg.toNat default).need) < 0)) (b' := decide (((a.fld.moves.getD a.arg.toNat default).least) ≤ ((a.cls.getD (((a.fld.moves.getD a.arg.toNat default).need).toNat) default).n))) (show _ = (.bool (decide (((a.fld.moves.getD a.arg.toNat default).need) < 0)) : Value) from (Eq.trans e510 (if_pos hb512))) (fun hbp => (show _ = (.bool (decide (((a.fld.moves.getD a.arg.toNat default).least) ≤ ((a.cls.getD (((a.fld.moves.getD a.arg.toNat default).need).toNat) default).n))) : Value) from (Eq.trans e511 (if_pos ⟨hb512, hbp⟩)))) (fun vals' hv _ => ⟨rfl, hv.trans (if_pos hb512).symm⟩)
 ·intro k514 vals w515 h518 h519 hW517 hA516
  have e520 := hA516 8 (by decide)
  have e521 : vals 23 = (if (decide (((a.cls.getD a.no.toNat default).n) = ((a.fld.moves.getD a.arg.toNat default).frm))) = true then (.bool ((decide (((a.fld.moves.getD a.arg.toNat default).need) < 0)) || (decide (((a.fld.moves.getD a.arg.toNat default).least) ≤ ((a.cls.getD (((a.fld.moves.getD a.arg.toNat default).need).toNat) default).n)))) : Value) else undef) := hA516 23 (by decide)
  refine obl rfl ?_
  exact zK (b := decide (((a.cls.getD a.no.toNat default).n) = ((a.fld.moves.getD a.arg.toNat default).frm))) (b' := (decide (((a.fld.moves.getD a.arg.toNat default).need) < 0)) || (decide (((a.fld.moves.getD a.arg.toNat default).least) ≤ ((a.cls.getD (((a.fld.moves.getD a.arg.toNat default).need).toNat) default).n)))) e520 (fun hbp => (show _ = (.bool ((decide (((a.fld.moves.getD a.arg.toNat default).need) < 0)) || (decide (((a.fld.moves.getD a.arg.toNat default).least) ≤ ((a.cls.getD (((a.fld.moves.getD a.arg.toNat default).need).toNat) default).n)))) : Value) from (Eq.trans e521 (if_pos hbp)))) (fun vals' hv _ => ⟨rfl, hv⟩)
 ·intro k522 vals w523 h526 h527 hW525 hA524
  have e528 := hA524 24 (by decide)
  refine obl rfl ?_
  exact ze (v := .bool ((decide (((a.cls.getD a.no.toNat default).n) = ((a.fld.moves.getD a.arg.toNat default).frm))) && ((decide (((a.fld.moves.getD a.arg.toNat default).need) < 0)) || (decide (((a.fld.moves.getD a.arg.toNat default).least) ≤ ((a.cls.getD (((a.fld.moves.getD a.arg.toNat default).need).toNat) default).n)))))) e528 (fun vals' hv _ => ⟨rfl, hv⟩)
 intro vals w529 hW530 hA531
 obtain ⟨he33, hS532⟩ := hW530
 have e533 := hA531 25 (by decide)
 refine yh (kv := [(0, .agg (a.cells da0 da1).toArray), (1, .pointer (some ⟨b2, 0, none⟩)), (2, .bool ((decide (((a.cls.getD a.no.toNat default).n) = ((a.fld.moves.getD a.arg.toNat default).frm))) && ((decide (((a.fld.moves.getD a.arg.toNat default).need) < 0)) || (decide (((a.fld.moves.getD a.arg.toNat default).least) ≤ ((a.cls.getD (((a.fld.moves.getD a.arg.toNat default).need).toNat) default).n)))))), (4, .pointer (some ⟨b2, 0, none⟩)), (5, .pointer (some ⟨b2, 3, none⟩)), (6, da0), (7, .pointer (some ⟨b2, 6, none⟩)), (8, .int .i64 (a.arg)), (9, .pointer (some ⟨sb da0, so da0 + a.arg.toNat * 4, none⟩)), (10, .agg ((a.fld.moves.getD a.arg.toNat default).cells).toArray), (3, .pointer (some ⟨b10, 0, none⟩))]) ⟨rfl, rfl, (by exact e533), rfl, rfl, rfl, rfl, rfl, rfl, rfl, rfl, trivial⟩ (fun ρw529 => ?_)
 refine zf ?_
 refine zu ?_
 refine ya Tryd.results85 (show _ = (.bool ((decide (((a.cls.getD a.no.toNat default).n) = ((a.fld.moves.getD a.arg.toNat default).frm))) && ((decide (((a.fld.moves.getD a.arg.toNat default).need) < 0)) || (decide (((a.fld.moves.getD a.arg.toNat default).least) ≤ ((a.cls.getD (((a.fld.moves.getD a.arg.toNat default).need).toNat) default).n))))) : Value) from rfl) ?_
 have hS534 : Sep G W Rs w529 := hS532.sel 2 [] (Nat.le_add_left _ _) rfl rfl
 refine ⟨?_, hS534⟩
 unfold xi
 rw [if_neg (by decide), if_neg (by decide), if_pos rfl]
 rfl

end Go.Proofs.YtlblilbmpdejgaaDoor
/- Steps of the proofs of this seat: part C3. -/
set_option maxRecDepth 8000
namespace Go.Proofs.YtlblilbmpdejgaaDoor
open Go.Proofs Go.RowKit

structure Rul where
  may : Nat
  does : Nat
instance : Rep Rul where
  k := 2
  rd _ _ cs x := cs = [.func (.func x.may) #[] #[], .func (.func x.does) #[] #[]]
  bytes := 16
  bpos := by decide
  kpos := by decide
  len h := by rw [h]; rfl
  one h := by rw [h]; exact yj ⟨rfl, rfl, trivial⟩
  mono h _ := h
instance : Flat Rul := ⟨fun h => h⟩
def xc : List (Int × Rul) := [(1, ⟨77, 78⟩), (2, ⟨80, 81⟩), (3, ⟨82, 83⟩), (4, ⟨80, 84⟩), (5, ⟨85, 86⟩)]
theorem Yg {op : Int} (h : op ≠ 1 ∧ op ≠ 2 ∧ op ≠ 3 ∧ op ≠ 4 ∧ op ≠ 5) : xy xc op = none := by
  unfold xy
  rw [Option.map_eq_none_iff, List.find?_eq_none]
  intro p hp
  simp only [xc, List.mem_cons, List.not_mem_nil, or_false] at hp
  rcases hp with rfl | rfl | rfl | rfl | rfl <;> simp <;> omega
theorem Va {G : Nat → Prop} {W w : World} {Rs : List HP}  (hS0 : Sep G W Rs w) : Ret Tryd.prog 52 [] w (fun r w' => ∃ (m : Nat), r = (.map (some m) : Value) ∧ Sep G W ((xB (α := Rul) m xc) :: Rs) w') := by
 refine zr (args := []) Tryd.func52 rfl rfl ?_
 refine zd ?_
 refine za (by kernel_rfl) (fun _ => ?_)
 refine st (ze (v := .map none) rfl ?_)
 refine zf ?_
 refine zd ?_
 refine za (by kernel_rfl) (fun _ => ?_)
 refine st (Zj ?_)
 intro w2 hn1
 obtain ⟨m3, m3e⟩ : ∃ z, z = w.heap.size := ⟨_, rfl⟩; rw [← m3e]
 have hS4 : Sep G W ((xB (α := Rul) m3 []) :: Rs) w2 := (by rw [m3e]; exact hS0.mapNew hn1)
 refine st (zS (parts' := [(0, .func (.func 77) #[] #[]), (1, .func (.func 78) #[] #[])]) (v := .agg #[.func (.func 77) #[] #[], .func (.func 78) #[] #[]]) rfl (by simp [Instr.build, Instr.fill, Ev.cells, go_sem, Mv.cells, Fld.cells, Typ.cells, Prj.cells, Dcl.cells, Cel.cells, AskR.cells, Ask.cells]) ?_)
 refine stn (xD (α := Rul) (F := fun _ => False) (x1 := (⟨77, 78⟩ : Rul)) (cs := [.func (.func 77) #[] #[], .func (.func 78) #[] #[]]) Tryd.underlying98 Tryd.underlying3 rfl rfl rfl (by decide) (hS4.map_ (i := 0) rfl) rfl (fun h => h) ?_)
 intro w5 hm6 hch7
 have hS8 : Sep G W ((xB (α := Rul) m3 (xo ([] : List (Int × Rul)) 1 (⟨77, 78⟩ : Rul))) :: Rs) w5 := hS4.mapPut (i := 0) rfl hm6 hch7
 refine st (zS (parts' := [(0, .func (.func 80) #[] #[]), (1, .func (.func 81) #[] #[])]) (v := .agg #[.func (.func 80) #[] #[], .func (.func 81) #[] #[]]) rfl (by simp [Instr.build, Instr.fill, Ev.cells, go_sem, Mv.cells, Fld.cells, Typ.cells, Prj.cells, Dcl.cells, Cel.cells, AskR.cells, Ask.cells]) ?_)
 refine stn (xD (α := Rul) (F := fun _ => False) (x1 := (⟨80, 81⟩ : Rul)) (cs := [.func (.func 80) #[] #[], .func (.func 81) #[] #[]]) Tryd.underlying98 Tryd.underlying3 rfl rfl rfl (by decide) (hS8.map_ (i := 0) rfl) rfl (fun h => h) ?_)
 intro w9 hm10 hch11
 have hS12 : Sep G W ((xB (α := Rul) m3 (xo (xo ([] : List (Int × Rul)) 1 (⟨77, 78⟩ : Rul)) 2 (⟨80, 81⟩ : Rul))) :: Rs) w9 := hS8.mapPut (i := 0) rfl hm10 hch11
 refine st (zS (parts' := [(0, .func (.func 82) #[] #[]), (1, .func (.func 83) #[] #[])]) (v := .agg #[.func (.func 82) #[] #[], .func (.func 83) #[] #[]]) rfl (by simp [Instr.build, Instr.fill, Ev.cells, go_sem, Mv.cells, Fld.cells, Typ.cells, Prj.cells, Dcl.cells, Cel.cells, AskR.cells, Ask.cells]) ?_)
 refine stn (xD (α := Rul) (F := fun _ => False) (x1 := (⟨82, 83⟩ : Rul)) (cs := [.func (.func 82) #[] #[], .func (.func 83) #[] #[]]) Tryd.underlying98 Tryd.underlying3 rfl rfl rfl (by decide) (hS12.map_ (i := 0) rfl) rfl (fun h => h) ?_)
 intro w13 hm14 hch15
 have hS16 : Sep G W ((xB (α := Rul) m3 (xo (xo (xo ([] : List (Int × Rul)) 1 (⟨77, 78⟩ : Rul)) 2 (⟨80, 81⟩ : Rul)) 3 (⟨82, 83⟩ : Rul))) :: Rs) w13 := hS12.mapPut (i := 0) rfl hm14 hch15
 refine st (zS (parts' := [(0, .func (.func 80) #[] #[]), (1, .func (.func 84) #[] #[])]) (v := .agg #[.func (.func 80) #[] #[], .func (.func 84) #[] #[]]) rfl (by simp [Instr.build, Instr.fill, Ev.cells, go_sem, Mv.cells, Fld.cells, Typ.cells, Prj.cells, Dcl.cells, Cel.cells, AskR.cells, Ask.cells]) ?_)
 refine stn (xD (α := Rul) (F := fun _ => False) (x1 := (⟨80, 84⟩ : Rul)) (cs := [.func (.func 80) #[] #[], .func (.func 84) #[] #[]]) Tryd.underlying98 Tryd.underlying3 rfl rfl rfl (by decide) (hS16.map_ (i := 0) rfl) rfl (fun h => h) ?_)
 intro w17 hm18 hch19
 have hS20 : Sep G W ((xB (α := Rul) m3 (xo (xo (xo (xo ([] : List (Int × Rul)) 1 (⟨77, 78⟩ : Rul)) 2 (⟨80, 81⟩ : Rul)) 3 (⟨82, 83⟩ : Rul)) 4 (⟨80, 84⟩ : Rul))) :: Rs) w17 := hS16.mapPut (i := 0) rfl hm18 hch19
 refine st (zS (parts' := [(0, .func (.func 85) #[] #[]), (1, .func (.func 86) #[] #[])]) (v := .agg #[.func (.func 85) #[] #[], .func (.func 86) #[] #[]]) rfl (by simp [Instr.build, Instr.fill, Ev.cells, go_sem, Mv.cells, Fld.cells, Typ.cells, Prj.cells, Dcl.cells, Cel.cells, AskR.cells, Ask.cells]) ?_)
 refine stn (xD (α := Rul) (F := fun _ => False) (x1 := (⟨85, 86⟩ : Rul)) (cs := [.func (.func 85) #[] #[], .func (.func 86) #[] #[]]) Tryd.underlying98 Tryd.underlying3 rfl rfl rfl (by decide) (hS20.map_ (i := 0) rfl) rfl (fun h => h) ?_)
 intro w21 hm22 hch23
 have hS24 : Sep G W ((xB (α := Rul) m3 (xo (xo (xo (xo (xo ([] : List (Int × Rul)) 1 (⟨77, 78⟩ : Rul)) 2 (⟨80, 81⟩ : Rul)) 3 (⟨82, 83⟩ : Rul)) 4 (⟨80, 84⟩ : Rul)) 5 (⟨85, 86⟩ : Rul))) :: Rs) w21 := hS20.mapPut (i := 0) rfl hm22 hch23
 refine st (zb (v := .map (some m3)) rfl ?_)
 refine st (ze (v := .map (some m3)) rfl ?_)
 refine zf ?_
 refine zu ?_
 refine ya Tryd.results52 (show _ = (.map (some m3) : Value) from rfl) ?_
 have hz : xo (xo (xo (xo (xo ([] : List (Int × Rul)) 1 (⟨77, 78⟩ : Rul)) 2 (⟨80, 81⟩ : Rul)) 3 (⟨82, 83⟩ : Rul)) 4 (⟨80, 84⟩ : Rul)) 5 (⟨85, 86⟩ : Rul) = xc := rfl
 rw [hz] at hS24
 refine ⟨m3, rfl, hS24⟩

theorem YO {op : Int} (h : op = 1 ∨ op = 2 ∨ op = 3 ∨ op = 4 ∨ op = 5) : ∃ x, xy xc op = some x := by rcases h with rfl | rfl | rfl | rfl | rfl <;> exact ⟨_, rfl⟩
theorem YW {op : Int} {x : Rul} (h : op = 1 ∨ op = 2 ∨ op = 3 ∨ op = 4 ∨ op = 5) (hx : xy xc op = some x) : (∀ args w, (callFunc x.may args).run Tryd.prog w = .ok (.enter x.may args) w) ∧ (∀ args w, (callFunc x.does args).run Tryd.prog w = .ok (.enter x.does args) w) := by
  rcases h with rfl | rfl | rfl | rfl | rfl <;> cases hx
  · exact ⟨Tryd.call77, Tryd.call78⟩
  · exact ⟨Tryd.call80, Tryd.call81⟩
  · exact ⟨Tryd.call82, Tryd.call83⟩
  · exact ⟨Tryd.call80, Tryd.call84⟩
  · exact ⟨Tryd.call85, Tryd.call86⟩
theorem QH {G : Nat → Prop} {W w : World} {Rs : List HP} {op : Int} {x : Rul} {a : AskR} {da0 : Value} (hda0 : RdS W G da0 a.fld.moves) {da1 : Value} (hda1 : RdS W G da1 a.cls) (oa : a.Ok) (hS0 : Sep G W Rs w) (hx : xy xc op = some x) (hop : op = 1 ∨ op = 2 ∨ op = 3 ∨ op = 4 ∨ op = 5) (hak : 0 ≤ a.no ∧ a.no < a.cls.length ∧ ((op = 3 ∨ op = 4) → Asc (yc a.cls a.no).set) ∧ (op = 5 → 0 ≤ a.arg ∧ a.arg < a.fld.moves.length ∧ ((ZC a.fld a.arg).need < 0 ∨ (ZC a.fld a.arg).need < a.cls.length))) : Ret Tryd.prog x.may [.agg (a.cells da0 da1).toArray] w (fun r w' => r = (.bool (xi a.fld a.cls (yc a.cls a.no) op a.arg) : Value) ∧ Sep G W Rs w') := by
  rcases hop with rfl | rfl | rfl | rfl | rfl <;> cases hx
  · exact VS hda0 hda1 oa hS0 ⟨hak.1, hak.2.1⟩
  · exact XV hda0 hda1 oa hS0
  · exact VL hda0 hda1 oa hS0 ⟨hak.1, hak.2.1⟩ (hak.2.2.1 (.inl rfl))
  · exact XV hda0 hda1 oa hS0
  · exact Vy hda0 hda1 oa hS0 ⟨hak.1, hak.2.1⟩ ⟨(hak.2.2.2 rfl).1, (hak.2.2.2 rfl).2.1⟩ (hak.2.2.2 rfl).2.2
theorem QB {d : Option Tmp} {ty : TypeId} {pos : String} {af : Array Edge} {g : Option (Nat × Bool)} {σ : Env} {w : World} {K : Value → World → Prop} {x : Operand} {b o : Nat} (hx : ev σ x = .pointer (some ⟨b, o, none⟩)) (h : K (.pointer (some ⟨b, o + 0, none⟩)) w) : opV Tryd.prog ⟨d, .fieldAddr 96 x 0, ty, pos, af, g⟩ σ w K := zt Tryd.underlying96 rfl rfl (fun w => ⟨0, Tryd.sizeOf93 w⟩) hx h
theorem yC {d : Option Tmp} {ty : TypeId} {pos : String} {af : Array Edge} {g : Option (Nat × Bool)} {σ : Env} {w : World} {K : Value → World → Prop} {x : Operand} {b o : Nat} (hx : ev σ x = .pointer (some ⟨b, o, none⟩)) (h : K (.pointer (some ⟨b, o + 0, none⟩)) w) : opV Tryd.prog ⟨d, .fieldAddr 33 x 0, ty, pos, af, g⟩ σ w K := zt Tryd.underlying33 rfl rfl (fun w => ⟨0, Tryd.sizeOf31 w⟩) hx h
set_option maxHeartbeats 4000000 in
theorem D_May {G : Nat → Prop} {W w : World} {Rs : List HP} {t : Typ} {dt0 : Value} (hdt0 : RdS W G dt0 t.fields) (ot : t.Ok) {vc : Value} {c : List Cel} (hc : RdS W G vc c) {f : Int} (hf : InR f) {op : Int} (hop : InR op) {arg : Int} (harg : InR arg) (hS0 : Sep G W Rs w) (hak : XB t c f op arg) : Ret Tryd.prog 16 [.agg (t.cells dt0).toArray, vc, .int .i64 (f), .int .i64 (op), .int .i64 (arg)] w (fun r w' => r = (.int .i64 (Zo t c f op arg) : Value) ∧ Sep G W Rs w') := by
 have hdt0s : _ * 48 ≤ _ := hdt0.small
 have hcs : _ * 32 ≤ _ := hc.small
 have hf0 := hak.1; have hf1 := hak.2.1; have hf2 := hak.2.2.1
 refine zr (args := [.agg (t.cells dt0).toArray, vc, .int .i64 (f), .int .i64 (op), .int .i64 (arg)]) Tryd.func16 rfl rfl ?_
 refine zd ?_
 refine za (by kernel_rfl) (fun _ => ?_)
 refine st (yb (v := .agg (t.cells dt0).toArray) rfl ?_)
 intro w3 b2 hn1
 have hS4 := hS0.new hn1
 refine st (ze (v := .int .i64 (0)) rfl ?_)
 refine zf ?_
 refine zd ?_
 refine zd ?_
 refine za (by kernel_rfl) (fun _ => ?_)
 refine st (zv (f := 52) (vals := []) (cap := []) rfl rfl Tryd.call52 (Va  hS4) ?_)
 rintro _ w6 ⟨m5, rfl, hS7⟩
 refine st (zb (v := .int .i64 (op)) rfl ?_)
 have hops : (op = 1 ∨ op = 2 ∨ op = 3 ∨ op = 4 ∨ op = 5) ∨ (op ≠ 1 ∧ op ≠ 2 ∧ op ≠ 3 ∧ op ≠ 4 ∧ op ≠ 5) := by omega
 rcases hops with hop | hop
 ·skip
  obtain ⟨rx, hrx⟩ := YO hop
  refine st (Zf (α := Rul) (a := rx) Tryd.underlying98 Tryd.underlying3 rfl rfl (hS7.map_ (i := 0) rfl) hrx ?_)
  rintro _ rfl
  refine st (zb (v := .tuple #[.agg #[.func (.func rx.may) #[] #[], .func (.func rx.does) #[] #[]], .bool true]) rfl ?_)
  refine st (zH (vs := [.agg #[.func (.func rx.may) #[] #[], .func (.func rx.does) #[] #[]], .bool true]) (i := 0) (v := .agg #[.func (.func rx.may) #[] #[], .func (.func rx.does) #[] #[]]) rfl rfl ?_)
  refine st (zH (vs := [.agg #[.func (.func rx.may) #[] #[], .func (.func rx.does) #[] #[]], .bool true]) (i := 1) (v := .bool true) rfl rfl ?_)
  refine st (zE Tryd.zeroValue96 ?_)
  intro w10 b9 hn8
  have hS11 := hS7.new hn8
  refine stn (zy (v := .agg #[.func (.func rx.may) #[] #[], .func (.func rx.does) #[] #[]]) (c' := #[.func (.func rx.may) #[] #[], .func (.func rx.does) #[] #[]]) Tryd.sizeOf96 rfl rfl (hS11.blk (i := 0) rfl) (yj ⟨rfl, rfl, trivial⟩) (Nat.le_of_ble_eq_true rfl) rfl ?_)
  intro w12 hp13
  have hS14 := hS11.pt0 hp13
  refine st (ze (v := .bool true) rfl ?_)
  refine zf ?_
  refine zd ?_
  refine zP ((fun TT pp0 => WF [fun vals wq => Sep G W (pp0 :: TT) wq, fun vals wq => (vals 13 = (.bool (xi (⟨((t.fields.getD f.toNat default)), c, f, arg⟩ : AskR).fld (⟨((t.fields.getD f.toNat default)), c, f, arg⟩ : AskR).cls (yc (⟨((t.fields.getD f.toNat default)), c, f, arg⟩ : AskR).cls (⟨((t.fields.getD f.toNat default)), c, f, arg⟩ : AskR).no) op (⟨((t.fields.getD f.toNat default)), c, f, arg⟩ : AskR).arg) : Value)) ∧ Sep G W (pp0 :: TT) wq]) ((xB (α := Rul) m5 xc) :: (Blk b2 (t.cells dt0).toArray 33) :: Rs) (Blk b9 #[.func (.func rx.may) #[] #[], .func (.func rx.does) #[] #[]] 96)) (AF [Vl 0 (.bool true), Vl 1 (.bool true), Vl 2 (.pointer (some ⟨b9, 0, none⟩)), Vl 3 (.func (.func rx.may) #[] #[]), Vl 4 (.pointer (some ⟨b2, 0, none⟩)), Vl 5 (dt0), Vl 6 (.int .i64 (f)), Vl 7 (.pointer (some ⟨sb dt0, so dt0 + f.toNat * 4, none⟩)), Vl 8 (.agg ((t.fields.getD f.toNat default).cells (zi W (sb dt0) (so dt0 + f.toNat * 4 + 3))).toArray), Vl 9 (vc), Vl 10 (.int .i64 (f)), Vl 11 (.int .i64 (arg)), Vl 12 (.agg ((⟨((t.fields.getD f.toNat default)), c, f, arg⟩ : AskR).cells (zi W (sb dt0) (so dt0 + f.toNat * 4 + 3)) vc).toArray), fun _ => True, Vl 14 (.bool (!(xi (⟨((t.fields.getD f.toNat default)), c, f, arg⟩ : AskR).fld (⟨((t.fields.getD f.toNat default)), c, f, arg⟩ : AskR).cls (yc (⟨((t.fields.getD f.toNat default)), c, f, arg⟩ : AskR).cls (⟨((t.fields.getD f.toNat default)), c, f, arg⟩ : AskR).no) op (⟨((t.fields.getD f.toNat default)), c, f, arg⟩ : AskR).arg))), Vl 15 (.bool (!(xi (⟨((t.fields.getD f.toNat default)), c, f, arg⟩ : AskR).fld (⟨((t.fields.getD f.toNat default)), c, f, arg⟩ : AskR).cls (yc (⟨((t.fields.getD f.toNat default)), c, f, arg⟩ : AskR).cls (⟨((t.fields.getD f.toNat default)), c, f, arg⟩ : AskR).no) op (⟨((t.fields.getD f.toNat default)), c, f, arg⟩ : AskR).arg)))]) [[], [0], [0, 1], [0, 1, 2], [0, 1], [0, 1, 4], [0, 1], [0, 1, 4, 5, 6], [0, 1, 4, 5, 6, 7], [0, 1], [0, 1], [0, 1], [0, 1, 4, 5, 6, 7, 8, 9, 10, 11], [0, 1, 2, 3, 4, 5, 6, 7, 8, 9, 10, 11, 12], [0, 1, 2, 3, 4, 5, 6, 7, 8, 9, 10, 11, 12, 13], [0, 1, 2, 3, 4, 5, 6, 7, 8, 9, 10, 11, 12, 13, 14]] [13] [(0, 0), (0, 0), (0, 0), (0, 0), (0, 0), (0, 0), (0, 0), (0, 0), (0, 0), (0, 0), (0, 0), (0, 0), (0, 0), (0, 0), (1, 1), (1, 1)] (by kernel_rfl) (by kernel_rfl) (by kernel_rfl) rfl (by kernel_rfl) (by kernel_rfl) (fun _ h1 h2 h3 h4 _ => hS14.same h1 h2 h3 h4) ?_ (yg ⟨dA, dA, dA, dA, dA, dA, dA, dA, dA, dA, dA, dA, dA, dT, dA, dA, trivial⟩) ⟨?_, ?_, ?_, ?_, ?_, ?_, ?_, ?_, ?_, ?_, ?_, ?_, ?_, ?_, ?_, ?_, trivial⟩ ?_
  ·intro k vals vals' w hv h
   have e : ∀ j ∈ ([13] : List Nat), vals' j = vals j := hv
   match k, h with
   | 0, h => exact h
   | 1, h => exact (by simpa only [WF, List.getElem?_cons_zero, List.getElem?_cons_succ, e 13 (by decide)] using h)
   | _ + 2, _ => trivial
  ·intro k162 vals w163 h166 h167 hW165 hA164
   refine obl rfl ?_
   exact zb (v := .bool true) rfl (fun vals' hv _ => ⟨rfl, hv⟩)
  ·intro k168 vals w169 h172 h173 hW171 hA170
   have e174 := hA170 0 (by decide)
   refine obl rfl ?_
   exact zb (v := .bool true) e174 (fun vals' hv _ => ⟨rfl, hv⟩)
  ·intro k175 vals w176 h179 h180 hW178 hA177
   have e181 := hA177 1 (by decide)
   refine zC rfl rfl e181 (fun _ => ?_) (fun hb => absurd rfl hb)
   exact QB rfl (fun vals' hv _ => ⟨rfl, hv⟩)
  ·intro k182 vals w183 h186 h187 hW185 hA184
   obtain rfl : k182 = 0 := Nat.le_antisymm h187 h186
   have hS188 : Sep _ _ _ _ := hW185
   have e189 := hA184 1 (by decide)
   have e190 := hA184 2 (by decide)
   refine zC rfl rfl e189 (fun _ => ?_) (fun hb => absurd rfl hb)
   exact zg (v := .func (.func rx.may) #[] #[]) Tryd.isAgg93 e190 (zh (hS188.blk (i := 0) rfl) rfl) (fun vals' hv _ => ⟨rfl, hv⟩)
  ·intro k191 vals w192 h195 h196 hW194 hA193
   have e197 := hA193 1 (by decide)
   refine zC rfl rfl e197 (fun _ => ?_) (fun hb => absurd rfl hb)
   exact yC rfl (fun vals' hv _ => ⟨rfl, hv⟩)
  ·intro k198 vals w199 h202 h203 hW201 hA200
   obtain rfl : k198 = 0 := Nat.le_antisymm h203 h202
   have hS204 : Sep _ _ _ _ := hW201
   have e205 := hA200 1 (by decide)
   have e206 := hA200 4 (by decide)
   refine zC rfl rfl e205 (fun _ => ?_) (fun hb => absurd rfl hb)
   exact zg (v := dt0) Tryd.isAgg31 e206 (zh (hS204.blk (i := 2) rfl) rfl) (fun vals' hv _ => ⟨rfl, hv⟩)
  ·intro k207 vals w208 h211 h212 hW210 hA209
   have e213 := hA209 1 (by decide)
   refine zC rfl rfl e213 (fun _ => ?_) (fun hb => absurd rfl hb)
   exact zb (v := .int .i64 (f)) rfl (fun vals' hv _ => ⟨rfl, hv⟩)
  ·intro k214 vals w215 h218 h219 hW217 hA216
   obtain rfl : k214 = 0 := Nat.le_antisymm h219 h218
   have hS220 : Sep _ _ _ _ := hW217
   have e221 := hA216 1 (by decide)
   have e222 := hA216 5 (by decide)
   have e223 := hA216 6 (by decide)
   refine zC rfl rfl e221 (fun _ => ?_) (fun hb => absurd rfl hb)
   have hi224 : f.toNat < t.fields.length := (by have h1 := hak.1; have h2 := hak.2.1; have h3 := hak.2.2.1; omega)
   exact zG (k := 4) (i := f) Tryd.underlying31 Tryd.sizeOf79 e222 hdt0.sl e223 ⟨by omega, by omega⟩ (fun vals' hv _ => ⟨rfl, hv⟩)
  ·intro k225 vals w226 h229 h230 hW228 hA227
   obtain rfl : k225 = 0 := Nat.le_antisymm h230 h229
   have hS231 : Sep _ _ _ _ := hW228
   have e232 := hA227 1 (by decide)
   have e233 := hA227 7 (by decide)
   refine zC rfl rfl e232 (fun _ => ?_) (fun hb => absurd rfl hb)
   have hi235 : f.toNat < t.fields.length := (by have h1 := hak.1; have h2 := hak.2.1; have h3 := hak.2.2.1; omega)
   obtain ⟨hce234, hde234_0, hoke234⟩ := hdt0.fld hi235
   rw [← zk default hi235] at hce234 hde234_0 hoke234
   have hsm236 : ((t.fields.getD f.toNat default).moves).length * 32 ≤ 140737488355328 := hde234_0.small
   have hcw237 := hS231.cells hce234 (hdt0.foot (ne_of_lt hi235))
   exact zl (k := 4) Tryd.isAgg79 Tryd.sizeOf79 rfl e233 hcw237 (fun vals' hv _ => ⟨rfl, hv⟩)
  ·intro k238 vals w239 h242 h243 hW241 hA240
   have e244 := hA240 1 (by decide)
   refine zC rfl rfl e244 (fun _ => ?_) (fun hb => absurd rfl hb)
   exact zb (v := vc) rfl (fun vals' hv _ => ⟨rfl, hv⟩)
  ·intro k245 vals w246 h249 h250 hW248 hA247
   have e251 := hA247 1 (by decide)
   refine zC rfl rfl e251 (fun _ => ?_) (fun hb => absurd rfl hb)
   exact zb (v := .int .i64 (f)) rfl (fun vals' hv _ => ⟨rfl, hv⟩)
  ·intro k252 vals w253 h256 h257 hW255 hA254
   have e258 := hA254 1 (by decide)
   refine zC rfl rfl e258 (fun _ => ?_) (fun hb => absurd rfl hb)
   exact zb (v := .int .i64 (arg)) rfl (fun vals' hv _ => ⟨rfl, hv⟩)
  ·intro k259 vals w260 h263 h264 hW262 hA261
   have e265 := hA261 1 (by decide)
   have e266 := hA261 8 (by decide)
   have e267 := hA261 9 (by decide)
   have e268 := hA261 10 (by decide)
   have e269 := hA261 11 (by decide)
   refine zC rfl rfl e265 (fun _ => ?_) (fun hb => absurd rfl hb)
   have hi271 : f.toNat < t.fields.length := (by have h1 := hak.1; have h2 := hak.2.1; have h3 := hak.2.2.1; omega)
   obtain ⟨hce270, hde270_0, hoke270⟩ := hdt0.fld hi271
   rw [← zk default hi271] at hce270 hde270_0 hoke270
   have hsm272 : ((t.fields.getD f.toNat default).moves).length * 32 ≤ 140737488355328 := hde270_0.small
   have ok273 : AskR.Ok (⟨((t.fields.getD f.toNat default)), c, f, arg⟩ : AskR) := ⟨⟨(show InR ((t.fields.getD f.toNat default).kind) from hoke270.kind), (show InR ((t.fields.getD f.toNat default).policy) from hoke270.policy)⟩, (show InR (f) from (by omega)), (show InR (arg) from (by omega))⟩
   exact zS (parts' := [(0, .agg ((t.fields.getD f.toNat default).cells (zi W (sb dt0) (so dt0 + f.toNat * 4 + 3))).toArray), (1, vc), (2, .int .i64 (f)), (3, .int .i64 (arg))]) (v := .agg ((⟨((t.fields.getD f.toNat default)), c, f, arg⟩ : AskR).cells (zi W (sb dt0) (so dt0 + f.toNat * 4 + 3)) vc).toArray) (xE ⟨rfl, e266, rfl, e267, rfl, e268, rfl, e269, trivial⟩) (by obtain ⟨_, _, hv274, _⟩ := hc.sl; rw [show vc = Value.slice _ _ _ from hv274]; simp [Instr.build, Instr.fill, Ev.cells, go_sem, Mv.cells, Fld.cells, Typ.cells, Prj.cells, Dcl.cells, Cel.cells, AskR.cells, Ask.cells]) (fun vals' hv _ => ⟨rfl, hv⟩)
  ·intro k128 vals w129 h132 h133 hW131 hA130
   obtain rfl : k128 = 0 := Nat.le_antisymm h133 h132
   have hS134 : Sep _ _ _ _ := hW131
   have e135 := hA130 1 (by decide)
   have e136 := hA130 3 (by decide)
   have e137 := hA130 12 (by decide)
   refine zC rfl rfl e135 (fun _ => ?_) (fun hb => absurd rfl hb)
   have hi139 : f.toNat < t.fields.length := (by have h1 := hak.1; have h2 := hak.2.1; have h3 := hak.2.2.1; omega)
   obtain ⟨hce138, hde138_0, hoke138⟩ := hdt0.fld hi139
   rw [← zk default hi139] at hce138 hde138_0 hoke138
   have hsm140 : ((t.fields.getD f.toNat default).moves).length * 32 ≤ 140737488355328 := hde138_0.small
   have hcw141 := hS134.cells hce138 (hdt0.foot (ne_of_lt hi139))
   have ok142 : AskR.Ok (⟨((t.fields.getD f.toNat default)), c, f, arg⟩ : AskR) := ⟨⟨(show InR ((t.fields.getD f.toNat default).kind) from hoke138.kind), (show InR ((t.fields.getD f.toNat default).policy) from hoke138.policy)⟩, (show InR (f) from (by omega)), (show InR (arg) from (by omega))⟩
   refine (zv (f := rx.may) (vals := [.agg ((⟨((t.fields.getD f.toNat default)), c, f, arg⟩ : AskR).cells (zi W (sb dt0) (so dt0 + f.toNat * 4 + 3)) vc).toArray]) (cap := []) (show _ = (.func (.func rx.may) #[] #[] : Value) from e136) (xj ⟨e137, trivial⟩) (YW hop hrx).1 (QH (a := (⟨((t.fields.getD f.toNat default)), c, f, arg⟩ : AskR)) hde138_0 hc ok142 hS134 (hrx) (hop) (⟨hak.1, hak.2.2.1, hak.2.2.2.1, hak.2.2.2.2⟩)) ?_)
   rintro _ w143 ⟨rfl, hS144⟩
   intro vals' hv hv'
   refine ⟨?_, trivial⟩
   show (vals' 13 = (.bool (xi (⟨((t.fields.getD f.toNat default)), c, f, arg⟩ : AskR).fld (⟨((t.fields.getD f.toNat default)), c, f, arg⟩ : AskR).cls (yc (⟨((t.fields.getD f.toNat default)), c, f, arg⟩ : AskR).cls (⟨((t.fields.getD f.toNat default)), c, f, arg⟩ : AskR).no) op (⟨((t.fields.getD f.toNat default)), c, f, arg⟩ : AskR).arg) : Value)) ∧ Sep G W ((Blk b9 #[.func (.func rx.may) #[] #[], .func (.func rx.does) #[] #[]] 96) :: (xB (α := Rul) m5 xc) :: (Blk b2 (t.cells dt0).toArray 33) :: Rs) w143
   exact ⟨hv, hS144⟩
  ·intro k275 vals w276 h279 h280 hW278 hA277
   obtain rfl : k275 = 1 := Nat.le_antisymm h280 h279
   obtain ⟨he145, hS281⟩ := hW278
   have e282 := hA277 1 (by decide)
   refine zC rfl rfl e282 (fun _ => ?_) (fun hb => absurd rfl hb)
   exact yJ (a := xi (⟨((t.fields.getD f.toNat default)), c, f, arg⟩ : AskR).fld (⟨((t.fields.getD f.toNat default)), c, f, arg⟩ : AskR).cls (yc (⟨((t.fields.getD f.toNat default)), c, f, arg⟩ : AskR).cls (⟨((t.fields.getD f.toNat default)), c, f, arg⟩ : AskR).no) op (⟨((t.fields.getD f.toNat default)), c, f, arg⟩ : AskR).arg) he145 (fun vals' hv _ => ⟨rfl, hv⟩)
  ·intro k283 vals w284 h287 h288 hW286 hA285
   have e289 := hA285 1 (by decide)
   have e290 := hA285 14 (by decide)
   refine obl rfl ?_
   exact zU (v := .bool (!(xi (⟨((t.fields.getD f.toNat default)), c, f, arg⟩ : AskR).fld (⟨((t.fields.getD f.toNat default)), c, f, arg⟩ : AskR).cls (yc (⟨((t.fields.getD f.toNat default)), c, f, arg⟩ : AskR).cls (⟨((t.fields.getD f.toNat default)), c, f, arg⟩ : AskR).no) op (⟨((t.fields.getD f.toNat default)), c, f, arg⟩ : AskR).arg))) e289 e290 (fun vals' hv _ => ⟨rfl, hv⟩)
  intro vals w291 hW292 hA293
  obtain ⟨he145, hS294⟩ := hW292
  have e295 := hA293 15 (by decide)
  refine yh (kv := [(0, .agg (t.cells dt0).toArray), (1, vc), (2, .int .i64 (f)), (3, .int .i64 (op)), (4, .int .i64 (arg)), (5, .pointer (some ⟨b2, 0, none⟩)), (10, .int .i64 (0)), (14, .map (some m5)), (15, .int .i64 (op)), (16, .tuple #[.agg #[.func (.func rx.may) #[] #[], .func (.func rx.does) #[] #[]], .bool true]), (13, .tuple #[.agg #[.func (.func rx.may) #[] #[], .func (.func rx.does) #[] #[]], .bool true]), (17, .agg #[.func (.func rx.may) #[] #[], .func (.func rx.does) #[] #[]]), (18, .bool true), (11, .pointer (some ⟨b9, 0, none⟩)), (12, .bool true), (34, .bool (!(xi (⟨((t.fields.getD f.toNat default)), c, f, arg⟩ : AskR).fld (⟨((t.fields.getD f.toNat default)), c, f, arg⟩ : AskR).cls (yc (⟨((t.fields.getD f.toNat default)), c, f, arg⟩ : AskR).cls (⟨((t.fields.getD f.toNat default)), c, f, arg⟩ : AskR).no) op (⟨((t.fields.getD f.toNat default)), c, f, arg⟩ : AskR).arg)))]) ⟨rfl, rfl, rfl, rfl, rfl, rfl, rfl, rfl, rfl, rfl, rfl, rfl, rfl, rfl, rfl, (by exact e295), trivial⟩ (fun ρw291 => ?_)
  refine zf ?_
  cases hc296 : !(xi (⟨((t.fields.getD f.toNat default)), c, f, arg⟩ : AskR).fld (⟨((t.fields.getD f.toNat default)), c, f, arg⟩ : AskR).cls (yc (⟨((t.fields.getD f.toNat default)), c, f, arg⟩ : AskR).cls (⟨((t.fields.getD f.toNat default)), c, f, arg⟩ : AskR).no) op (⟨((t.fields.getD f.toNat default)), c, f, arg⟩ : AskR).arg)
  ·skip
   try simp only [zn] at hc296
   refine zo rfl ?_
   refine zw ?_
   refine zd ?_
   refine za (by kernel_rfl) (fun _ => ?_)
   refine st (ze (v := .int .i64 (0)) rfl ?_)
   refine zf ?_
   refine zu ?_
   refine ya Tryd.results16 (show _ = (.int .i64 (0) : Value) from rfl) ?_
   have hS297 : Sep G W Rs w291 := hS294.sel 3 [] (Nat.le_add_left _ _) rfl rfl
   refine ⟨?_, hS297⟩
   have hm : xi (yR t f) c (yc c f) op arg = true := hc296
   unfold Zo
   rw [hm]
   rfl
  ·skip
   try simp only [zn] at hc296
   refine zq rfl ?_
   refine zd ?_
   refine za (by kernel_rfl) (fun _ => ?_)
   refine st (ze (v := .int .i64 (10)) rfl ?_)
   refine zf ?_
   refine zu ?_
   refine ya Tryd.results16 (show _ = (.int .i64 (10) : Value) from rfl) ?_
   have hS298 : Sep G W Rs w291 := hS294.sel 3 [] (Nat.le_add_left _ _) rfl rfl
   refine ⟨?_, hS298⟩
   have hm : xi (yR t f) c (yc c f) op arg = false := hc296
   unfold Zo
   rw [hm]
   rfl
 ·skip
  refine st (Zh (α := Rul) (zc := [.nilFunc, .nilFunc]) Tryd.underlying98 Tryd.underlying3 Tryd.zeroValue96 rfl rfl (hS7.map_ (i := 0) rfl) (Yg hop) ?_)
  refine st (zb (v := .tuple #[.agg #[.nilFunc, .nilFunc], .bool false]) rfl ?_)
  refine st (zH (vs := [.agg #[.nilFunc, .nilFunc], .bool false]) (i := 0) (v := .agg #[.nilFunc, .nilFunc]) rfl rfl ?_)
  refine st (zH (vs := [.agg #[.nilFunc, .nilFunc], .bool false]) (i := 1) (v := .bool false) rfl rfl ?_)
  refine st (zE Tryd.zeroValue96 ?_)
  intro w301 b300 hn299
  have hS302 := hS7.new hn299
  refine stn (zy (v := .agg #[.nilFunc, .nilFunc]) (c' := #[.nilFunc, .nilFunc]) Tryd.sizeOf96 rfl rfl (hS302.blk (i := 0) rfl) (yj ⟨rfl, rfl, trivial⟩) (Nat.le_of_ble_eq_true rfl) rfl ?_)
  intro w303 hp304
  have hS305 := hS302.pt0 hp304
  refine st (ze (v := .bool false) rfl ?_)
  refine zf ?_
  refine zd ?_
  refine zP ((fun TT pp0 => WF [fun vals wq => Sep G W (pp0 :: TT) wq, fun vals wq => Sep G W (pp0 :: TT) wq]) ((xB (α := Rul) m5 xc) :: (Blk b2 (t.cells dt0).toArray 33) :: Rs) (Blk b300 #[.nilFunc, .nilFunc] 96)) (AF [Vl 0 (.bool false), Vl 1 (.bool false), Vl 2 (undef), Vl 3 (undef), Vl 4 (undef), Vl 5 (undef), Vl 6 (undef), Vl 7 (undef), Vl 8 (undef), Vl 9 (undef), Vl 10 (undef), Vl 11 (undef), Vl 12 (undef), fun _ => True, Vl 14 (undef), Vl 15 (.bool false)]) [[], [0], [0, 1], [0, 1, 2], [0, 1], [0, 1, 4], [0, 1], [0, 1, 4, 5, 6], [0, 1, 4, 5, 6, 7], [0, 1], [0, 1], [0, 1], [0, 1, 4, 5, 6, 7, 8, 9, 10, 11], [0, 1, 2, 3, 4, 5, 6, 7, 8, 9, 10, 11, 12], [0, 1, 2, 3, 4, 5, 6, 7, 8, 9, 10, 11, 12, 13], [0, 1, 2, 3, 4, 5, 6, 7, 8, 9, 10, 11, 12, 13, 14]] [13] [(0, 0), (0, 0), (0, 0), (0, 0), (0, 0), (0, 0), (0, 0), (0, 0), (0, 0), (0, 0), (0, 0), (0, 0), (0, 0), (0, 0), (1, 1), (1, 1)] (by kernel_rfl) (by kernel_rfl) (by kernel_rfl) rfl (by kernel_rfl) (by kernel_rfl) (fun _ h1 h2 h3 h4 _ => hS305.same h1 h2 h3 h4) ?_ (yg ⟨dA, dA, dA, dA, dA, dA, dA, dA, dA, dA, dA, dA, dA, dT, dA, dA, trivial⟩) ⟨?_, ?_, ?_, ?_, ?_, ?_, ?_, ?_, ?_, ?_, ?_, ?_, ?_, ?_, ?_, ?_, trivial⟩ ?_
  ·intro k vals vals' w hv h
   have e : ∀ j ∈ ([13] : List Nat), vals' j = vals j := hv
   match k, h with
   | 0, h => exact h
   | 1, h => exact h
   | _ + 2, _ => trivial
  ·intro k435 vals w436 h439 h440 hW438 hA437
   refine obl rfl ?_
   exact zb (v := .bool false) rfl (fun vals' hv _ => ⟨rfl, hv⟩)
  ·intro k441 vals w442 h445 h446 hW444 hA443
   have e447 := hA443 0 (by decide)
   refine obl rfl ?_
   exact zb (v := .bool false) e447 (fun vals' hv _ => ⟨rfl, hv⟩)
  ·intro k448 vals w449 h452 h453 hW451 hA450
   have e454 := hA450 1 (by decide)
   exact zC rfl rfl e454 (fun hb => absurd hb (by decide)) (fun _ vals' hv _ => ⟨trivial, hv⟩)
  ·intro k455 vals w456 h459 h460 hW458 hA457
   obtain rfl : k455 = 0 := Nat.le_antisymm h460 h459
   have hS461 : Sep _ _ _ _ := hW458
   have e462 := hA457 1 (by decide)
   have e463 := hA457 2 (by decide)
   exact zC rfl rfl e462 (fun hb => absurd hb (by decide)) (fun _ vals' hv _ => ⟨trivial, hv⟩)
  ·intro k464 vals w465 h468 h469 hW467 hA466
   have e470 := hA466 1 (by decide)
   exact zC rfl rfl e470 (fun hb => absurd hb (by decide)) (fun _ vals' hv _ => ⟨trivial, hv⟩)
  ·intro k471 vals w472 h475 h476 hW474 hA473
   obtain rfl : k471 = 0 := Nat.le_antisymm h476 h475
   have hS477 : Sep _ _ _ _ := hW474
   have e478 := hA473 1 (by decide)
   have e479 := hA473 4 (by decide)
   exact zC rfl rfl e478 (fun hb => absurd hb (by decide)) (fun _ vals' hv _ => ⟨trivial, hv⟩)
  ·intro k480 vals w481 h484 h485 hW483 hA482
   have e486 := hA482 1 (by decide)
   exact zC rfl rfl e486 (fun hb => absurd hb (by decide)) (fun _ vals' hv _ => ⟨trivial, hv⟩)
  ·intro k487 vals w488 h491 h492 hW490 hA489
   obtain rfl : k487 = 0 := Nat.le_antisymm h492 h491
   have hS493 : Sep _ _ _ _ := hW490
   have e494 := hA489 1 (by decide)
   have e495 := hA489 5 (by decide)
   have e496 := hA489 6 (by decide)
   exact zC rfl rfl e494 (fun hb => absurd hb (by decide)) (fun _ vals' hv _ => ⟨trivial, hv⟩)
  ·intro k497 vals w498 h501 h502 hW500 hA499
   obtain rfl : k497 = 0 := Nat.le_antisymm h502 h501
   have hS503 : Sep _ _ _ _ := hW500
   have e504 := hA499 1 (by decide)
   have e505 := hA499 7 (by decide)
   exact zC rfl rfl e504 (fun hb => absurd hb (by decide)) (fun _ vals' hv _ => ⟨trivial, hv⟩)
  ·intro k506 vals w507 h510 h511 hW509 hA508
   have e512 := hA508 1 (by decide)
   exact zC rfl rfl e512 (fun hb => absurd hb (by decide)) (fun _ vals' hv _ => ⟨trivial, hv⟩)
  ·intro k513 vals w514 h517 h518 hW516 hA515
   have e519 := hA515 1 (by decide)
   exact zC rfl rfl e519 (fun hb => absurd hb (by decide)) (fun _ vals' hv _ => ⟨trivial, hv⟩)
  ·intro k520 vals w521 h524 h525 hW523 hA522
   have e526 := hA522 1 (by decide)
   exact zC rfl rfl e526 (fun hb => absurd hb (by decide)) (fun _ vals' hv _ => ⟨trivial, hv⟩)
  ·intro k527 vals w528 h531 h532 hW530 hA529
   have e533 := hA529 1 (by decide)
   have e534 := hA529 8 (by decide)
   have e535 := hA529 9 (by decide)
   have e536 := hA529 10 (by decide)
   have e537 := hA529 11 (by decide)
   exact zC rfl rfl e533 (fun hb => absurd hb (by decide)) (fun _ vals' hv _ => ⟨trivial, hv⟩)
  ·intro k409 vals w410 h413 h414 hW412 hA411
   obtain rfl : k409 = 0 := Nat.le_antisymm h414 h413
   have hS415 : Sep _ _ _ _ := hW412
   have e416 := hA411 1 (by decide)
   have e417 := hA411 3 (by decide)
   have e418 := hA411 12 (by decide)
   refine zC rfl rfl e416 (fun hb => absurd hb (by decide)) (fun _ vals' hv hv' => ?_)
   refine ⟨?_, trivial⟩
   show Sep G W ((Blk b300 #[.nilFunc, .nilFunc] 96) :: (xB (α := Rul) m5 xc) :: (Blk b2 (t.cells dt0).toArray 33) :: Rs) w410
   exact hS415
  ·intro k538 vals w539 h542 h543 hW541 hA540
   obtain rfl : k538 = 1 := Nat.le_antisymm h543 h542
   have hS544 : Sep _ _ _ _ := hW541
   have e545 := hA540 1 (by decide)
   exact zC rfl rfl e545 (fun hb => absurd hb (by decide)) (fun _ vals' hv _ => ⟨trivial, hv⟩)
  ·intro k546 vals w547 h550 h551 hW549 hA548
   have e552 := hA548 1 (by decide)
   have e553 := hA548 14 (by decide)
   refine obl rfl ?_
   exact zV (v := .bool false) e552 rfl (fun vals' hv _ => ⟨rfl, hv⟩)
  intro vals w554 hW555 hA556
  have hS557 : Sep _ _ _ _ := hW555
  have e558 := hA556 15 (by decide)
  refine yh (kv := [(0, .agg (t.cells dt0).toArray), (1, vc), (2, .int .i64 (f)), (3, .int .i64 (op)), (4, .int .i64 (arg)), (5, .pointer (some ⟨b2, 0, none⟩)), (10, .int .i64 (0)), (14, .map (some m5)), (15, .int .i64 (op)), (16, .tuple #[.agg #[.nilFunc, .nilFunc], .bool false]), (13, .tuple #[.agg #[.nilFunc, .nilFunc], .bool false]), (17, .agg #[.nilFunc, .nilFunc]), (18, .bool false), (11, .pointer (some ⟨b300, 0, none⟩)), (12, .bool false), (34, .bool false)]) ⟨rfl, rfl, rfl, rfl, rfl, rfl, rfl, rfl, rfl, rfl, rfl, rfl, rfl, rfl, rfl, (by exact e558), trivial⟩ (fun ρw554 => ?_)
  refine zf ?_
  refine zo rfl ?_
  refine zw ?_
  refine zd ?_
  refine za (by kernel_rfl) (fun _ => ?_)
  refine st (ze (v := .int .i64 (0)) rfl ?_)
  refine zf ?_
  refine zu ?_
  refine ya Tryd.results16 (show _ = (.int .i64 (0) : Value) from rfl) ?_
  have hS559 : Sep G W Rs w554 := hS557.sel 3 [] (Nat.le_add_left _ _) rfl rfl
  refine ⟨?_, hS559⟩
  have hm : xi (yR t f) c (yc c f) op arg = true := by unfold xi; rw [if_neg hop.1, if_neg hop.2.2.1, if_neg hop.2.2.2.2]
  unfold Zo
  rw [hm]
  rfl

end Go.Proofs.YtlblilbmpdejgaaDoor
/- The shelf's Insert and Delete, laid at this program. -/
namespace Go.Proofs.YtlblilbmpdejgaaDoor
open Go.Proofs Go.Shelf

def Un : Go.Shelf.Ren := ⟨fun | 21 => 95 | 27 => 103 | 28 => 104 | 35 => 107 | 39 => 109 | 23 => 96 | n => n, fun | 0 => 0 | 3 => 3 | 4 => 4 | 22 => 40 | n => n, fun | n => n⟩
theorem Qi : Go.Proofs.Lays2.n21 Tryd.prog Un := {
  mixed := by kernel_rfl,
  f21 := Tryd.func95.trans (congrArg some (by kernel_rfl)),
  f27 := Tryd.func103.trans (congrArg some (by kernel_rfl)),
  f28 := Tryd.func104.trans (congrArg some (by kernel_rfl)),
  f35 := Tryd.func107.trans (congrArg some (by kernel_rfl)),
  f39 := Tryd.func109.trans (congrArg some (by kernel_rfl)),
  t0 := Tryd.underlying0,
  a0 := Tryd.isAgg0,
  z0 := Tryd.sizeOf0,
  v0 := Tryd.zeroValue0,
  t3 := Tryd.underlying3,
  a3 := Tryd.isAgg3,
  z3 := Tryd.sizeOf3,
  v3 := Tryd.zeroValue3,
  t4 := Tryd.underlying4,
  a4 := Tryd.isAgg4,
  z4 := Tryd.sizeOf4,
  v4 := Tryd.zeroValue4,
  t22 := Tryd.underlying40,
  a22 := Tryd.isAgg40,
  z22 := Tryd.sizeOf40,
  v22 := Tryd.zeroValue40,
  i3 := by kernel_rfl
}
theorem Qz : Go.Proofs.Lays2.n23 Tryd.prog Un := {
  mixed := by kernel_rfl,
  f23 := Tryd.func96.trans (congrArg some (by kernel_rfl)),
  t0 := Tryd.underlying0,
  a0 := Tryd.isAgg0,
  z0 := Tryd.sizeOf0,
  v0 := Tryd.zeroValue0,
  t3 := Tryd.underlying3,
  a3 := Tryd.isAgg3,
  z3 := Tryd.sizeOf3,
  v3 := Tryd.zeroValue3,
  t4 := Tryd.underlying4,
  a4 := Tryd.isAgg4,
  z4 := Tryd.sizeOf4,
  v4 := Tryd.zeroValue4,
  t22 := Tryd.underlying40,
  a22 := Tryd.isAgg40,
  z22 := Tryd.sizeOf40,
  v22 := Tryd.zeroValue40,
  i3 := by kernel_rfl
}
end Go.Proofs.YtlblilbmpdejgaaDoor
/- slices.Insert and slices.Delete of numbers, at rows of one's own, by the shelf's contracts. -/
namespace Go.Proofs.YtlblilbmpdejgaaDoor
open Go.RowKit Go.Sort

structure Wr (w w' : World) (b : Nat) (c' : List Value) (T : TypeId) : Prop where
  at_ : ∃ a : Array Value, a.toList = c' ∧ w'.heap[b]? = some (.cells a T)
  other : ∀ i, i ≠ b → w'.heap[i]? = w.heap[i]?
  size : w'.heap.size = w.heap.size
  os : w'.os = w.os
  tape : w'.tape = w.tape
  output : w'.output = w.output
  drawn : w.drawn ≤ w'.drawn
theorem Wr.trans {w1 w2 w3 : World} {b : Nat} {c c' : List Value} {T : TypeId} (h : Wr w1 w2 b c T) (k : Wr w2 w3 b c' T) : Wr w1 w3 b c' T :=
  ⟨k.at_, fun i hi => (k.other i hi).trans (h.other i hi), k.size.trans h.size, k.os.trans h.os, k.tape.trans h.tape, k.output.trans h.output, Nat.le_trans h.drawn k.drawn⟩
theorem Wr.drew {w : World} {b : Nat} {a : Array Value} {T : TypeId} (h : w.heap[b]? = some (.cells a T)) : Wr w w.drew b a.toList T := ⟨⟨a, rfl, h⟩, fun _ _ => rfl, rfl, rfl, rfl, rfl, Nat.le_succ _⟩
theorem Wr.ahead {w : World} {b q : Nat} {a : Array Value} {T : TypeId} (h : w.heap[b]? = some (.cells a T)) : Wr w (Sort.ahead w q) b a.toList T := ⟨⟨a, rfl, h⟩, fun _ _ => rfl, rfl, rfl, rfl, rfl, Nat.le_add_right _ _⟩
theorem Wr.chg {w w' : World} {b : Nat} {c : List Value} {T : TypeId} (h : Wr w w' b c T) {c0 : Array Value} (h0 : w.heap[b]? = some (.cells c0 T)) : Chg (fun i => i = b) w w' :=
  ⟨h.os, h.tape, h.output, Nat.le_of_eq h.size.symm, fun i _ hne => h.other i hne, fun i ⟨a, t, hi⟩ => by
    by_cases e : i = b
    · subst e; obtain ⟨z, _, hz⟩ := h.at_; exact ⟨z, T, hz⟩
    · exact ⟨a, t, by rw [h.other i e]; exact hi⟩, h.drawn⟩
theorem WG {w : World} {b o : Nat} {a : Array Value} {T : TypeId} (h : w.heap[b]? = some (.cells a T)) (v : Value) : Wr w (w.setCell ⟨b, o, none⟩ v) b (a.toList.set o v) T := by
  refine ⟨⟨a.setIfInBounds o v, by simp, ?_⟩, fun i hi => ?_, by simp [World.setCell], rfl, rfl, rfl, Nat.le_refl _⟩
  · simp [World.setCell, Array.getElem?_modify, h]
  · simp only [World.setCell, Array.getElem?_modify]; rw [if_neg (fun e => hi e.symm)]
def VB (c : List Value) (o : Nat) : List Value → List Value
  | [] => c
  | v :: vs => VB (c.set o v) (o + 1) vs
theorem yX {b : Nat} {T : TypeId} : ∀ (vs : List Value) (o : Nat) (w : World) (a : Array Value), w.heap[b]? = some (.cells a T) → Wr w (w.setCells b o vs) b (VB a.toList o vs) T
  | [], _, w, a, h => ⟨⟨a, rfl, h⟩, fun _ _ => rfl, rfl, rfl, rfl, rfl, Nat.le_refl _⟩
  | v :: vs, o, w, a, h => by
    have h1 := WG (o := o) h v
    obtain ⟨a1, e1, h2⟩ := h1.at_
    have h3 := yX vs (o + 1) _ a1 h2
    rw [e1] at h3
    exact h1.trans h3
theorem xZ : ∀ (vs : List Value) (o : Nat) (c : List Value), o + vs.length ≤ c.length → VB c o vs = c.take o ++ vs ++ c.drop (o + vs.length)
  | [], o, c, _ => by simp [VB]
  | v :: vs, o, c, h => by
    simp only [List.length_cons] at h
    rw [VB, xZ vs (o + 1) (c.set o v) (by simp; omega)]
    have e1 : (c.set o v).take (o + 1) = c.take o ++ [v] := by
      rw [List.take_set, List.take_succ_eq_append_getElem (by omega), List.set_append_right _ _ (by simp; omega), List.length_take, Nat.min_eq_left (by omega), Nat.sub_self]; rfl
    have e2 : (c.set o v).drop (o + 1 + vs.length) = c.drop (o + 1 + vs.length) := by rw [List.drop_set_of_lt (by omega)]
    rw [e1, e2, List.length_cons, show o + 1 + vs.length = o + (vs.length + 1) by omega]
    simp only [List.append_assoc, List.cons_append, List.nil_append]

section
variable {G : Nat → Prop} {W w : World} {Rs : List HP} {Ti : TypeId} {v : Value} {l : List Int}
def yv (l : List Int) : List Value := l.map fun x => Value.int .i64 x
theorem YK {q : List Value → Int → Prop} (hq : ∀ cs x, q cs x → cs = [.int .i64 x]) : ∀ {css : List (List Value)} {l : List Int}, EP q css l → css.flatten = yv l
  | [], [], _ => rfl
  | _ :: _, _ :: _, h => by rw [List.flatten_cons, hq _ _ h.1, YK hq h.2]; rfl
  | [], _ :: _, h => h.elim
  | _ :: _, [], h => h.elim
theorem Wf {q : List Value → Int → Prop} : ∀ {l : List Int}, (∀ x ∈ l, q [.int .i64 x] x) → EP q (l.map fun x => [Value.int .i64 x]) l
  | [], _ => trivial
  | x :: l, h => ⟨h x (by simp), Wf (fun y hy => h y (by simp [hy]))⟩
theorem ZD (l : List Int) : (l.map fun x => [Value.int .i64 x]).flatten = yv l := by
  induction l with
  | nil => rfl
  | cons x l ih => simp [yv] at *; exact ih
theorem Sep.intRow (h : Sep G W (RowE (α := Int) own Ti v l :: Rs) w) : (∀ x ∈ l, InR x) ∧ l.length * 8 ≤ 140737488355328 ∧ ((v = .slice none 0 0 ∧ l = []) ∨ ∃ g cap cur, v = .slice (some ⟨g, 0, none⟩) l.length cap ∧ w.heap[g]? = some (.cells cur Ti) ∧ l.length ≤ cap ∧ cap ≤ maxLen ∧ cur.size = cap ∧ cur.toList.take l.length = yv l ∧
    ∀ w' v' (l' : List Int) cur', Wr w w' g cur' Ti → v' = .slice (some ⟨g, 0, none⟩) l'.length cap → l'.length ≤ cap → cur'.length = cap → cur'.take l'.length = yv l' → (∀ x ∈ l', InR x) → l'.length * 8 ≤ 140737488355328 → Sep G W (RowE (α := Int) own Ti v' l' :: Rs) w') := by
  obtain ⟨f, hA, hl, hT⟩ := h.take (i := 0) rfl
  obtain ⟨css, hE, hown, hrow, hsm⟩ := hA
  have hin : ∀ x ∈ l, InR x := by
    intro x hx
    obtain ⟨i, hi, rfl⟩ := List.getElem_of_mem hx
    exact (EP.at2 hE i (by rw [hE.length]; exact hi) hi).2
  refine ⟨hin, hsm, ?_⟩
  have hcf : css.flatten = yv l := YK (fun cs x h => h.1) hE
  rcases hown.2 with ⟨rfl, h0⟩ | ⟨g, cap, cur, rfl, hg, hb, hn, hm, hs, ht⟩
  · exact .inl ⟨rfl, List.length_eq_zero_iff.1 h0⟩
  · have hk : Rep.k Int = 1 := rfl
    rw [hk, Nat.mul_one] at hs ht
    refine .inr ⟨g, cap, cur, rfl, hb, hn, hm, hs, by rw [ht, hcf], fun w' v' l' cur' hw hv' hl' hc' ht' hin' hsm' => ?_⟩
    obtain ⟨a, ha, hat⟩ := hw.at_
    refine hT w' _ f ((hw.chg hb).weak (fun i _ hi => by subst hi; exact hrow _ rfl)) ⟨l'.map fun x => [Value.int .i64 x], Wf (fun x hx => ⟨rfl, hin' x hx⟩), ⟨by rw [ZD]; simp [yv, hk], .inr ⟨g, cap, a, hv', hg, hat, hl', hm, ?_, ?_⟩⟩, fun b hb' => ?_, hsm'⟩ (fun _ h => .inl h)
    · rw [hk, Nat.mul_one, ← hc', ← ha]; simp
    · rw [hk, Nat.mul_one, ZD, ← ht', ← ha]
    · subst hv'; exact hrow b hb'
theorem Sep.intNew (h : Sep G W Rs w) {w' : World} {cap : Nat} {cur' : List Value} {l' : List Int} {c0 : Array Value} {w1 : World} (hn : New w w1 w.heap.size (.cells c0 Ti)) (hw : Wr w1 w' w.heap.size cur' Ti) (hl' : l'.length ≤ cap) (hc' : cur'.length = cap) (hm : cap ≤ maxLen) (ht' : cur'.take l'.length = yv l') (hin' : ∀ x ∈ l', InR x) (hsm' : l'.length * 8 ≤ 140737488355328) :
    Sep G W (RowE (α := Int) own Ti (.slice (some ⟨w.heap.size, 0, none⟩) l'.length cap) l' :: Rs) w' := by
  obtain ⟨a, ha, hat⟩ := hw.at_
  have hk : Rep.k Int = 1 := rfl
  have hx : Ext w w' := hn.ext.new (hw.chg hn.at_) (fun i hi e => by omega)
  refine h.push hx (f := fun b => b = w.heap.size) ⟨l'.map fun x => [Value.int .i64 x], Wf (fun x hx => ⟨rfl, hin' x hx⟩), ⟨by rw [ZD]; simp [yv, hk], .inr ⟨w.heap.size, cap, a, rfl, Nat.zero_le _, hat, hl', hm, ?_, ?_⟩⟩, fun b hb' => ?_, hsm'⟩ (fun b h => by omega)
  · rw [hk, Nat.mul_one, ← hc', ← ha]; simp
  · rw [hk, Nat.mul_one, ZD, ← ht', ← ha]
  · simp only [Value.ownBlock, Option.some.injEq] at hb'; exact hb'.symm
theorem Sep.intNew' (h : Sep G W Rs w) {w' : World} {cap : Nat} {l' : List Int} {c0 : Array Value} (hn : New w w' w.heap.size (.cells c0 Ti)) (hl' : l'.length ≤ cap) (hc' : c0.toList.length = cap) (hm : cap ≤ maxLen) (ht' : c0.toList.take l'.length = yv l') (hin' : ∀ x ∈ l', InR x) (hsm' : l'.length * 8 ≤ 140737488355328) :
    Sep G W (RowE (α := Int) own Ti (.slice (some ⟨w.heap.size, 0, none⟩) l'.length cap) l' :: Rs) w' :=
  h.intNew hn ⟨⟨c0, rfl, hn.at_⟩, fun _ _ => rfl, rfl, rfl, rfl, rfl, Nat.le_refl _⟩ hl' hc' hm ht' hin' hsm'
theorem WU {w : World} {b o : Nat} {a : Array Value} {T : TypeId} {u : Value} (h : w.heap[b]? = some (.cells a T)) (hu : a.toList[o]? = some u) : w.cell? ⟨b, o, none⟩ = some u := xt h (by simpa using hu)
theorem XG (l : List Int) : ∀ u ∈ yv l, u.oneCell' = true := by
  intro u hu; simp only [yv, List.mem_map] at hu; obtain ⟨x, _, rfl⟩ := hu; rfl
theorem VF (a b : List Int) : yv (a ++ b) = yv a ++ yv b := by simp [yv]
theorem yo (a : List Int) : (yv a).length = a.length := by simp [yv]
theorem Uc (n : Nat) : (Builtin.zeroCells (Value.int .i64 0).cells n).toList.length = n := by simp [Builtin.zeroCells, Value.cells]
theorem WC (w : World) (o : Obj) : New w (w.alloc o) w.heap.size o := New.mk' w o
theorem Vh (w : World) (o : Obj) : New w (w.drew.alloc o) w.heap.size o :=
  have h : New w.drew (w.drew.alloc o) w.heap.size o := New.mk' w.drew o
  ⟨Chg.trans (XY (w0 := w.drew) rfl rfl rfl ⟨rfl, Nat.le_succ _⟩) h.ext, h.eq, h.size, h.at_⟩

set_option maxHeartbeats 1000000 in
theorem UU {P : Program} {ρ : Go.Shelf.Ren} (L : Go.Proofs.Lays2.n21 P ρ) {i b : Nat} {x : Int} (hTi : ρ.t 3 = Ti) (hS0 : Sep G W (RowE (α := Int) own Ti v l :: Blk b #[.int .i64 x] Ti :: Rs) w) (hi : i ≤ l.length) (hx : InR x) (hbig : (l.length + 1) * 8 ≤ 140737488355328) :
    Ret P (ρ.f 21) [v, .int .i64 ((i : Nat) : Int), .slice (some ⟨b, 0, none⟩) 1 1] w (fun r w' => Sep G W (RowE (α := Int) own Ti r (l.take i ++ x :: l.drop i) :: Rs) w') := by
  have hb := hS0.blk (i := 1) rfl
  have hvs : ∀ j u, [Value.int .i64 x][j]? = some u → w.cell? ⟨b, 0 + j, none⟩ = some u := fun j u hu => by rw [Nat.zero_add]; exact WU hb hu
  have h1v : ∀ u ∈ [Value.int .i64 x], u.oneCell' = true := by intro u hu; simp at hu; subst hu; rfl
  have hS : Sep G W (RowE (α := Int) own Ti v l :: Rs) w := hS0.sel 2 [0] (Nat.le_add_left _ _) rfl rfl
  have hR : Sep G W Rs w := hS.sel 1 [] (Nat.le_add_left _ _) rfl rfl
  obtain ⟨hin, hsm, hc⟩ := hS.intRow
  have hin' : ∀ y ∈ l.take i ++ x :: l.drop i, InR y := by
    intro y hy
    rcases List.mem_append.1 hy with h | h
    · exact hin y (List.mem_of_mem_take h)
    · rcases List.mem_cons.1 h with rfl | h
      · exact hx
      · exact hin y (List.mem_of_mem_drop h)
  have hlen : (l.take i ++ x :: l.drop i).length = l.length + 1 := by simp; omega
  have hsm' : (l.take i ++ x :: l.drop i).length * 8 ≤ 140737488355328 := by rw [hlen]; exact hbig
  have hml : l.length + 1 ≤ maxLen := by unfold maxLen; omega
  have henc : yv (l.take i ++ x :: l.drop i) = yv (l.take i) ++ [.int .i64 x] ++ yv (l.drop i) := by simp [yv]
  have hend : i = l.length → yv (l.take i ++ x :: l.drop i) = yv l ++ [.int .i64 x] := fun e => by subst e; rw [henc, List.take_length, List.drop_length]; simp [yv]
  have grow : ∀ (base : Option Addr) (c : Nat), v = .slice base l.length c → i = l.length → c < l.length + 1 → l.length ≤ c → (base = none → l.length = 0) → (∀ a, base = some a → ∀ j u, (yv l)[j]? = some u → w.cell? (a.add j) = some u) →
      Ret P (ρ.f 21) [v, .int .i64 ((i : Nat) : Int), .slice (some ⟨b, 0, none⟩) 1 1] w (fun r w' => Sep G W (RowE (α := Int) own Ti r (l.take i ++ x :: l.drop i) :: Rs) w') := by
    intro base c hv hil hcl hlc hnil hcs
    have h := Any2.slices_Insert_int_end_grow L base l.length c b 0 1 1 (yv l) [.int .i64 x] w (by omega) hlc hcl hbig (yo l) rfl hnil hcs hvs h1v
    subst hv
    refine Calls.mono (by subst hil; exact h) ?_
    rintro e w' ⟨rfl, rfl⟩
    refine ⟨_, rfl, ?_⟩
    rw [hTi]
    have hg := grownCap_ge w (l.length + 1) c Ti
    have hgm := grownCap_le_maxLen w (l.length + 1) c Ti hml
    have hn := Vh w (.cells ((yv l ++ [Value.int .i64 x]).toArray ++ Builtin.zeroCells (Value.int .i64 0).cells (grownCap w (l.length + 1) c Ti - (l.length + 1))) Ti)
    have := hR.intNew' hn (cap := grownCap w (l.length + 1) c Ti) (l' := l.take i ++ x :: l.drop i) (by rw [hlen]; exact hg) ?_ hgm ?_ hin' hsm'
    · rw [hlen] at this; exact this
    · simp only [Array.toList_append, List.length_append, yo, Uc, List.length_cons, List.length_nil]; omega
    · rw [hlen, hend hil]
      simp only [Array.toList_append]
      rw [List.take_append_of_le_length (by simp [yo])]
      exact List.take_of_length_le (by simp [yo])
  rcases hc with ⟨rfl, rfl⟩ | ⟨g, cap, cur, rfl, hg, hlc, hcm, hcs, ht, back⟩
  · exact grow none 0 rfl (by simpa using hi) (by simp) (by simp) (fun _ => rfl) (fun a h => by cases h)
  · have hne : b ≠ g := by
      obtain ⟨f1, f2, hA, hB, hd, _, _⟩ := hS0.apart2 (i := 0) (j := 1) rfl rfl (by decide)
      obtain ⟨_, _, _, hrow, _⟩ := hA
      exact fun e => hd g (hrow g rfl) (e ▸ hB.2)
    have hcells : ∀ j u, (yv l)[j]? = some u → w.cell? ⟨g, 0 + j, none⟩ = some u := fun j u hu => by
      rw [Nat.zero_add]
      refine WU hg ?_
      rw [← ht, List.getElem?_take] at hu
      split at hu
      · exact hu
      · cases hu
    have hlc' : cur.toList.length = cap := by simpa using hcs
    have hcell : ∀ j, j < cap → (w.cell? ⟨g, 0 + j, none⟩).isSome = true := fun j hj => by
      rw [Nat.zero_add, WU hg (List.getElem?_eq_getElem (by omega))]; rfl
    have hfz : ∀ j, w.frozen? ⟨g, j, none⟩ = false := fun j => by simp [World.frozen?, hg]
    by_cases hil : i = l.length
    · by_cases hroom : l.length + 1 ≤ cap
      · have h := Any2.slices_Insert_int_end_room L g 0 l.length cap b 0 1 1 [.int .i64 x] w (by omega) hroom (by unfold maxLen at hcm; omega) rfl (fun j hj => by rw [Nat.add_assoc]; exact hcell _ (by omega)) (fun j _ => hfz _) hvs h1v
        refine Calls.mono (by subst hil; exact h) ?_
        rintro e w' ⟨rfl, rfl⟩
        refine ⟨_, rfl, ?_⟩
        have hw := yX [.int .i64 x] (0 + l.length) w cur hg
        rw [Nat.zero_add, xZ _ _ _ (by simp only [List.length_cons, List.length_nil]; omega)] at hw
        rw [Nat.zero_add]
        refine back _ _ _ _ hw (by rw [hlen]) (by rw [hlen]; exact hroom) (by simp; omega) ?_ hin' hsm'
        rw [hlen, hend hil, ht, List.take_append_of_le_length (by simp [yo])]
        exact List.take_of_length_le (by simp [yo])
      · exact grow (some ⟨g, 0, none⟩) cap rfl hil (by omega) hlc (fun h => by cases h) (fun a ha j u hu => by cases ha; rw [Zt]; exact hcells j u hu)
    · have hlt : i < l.length := by omega
      have ed : (yv l).drop i = yv (l.drop i) := by simp [yv, List.map_drop]
      have et : (yv l).take i = yv (l.take i) := by simp [yv, List.map_take]
      by_cases hroom : l.length + 1 ≤ cap
      · have h := Any2.slices_Insert_int_shift L g 0 l.length cap i b 0 1 1 (yv l) [.int .i64 x] w hlt (by omega) hroom (by unfold maxLen at hcm; omega) hne (yo l) rfl hcells (fun j hj => hcell j (by omega)) (fun j _ => by rw [Nat.zero_add]; exact hfz _) hvs (XG l) h1v
          Ti Ti 1 cap (by simp [World.shape?, hb]) (by simp [World.shape?, hg, hcs]) (by omega) (by simp [World.frozen?, hb]) (by simp [World.frozen?, hb])
        refine Calls.mono h ?_
        rintro e w' ⟨rfl, rfl⟩
        refine ⟨_, rfl, ?_⟩
        have h1 := Wr.drew hg
        obtain ⟨a1, e1, hg1⟩ := h1.at_
        have h2 := yX ((yv l).drop i) (0 + (i + 1)) w.drew a1 hg1
        rw [e1, Nat.zero_add, xZ _ _ _ (by simp only [List.length_drop, yo]; omega)] at h2
        obtain ⟨a2, e2, hg2⟩ := h2.at_
        have h3 := yX [.int .i64 x] (0 + i) _ a2 hg2
        rw [e2, Nat.zero_add, xZ _ _ _ (by simp only [List.length_append, List.length_take, List.length_drop, yo, List.length_cons, List.length_nil]; omega)] at h3
        rw [Nat.zero_add, Nat.zero_add]
        refine back _ _ _ _ ((h1.trans h2).trans h3) (by rw [hlen]) (by rw [hlen]; exact hroom) (by simp [yo]; omega) ?_ hin' hsm'
        rw [hlen, henc, ed]
        have k1 : (cur.toList.take (i + 1) ++ yv (l.drop i) ++ cur.toList.drop (i + 1 + (yv (l.drop i)).length)).take i = yv (l.take i) := by
          rw [List.append_assoc, List.take_append_of_le_length (by simp; omega), List.take_take, Nat.min_eq_left (by omega), ← et, ← ht, List.take_take, Nat.min_eq_left (by omega)]
        have k2 : (cur.toList.take (i + 1) ++ yv (l.drop i) ++ cur.toList.drop (i + 1 + (yv (l.drop i)).length)).drop (i + [Value.int .i64 x].length) = yv (l.drop i) ++ cur.toList.drop (i + 1 + (yv (l.drop i)).length) := by
          have hh : (cur.toList.take (i + 1)).length = i + 1 := by rw [List.length_take]; omega
          show (cur.toList.take (i + 1) ++ yv (l.drop i) ++ cur.toList.drop (i + 1 + (yv (l.drop i)).length)).drop (i + 1) = _
          rw [List.append_assoc]; exact List.drop_left' hh
        rw [k1, k2, ← List.append_assoc, List.take_append_of_le_length (by simp [yo]; omega)]
        exact List.take_of_length_le (by simp [yo]; omega)
      · have h := Any2.slices_Insert_int_grow L g 0 l.length cap i b 0 1 1 (yv l) [.int .i64 x] w hlt (by omega) hlc (by omega) hbig (yo l) rfl hcells hvs (XG l) h1v
        refine Calls.mono h ?_
        rintro e w' ⟨rfl, rfl⟩
        refine ⟨_, rfl, ?_⟩
        rw [hTi]
        have hg' := grownCap_ge w (l.length + 1) cap Ti
        have hgm := grownCap_le_maxLen w (l.length + 1) cap Ti hml
        obtain ⟨gc, hgc⟩ : ∃ gc, gc = grownCap w (l.length + 1) cap Ti := ⟨_, rfl⟩
        rw [← hgc] at hg' hgm ⊢
        have hn := WC w (.cells (((yv l).take i).toArray ++ Builtin.zeroCells (Value.int .i64 0).cells (l.length + 1 - i) ++ Builtin.zeroCells (Value.int .i64 0).cells (gc - (l.length + 1))) Ti)
        have hlen0 : (((yv l).take i).toArray ++ Builtin.zeroCells (Value.int .i64 0).cells (l.length + 1 - i) ++ Builtin.zeroCells (Value.int .i64 0).cells (gc - (l.length + 1))).toList.length = gc := by
          simp only [Array.toList_append, List.length_append, Uc, List.length_take, yo]; omega
        have htk0 : (((yv l).take i).toArray ++ Builtin.zeroCells (Value.int .i64 0).cells (l.length + 1 - i) ++ Builtin.zeroCells (Value.int .i64 0).cells (gc - (l.length + 1))).toList.take i = yv (l.take i) := by
          simp only [Array.toList_append]
          rw [List.append_assoc, List.take_append_of_le_length (by simp [yo]; omega), et]
          exact List.take_of_length_le (by simp [yo]; omega)
        obtain ⟨A0, hA0⟩ : ∃ A0, A0 = ((yv l).take i).toArray ++ Builtin.zeroCells (Value.int .i64 0).cells (l.length + 1 - i) ++ Builtin.zeroCells (Value.int .i64 0).cells (gc - (l.length + 1)) := ⟨_, rfl⟩
        rw [← hA0] at hn hlen0 htk0 ⊢
        have h1 := Wr.drew hn.at_
        obtain ⟨a1, e1, hg1⟩ := h1.at_
        have h2 := yX [.int .i64 x] i _ a1 hg1
        rw [e1, xZ _ _ _ (by simp only [List.length_cons, List.length_nil]; omega)] at h2
        obtain ⟨a2, e2, hg2⟩ := h2.at_
        have h3 := Wr.drew hg2
        obtain ⟨a3, e3, hg3⟩ := h3.at_
        have h4 := yX ((yv l).drop i) (i + 1) _ a3 hg3
        have hl2 : (A0.toList.take i ++ [Value.int .i64 x] ++ A0.toList.drop (i + [Value.int .i64 x].length)).length = gc := by
          simp only [List.length_append, List.length_take, List.length_drop, List.length_cons, List.length_nil]; omega
        rw [e3, e2, xZ _ _ _ (by rw [hl2]; simp only [List.length_drop, yo]; omega)] at h4
        have hpre : (A0.toList.take i ++ [Value.int .i64 x] ++ A0.toList.drop (i + [Value.int .i64 x].length)).take (i + 1) = A0.toList.take i ++ [Value.int .i64 x] := by
          have hh : (A0.toList.take i ++ [Value.int .i64 x]).length = i + 1 := by rw [List.length_append, List.length_take, List.length_cons, List.length_nil]; omega
          exact List.take_left' hh
        have := hR.intNew hn (((h1.trans h2).trans h3).trans h4) (cap := gc) (l' := l.take i ++ x :: l.drop i) (by rw [hlen]; exact hg') ?_ hgm ?_ hin' hsm'
        · rw [hlen] at this; exact this
        · simp only [List.length_append, List.length_take, List.length_drop, hl2, yo]; omega
        · rw [hlen, henc, hpre, htk0, ed, List.take_append_of_le_length (by simp [yo]; omega)]
          exact List.take_of_length_le (by simp [yo]; omega)
theorem YF (d : List Int) (c : Array Value) (h : d.length ≤ c.size) : (putCells (Value.int .i64) 0 d.toArray c).toList = yv d ++ c.toList.drop d.length := by
  refine List.ext_getElem (by simp [putCells, yv]; omega) (fun j h1 h2 => ?_)
  have hj : j < c.size := by simpa [putCells] using h1
  by_cases hd : j < d.length
  · rw [List.getElem_append_left (by simpa [yv] using hd)]
    simp [putCells, yv, hd]
  · rw [List.getElem_append_right (by simp [yv]; omega)]
    simp [putCells, yv, hd, show d.length + (j - d.length) = j by omega]
theorem Vg {b : Nat} {a : Array Value} {T : TypeId} (h : w.heap[b]? = some (.cells a T)) (d : List Int) (hd : d.length ≤ a.size) : Wr w (putRow (Value.int .i64) w b 0 d.toArray) b (yv d ++ a.toList.drop d.length) T := by
  refine ⟨⟨putCells (Value.int .i64) 0 d.toArray a, YF d a hd, ?_⟩, fun i hi => ?_, by simp, rfl, rfl, rfl, Nat.le_refl _⟩
  · simp [putRow, mapBlock, Array.getElem?_modify, h, onCells]
  · simp only [putRow, mapBlock, Array.getElem?_modify]; rw [if_neg (fun e => hi e.symm)]
theorem UG {P : Program} {ρ : Go.Shelf.Ren} (L : Go.Proofs.Lays2.n23 P ρ) {i : Nat} (hS : Sep G W (RowE (α := Int) own Ti v l :: Rs) w) (hi : i < l.length) :
    Ret P (ρ.f 23) [v, .int .i64 ((i : Nat) : Int), .int .i64 ((i + 1 : Nat) : Int)] w (fun r w' => Sep G W (RowE (α := Int) own Ti r (l.take i ++ l.drop (i + 1)) :: Rs) w') := by
  obtain ⟨hin, hsm, hc⟩ := hS.intRow
  rcases hc with ⟨rfl, rfl⟩ | ⟨g, cap, cur, rfl, hg, hlc, hcm, hcs, ht, back⟩
  · exact absurd hi (Nat.not_lt_zero i)
  · have hH : Holds (Value.int .i64) w g 0 l.toArray := by
      intro j hj
      have hj' : j < l.length := by simpa using hj
      refine ⟨?_, by simp [World.frozen?, hg]⟩
      rw [Nat.zero_add]
      refine WU hg ?_
      have : (yv l)[j]? = some (.int .i64 l[j]) := by simp [yv, hj']
      rw [← ht, List.getElem?_take, if_pos hj'] at this
      rw [this]
      simp [hj']
    have h := Any.slices_Delete_int L g 0 cap i (i + 1) l w hH hlc (by unfold maxLen at hcm; omega) (by omega) hi
    refine Calls.mono h ?_
    rintro e w' ⟨rfl, q, rfl⟩
    refine ⟨_, rfl, ?_⟩
    have h1 := Wr.ahead (q := q) hg
    obtain ⟨a1, e1, hg1⟩ := h1.at_
    have ha1 : a1.size = cap := by have := congrArg List.length e1; simpa [hcs] using this
    have hdl : (l.take i ++ l.drop (i + 1) ++ List.replicate (i + 1 - i) 0).length = l.length := by simp; omega
    have h2 := Vg hg1 (l.take i ++ l.drop (i + 1) ++ List.replicate (i + 1 - i) 0) (by rw [hdl]; omega)
    have hlen : (l.take i ++ l.drop (i + 1)).length = l.length - (i + 1 - i) := by simp; omega
    refine back _ _ _ _ (h1.trans h2) (by rw [hlen]) (by rw [hlen]; omega) ?_ ?_ (fun x hx => ?_) (by rw [hlen]; omega)
    · have ha2 : a1.toList.length = cap := by simpa using ha1
      rw [List.length_append, yo, hdl, List.length_drop, ha2]; omega
    · rw [hlen, VF, List.append_assoc, List.take_append_of_le_length (by rw [yo, hlen]; exact Nat.le_refl _)]
      exact List.take_of_length_le (by rw [yo, hlen]; exact Nat.le_refl _)
    · rcases List.mem_append.1 hx with h | h
      · exact hin x (List.mem_of_mem_take h)
      · exact hin x (List.mem_of_mem_drop h)
end
end Go.Proofs.YtlblilbmpdejgaaDoor
