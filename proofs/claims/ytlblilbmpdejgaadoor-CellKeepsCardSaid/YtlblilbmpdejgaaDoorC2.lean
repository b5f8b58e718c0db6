/- Steps of the proofs of this seat: part C2. -/
import Derived.Test.YtlblilbmpdejgaaDoorC1
set_option linter.unusedSimpArgs false
set_option linter.unusedVariables false
set_option maxRecDepth 8000
namespace Go.Proofs.YtlblilbmpdejgaaDoor
open Go.Proofs Go.RowKit

theorem fd101_1 {d : Option Tmp} {ty : TypeId} {pos : String} {af : Array Edge} {g : Option (Nat × Bool)} {σ : Env} {w : World} {K : Value → World → Prop} {x : Operand} {b o : Nat} (hx : ev σ x = .pointer (some ⟨b, o, none⟩)) (h : K (.pointer (some ⟨b, o + 4, none⟩)) w) : opV Tryd.prog ⟨d, .fieldAddr 101 x 1, ty, pos, af, g⟩ σ w K := ov_fieldAddr Tryd.underlying101 rfl rfl (fun w => ⟨0, Tryd.sizeOf26 w⟩) hx h
theorem fd101_2 {d : Option Tmp} {ty : TypeId} {pos : String} {af : Array Edge} {g : Option (Nat × Bool)} {σ : Env} {w : World} {K : Value → World → Prop} {x : Operand} {b o : Nat} (hx : ev σ x = .pointer (some ⟨b, o, none⟩)) (h : K (.pointer (some ⟨b, o + 5, none⟩)) w) : opV Tryd.prog ⟨d, .fieldAddr 101 x 2, ty, pos, af, g⟩ σ w K := ov_fieldAddr Tryd.underlying101 rfl rfl (fun w => ⟨0, Tryd.sizeOf3 w⟩) hx h
theorem D_cell {G : Nat → Prop} {W w : World} {Rs : List HP} {a : AskR} {da0 : Value} (hda0 : RdS W G da0 a.fld.moves) {da1 : Value} (hda1 : RdS W G da1 a.cls) (oa : a.Ok) (hS0 : Sep G W Rs w) (hno : 0 ≤ a.no ∧ a.no < a.cls.length) : Ret Tryd.prog 79 [.agg (a.cells da0 da1).toArray] w (fun r w' => r = (.pointer (some ⟨sb da1, so da1 + a.no.toNat * 2, none⟩) : Value) ∧ Sep G W Rs w') := by
 have hda0s : a.fld.moves.length * 32 ≤ 140737488355328 := hda0.small
 have hda1s : a.cls.length * 32 ≤ 140737488355328 := hda1.small
 refine Calls_of_WP (args := [.agg (a.cells da0 da1).toArray]) Tryd.func79 rfl rfl ?_
 refine WP_seq ?_
 refine WP_region0 (by kernel_rfl) (fun _ => ?_)
 refine st (ov_box (v := .agg (a.cells da0 da1).toArray) rfl ?_)
 intro w3 b2 hn1
 have hS4 : Sep G W ((Blk b2 (a.cells da0 da1).toArray 101) :: Rs) w3 := hS0.new hn1
 refine st (ov_assign (v := .pointer none) rfl ?_)
 refine st_nil ?_
 refine WP_seq ?_
 refine WP_region0 (by kernel_rfl) (fun _ => ?_)
 refine st (fd101_1 rfl ?_)
 refine st (ov_load1 (v := da1) Tryd.isAgg26 rfl (blk_cellL (hS4.blk (i := 0) rfl) rfl) ?_)
 refine st (fd101_2 rfl ?_)
 refine st (ov_load1 (v := .int .i64 (a.no)) Tryd.isAgg3 rfl (blk_cellL (hS4.blk (i := 0) rfl) rfl) ?_)
 have hi5 : a.no.toNat < a.cls.length := (by first | omega | (simp only [lens]; omega))
 refine st (ov_indexAddr (k := 2) (i := a.no) Tryd.underlying26 Tryd.sizeOf42 rfl hda1.sl rfl ⟨by omega, by omega⟩ ?_)
 refine st (ov_assign (v := .pointer (some ⟨sb da1, so da1 + a.no.toNat * 2, none⟩)) rfl ?_)
 refine st_nil ?_
 refine WP_ret ?_
 refine fin1 Tryd.results79 (show _ = (.pointer (some ⟨sb da1, so da1 + a.no.toNat * 2, none⟩) : Value) from rfl) ?_
 have hS6 : Sep G W Rs w3 := hS4.sel 1 [] (Nat.le_add_left _ _) rfl rfl
 refine ⟨rfl, hS6⟩

theorem D_always {G : Nat → Prop} {W w : World} {Rs : List HP} {a : AskR} {da0 : Value} (hda0 : RdS W G da0 a.fld.moves) {da1 : Value} (hda1 : RdS W G da1 a.cls) (oa : a.Ok) (hS0 : Sep G W Rs w) : Ret Tryd.prog 80 [.agg (a.cells da0 da1).toArray] w (fun r w' => r = (.bool true : Value) ∧ Sep G W Rs w') := by
 have hda0s : a.fld.moves.length * 32 ≤ 140737488355328 := hda0.small
 have hda1s : a.cls.length * 32 ≤ 140737488355328 := hda1.small
 refine Calls_of_WP (args := [.agg (a.cells da0 da1).toArray]) Tryd.func80 rfl rfl ?_
 refine WP_seq ?_
 refine WP_region0 (by kernel_rfl) (fun _ => ?_)
 refine st (ov_box (v := .agg (a.cells da0 da1).toArray) rfl ?_)
 intro w3 b2 hn1
 have hS4 : Sep G W ((Blk b2 (a.cells da0 da1).toArray 101) :: Rs) w3 := hS0.new hn1
 refine st (ov_assign (v := .bool false) rfl ?_)
 refine st_nil ?_
 refine WP_seq ?_
 refine WP_region0 (by kernel_rfl) (fun _ => ?_)
 refine st (ov_assign (v := .bool true) rfl ?_)
 refine st_nil ?_
 refine WP_ret ?_
 refine fin1 Tryd.results80 (show _ = (.bool true : Value) from rfl) ?_
 have hS5 : Sep G W Rs w3 := hS4.sel 1 [] (Nat.le_add_left _ _) rfl rfl
 refine ⟨rfl, hS5⟩

theorem fd42_0 {d : Option Tmp} {ty : TypeId} {pos : String} {af : Array Edge} {g : Option (Nat × Bool)} {σ : Env} {w : World} {K : Value → World → Prop} {x : Operand} {b o : Nat} (hx : ev σ x = .pointer (some ⟨b, o, none⟩)) (h : K (.pointer (some ⟨b, o + 0, none⟩)) w) : opV Tryd.prog ⟨d, .fieldAddr 42 x 0, ty, pos, af, g⟩ σ w K := ov_fieldAddr Tryd.underlying42 rfl rfl (fun w => ⟨0, Tryd.sizeOf3 w⟩) hx h
theorem fd101_3 {d : Option Tmp} {ty : TypeId} {pos : String} {af : Array Edge} {g : Option (Nat × Bool)} {σ : Env} {w : World} {K : Value → World → Prop} {x : Operand} {b o : Nat} (hx : ev σ x = .pointer (some ⟨b, o, none⟩)) (h : K (.pointer (some ⟨b, o + 6, none⟩)) w) : opV Tryd.prog ⟨d, .fieldAddr 101 x 3, ty, pos, af, g⟩ σ w K := ov_fieldAddr Tryd.underlying101 rfl rfl (fun w => ⟨0, Tryd.sizeOf3 w⟩) hx h
theorem fd101_0 {d : Option Tmp} {ty : TypeId} {pos : String} {af : Array Edge} {g : Option (Nat × Bool)} {σ : Env} {w : World} {K : Value → World → Prop} {x : Operand} {b o : Nat} (hx : ev σ x = .pointer (some ⟨b, o, none⟩)) (h : K (.pointer (some ⟨b, o + 0, none⟩)) w) : opV Tryd.prog ⟨d, .fieldAddr 101 x 0, ty, pos, af, g⟩ σ w K := ov_fieldAddr Tryd.underlying101 rfl rfl (fun w => ⟨3, Tryd.sizeOf79 w⟩) hx h
theorem fd79_2 {d : Option Tmp} {ty : TypeId} {pos : String} {af : Array Edge} {g : Option (Nat × Bool)} {σ : Env} {w : World} {K : Value → World → Prop} {x : Operand} {b o : Nat} (hx : ev σ x = .pointer (some ⟨b, o, none⟩)) (h : K (.pointer (some ⟨b, o + 2, none⟩)) w) : opV Tryd.prog ⟨d, .fieldAddr 79 x 2, ty, pos, af, g⟩ σ w K := ov_fieldAddr Tryd.underlying79 rfl rfl (fun w => ⟨0, Tryd.sizeOf4 w⟩) hx h
theorem D_mayInc {G : Nat → Prop} {W w : World} {Rs : List HP} {a : AskR} {da0 : Value} (hda0 : RdS W G da0 a.fld.moves) {da1 : Value} (hda1 : RdS W G da1 a.cls) (oa : a.Ok) (hS0 : Sep G W Rs w) (hno : 0 ≤ a.no ∧ a.no < a.cls.length) : Ret Tryd.prog 77 [.agg (a.cells da0 da1).toArray] w (fun r w' => r = (.bool (mayB a.fld a.cls (celAt a.cls a.no) 1 a.arg) : Value) ∧ Sep G W Rs w') := by
 have hda0s : a.fld.moves.length * 32 ≤ 140737488355328 := hda0.small
 have hda1s : a.cls.length * 32 ≤ 140737488355328 := hda1.small
 refine Calls_of_WP (args := [.agg (a.cells da0 da1).toArray]) Tryd.func77 rfl rfl ?_
 refine WP_seq ?_
 refine WP_region0 (by kernel_rfl) (fun _ => ?_)
 refine st (ov_box (v := .agg (a.cells da0 da1).toArray) rfl ?_)
 intro w3 b2 hn1
 have hS4 : Sep G W ((Blk b2 (a.cells da0 da1).toArray 101) :: Rs) w3 := hS0.new hn1
 refine st (ov_assign (v := .bool false) rfl ?_)
 refine st_nil ?_
 refine WP_seq ?_
 refine WP_region0 (by kernel_rfl) (fun _ => ?_)
 refine st (ov_loadk (k := 7) Tryd.isAgg101 Tryd.sizeOf101 rfl rfl (CellsAt.all (hS4.blk (i := 0) rfl)) ?_)
 refine st (ov_call (f := 79) (vals := [.agg (a.cells da0 da1).toArray]) (cap := []) (show _ = (.func (.func 79) #[] #[] : Value) from rfl) rfl Tryd.call79 (D_cell (a := a) hda0 hda1 oa hS4 (by first | omega | (simp only [lens]; omega))) ?_)
 rintro _ w5 ⟨rfl, hS6⟩
 refine st (ov_nilCheck (b := sb da1) (o := so da1 + a.no.toNat * 2) rfl ?_)
 refine st (fd42_0 rfl ?_)
 have hi8 : a.no.toNat < a.cls.length := (by first | omega | (simp only [lens]; omega))
 obtain ⟨hce7, hde7_0, hoke7⟩ := hda1.cel hi8
 rw [← getD_at default hi8] at hce7 hde7_0 hoke7
 have hsm9 : ((a.cls.getD a.no.toNat default).set).length * 8 ≤ 140737488355328 := hde7_0.small
 have hcw10 := hS6.cells hce7 (hda1.foot (ne_of_lt hi8))
 refine st (ov_load1 (v := .int .i64 ((a.cls.getD a.no.toNat default).n)) Tryd.isAgg3 rfl (hcw10.get (j := 0) rfl) ?_)
 refine st (ov_assign (v := .int .i64 ((a.cls.getD a.no.toNat default).n)) rfl ?_)
 refine st_nil ?_
 refine WP_seq ?_
 refine WP_region (by kernel_rfl) ?_
 refine st (fd101_3 rfl ?_)
 refine st (ov_load1 (v := .int .i64 (a.arg)) Tryd.isAgg3 rfl (blk_cellL (hS6.blk (i := 0) rfl) rfl) ?_)
 refine st (ov_eql (k := .i64) (a := a.arg) (b := 0) rfl rfl ?_)
 refine st (ov_move (v := .bool (decide (a.arg = 0))) rfl ?_)
 refine stc (V := .int .i64 ((a.cls.getD a.no.toNat default).n)) rfl rfl (fun hb11 => ?_) ?_
 ·have hl12 := hb11
  have hl12 := of_decide_eq_false hl12
  exact ov_move (v := .int .i64 ((a.cls.getD a.no.toNat default).n)) rfl ⟨rfl, rfl⟩
 refine stc (V := .pointer (some ⟨b2, 6, none⟩)) rfl rfl (fun hb13 => ?_) ?_
 ·have hl14 := hb13
  have hl14 := of_decide_eq_false hl14
  exact fd101_3 rfl ⟨rfl, rfl⟩
 refine stc (V := .int .i64 (a.arg)) rfl rfl (fun hb15 => ?_) ?_
 ·have hl16 := hb15
  have hl16 := of_decide_eq_false hl16
  exact ov_load1 (v := .int .i64 (a.arg)) Tryd.isAgg3 (show _ = (.pointer (some ⟨b2, 6, none⟩) : Value) from (if_pos hb15)) (blk_cellL (hS6.blk (i := 0) rfl) rfl) ⟨rfl, rfl⟩
 cases hg17 : decide (a.arg = 0)
 ·skip
  have hg17r := hg17
  have hg17 := of_decide_eq_false hg17
  refine sty rfl rfl (ov_call (f := 93) (vals := [.int .i64 ((a.cls.getD a.no.toNat default).n), .int .i64 (a.arg)]) (cap := []) (show _ = (.func (.func 93) #[] #[] : Value) from rfl) rfl Tryd.call93 (D_sum (x := (a.cls.getD a.no.toNat default).n) (y := a.arg) hoke7.n oa.arg hS6) ?_)
  rintro _ w18 ⟨rfl, hS19⟩
  refine st (ov_pick_f (v := .bool ((decide (((a.cls.getD a.no.toNat default).n) < iwrap (((a.cls.getD a.no.toNat default).n) + a.arg)) == decide (0 < a.arg)))) rfl rfl ?_)
  refine st (ov_move (v := .bool ((decide (((a.cls.getD a.no.toNat default).n) < iwrap (((a.cls.getD a.no.toNat default).n) + a.arg)) == decide (0 < a.arg)))) rfl ?_)
  refine stc (V := .pointer (some ⟨b2, 0, none⟩)) rfl rfl (fun hb20 => ?_) ?_
  ·have hl21 := hb20
   try simp only [bools] at hl21
   exact fd101_0 rfl ⟨rfl, rfl⟩
  refine stc (V := .pointer (some ⟨b2, 2, none⟩)) rfl rfl (fun hb22 => ?_) ?_
  ·have hl23 := hb22
   try simp only [bools] at hl23
   exact fd79_2 (show _ = (.pointer (some ⟨b2, 0, none⟩) : Value) from (if_pos hb22)) ⟨rfl, rfl⟩
  refine stc (V := .bool (a.fld.floor)) rfl rfl (fun hb24 => ?_) ?_
  ·have hl25 := hb24
   try simp only [bools] at hl25
   exact ov_load1 (v := .bool (a.fld.floor)) Tryd.isAgg4 (show _ = (.pointer (some ⟨b2, 2, none⟩) : Value) from (if_pos hb24)) (blk_cellL (hS19.blk (i := 0) rfl) rfl) ⟨rfl, rfl⟩
  refine stc (V := .bool (a.fld.floor)) rfl rfl (fun hb26 => ?_) ?_
  ·have hl27 := hb26
   try simp only [bools] at hl27
   exact ov_move (v := .bool (a.fld.floor)) (show _ = (.bool (a.fld.floor) : Value) from (if_pos hb26)) ⟨rfl, rfl⟩
  refine stcP (V := .int .i64 ((a.cls.getD a.no.toNat default).n)) rfl rfl (fun hb28 => ?_) ?_
  ·have hl29 := hb28.1
   try simp only [bools] at hl29
   have hl30 := hb28.2
   exact ov_move (v := .int .i64 ((a.cls.getD a.no.toNat default).n)) rfl ⟨rfl, rfl⟩
  refine stcP (V := .pointer (some ⟨b2, 6, none⟩)) rfl rfl (fun hb31 => ?_) ?_
  ·have hl32 := hb31.1
   try simp only [bools] at hl32
   have hl33 := hb31.2
   exact fd101_3 rfl ⟨rfl, rfl⟩
  refine stcP (V := .int .i64 (a.arg)) rfl rfl (fun hb34 => ?_) ?_
  ·have hl35 := hb34.1
   try simp only [bools] at hl35
   have hl36 := hb34.2
   exact ov_load1 (v := .int .i64 (a.arg)) Tryd.isAgg3 (show _ = (.pointer (some ⟨b2, 6, none⟩) : Value) from (if_pos ⟨hb34.1, hb34.2⟩)) (blk_cellL (hS19.blk (i := 0) rfl) rfl) ⟨rfl, rfl⟩
  refine stcP (V := .int .i64 (IntKind.i64.wrap (((a.cls.getD a.no.toNat default).n) + a.arg))) rfl rfl (fun hb37 => ?_) ?_
  ·have hl38 := hb37.1
   try simp only [bools] at hl38
   have hl39 := hb37.2
   exact ov_add (r := IntKind.i64.wrap (((a.cls.getD a.no.toNat default).n) + a.arg)) (k := .i64) (a := (a.cls.getD a.no.toNat default).n) (b := a.arg) (show _ = (.int .i64 ((a.cls.getD a.no.toNat default).n) : Value) from (if_pos ⟨hb37.1, hb37.2⟩)) (show _ = (.int .i64 (a.arg) : Value) from (if_pos ⟨hb37.1, hb37.2⟩)) rfl ⟨rfl, rfl⟩
  refine stcP (V := .bool (decide ((IntKind.i64.wrap (((a.cls.getD a.no.toNat default).n) + a.arg)) < 0))) rfl rfl (fun hb40 => ?_) ?_
  ·have hl41 := hb40.1
   try simp only [bools] at hl41
   have hl42 := hb40.2
   exact ov_lss (k := .i64) (a := IntKind.i64.wrap (((a.cls.getD a.no.toNat default).n) + a.arg)) (b := 0) (show _ = (.int .i64 (IntKind.i64.wrap (((a.cls.getD a.no.toNat default).n) + a.arg)) : Value) from (if_pos ⟨hb40.1, hb40.2⟩)) rfl ⟨rfl, rfl⟩
  refine stc (V := .bool (a.fld.floor && (decide ((IntKind.i64.wrap (((a.cls.getD a.no.toNat default).n) + a.arg)) < 0)))) rfl rfl (fun hb43 => ?_) ?_
  ·have hl44 := hb43
   try simp only [bools] at hl44
   exact ov_pick_and (b := a.fld.floor) (b' := decide ((IntKind.i64.wrap (((a.cls.getD a.no.toNat default).n) + a.arg)) < 0)) (show _ = (.bool (a.fld.floor) : Value) from (if_pos hb43)) (fun hbp => (show _ = (.bool (decide ((IntKind.i64.wrap (((a.cls.getD a.no.toNat default).n) + a.arg)) < 0)) : Value) from (if_pos ⟨hb43, hbp⟩))) ⟨rfl, rfl⟩
  refine stc (V := .bool (!(a.fld.floor && (decide ((IntKind.i64.wrap (((a.cls.getD a.no.toNat default).n) + a.arg)) < 0))))) rfl rfl (fun hb45 => ?_) ?_
  ·have hl46 := hb45
   try simp only [bools] at hl46
   exact ov_not (a := a.fld.floor && (decide ((IntKind.i64.wrap (((a.cls.getD a.no.toNat default).n) + a.arg)) < 0))) (show _ = (.bool (a.fld.floor && (decide ((IntKind.i64.wrap (((a.cls.getD a.no.toNat default).n) + a.arg)) < 0))) : Value) from (if_pos hb45)) ⟨rfl, rfl⟩
  refine st (ov_pick_and (b := (decide (((a.cls.getD a.no.toNat default).n) < iwrap (((a.cls.getD a.no.toNat default).n) + a.arg)) == decide (0 < a.arg))) (b' := !(a.fld.floor && (decide ((IntKind.i64.wrap (((a.cls.getD a.no.toNat default).n) + a.arg)) < 0)))) rfl (fun hbp => (show _ = (.bool (!(a.fld.floor && (decide ((IntKind.i64.wrap (((a.cls.getD a.no.toNat default).n) + a.arg)) < 0)))) : Value) from (if_pos hbp))) ?_)
  refine st (ov_assign (v := .bool ((decide (((a.cls.getD a.no.toNat default).n) < iwrap (((a.cls.getD a.no.toNat default).n) + a.arg)) == decide (0 < a.arg)) && (!(a.fld.floor && (decide ((IntKind.i64.wrap (((a.cls.getD a.no.toNat default).n) + a.arg)) < 0)))))) rfl ?_)
  refine st_nil ?_
  refine WP_ret ?_
  refine fin1 Tryd.results77 (show _ = (.bool ((decide (((a.cls.getD a.no.toNat default).n) < iwrap (((a.cls.getD a.no.toNat default).n) + a.arg)) == decide (0 < a.arg)) && (!(a.fld.floor && (decide ((IntKind.i64.wrap (((a.cls.getD a.no.toNat default).n) + a.arg)) < 0))))) : Value) from rfl) ?_
  have hS47 : Sep G W Rs w18 := hS19.sel 1 [] (Nat.le_add_left _ _) rfl rfl
  refine ⟨?_, hS47⟩
  unfold mayB
  rw [if_pos rfl, hg17r]
  rfl
 ·skip
  have hg17r := hg17
  have hg17 := of_decide_eq_true hg17
  refine stx rfl rfl ?_
  refine st (ov_pick_t (v := .bool true) rfl rfl ?_)
  refine st (ov_move (v := .bool true) rfl ?_)
  refine sty rfl rfl (fd101_0 rfl ?_)
  refine sty rfl rfl (fd79_2 rfl ?_)
  refine sty rfl rfl (ov_load1 (v := .bool (a.fld.floor)) Tryd.isAgg4 rfl (blk_cellL (hS6.blk (i := 0) rfl) rfl) ?_)
  refine sty rfl rfl (ov_move (v := .bool (a.fld.floor)) rfl ?_)
  refine stc (V := .int .i64 ((a.cls.getD a.no.toNat default).n)) rfl rfl (fun hb48 => ?_) ?_
  ·have hl49 := hb48
   exact ov_move (v := .int .i64 ((a.cls.getD a.no.toNat default).n)) rfl ⟨rfl, rfl⟩
  refine stc (V := .pointer (some ⟨b2, 6, none⟩)) rfl rfl (fun hb50 => ?_) ?_
  ·have hl51 := hb50
   exact fd101_3 rfl ⟨rfl, rfl⟩
  refine stc (V := .int .i64 (a.arg)) rfl rfl (fun hb52 => ?_) ?_
  ·have hl53 := hb52
   exact ov_load1 (v := .int .i64 (a.arg)) Tryd.isAgg3 (show _ = (.pointer (some ⟨b2, 6, none⟩) : Value) from (if_pos hb52)) (blk_cellL (hS6.blk (i := 0) rfl) rfl) ⟨rfl, rfl⟩
  refine stc (V := .int .i64 (IntKind.i64.wrap (((a.cls.getD a.no.toNat default).n) + a.arg))) rfl rfl (fun hb54 => ?_) ?_
  ·have hl55 := hb54
   exact ov_add (r := IntKind.i64.wrap (((a.cls.getD a.no.toNat default).n) + a.arg)) (k := .i64) (a := (a.cls.getD a.no.toNat default).n) (b := a.arg) (show _ = (.int .i64 ((a.cls.getD a.no.toNat default).n) : Value) from (if_pos hb54)) (show _ = (.int .i64 (a.arg) : Value) from (if_pos hb54)) rfl ⟨rfl, rfl⟩
  refine stc (V := .bool (decide ((IntKind.i64.wrap (((a.cls.getD a.no.toNat default).n) + a.arg)) < 0))) rfl rfl (fun hb56 => ?_) ?_
  ·have hl57 := hb56
   exact ov_lss (k := .i64) (a := IntKind.i64.wrap (((a.cls.getD a.no.toNat default).n) + a.arg)) (b := 0) (show _ = (.int .i64 (IntKind.i64.wrap (((a.cls.getD a.no.toNat default).n) + a.arg)) : Value) from (if_pos hb56)) rfl ⟨rfl, rfl⟩
  refine sty rfl rfl (ov_pick_and (b := a.fld.floor) (b' := decide ((IntKind.i64.wrap (((a.cls.getD a.no.toNat default).n) + a.arg)) < 0)) rfl (fun hbp => (show _ = (.bool (decide ((IntKind.i64.wrap (((a.cls.getD a.no.toNat default).n) + a.arg)) < 0)) : Value) from (if_pos hbp))) ?_)
  refine sty rfl rfl (ov_not (a := a.fld.floor && (decide ((IntKind.i64.wrap (((a.cls.getD a.no.toNat default).n) + a.arg)) < 0))) rfl ?_)
  refine st (ov_pick_t (v := .bool (!(a.fld.floor && (decide ((IntKind.i64.wrap (((a.cls.getD a.no.toNat default).n) + a.arg)) < 0))))) rfl rfl ?_)
  refine st (ov_assign (v := .bool (!(a.fld.floor && (decide ((IntKind.i64.wrap (((a.cls.getD a.no.toNat default).n) + a.arg)) < 0))))) rfl ?_)
  refine st_nil ?_
  refine WP_ret ?_
  refine fin1 Tryd.results77 (show _ = (.bool (!(a.fld.floor && (decide ((IntKind.i64.wrap (((a.cls.getD a.no.toNat default).n) + a.arg)) < 0)))) : Value) from rfl) ?_
  have hS58 : Sep G W Rs w5 := hS6.sel 1 [] (Nat.le_add_left _ _) rfl rfl
  refine ⟨?_, hS58⟩
  unfold mayB
  rw [if_pos rfl, hg17r]
  rfl

theorem fd42_1 {d : Option Tmp} {ty : TypeId} {pos : String} {af : Array Edge} {g : Option (Nat × Bool)} {σ : Env} {w : World} {K : Value → World → Prop} {x : Operand} {b o : Nat} (hx : ev σ x = .pointer (some ⟨b, o, none⟩)) (h : K (.pointer (some ⟨b, o + 1, none⟩)) w) : opV Tryd.prog ⟨d, .fieldAddr 42 x 1, ty, pos, af, g⟩ σ w K := ov_fieldAddr Tryd.underlying42 rfl rfl (fun w => ⟨0, Tryd.sizeOf40 w⟩) hx h
theorem D_mayAdd {G : Nat → Prop} {W w : World} {Rs : List HP} {a : AskR} {da0 : Value} (hda0 : RdS W G da0 a.fld.moves) {da1 : Value} (hda1 : RdS W G da1 a.cls) (oa : a.Ok) (hS0 : Sep G W Rs w) (hno : 0 ≤ a.no ∧ a.no < a.cls.length) (hasc : Asc (celAt a.cls a.no).set) : Ret Tryd.prog 82 [.agg (a.cells da0 da1).toArray] w (fun r w' => r = (.bool (mayB a.fld a.cls (celAt a.cls a.no) 3 a.arg) : Value) ∧ Sep G W Rs w') := by
 have hda0s : a.fld.moves.length * 32 ≤ 140737488355328 := hda0.small
 have hda1s : a.cls.length * 32 ≤ 140737488355328 := hda1.small
 refine Calls_of_WP (args := [.agg (a.cells da0 da1).toArray]) Tryd.func82 rfl rfl ?_
 refine WP_seq ?_
 refine WP_region0 (by kernel_rfl) (fun _ => ?_)
 refine st (ov_box (v := .agg (a.cells da0 da1).toArray) rfl ?_)
 intro w3 b2 hn1
 have hS4 : Sep G W ((Blk b2 (a.cells da0 da1).toArray 101) :: Rs) w3 := hS0.new hn1
 refine st (ov_assign (v := .bool false) rfl ?_)
 refine st_nil ?_
 refine WP_seq ?_
 refine WP_draw4 (WF [fun vals wq => Sep G W ((Blk b2 (a.cells da0 da1).toArray 101) :: Rs) wq, fun vals wq => (vals 1 = (.pointer (some ⟨sb da1, so da1 + a.no.toNat * 2, none⟩) : Value)) ∧ Sep G W ((Blk b2 (a.cells da0 da1).toArray 101) :: Rs) wq, fun vals wq => ∃ (ix76 : Nat), (vals 1 = (.pointer (some ⟨sb da1, so da1 + a.no.toNat * 2, none⟩) : Value)) ∧ (vals 7 = (.tuple #[.int .i64 ((ix76 : Nat) : Int), .bool (decide (a.arg ∈ ((a.cls.getD a.no.toNat default).set)))] : Value)) ∧ (ix76 ≤ ((a.cls.getD a.no.toNat default).set).length ∧ (∀ q, q < ix76 → ((a.cls.getD a.no.toNat default).set).getD q 0 < a.arg) ∧ (∀ q, ix76 ≤ q → q < ((a.cls.getD a.no.toNat default).set).length → a.arg ≤ ((a.cls.getD a.no.toNat default).set).getD q 0)) ∧ Sep G W ((Blk b2 (a.cells da0 da1).toArray 101) :: Rs) wq]) (AF [Vl 0 (.agg (a.cells da0 da1).toArray), fun _ => True, Vl 2 (.pointer (some ⟨sb da1, so da1 + a.no.toNat * 2, none⟩)), Vl 3 (.pointer (some ⟨sb da1, so da1 + a.no.toNat * 2 + 1, none⟩)), Vl 4 ((cellV W (sb da1) (so da1 + a.no.toNat * 2 + 1))), Vl 5 (.pointer (some ⟨b2, 6, none⟩)), Vl 6 (.int .i64 (a.arg)), fun _ => True, fun vals => ∀ (ix76 : Nat), vals 7 = (.tuple #[.int .i64 ((ix76 : Nat) : Int), .bool (decide (a.arg ∈ ((a.cls.getD a.no.toNat default).set)))] : Value) → vals 8 = (.tuple #[.int .i64 ((ix76 : Nat) : Int), .bool (decide (a.arg ∈ ((a.cls.getD a.no.toNat default).set)))] : Value), fun vals => ∀ (ix76 : Nat), vals 7 = (.tuple #[.int .i64 ((ix76 : Nat) : Int), .bool (decide (a.arg ∈ ((a.cls.getD a.no.toNat default).set)))] : Value) → vals 9 = (.int .i64 ((ix76 : Nat) : Int) : Value), Vl 10 (.bool (decide (a.arg ∈ ((a.cls.getD a.no.toNat default).set)))), fun vals => ∀ (ix76 : Nat), vals 7 = (.tuple #[.int .i64 ((ix76 : Nat) : Int), .bool (decide (a.arg ∈ ((a.cls.getD a.no.toNat default).set)))] : Value) → vals 11 = (.int .i64 ((ix76 : Nat) : Int) : Value), Vl 12 (.bool (decide (a.arg ∈ ((a.cls.getD a.no.toNat default).set))))]) [[], [0], [0, 1], [0, 1, 2], [0, 1, 2, 3], [], [5], [0, 1, 2, 3, 4, 5, 6], [0, 1, 2, 3, 4, 5, 6, 7], [0, 1, 2, 3, 4, 5, 6, 7, 8], [0, 1, 2, 3, 4, 5, 6, 7, 8], [0, 1, 2, 3, 4, 5, 6, 7, 8, 9], [0, 1, 2, 3, 4, 5, 6, 7, 8, 9, 10, 11]] [1, 7] [(0, 0), (0, 0), (1, 1), (1, 1), (1, 1), (0, 1), (0, 1), (1, 1), (2, 2), (2, 2), (2, 2), (2, 2), (2, 2)] (by kernel_rfl) (by kernel_rfl) (by kernel_rfl) rfl (by kernel_rfl) (by kernel_rfl) (fun _ h1 h2 h3 h4 _ => hS4.same h1 h2 h3 h4) ?_ (AF_loc ⟨dA, dT, dA, dA, dA, dA, dA, dT, fun vals vals' hv h => fun ix76 hq0 => (hv 8 (.inl rfl)).trans (h ix76 ((hv 7 (.inr (by decide))).symm.trans hq0)), fun vals vals' hv h => fun ix76 hq0 => (hv 9 (.inl rfl)).trans (h ix76 ((hv 7 (.inr (by decide))).symm.trans hq0)), dA, fun vals vals' hv h => fun ix76 hq0 => (hv 11 (.inl rfl)).trans (h ix76 ((hv 7 (.inr (by decide))).symm.trans hq0)), dA, trivial⟩) ⟨?_, ?_, ?_, ?_, ?_, ?_, ?_, ?_, ?_, ?_, ?_, ?_, ?_, trivial⟩ ?_
 ·intro k vals vals' w hv h
  have e : ∀ j ∈ ([1, 7] : List Nat), vals' j = vals j := hv
  match k, h with
  | 0, h => exact h
  | 1, h => exact (by simpa only [WF, List.getElem?_cons_zero, List.getElem?_cons_succ, e 1 (by decide)] using h)
  | 2, h => exact (by simpa only [WF, List.getElem?_cons_zero, List.getElem?_cons_succ, e 1 (by decide), e 7 (by decide)] using h)
  | _ + 3, _ => trivial
 ·intro k120 vals w121 h124 h125 hW123 hA122
  obtain rfl : k120 = 0 := Nat.le_antisymm h125 h124
  have hS126 : Sep G W ((Blk b2 (a.cells da0 da1).toArray 101) :: Rs) w121 := hW123
  refine obl rfl ?_
  exact ov_loadk (k := 7) Tryd.isAgg101 Tryd.sizeOf101 rfl rfl (CellsAt.all (hS126.blk (i := 0) rfl)) (fun vals' hv _ => ⟨rfl, hv⟩)
 ·intro k12 vals w13 h16 h17 hW15 hA14
  obtain rfl : k12 = 0 := Nat.le_antisymm h17 h16
  have hS18 : Sep G W ((Blk b2 (a.cells da0 da1).toArray 101) :: Rs) w13 := hW15
  have e19 : vals 0 = (.agg (a.cells da0 da1).toArray : Value) := hA14 0 (by decide)
  refine obl rfl ?_
  refine (ov_call (f := 79) (vals := [.agg (a.cells da0 da1).toArray]) (cap := []) (show _ = (.func (.func 79) #[] #[] : Value) from rfl) (mapL ⟨e19, trivial⟩) Tryd.call79 (D_cell (a := a) hda0 hda1 oa hS18 (by first | omega | (simp only [lens]; omega))) ?_)
  rintro _ w20 ⟨rfl, hS21⟩
  intro vals' hv hv'
  refine ⟨?_, trivial⟩
  show (vals' 1 = (.pointer (some ⟨sb da1, so da1 + a.no.toNat * 2, none⟩) : Value)) ∧ Sep G W ((Blk b2 (a.cells da0 da1).toArray 101) :: Rs) w20
  exact ⟨hv, hS21⟩
 ·intro k127 vals w128 h131 h132 hW130 hA129
  obtain rfl : k127 = 1 := Nat.le_antisymm h132 h131
  obtain ⟨he22, hS133⟩ : (vals 1 = (.pointer (some ⟨sb da1, so da1 + a.no.toNat * 2, none⟩) : Value)) ∧ Sep G W ((Blk b2 (a.cells da0 da1).toArray 101) :: Rs) w128 := hW130
  refine obl rfl ?_
  exact ov_nilCheck (b := sb da1) (o := so da1 + a.no.toNat * 2) he22 (fun vals' hv _ => ⟨rfl, hv⟩)
 ·intro k134 vals w135 h138 h139 hW137 hA136
  have e140 : vals 2 = (.pointer (some ⟨sb da1, so da1 + a.no.toNat * 2, none⟩) : Value) := hA136 2 (by decide)
  refine obl rfl ?_
  exact fd42_1 e140 (fun vals' hv _ => ⟨rfl, hv⟩)
 ·intro k141 vals w142 h145 h146 hW144 hA143
  obtain rfl : k141 = 1 := Nat.le_antisymm h146 h145
  obtain ⟨he22, hS147⟩ : (vals 1 = (.pointer (some ⟨sb da1, so da1 + a.no.toNat * 2, none⟩) : Value)) ∧ Sep G W ((Blk b2 (a.cells da0 da1).toArray 101) :: Rs) w142 := hW144
  have e148 : vals 3 = (.pointer (some ⟨sb da1, so da1 + a.no.toNat * 2 + 1, none⟩) : Value) := hA143 3 (by decide)
  refine obl rfl ?_
  have hi150 : a.no.toNat < a.cls.length := (by first | omega | (simp only [lens]; omega))
  obtain ⟨hce149, hde149_0, hoke149⟩ := hda1.cel hi150
  rw [← getD_at default hi150] at hce149 hde149_0 hoke149
  have hsm151 : ((a.cls.getD a.no.toNat default).set).length * 8 ≤ 140737488355328 := hde149_0.small
  have hcw152 := hS147.cells hce149 (hda1.foot (ne_of_lt hi150))
  exact ov_load1 (v := (cellV W (sb da1) (so da1 + a.no.toNat * 2 + 1))) Tryd.isAgg40 e148 (hcw152.get (j := 1) rfl) (fun vals' hv _ => ⟨rfl, hv⟩)
 ·intro k153 vals w154 h157 h158 hW156 hA155
  refine obl rfl ?_
  exact fd101_3 rfl (fun vals' hv _ => ⟨rfl, hv⟩)
 ·intro k159 vals w160 h163 h164 hW162 hA161
  have hkk : k159 = 0 ∨ k159 = 1 := by have h1 : 0 ≤ k159 := h163; have h2 : k159 ≤ 1 := h164; omega
  rcases hkk with rfl | rfl
  ·skip
   have hS165 : Sep G W ((Blk b2 (a.cells da0 da1).toArray 101) :: Rs) w160 := hW162
   have e166 : vals 5 = (.pointer (some ⟨b2, 6, none⟩) : Value) := hA161 5 (by decide)
   refine obl rfl ?_
   exact ov_load1 (v := .int .i64 (a.arg)) Tryd.isAgg3 e166 (blk_cellL (hS165.blk (i := 0) rfl) rfl) (fun vals' hv _ => ⟨rfl, hv⟩)
  ·skip
   obtain ⟨he22, hS167⟩ : (vals 1 = (.pointer (some ⟨sb da1, so da1 + a.no.toNat * 2, none⟩) : Value)) ∧ Sep G W ((Blk b2 (a.cells da0 da1).toArray 101) :: Rs) w160 := hW162
   have e168 : vals 5 = (.pointer (some ⟨b2, 6, none⟩) : Value) := hA161 5 (by decide)
   refine obl rfl ?_
   exact ov_load1 (v := .int .i64 (a.arg)) Tryd.isAgg3 e168 (blk_cellL (hS167.blk (i := 0) rfl) rfl) (fun vals' hv _ => ⟨rfl, hv⟩)
 ·intro k63 vals w64 h67 h68 hW66 hA65
  obtain rfl : k63 = 1 := Nat.le_antisymm h68 h67
  obtain ⟨he22, hS69⟩ : (vals 1 = (.pointer (some ⟨sb da1, so da1 + a.no.toNat * 2, none⟩) : Value)) ∧ Sep G W ((Blk b2 (a.cells da0 da1).toArray 101) :: Rs) w64 := hW66
  have e70 : vals 4 = ((cellV W (sb da1) (so da1 + a.no.toNat * 2 + 1)) : Value) := hA65 4 (by decide)
  have e71 : vals 6 = (.int .i64 (a.arg) : Value) := hA65 6 (by decide)
  refine obl rfl ?_
  have hi73 : a.no.toNat < a.cls.length := (by first | omega | (simp only [lens]; omega))
  obtain ⟨hce72, hde72_0, hoke72⟩ := hda1.cel hi73
  rw [← getD_at default hi73] at hce72 hde72_0 hoke72
  have hsm74 : ((a.cls.getD a.no.toNat default).set).length * 8 ≤ 140737488355328 := hde72_0.small
  have hcw75 := hS69.cells hce72 (hda1.foot (ne_of_lt hi73))
  refine (ov_call (f := 94) (vals := [(cellV W (sb da1) (so da1 + a.no.toNat * 2 + 1)), .int .i64 (a.arg)]) (cap := []) (show _ = (.func (.func 94) #[] #[] : Value) from rfl) (mapL ⟨e70, e71, trivial⟩) Tryd.call94 (D_bsearch (l := (a.cls.getD a.no.toNat default).set) (vl := (cellV W (sb da1) (so da1 + a.no.toNat * 2 + 1))) (x := a.arg) hde72_0 oa.arg hS69 (hasc)) ?_)
  rintro _ w78 ⟨ix76, rfl, hix77, hS79⟩
  intro vals' hv hv'
  refine ⟨?_, trivial⟩
  show ∃ (ix76 : Nat), (vals' 1 = (.pointer (some ⟨sb da1, so da1 + a.no.toNat * 2, none⟩) : Value)) ∧ (vals' 7 = (.tuple #[.int .i64 ((ix76 : Nat) : Int), .bool (decide (a.arg ∈ ((a.cls.getD a.no.toNat default).set)))] : Value)) ∧ (ix76 ≤ ((a.cls.getD a.no.toNat default).set).length ∧ (∀ q, q < ix76 → ((a.cls.getD a.no.toNat default).set).getD q 0 < a.arg) ∧ (∀ q, ix76 ≤ q → q < ((a.cls.getD a.no.toNat default).set).length → a.arg ≤ ((a.cls.getD a.no.toNat default).set).getD q 0)) ∧ Sep G W ((Blk b2 (a.cells da0 da1).toArray 101) :: Rs) w78
  exact ⟨ix76, (by rw [hv' 1 (by decide)]; exact he22), hv, hix77, hS79⟩
 ·intro k169 vals w170 h173 h174 hW172 hA171
  obtain rfl : k169 = 2 := Nat.le_antisymm h174 h173
  obtain ⟨ix76, he22, he80, hix77, hS175⟩ : ∃ (ix76 : Nat), (vals 1 = (.pointer (some ⟨sb da1, so da1 + a.no.toNat * 2, none⟩) : Value)) ∧ (vals 7 = (.tuple #[.int .i64 ((ix76 : Nat) : Int), .bool (decide (a.arg ∈ ((a.cls.getD a.no.toNat default).set)))] : Value)) ∧ (ix76 ≤ ((a.cls.getD a.no.toNat default).set).length ∧ (∀ q, q < ix76 → ((a.cls.getD a.no.toNat default).set).getD q 0 < a.arg) ∧ (∀ q, ix76 ≤ q → q < ((a.cls.getD a.no.toNat default).set).length → a.arg ≤ ((a.cls.getD a.no.toNat default).set).getD q 0)) ∧ Sep G W ((Blk b2 (a.cells da0 da1).toArray 101) :: Rs) w170 := hW172
  refine obl rfl ?_
  refine ov_move (v := .tuple #[.int .i64 ((ix76 : Nat) : Int), .bool (decide (a.arg ∈ ((a.cls.getD a.no.toNat default).set)))]) he80 (fun vals' hv hv' => ⟨rfl, ?_⟩)
  intro ix76q hq0
  rw [hv' 7 (by decide)] at hq0; cases he80.symm.trans hq0
  exact hv
 ·intro k176 vals w177 h180 h181 hW179 hA178
  obtain rfl : k176 = 2 := Nat.le_antisymm h181 h180
  obtain ⟨ix76, he22, he80, hix77, hS182⟩ : ∃ (ix76 : Nat), (vals 1 = (.pointer (some ⟨sb da1, so da1 + a.no.toNat * 2, none⟩) : Value)) ∧ (vals 7 = (.tuple #[.int .i64 ((ix76 : Nat) : Int), .bool (decide (a.arg ∈ ((a.cls.getD a.no.toNat default).set)))] : Value)) ∧ (ix76 ≤ ((a.cls.getD a.no.toNat default).set).length ∧ (∀ q, q < ix76 → ((a.cls.getD a.no.toNat default).set).getD q 0 < a.arg) ∧ (∀ q, ix76 ≤ q → q < ((a.cls.getD a.no.toNat default).set).length → a.arg ≤ ((a.cls.getD a.no.toNat default).set).getD q 0)) ∧ Sep G W ((Blk b2 (a.cells da0 da1).toArray 101) :: Rs) w177 := hW179
  have e183 : vals 8 = (.tuple #[.int .i64 ((ix76 : Nat) : Int), .bool (decide (a.arg ∈ ((a.cls.getD a.no.toNat default).set)))] : Value) := hA178 8 (by decide) ix76 he80
  refine obl rfl ?_
  refine ov_extract (vs := [.int .i64 ((ix76 : Nat) : Int), .bool (decide (a.arg ∈ ((a.cls.getD a.no.toNat default).set)))]) (i := 0) (v := .int .i64 ((ix76 : Nat) : Int)) e183 rfl (fun vals' hv hv' => ⟨rfl, ?_⟩)
  intro ix76q hq0
  rw [hv' 7 (by decide)] at hq0; cases he80.symm.trans hq0
  exact hv
 ·intro k184 vals w185 h188 h189 hW187 hA186
  obtain rfl : k184 = 2 := Nat.le_antisymm h189 h188
  obtain ⟨ix76, he22, he80, hix77, hS190⟩ : ∃ (ix76 : Nat), (vals 1 = (.pointer (some ⟨sb da1, so da1 + a.no.toNat * 2, none⟩) : Value)) ∧ (vals 7 = (.tuple #[.int .i64 ((ix76 : Nat) : Int), .bool (decide (a.arg ∈ ((a.cls.getD a.no.toNat default).set)))] : Value)) ∧ (ix76 ≤ ((a.cls.getD a.no.toNat default).set).length ∧ (∀ q, q < ix76 → ((a.cls.getD a.no.toNat default).set).getD q 0 < a.arg) ∧ (∀ q, ix76 ≤ q → q < ((a.cls.getD a.no.toNat default).set).length → a.arg ≤ ((a.cls.getD a.no.toNat default).set).getD q 0)) ∧ Sep G W ((Blk b2 (a.cells da0 da1).toArray 101) :: Rs) w185 := hW187
  have e191 : vals 8 = (.tuple #[.int .i64 ((ix76 : Nat) : Int), .bool (decide (a.arg ∈ ((a.cls.getD a.no.toNat default).set)))] : Value) := hA186 8 (by decide) ix76 he80
  refine obl rfl ?_
  exact ov_extract (vs := [.int .i64 ((ix76 : Nat) : Int), .bool (decide (a.arg ∈ ((a.cls.getD a.no.toNat default).set)))]) (i := 1) (v := .bool (decide (a.arg ∈ ((a.cls.getD a.no.toNat default).set)))) e191 rfl (fun vals' hv _ => ⟨rfl, hv⟩)
 ·intro k192 vals w193 h196 h197 hW195 hA194
  obtain rfl : k192 = 2 := Nat.le_antisymm h197 h196
  obtain ⟨ix76, he22, he80, hix77, hS198⟩ : ∃ (ix76 : Nat), (vals 1 = (.pointer (some ⟨sb da1, so da1 + a.no.toNat * 2, none⟩) : Value)) ∧ (vals 7 = (.tuple #[.int .i64 ((ix76 : Nat) : Int), .bool (decide (a.arg ∈ ((a.cls.getD a.no.toNat default).set)))] : Value)) ∧ (ix76 ≤ ((a.cls.getD a.no.toNat default).set).length ∧ (∀ q, q < ix76 → ((a.cls.getD a.no.toNat default).set).getD q 0 < a.arg) ∧ (∀ q, ix76 ≤ q → q < ((a.cls.getD a.no.toNat default).set).length → a.arg ≤ ((a.cls.getD a.no.toNat default).set).getD q 0)) ∧ Sep G W ((Blk b2 (a.cells da0 da1).toArray 101) :: Rs) w193 := hW195
  have e199 : vals 9 = (.int .i64 ((ix76 : Nat) : Int) : Value) := hA194 9 (by decide) ix76 he80
  refine obl rfl ?_
  refine ov_assign (v := .int .i64 ((ix76 : Nat) : Int)) e199 (fun vals' hv hv' => ⟨rfl, ?_⟩)
  intro ix76q hq0
  rw [hv' 7 (by decide)] at hq0; cases he80.symm.trans hq0
  exact hv
 ·intro k200 vals w201 h204 h205 hW203 hA202
  obtain rfl : k200 = 2 := Nat.le_antisymm h205 h204
  obtain ⟨ix76, he22, he80, hix77, hS206⟩ : ∃ (ix76 : Nat), (vals 1 = (.pointer (some ⟨sb da1, so da1 + a.no.toNat * 2, none⟩) : Value)) ∧ (vals 7 = (.tuple #[.int .i64 ((ix76 : Nat) : Int), .bool (decide (a.arg ∈ ((a.cls.getD a.no.toNat default).set)))] : Value)) ∧ (ix76 ≤ ((a.cls.getD a.no.toNat default).set).length ∧ (∀ q, q < ix76 → ((a.cls.getD a.no.toNat default).set).getD q 0 < a.arg) ∧ (∀ q, ix76 ≤ q → q < ((a.cls.getD a.no.toNat default).set).length → a.arg ≤ ((a.cls.getD a.no.toNat default).set).getD q 0)) ∧ Sep G W ((Blk b2 (a.cells da0 da1).toArray 101) :: Rs) w201 := hW203
  have e207 : vals 10 = (.bool (decide (a.arg ∈ ((a.cls.getD a.no.toNat default).set))) : Value) := hA202 10 (by decide)
  refine obl rfl ?_
  exact ov_assign (v := .bool (decide (a.arg ∈ ((a.cls.getD a.no.toNat default).set)))) e207 (fun vals' hv _ => ⟨rfl, hv⟩)
 intro vals w208 hW209 hA210
 obtain ⟨ix76, he22, he80, hix77, hS211⟩ : ∃ (ix76 : Nat), (vals 1 = (.pointer (some ⟨sb da1, so da1 + a.no.toNat * 2, none⟩) : Value)) ∧ (vals 7 = (.tuple #[.int .i64 ((ix76 : Nat) : Int), .bool (decide (a.arg ∈ ((a.cls.getD a.no.toNat default).set)))] : Value)) ∧ (ix76 ≤ ((a.cls.getD a.no.toNat default).set).length ∧ (∀ q, q < ix76 → ((a.cls.getD a.no.toNat default).set).getD q 0 < a.arg) ∧ (∀ q, ix76 ≤ q → q < ((a.cls.getD a.no.toNat default).set).length → a.arg ≤ ((a.cls.getD a.no.toNat default).set).getD q 0)) ∧ Sep G W ((Blk b2 (a.cells da0 da1).toArray 101) :: Rs) w208 := hW209
 have e212 : vals 12 = (.bool (decide (a.arg ∈ ((a.cls.getD a.no.toNat default).set))) : Value) := hA210 12 (by decide)
 refine st_env (kv := [(0, .agg (a.cells da0 da1).toArray), (1, .pointer (some ⟨b2, 0, none⟩)), (2, .bool false), (4, .bool (decide (a.arg ∈ ((a.cls.getD a.no.toNat default).set))))]) ⟨rfl, rfl, rfl, (by exact e212), trivial⟩ (fun ρw208 => ?_)
 refine st_nil ?_
 refine WP_seq ?_
 refine WP_region (by kernel_rfl) ?_
 refine st (ov_move (v := .bool (decide (a.arg ∈ ((a.cls.getD a.no.toNat default).set)))) rfl ?_)
 refine st (ov_move (v := .bool (decide (a.arg ∈ ((a.cls.getD a.no.toNat default).set)))) rfl ?_)
 refine stc (V := .agg (a.cells da0 da1).toArray) rfl rfl (fun hb213 => ?_) ?_
 ·have hl214 := hb213
  have hl214 := of_decide_eq_false hl214
  exact ov_loadk (k := 7) Tryd.isAgg101 Tryd.sizeOf101 rfl rfl (CellsAt.all (hS211.blk (i := 0) rfl)) ⟨rfl, rfl⟩
 cases hg215 : decide (a.arg ∈ ((a.cls.getD a.no.toNat default).set))
 ·skip
  have hg215r := hg215
  have hg215 := of_decide_eq_false hg215
  refine sty rfl rfl (ov_call (f := 79) (vals := [.agg (a.cells da0 da1).toArray]) (cap := []) (show _ = (.func (.func 79) #[] #[] : Value) from rfl) rfl Tryd.call79 (D_cell (a := a) hda0 hda1 oa hS211 (by first | omega | (simp only [lens]; omega))) ?_)
  rintro _ w216 ⟨rfl, hS217⟩
  refine sty rfl rfl (ov_nilCheck (b := sb da1) (o := so da1 + a.no.toNat * 2) rfl ?_)
  refine sty rfl rfl (fd42_1 rfl ?_)
  have hi219 : a.no.toNat < a.cls.length := (by first | omega | (simp only [lens]; omega))
  obtain ⟨hce218, hde218_0, hoke218⟩ := hda1.cel hi219
  rw [← getD_at default hi219] at hce218 hde218_0 hoke218
  have hsm220 : ((a.cls.getD a.no.toNat default).set).length * 8 ≤ 140737488355328 := hde218_0.small
  have hcw221 := hS217.cells hce218 (hda1.foot (ne_of_lt hi219))
  refine sty rfl rfl (ov_load1 (v := (cellV W (sb da1) (so da1 + a.no.toNat * 2 + 1))) Tryd.isAgg40 rfl (hcw221.get (j := 1) rfl) ?_)
  refine sty rfl rfl (ov_len (n := ((a.cls.getD a.no.toNat default).set).length) Tryd.underlying40 rfl hde218_0.sl ?_)
  refine sty rfl rfl (ov_lss (k := .i64) (a := ((((a.cls.getD a.no.toNat default).set).length : Nat) : Int)) (b := 64) rfl rfl ?_)
  refine st (ov_pick_f (v := .bool (decide (((((a.cls.getD a.no.toNat default).set).length : Nat) : Int) < 64))) rfl rfl ?_)
  refine st (ov_assign (v := .bool (decide (((((a.cls.getD a.no.toNat default).set).length : Nat) : Int) < 64))) rfl ?_)
  refine st_nil ?_
  refine WP_ret ?_
  refine fin1 Tryd.results82 (show _ = (.bool (decide (((((a.cls.getD a.no.toNat default).set).length : Nat) : Int) < 64)) : Value) from rfl) ?_
  have hS222 : Sep G W Rs w216 := hS217.sel 1 [] (Nat.le_add_left _ _) rfl rfl
  refine ⟨?_, hS222⟩
  unfold mayB
  rw [if_neg (by decide), if_pos rfl, show decide (a.arg ∈ (celAt a.cls a.no).set) = _ from hg215r]
  rfl
 ·skip
  have hg215r := hg215
  have hg215 := of_decide_eq_true hg215
  refine stx rfl rfl ?_
  refine stx rfl rfl ?_
  refine stx rfl rfl ?_
  refine stx rfl rfl ?_
  refine stx rfl rfl ?_
  refine stx rfl rfl ?_
  refine st (ov_pick_t (v := .bool true) rfl rfl ?_)
  refine st (ov_assign (v := .bool true) rfl ?_)
  refine st_nil ?_
  refine WP_ret ?_
  refine fin1 Tryd.results82 (show _ = (.bool true : Value) from rfl) ?_
  have hS223 : Sep G W Rs w208 := hS211.sel 1 [] (Nat.le_add_left _ _) rfl rfl
  refine ⟨?_, hS223⟩
  unfold mayB
  rw [if_neg (by decide), if_pos rfl, show decide (a.arg ∈ (celAt a.cls a.no).set) = _ from hg215r]
  rfl

theorem fd79_3 {d : Option Tmp} {ty : TypeId} {pos : String} {af : Array Edge} {g : Option (Nat × Bool)} {σ : Env} {w : World} {K : Value → World → Prop} {x : Operand} {b o : Nat} (hx : ev σ x = .pointer (some ⟨b, o, none⟩)) (h : K (.pointer (some ⟨b, o + 3, none⟩)) w) : opV Tryd.prog ⟨d, .fieldAddr 79 x 3, ty, pos, af, g⟩ σ w K := ov_fieldAddr Tryd.underlying79 rfl rfl (fun w => ⟨0, Tryd.sizeOf77 w⟩) hx h
theorem fd115_0 {d : Option Tmp} {ty : TypeId} {pos : String} {af : Array Edge} {g : Option (Nat × Bool)} {σ : Env} {w : World} {K : Value → World → Prop} {x : Operand} {b o : Nat} (hx : ev σ x = .pointer (some ⟨b, o, none⟩)) (h : K (.pointer (some ⟨b, o + 0, none⟩)) w) : opV Tryd.prog ⟨d, .fieldAddr 115 x 0, ty, pos, af, g⟩ σ w K := ov_fieldAddr Tryd.underlying115 rfl rfl (fun w => ⟨0, Tryd.sizeOf3 w⟩) hx h
theorem fd115_2 {d : Option Tmp} {ty : TypeId} {pos : String} {af : Array Edge} {g : Option (Nat × Bool)} {σ : Env} {w : World} {K : Value → World → Prop} {x : Operand} {b o : Nat} (hx : ev σ x = .pointer (some ⟨b, o, none⟩)) (h : K (.pointer (some ⟨b, o + 2, none⟩)) w) : opV Tryd.prog ⟨d, .fieldAddr 115 x 2, ty, pos, af, g⟩ σ w K := ov_fieldAddr Tryd.underlying115 rfl rfl (fun w => ⟨0, Tryd.sizeOf3 w⟩) hx h
theorem fd115_3 {d : Option Tmp} {ty : TypeId} {pos : String} {af : Array Edge} {g : Option (Nat × Bool)} {σ : Env} {w : World} {K : Value → World → Prop} {x : Operand} {b o : Nat} (hx : ev σ x = .pointer (some ⟨b, o, none⟩)) (h : K (.pointer (some ⟨b, o + 3, none⟩)) w) : opV Tryd.prog ⟨d, .fieldAddr 115 x 3, ty, pos, af, g⟩ σ w K := ov_fieldAddr Tryd.underlying115 rfl rfl (fun w => ⟨0, Tryd.sizeOf3 w⟩) hx h
theorem D_mayMove {G : Nat → Prop} {W w : World} {Rs : List HP} {a : AskR} {da0 : Value} (hda0 : RdS W G da0 a.fld.moves) {da1 : Value} (hda1 : RdS W G da1 a.cls) (oa : a.Ok) (hS0 : Sep G W Rs w) (hno : 0 ≤ a.no ∧ a.no < a.cls.length) (hmv : 0 ≤ a.arg ∧ a.arg < a.fld.moves.length) (hnd : (mvAt a.fld a.arg).need < 0 ∨ (mvAt a.fld a.arg).need < a.cls.length) : Ret Tryd.prog 85 [.agg (a.cells da0 da1).toArray] w (fun r w' => r = (.bool (mayB a.fld a.cls (celAt a.cls a.no) 5 a.arg) : Value) ∧ Sep G W Rs w') := by
 have hda0s : a.fld.moves.length * 32 ≤ 140737488355328 := hda0.small
 have hda1s : a.cls.length * 32 ≤ 140737488355328 := hda1.small
 have hnd1 : (a.fld.moves.getD a.arg.toNat default).need < 0 ∨ (a.fld.moves.getD a.arg.toNat default).need < a.cls.length := hnd
 refine Calls_of_WP (args := [.agg (a.cells da0 da1).toArray]) Tryd.func85 rfl rfl ?_
 refine WP_seq ?_
 refine WP_region0 (by kernel_rfl) (fun _ => ?_)
 refine st (ov_box (v := .agg (a.cells da0 da1).toArray) rfl ?_)
 intro w3 b2 hn1
 have hS4 : Sep G W ((Blk b2 (a.cells da0 da1).toArray 101) :: Rs) w3 := hS0.new hn1
 refine st (ov_assign (v := .bool false) rfl ?_)
 refine st_nil ?_
 refine WP_seq ?_
 refine WP_region0 (by kernel_rfl) (fun _ => ?_)
 refine st (fd101_0 rfl ?_)
 refine st (fd79_3 rfl ?_)
 refine st (ov_load1 (v := da0) Tryd.isAgg77 rfl (blk_cellL (hS4.blk (i := 0) rfl) rfl) ?_)
 refine st (fd101_3 rfl ?_)
 refine st (ov_load1 (v := .int .i64 (a.arg)) Tryd.isAgg3 rfl (blk_cellL (hS4.blk (i := 0) rfl) rfl) ?_)
 have hi5 : a.arg.toNat < a.fld.moves.length := (by first | omega | (simp only [lens]; omega))
 refine st (ov_indexAddr (k := 4) (i := a.arg) Tryd.underlying77 Tryd.sizeOf115 rfl hda0.sl rfl ⟨by omega, by omega⟩ ?_)
 have hi7 : a.arg.toNat < a.fld.moves.length := (by first | omega | (simp only [lens]; omega))
 obtain ⟨hce6, hoke6⟩ := hda0.mv hi7
 rw [← getD_at default hi7] at hce6 hoke6
 have hcw8 := hS4.cells hce6 (hda0.foot (ne_of_lt hi7))
 refine st (ov_loadk (k := 4) Tryd.isAgg115 Tryd.sizeOf115 rfl rfl hcw8 ?_)
 refine st (ov_alloc Tryd.zeroValue115 ?_)
 intro w11 b10 hn9
 have hS12 : Sep G W ((Blk b10 #[.int .i64 (0), .int .i64 (0), .int .i64 (0), .int .i64 (0)] 115) :: (Blk b2 (a.cells da0 da1).toArray 101) :: Rs) w11 := hS4.new hn9
 refine stn (ov_store (v := .agg ((a.fld.moves.getD a.arg.toNat default).cells).toArray) (c' := ((a.fld.moves.getD a.arg.toNat default).cells).toArray) Tryd.sizeOf115 rfl rfl (hS12.blk (i := 0) rfl) (all1 ⟨rfl, rfl, rfl, rfl, trivial⟩) (Nat.le_of_ble_eq_true rfl) rfl ?_)
 intro w13 hp14
 have hS15 : Sep G W ((Blk b10 ((a.fld.moves.getD a.arg.toNat default).cells).toArray 115) :: (Blk b2 (a.cells da0 da1).toArray 101) :: Rs) w13 := hS12.put (i := 0) rfl hp14
 refine st_nil ?_
 refine WP_seq ?_
 refine WP_draw4 (WF [fun vals wq => Sep G W ((Blk b10 ((a.fld.moves.getD a.arg.toNat default).cells).toArray 115) :: (Blk b2 (a.cells da0 da1).toArray 101) :: Rs) wq, fun vals wq => (vals 1 = (.pointer (some ⟨sb da1, so da1 + a.no.toNat * 2, none⟩) : Value)) ∧ Sep G W ((Blk b10 ((a.fld.moves.getD a.arg.toNat default).cells).toArray 115) :: (Blk b2 (a.cells da0 da1).toArray 101) :: Rs) wq]) (AF [Vl 0 (.agg (a.cells da0 da1).toArray), fun _ => True, Vl 2 (.pointer (some ⟨sb da1, so da1 + a.no.toNat * 2, none⟩)), Vl 3 (.pointer (some ⟨sb da1, so da1 + a.no.toNat * 2, none⟩)), Vl 4 (.int .i64 ((a.cls.getD a.no.toNat default).n)), Vl 5 (.pointer (some ⟨b10, 0, none⟩)), Vl 6 (.int .i64 ((a.fld.moves.getD a.arg.toNat default).frm)), Vl 7 (.bool (decide (((a.cls.getD a.no.toNat default).n) = ((a.fld.moves.getD a.arg.toNat default).frm)))), Vl 8 (.bool (decide (((a.cls.getD a.no.toNat default).n) = ((a.fld.moves.getD a.arg.toNat default).frm)))), Vl 9 (if (decide (((a.cls.getD a.no.toNat default).n) = ((a.fld.moves.getD a.arg.toNat default).frm))) = true then .pointer (some ⟨b10, 2, none⟩) else undef), Vl 10 (if (decide (((a.cls.getD a.no.toNat default).n) = ((a.fld.moves.getD a.arg.toNat default).frm))) = true then .int .i64 ((a.fld.moves.getD a.arg.toNat default).need) else undef), Vl 11 (if (decide (((a.cls.getD a.no.toNat default).n) = ((a.fld.moves.getD a.arg.toNat default).frm))) = true then .bool (decide (((a.fld.moves.getD a.arg.toNat default).need) < 0)) else undef), Vl 12 (if (decide (((a.cls.getD a.no.toNat default).n) = ((a.fld.moves.getD a.arg.toNat default).frm))) = true then .bool (decide (((a.fld.moves.getD a.arg.toNat default).need) < 0)) else undef), Vl 13 (if ((decide (((a.cls.getD a.no.toNat default).n) = ((a.fld.moves.getD a.arg.toNat default).frm))) = true) ∧ (decide (((a.fld.moves.getD a.arg.toNat default).need) < 0)) = false then .pointer (some ⟨b2, 4, none⟩) else undef), Vl 14 (if ((decide (((a.cls.getD a.no.toNat default).n) = ((a.fld.moves.getD a.arg.toNat default).frm))) = true) ∧ (decide (((a.fld.moves.getD a.arg.toNat default).need) < 0)) = false then da1 else undef), Vl 15 (if ((decide (((a.cls.getD a.no.toNat default).n) = ((a.fld.moves.getD a.arg.toNat default).frm))) = true) ∧ (decide (((a.fld.moves.getD a.arg.toNat default).need) < 0)) = false then .pointer (some ⟨b10, 2, none⟩) else undef), Vl 16 (if ((decide (((a.cls.getD a.no.toNat default).n) = ((a.fld.moves.getD a.arg.toNat default).frm))) = true) ∧ (decide (((a.fld.moves.getD a.arg.toNat default).need) < 0)) = false then .int .i64 ((a.fld.moves.getD a.arg.toNat default).need) else undef), Vl 17 (if ((decide (((a.cls.getD a.no.toNat default).n) = ((a.fld.moves.getD a.arg.toNat default).frm))) = true) ∧ (decide (((a.fld.moves.getD a.arg.toNat default).need) < 0)) = false then .pointer (some ⟨sb da1, so da1 + (((a.fld.moves.getD a.arg.toNat default).need).toNat) * 2, none⟩) else undef), Vl 18 (if ((decide (((a.cls.getD a.no.toNat default).n) = ((a.fld.moves.getD a.arg.toNat default).frm))) = true) ∧ (decide (((a.fld.moves.getD a.arg.toNat default).need) < 0)) = false then .pointer (some ⟨sb da1, so da1 + (((a.fld.moves.getD a.arg.toNat default).need).toNat) * 2, none⟩) else undef), Vl 19 (if ((decide (((a.cls.getD a.no.toNat default).n) = ((a.fld.moves.getD a.arg.toNat default).frm))) = true) ∧ (decide (((a.fld.moves.getD a.arg.toNat default).need) < 0)) = false then .int .i64 ((a.cls.getD (((a.fld.moves.getD a.arg.toNat default).need).toNat) default).n) else undef), Vl 20 (if ((decide (((a.cls.getD a.no.toNat default).n) = ((a.fld.moves.getD a.arg.toNat default).frm))) = true) ∧ (decide (((a.fld.moves.getD a.arg.toNat default).need) < 0)) = false then .pointer (some ⟨b10, 3, none⟩) else undef), Vl 21 (if ((decide (((a.cls.getD a.no.toNat default).n) = ((a.fld.moves.getD a.arg.toNat default).frm))) = true) ∧ (decide (((a.fld.moves.getD a.arg.toNat default).need) < 0)) = false then .int .i64 ((a.fld.moves.getD a.arg.toNat default).least) else undef), Vl 22 (if ((decide (((a.cls.getD a.no.toNat default).n) = ((a.fld.moves.getD a.arg.toNat default).frm))) = true) ∧ (decide (((a.fld.moves.getD a.arg.toNat default).need) < 0)) = false then .bool (decide (((a.fld.moves.getD a.arg.toNat default).least) ≤ ((a.cls.getD (((a.fld.moves.getD a.arg.toNat default).need).toNat) default).n))) else undef), Vl 23 (if (decide (((a.cls.getD a.no.toNat default).n) = ((a.fld.moves.getD a.arg.toNat default).frm))) = true then .bool ((decide (((a.fld.moves.getD a.arg.toNat default).need) < 0)) || (decide (((a.fld.moves.getD a.arg.toNat default).least) ≤ ((a.cls.getD (((a.fld.moves.getD a.arg.toNat default).need).toNat) default).n)))) else undef), Vl 24 (.bool ((decide (((a.cls.getD a.no.toNat default).n) = ((a.fld.moves.getD a.arg.toNat default).frm))) && ((decide (((a.fld.moves.getD a.arg.toNat default).need) < 0)) || (decide (((a.fld.moves.getD a.arg.toNat default).least) ≤ ((a.cls.getD (((a.fld.moves.getD a.arg.toNat default).need).toNat) default).n)))))), Vl 25 (.bool ((decide (((a.cls.getD a.no.toNat default).n) = ((a.fld.moves.getD a.arg.toNat default).frm))) && ((decide (((a.fld.moves.getD a.arg.toNat default).need) < 0)) || (decide (((a.fld.moves.getD a.arg.toNat default).least) ≤ ((a.cls.getD (((a.fld.moves.getD a.arg.toNat default).need).toNat) default).n))))))]) [[], [0], [0, 1], [0, 1, 2], [0, 1, 2, 3], [], [5], [0, 1, 2, 3, 4, 5, 6], [0, 1, 2, 3, 4, 5, 6, 7], [0, 1, 2, 3, 4, 5, 6, 7, 8], [0, 1, 2, 3, 4, 5, 6, 7, 8, 9], [0, 1, 2, 3, 4, 5, 6, 7, 8, 9, 10], [0, 1, 2, 3, 4, 5, 6, 7, 8, 9, 10, 11], [0, 1, 2, 3, 4, 5, 6, 7, 8, 9, 10, 11, 12], [0, 1, 2, 3, 4, 5, 6, 7, 8, 9, 10, 11, 12, 13], [0, 1, 2, 3, 4, 5, 6, 7, 8, 9, 10, 11, 12], [0, 1, 2, 3, 4, 5, 6, 7, 8, 9, 10, 11, 12, 15], [0, 1, 2, 3, 4, 5, 6, 7, 8, 9, 10, 11, 12, 13, 14, 15, 16], [0, 1, 2, 3, 4, 5, 6, 7, 8, 9, 10, 11, 12, 13, 14, 15, 16, 17], [0, 1, 2, 3, 4, 5, 6, 7, 8, 9, 10, 11, 12, 13, 14, 15, 16, 17, 18], [0, 1, 2, 3, 4, 5, 6, 7, 8, 9, 10, 11, 12], [0, 1, 2, 3, 4, 5, 6, 7, 8, 9, 10, 11, 12, 20], [0, 1, 2, 3, 4, 5, 6, 7, 8, 9, 10, 11, 12, 13, 14, 15, 16, 17, 18, 19, 20, 21], [0, 1, 2, 3, 4, 5, 6, 7, 8, 9, 10, 11, 12, 13, 14, 15, 16, 17, 18, 19, 20, 21, 22], [0, 1, 2, 3, 4, 5, 6, 7, 8, 9, 10, 11, 12, 13, 14, 15, 16, 17, 18, 19, 20, 21, 22, 23], [0, 1, 2, 3, 4, 5, 6, 7, 8, 9, 10, 11, 12, 13, 14, 15, 16, 17, 18, 19, 20, 21, 22, 23, 24]] [1] [(0, 0), (0, 0), (1, 1), (1, 1), (1, 1), (0, 1), (0, 1), (1, 1), (1, 1), (1, 1), (1, 1), (1, 1), (1, 1), (1, 1), (1, 1), (1, 1), (1, 1), (1, 1), (1, 1), (1, 1), (1, 1), (1, 1), (1, 1), (1, 1), (1, 1), (1, 1)] (by kernel_rfl) (by kernel_rfl) (by kernel_rfl) rfl (by kernel_rfl) (by kernel_rfl) (fun _ h1 h2 h3 h4 _ => hS15.same h1 h2 h3 h4) ?_ (AF_loc ⟨dA, dT, dA, dA, dA, dA, dA, dA, dA, dA, dA, dA, dA, dA, dA, dA, dA, dA, dA, dA, dA, dA, dA, dA, dA, dA, trivial⟩) ⟨?_, ?_, ?_, ?_, ?_, ?_, ?_, ?_, ?_, ?_, ?_, ?_, ?_, ?_, ?_, ?_, ?_, ?_, ?_, ?_, ?_, ?_, ?_, ?_, ?_, ?_, trivial⟩ ?_
 ·intro k vals vals' w hv h
  have e : ∀ j ∈ ([1] : List Nat), vals' j = vals j := hv
  match k, h with
  | 0, h => exact h
  | 1, h => exact (by simpa only [WF, List.getElem?_cons_zero, List.getElem?_cons_succ, e 1 (by decide)] using h)
  | _ + 2, _ => trivial
 ·intro k277 vals w278 h281 h282 hW280 hA279
  obtain rfl : k277 = 0 := Nat.le_antisymm h282 h281
  have hS283 : Sep G W ((Blk b10 ((a.fld.moves.getD a.arg.toNat default).cells).toArray 115) :: (Blk b2 (a.cells da0 da1).toArray 101) :: Rs) w278 := hW280
  refine obl rfl ?_
  exact ov_loadk (k := 7) Tryd.isAgg101 Tryd.sizeOf101 rfl rfl (CellsAt.all (hS283.blk (i := 1) rfl)) (fun vals' hv _ => ⟨rfl, hv⟩)
 ·intro k23 vals w24 h27 h28 hW26 hA25
  obtain rfl : k23 = 0 := Nat.le_antisymm h28 h27
  have hS29 : Sep G W ((Blk b10 ((a.fld.moves.getD a.arg.toNat default).cells).toArray 115) :: (Blk b2 (a.cells da0 da1).toArray 101) :: Rs) w24 := hW26
  have e30 : vals 0 = (.agg (a.cells da0 da1).toArray : Value) := hA25 0 (by decide)
  refine obl rfl ?_
  refine (ov_call (f := 79) (vals := [.agg (a.cells da0 da1).toArray]) (cap := []) (show _ = (.func (.func 79) #[] #[] : Value) from rfl) (mapL ⟨e30, trivial⟩) Tryd.call79 (D_cell (a := a) hda0 hda1 oa hS29 (by first | omega | (simp only [lens]; omega))) ?_)
  rintro _ w31 ⟨rfl, hS32⟩
  intro vals' hv hv'
  refine ⟨?_, trivial⟩
  show (vals' 1 = (.pointer (some ⟨sb da1, so da1 + a.no.toNat * 2, none⟩) : Value)) ∧ Sep G W ((Blk b10 ((a.fld.moves.getD a.arg.toNat default).cells).toArray 115) :: (Blk b2 (a.cells da0 da1).toArray 101) :: Rs) w31
  exact ⟨hv, hS32⟩
 ·intro k284 vals w285 h288 h289 hW287 hA286
  obtain rfl : k284 = 1 := Nat.le_antisymm h289 h288
  obtain ⟨he33, hS290⟩ : (vals 1 = (.pointer (some ⟨sb da1, so da1 + a.no.toNat * 2, none⟩) : Value)) ∧ Sep G W ((Blk b10 ((a.fld.moves.getD a.arg.toNat default).cells).toArray 115) :: (Blk b2 (a.cells da0 da1).toArray 101) :: Rs) w285 := hW287
  refine obl rfl ?_
  exact ov_nilCheck (b := sb da1) (o := so da1 + a.no.toNat * 2) he33 (fun vals' hv _ => ⟨rfl, hv⟩)
 ·intro k291 vals w292 h295 h296 hW294 hA293
  have e297 : vals 2 = (.pointer (some ⟨sb da1, so da1 + a.no.toNat * 2, none⟩) : Value) := hA293 2 (by decide)
  refine obl rfl ?_
  exact fd42_0 e297 (fun vals' hv _ => ⟨rfl, hv⟩)
 ·intro k298 vals w299 h302 h303 hW301 hA300
  obtain rfl : k298 = 1 := Nat.le_antisymm h303 h302
  obtain ⟨he33, hS304⟩ : (vals 1 = (.pointer (some ⟨sb da1, so da1 + a.no.toNat * 2, none⟩) : Value)) ∧ Sep G W ((Blk b10 ((a.fld.moves.getD a.arg.toNat default).cells).toArray 115) :: (Blk b2 (a.cells da0 da1).toArray 101) :: Rs) w299 := hW301
  have e305 : vals 3 = (.pointer (some ⟨sb da1, so da1 + a.no.toNat * 2, none⟩) : Value) := hA300 3 (by decide)
  refine obl rfl ?_
  have hi307 : a.no.toNat < a.cls.length := (by first | omega | (simp only [lens]; omega))
  obtain ⟨hce306, hde306_0, hoke306⟩ := hda1.cel hi307
  rw [← getD_at default hi307] at hce306 hde306_0 hoke306
  have hsm308 : ((a.cls.getD a.no.toNat default).set).length * 8 ≤ 140737488355328 := hde306_0.small
  have hcw309 := hS304.cells hce306 (hda1.foot (ne_of_lt hi307))
  exact ov_load1 (v := .int .i64 ((a.cls.getD a.no.toNat default).n)) Tryd.isAgg3 e305 (hcw309.get (j := 0) rfl) (fun vals' hv _ => ⟨rfl, hv⟩)
 ·intro k310 vals w311 h314 h315 hW313 hA312
  refine obl rfl ?_
  exact fd115_0 rfl (fun vals' hv _ => ⟨rfl, hv⟩)
 ·intro k316 vals w317 h320 h321 hW319 hA318
  have hkk : k316 = 0 ∨ k316 = 1 := by have h1 : 0 ≤ k316 := h320; have h2 : k316 ≤ 1 := h321; omega
  rcases hkk with rfl | rfl
  ·skip
   have hS322 : Sep G W ((Blk b10 ((a.fld.moves.getD a.arg.toNat default).cells).toArray 115) :: (Blk b2 (a.cells da0 da1).toArray 101) :: Rs) w317 := hW319
   have e323 : vals 5 = (.pointer (some ⟨b10, 0, none⟩) : Value) := hA318 5 (by decide)
   refine obl rfl ?_
   exact ov_load1 (v := .int .i64 ((a.fld.moves.getD a.arg.toNat default).frm)) Tryd.isAgg3 e323 (blk_cellL (hS322.blk (i := 0) rfl) rfl) (fun vals' hv _ => ⟨rfl, hv⟩)
  ·skip
   obtain ⟨he33, hS324⟩ : (vals 1 = (.pointer (some ⟨sb da1, so da1 + a.no.toNat * 2, none⟩) : Value)) ∧ Sep G W ((Blk b10 ((a.fld.moves.getD a.arg.toNat default).cells).toArray 115) :: (Blk b2 (a.cells da0 da1).toArray 101) :: Rs) w317 := hW319
   have e325 : vals 5 = (.pointer (some ⟨b10, 0, none⟩) : Value) := hA318 5 (by decide)
   refine obl rfl ?_
   exact ov_load1 (v := .int .i64 ((a.fld.moves.getD a.arg.toNat default).frm)) Tryd.isAgg3 e325 (blk_cellL (hS324.blk (i := 0) rfl) rfl) (fun vals' hv _ => ⟨rfl, hv⟩)
 ·intro k326 vals w327 h330 h331 hW329 hA328
  obtain rfl : k326 = 1 := Nat.le_antisymm h331 h330
  obtain ⟨he33, hS332⟩ : (vals 1 = (.pointer (some ⟨sb da1, so da1 + a.no.toNat * 2, none⟩) : Value)) ∧ Sep G W ((Blk b10 ((a.fld.moves.getD a.arg.toNat default).cells).toArray 115) :: (Blk b2 (a.cells da0 da1).toArray 101) :: Rs) w327 := hW329
  have e333 : vals 4 = (.int .i64 ((a.cls.getD a.no.toNat default).n) : Value) := hA328 4 (by decide)
  have e334 : vals 6 = (.int .i64 ((a.fld.moves.getD a.arg.toNat default).frm) : Value) := hA328 6 (by decide)
  refine obl rfl ?_
  exact ov_eql (k := .i64) (a := (a.cls.getD a.no.toNat default).n) (b := (a.fld.moves.getD a.arg.toNat default).frm) e333 e334 (fun vals' hv _ => ⟨rfl, hv⟩)
 ·intro k335 vals w336 h339 h340 hW338 hA337
  have e341 : vals 7 = (.bool (decide (((a.cls.getD a.no.toNat default).n) = ((a.fld.moves.getD a.arg.toNat default).frm))) : Value) := hA337 7 (by decide)
  refine obl rfl ?_
  exact ov_move (v := .bool (decide (((a.cls.getD a.no.toNat default).n) = ((a.fld.moves.getD a.arg.toNat default).frm)))) e341 (fun vals' hv _ => ⟨rfl, hv⟩)
 ·intro k342 vals w343 h346 h347 hW345 hA344
  have e348 : vals 8 = (.bool (decide (((a.cls.getD a.no.toNat default).n) = ((a.fld.moves.getD a.arg.toNat default).frm))) : Value) := hA344 8 (by decide)
  refine oblc rfl rfl e348 (fun hb349 => ?_) (fun hb349 => fun vals' hv _ => ⟨trivial, hv.trans (if_neg hb349).symm⟩)
  have hl350 := hb349
  have hl350 := of_decide_eq_true hl350
  exact fd115_2 rfl (fun vals' hv _ => ⟨rfl, hv.trans (if_pos hb349).symm⟩)
 ·intro k351 vals w352 h355 h356 hW354 hA353
  obtain rfl : k351 = 1 := Nat.le_antisymm h356 h355
  obtain ⟨he33, hS357⟩ : (vals 1 = (.pointer (some ⟨sb da1, so da1 + a.no.toNat * 2, none⟩) : Value)) ∧ Sep G W ((Blk b10 ((a.fld.moves.getD a.arg.toNat default).cells).toArray 115) :: (Blk b2 (a.cells da0 da1).toArray 101) :: Rs) w352 := hW354
  have e358 : vals 8 = (.bool (decide (((a.cls.getD a.no.toNat default).n) = ((a.fld.moves.getD a.arg.toNat default).frm))) : Value) := hA353 8 (by decide)
  have e359 : vals 9 = (if (decide (((a.cls.getD a.no.toNat default).n) = ((a.fld.moves.getD a.arg.toNat default).frm))) = true then (.pointer (some ⟨b10, 2, none⟩) : Value) else undef) := hA353 9 (by decide)
  refine oblc rfl rfl e358 (fun hb360 => ?_) (fun hb360 => fun vals' hv _ => ⟨trivial, hv.trans (if_neg hb360).symm⟩)
  have hl361 := hb360
  have hl361 := of_decide_eq_true hl361
  exact ov_load1 (v := .int .i64 ((a.fld.moves.getD a.arg.toNat default).need)) Tryd.isAgg3 (show _ = (.pointer (some ⟨b10, 2, none⟩) : Value) from (Eq.trans e359 (if_pos hb360))) (blk_cellL (hS357.blk (i := 0) rfl) rfl) (fun vals' hv _ => ⟨rfl, hv.trans (if_pos hb360).symm⟩)
 ·intro k362 vals w363 h366 h367 hW365 hA364
  obtain rfl : k362 = 1 := Nat.le_antisymm h367 h366
  obtain ⟨he33, hS368⟩ : (vals 1 = (.pointer (some ⟨sb da1, so da1 + a.no.toNat * 2, none⟩) : Value)) ∧ Sep G W ((Blk b10 ((a.fld.moves.getD a.arg.toNat default).cells).toArray 115) :: (Blk b2 (a.cells da0 da1).toArray 101) :: Rs) w363 := hW365
  have e369 : vals 8 = (.bool (decide (((a.cls.getD a.no.toNat default).n) = ((a.fld.moves.getD a.arg.toNat default).frm))) : Value) := hA364 8 (by decide)
  have e370 : vals 10 = (if (decide (((a.cls.getD a.no.toNat default).n) = ((a.fld.moves.getD a.arg.toNat default).frm))) = true then (.int .i64 ((a.fld.moves.getD a.arg.toNat default).need) : Value) else undef) := hA364 10 (by decide)
  refine oblc rfl rfl e369 (fun hb371 => ?_) (fun hb371 => fun vals' hv _ => ⟨trivial, hv.trans (if_neg hb371).symm⟩)
  have hl372 := hb371
  have hl372 := of_decide_eq_true hl372
  exact ov_lss (k := .i64) (a := (a.fld.moves.getD a.arg.toNat default).need) (b := 0) (show _ = (.int .i64 ((a.fld.moves.getD a.arg.toNat default).need) : Value) from (Eq.trans e370 (if_pos hb371))) rfl (fun vals' hv _ => ⟨rfl, hv.trans (if_pos hb371).symm⟩)
 ·intro k373 vals w374 h377 h378 hW376 hA375
  have e379 : vals 8 = (.bool (decide (((a.cls.getD a.no.toNat default).n) = ((a.fld.moves.getD a.arg.toNat default).frm))) : Value) := hA375 8 (by decide)
  have e380 : vals 11 = (if (decide (((a.cls.getD a.no.toNat default).n) = ((a.fld.moves.getD a.arg.toNat default).frm))) = true then (.bool (decide (((a.fld.moves.getD a.arg.toNat default).need) < 0)) : Value) else undef) := hA375 11 (by decide)
  refine oblc rfl rfl e379 (fun hb381 => ?_) (fun hb381 => fun vals' hv _ => ⟨trivial, hv.trans (if_neg hb381).symm⟩)
  have hl382 := hb381
  have hl382 := of_decide_eq_true hl382
  exact ov_move (v := .bool (decide (((a.fld.moves.getD a.arg.toNat default).need) < 0))) (show _ = (.bool (decide (((a.fld.moves.getD a.arg.toNat default).need) < 0)) : Value) from (Eq.trans e380 (if_pos hb381))) (fun vals' hv _ => ⟨rfl, hv.trans (if_pos hb381).symm⟩)
 ·intro k383 vals w384 h387 h388 hW386 hA385
  have e389 : vals 12 = (if (decide (((a.cls.getD a.no.toNat default).n) = ((a.fld.moves.getD a.arg.toNat default).frm))) = true then (.bool (decide (((a.fld.moves.getD a.arg.toNat default).need) < 0)) : Value) else undef) := hA385 12 (by decide)
  refine oblcP rfl rfl e389 (fun hb390 => ?_) (fun hb390 => fun vals' hv _ => ⟨trivial, hv.trans (if_neg hb390).symm⟩)
  have hl391 := hb390.1
  have hl391 := of_decide_eq_true hl391
  have hl392 := hb390.2
  have hl392 := of_decide_eq_false hl392
  exact fd101_1 rfl (fun vals' hv _ => ⟨rfl, hv.trans (if_pos hb390).symm⟩)
 ·intro k393 vals w394 h397 h398 hW396 hA395
  obtain rfl : k393 = 1 := Nat.le_antisymm h398 h397
  obtain ⟨he33, hS399⟩ : (vals 1 = (.pointer (some ⟨sb da1, so da1 + a.no.toNat * 2, none⟩) : Value)) ∧ Sep G W ((Blk b10 ((a.fld.moves.getD a.arg.toNat default).cells).toArray 115) :: (Blk b2 (a.cells da0 da1).toArray 101) :: Rs) w394 := hW396
  have e400 : vals 12 = (if (decide (((a.cls.getD a.no.toNat default).n) = ((a.fld.moves.getD a.arg.toNat default).frm))) = true then (.bool (decide (((a.fld.moves.getD a.arg.toNat default).need) < 0)) : Value) else undef) := hA395 12 (by decide)
  have e401 : vals 13 = (if ((decide (((a.cls.getD a.no.toNat default).n) = ((a.fld.moves.getD a.arg.toNat default).frm))) = true) ∧ (decide (((a.fld.moves.getD a.arg.toNat default).need) < 0)) = false then (.pointer (some ⟨b2, 4, none⟩) : Value) else undef) := hA395 13 (by decide)
  refine oblcP rfl rfl e400 (fun hb402 => ?_) (fun hb402 => fun vals' hv _ => ⟨trivial, hv.trans (if_neg hb402).symm⟩)
  have hl403 := hb402.1
  have hl403 := of_decide_eq_true hl403
  have hl404 := hb402.2
  have hl404 := of_decide_eq_false hl404
  exact ov_load1 (v := da1) Tryd.isAgg26 (show _ = (.pointer (some ⟨b2, 4, none⟩) : Value) from (Eq.trans e401 (if_pos ⟨hb402.1, hb402.2⟩))) (blk_cellL (hS399.blk (i := 1) rfl) rfl) (fun vals' hv _ => ⟨rfl, hv.trans (if_pos hb402).symm⟩)
 ·intro k405 vals w406 h409 h410 hW408 hA407
  have e411 : vals 12 = (if (decide (((a.cls.getD a.no.toNat default).n) = ((a.fld.moves.getD a.arg.toNat default).frm))) = true then (.bool (decide (((a.fld.moves.getD a.arg.toNat default).need) < 0)) : Value) else undef) := hA407 12 (by decide)
  refine oblcP rfl rfl e411 (fun hb412 => ?_) (fun hb412 => fun vals' hv _ => ⟨trivial, hv.trans (if_neg hb412).symm⟩)
  have hl413 := hb412.1
  have hl413 := of_decide_eq_true hl413
  have hl414 := hb412.2
  have hl414 := of_decide_eq_false hl414
  exact fd115_2 rfl (fun vals' hv _ => ⟨rfl, hv.trans (if_pos hb412).symm⟩)
 ·intro k415 vals w416 h419 h420 hW418 hA417
  obtain rfl : k415 = 1 := Nat.le_antisymm h420 h419
  obtain ⟨he33, hS421⟩ : (vals 1 = (.pointer (some ⟨sb da1, so da1 + a.no.toNat * 2, none⟩) : Value)) ∧ Sep G W ((Blk b10 ((a.fld.moves.getD a.arg.toNat default).cells).toArray 115) :: (Blk b2 (a.cells da0 da1).toArray 101) :: Rs) w416 := hW418
  have e422 : vals 12 = (if (decide (((a.cls.getD a.no.toNat default).n) = ((a.fld.moves.getD a.arg.toNat default).frm))) = true then (.bool (decide (((a.fld.moves.getD a.arg.toNat default).need) < 0)) : Value) else undef) := hA417 12 (by decide)
  have e423 : vals 15 = (if ((decide (((a.cls.getD a.no.toNat default).n) = ((a.fld.moves.getD a.arg.toNat default).frm))) = true) ∧ (decide (((a.fld.moves.getD a.arg.toNat default).need) < 0)) = false then (.pointer (some ⟨b10, 2, none⟩) : Value) else undef) := hA417 15 (by decide)
  refine oblcP rfl rfl e422 (fun hb424 => ?_) (fun hb424 => fun vals' hv _ => ⟨trivial, hv.trans (if_neg hb424).symm⟩)
  have hl425 := hb424.1
  have hl425 := of_decide_eq_true hl425
  have hl426 := hb424.2
  have hl426 := of_decide_eq_false hl426
  exact ov_load1 (v := .int .i64 ((a.fld.moves.getD a.arg.toNat default).need)) Tryd.isAgg3 (show _ = (.pointer (some ⟨b10, 2, none⟩) : Value) from (Eq.trans e423 (if_pos ⟨hb424.1, hb424.2⟩))) (blk_cellL (hS421.blk (i := 0) rfl) rfl) (fun vals' hv _ => ⟨rfl, hv.trans (if_pos hb424).symm⟩)
 ·intro k427 vals w428 h431 h432 hW430 hA429
  obtain rfl : k427 = 1 := Nat.le_antisymm h432 h431
  obtain ⟨he33, hS433⟩ : (vals 1 = (.pointer (some ⟨sb da1, so da1 + a.no.toNat * 2, none⟩) : Value)) ∧ Sep G W ((Blk b10 ((a.fld.moves.getD a.arg.toNat default).cells).toArray 115) :: (Blk b2 (a.cells da0 da1).toArray 101) :: Rs) w428 := hW430
  have e434 : vals 12 = (if (decide (((a.cls.getD a.no.toNat default).n) = ((a.fld.moves.getD a.arg.toNat default).frm))) = true then (.bool (decide (((a.fld.moves.getD a.arg.toNat default).need) < 0)) : Value) else undef) := hA429 12 (by decide)
  have e435 : vals 14 = (if ((decide (((a.cls.getD a.no.toNat default).n) = ((a.fld.moves.getD a.arg.toNat default).frm))) = true) ∧ (decide (((a.fld.moves.getD a.arg.toNat default).need) < 0)) = false then (da1 : Value) else undef) := hA429 14 (by decide)
  have e436 : vals 16 = (if ((decide (((a.cls.getD a.no.toNat default).n) = ((a.fld.moves.getD a.arg.toNat default).frm))) = true) ∧ (decide (((a.fld.moves.getD a.arg.toNat default).need) < 0)) = false then (.int .i64 ((a.fld.moves.getD a.arg.toNat default).need) : Value) else undef) := hA429 16 (by decide)
  refine oblcP rfl rfl e434 (fun hb437 => ?_) (fun hb437 => fun vals' hv _ => ⟨trivial, hv.trans (if_neg hb437).symm⟩)
  have hl438 := hb437.1
  have hl438 := of_decide_eq_true hl438
  have hl439 := hb437.2
  have hl439 := of_decide_eq_false hl439
  have hi440 : ((a.fld.moves.getD a.arg.toNat default).need).toNat < a.cls.length := (by first | omega | (simp only [lens]; omega))
  exact ov_indexAddr (k := 2) (i := (a.fld.moves.getD a.arg.toNat default).need) Tryd.underlying26 Tryd.sizeOf42 (show _ = (da1 : Value) from (Eq.trans e435 (if_pos ⟨hb437.1, hb437.2⟩))) hda1.sl (show _ = (.int .i64 ((a.fld.moves.getD a.arg.toNat default).need) : Value) from (Eq.trans e436 (if_pos ⟨hb437.1, hb437.2⟩))) ⟨by omega, by omega⟩ (fun vals' hv _ => ⟨rfl, hv.trans (if_pos hb437).symm⟩)
 ·intro k441 vals w442 h445 h446 hW444 hA443
  have e447 : vals 12 = (if (decide (((a.cls.getD a.no.toNat default).n) = ((a.fld.moves.getD a.arg.toNat default).frm))) = true then (.bool (decide (((a.fld.moves.getD a.arg.toNat default).need) < 0)) : Value) else undef) := hA443 12 (by decide)
  have e448 : vals 17 = (if ((decide (((a.cls.getD a.no.toNat default).n) = ((a.fld.moves.getD a.arg.toNat default).frm))) = true) ∧ (decide (((a.fld.moves.getD a.arg.toNat default).need) < 0)) = false then (.pointer (some ⟨sb da1, so da1 + (((a.fld.moves.getD a.arg.toNat default).need).toNat) * 2, none⟩) : Value) else undef) := hA443 17 (by decide)
  refine oblcP rfl rfl e447 (fun hb449 => ?_) (fun hb449 => fun vals' hv _ => ⟨trivial, hv.trans (if_neg hb449).symm⟩)
  have hl450 := hb449.1
  have hl450 := of_decide_eq_true hl450
  have hl451 := hb449.2
  have hl451 := of_decide_eq_false hl451
  exact fd42_0 (show _ = (.pointer (some ⟨sb da1, so da1 + (((a.fld.moves.getD a.arg.toNat default).need).toNat) * 2, none⟩) : Value) from (Eq.trans e448 (if_pos ⟨hb449.1, hb449.2⟩))) (fun vals' hv _ => ⟨rfl, hv.trans (if_pos hb449).symm⟩)
 ·intro k452 vals w453 h456 h457 hW455 hA454
  obtain rfl : k452 = 1 := Nat.le_antisymm h457 h456
  obtain ⟨he33, hS458⟩ : (vals 1 = (.pointer (some ⟨sb da1, so da1 + a.no.toNat * 2, none⟩) : Value)) ∧ Sep G W ((Blk b10 ((a.fld.moves.getD a.arg.toNat default).cells).toArray 115) :: (Blk b2 (a.cells da0 da1).toArray 101) :: Rs) w453 := hW455
  have e459 : vals 12 = (if (decide (((a.cls.getD a.no.toNat default).n) = ((a.fld.moves.getD a.arg.toNat default).frm))) = true then (.bool (decide (((a.fld.moves.getD a.arg.toNat default).need) < 0)) : Value) else undef) := hA454 12 (by decide)
  have e460 : vals 18 = (if ((decide (((a.cls.getD a.no.toNat default).n) = ((a.fld.moves.getD a.arg.toNat default).frm))) = true) ∧ (decide (((a.fld.moves.getD a.arg.toNat default).need) < 0)) = false then (.pointer (some ⟨sb da1, so da1 + (((a.fld.moves.getD a.arg.toNat default).need).toNat) * 2, none⟩) : Value) else undef) := hA454 18 (by decide)
  refine oblcP rfl rfl e459 (fun hb461 => ?_) (fun hb461 => fun vals' hv _ => ⟨trivial, hv.trans (if_neg hb461).symm⟩)
  have hl462 := hb461.1
  have hl462 := of_decide_eq_true hl462
  have hl463 := hb461.2
  have hl463 := of_decide_eq_false hl463
  have hi465 : ((a.fld.moves.getD a.arg.toNat default).need).toNat < a.cls.length := (by first | omega | (simp only [lens]; omega))
  obtain ⟨hce464, hde464_0, hoke464⟩ := hda1.cel hi465
  rw [← getD_at default hi465] at hce464 hde464_0 hoke464
  have hsm466 : ((a.cls.getD (((a.fld.moves.getD a.arg.toNat default).need).toNat) default).set).length * 8 ≤ 140737488355328 := hde464_0.small
  have hcw467 := hS458.cells hce464 (hda1.foot (ne_of_lt hi465))
  exact ov_load1 (v := .int .i64 ((a.cls.getD (((a.fld.moves.getD a.arg.toNat default).need).toNat) default).n)) Tryd.isAgg3 (show _ = (.pointer (some ⟨sb da1, so da1 + (((a.fld.moves.getD a.arg.toNat default).need).toNat) * 2, none⟩) : Value) from (Eq.trans e460 (if_pos ⟨hb461.1, hb461.2⟩))) (hcw467.get (j := 0) rfl) (fun vals' hv _ => ⟨rfl, hv.trans (if_pos hb461).symm⟩)
 ·intro k468 vals w469 h472 h473 hW471 hA470
  have e474 : vals 12 = (if (decide (((a.cls.getD a.no.toNat default).n) = ((a.fld.moves.getD a.arg.toNat default).frm))) = true then (.bool (decide (((a.fld.moves.getD a.arg.toNat default).need) < 0)) : Value) else undef) := hA470 12 (by decide)
  refine oblcP rfl rfl e474 (fun hb475 => ?_) (fun hb475 => fun vals' hv _ => ⟨trivial, hv.trans (if_neg hb475).symm⟩)
  have hl476 := hb475.1
  have hl476 := of_decide_eq_true hl476
  have hl477 := hb475.2
  have hl477 := of_decide_eq_false hl477
  exact fd115_3 rfl (fun vals' hv _ => ⟨rfl, hv.trans (if_pos hb475).symm⟩)
 ·intro k478 vals w479 h482 h483 hW481 hA480
  obtain rfl : k478 = 1 := Nat.le_antisymm h483 h482
  obtain ⟨he33, hS484⟩ : (vals 1 = (.pointer (some ⟨sb da1, so da1 + a.no.toNat * 2, none⟩) : Value)) ∧ Sep G W ((Blk b10 ((a.fld.moves.getD a.arg.toNat default).cells).toArray 115) :: (Blk b2 (a.cells da0 da1).toArray 101) :: Rs) w479 := hW481
  have e485 : vals 12 = (if (decide (((a.cls.getD a.no.toNat default).n) = ((a.fld.moves.getD a.arg.toNat default).frm))) = true then (.bool (decide (((a.fld.moves.getD a.arg.toNat default).need) < 0)) : Value) else undef) := hA480 12 (by decide)
  have e486 : vals 20 = (if ((decide (((a.cls.getD a.no.toNat default).n) = ((a.fld.moves.getD a.arg.toNat default).frm))) = true) ∧ (decide (((a.fld.moves.getD a.arg.toNat default).need) < 0)) = false then (.pointer (some ⟨b10, 3, none⟩) : Value) else undef) := hA480 20 (by decide)
  refine oblcP rfl rfl e485 (fun hb487 => ?_) (fun hb487 => fun vals' hv _ => ⟨trivial, hv.trans (if_neg hb487).symm⟩)
  have hl488 := hb487.1
  have hl488 := of_decide_eq_true hl488
  have hl489 := hb487.2
  have hl489 := of_decide_eq_false hl489
  exact ov_load1 (v := .int .i64 ((a.fld.moves.getD a.arg.toNat default).least)) Tryd.isAgg3 (show _ = (.pointer (some ⟨b10, 3, none⟩) : Value) from (Eq.trans e486 (if_pos ⟨hb487.1, hb487.2⟩))) (blk_cellL (hS484.blk (i := 0) rfl) rfl) (fun vals' hv _ => ⟨rfl, hv.trans (if_pos hb487).symm⟩)
 ·intro k490 vals w491 h494 h495 hW493 hA492
  obtain rfl : k490 = 1 := Nat.le_antisymm h495 h494
  obtain ⟨he33, hS496⟩ : (vals 1 = (.pointer (some ⟨sb da1, so da1 + a.no.toNat * 2, none⟩) : Value)) ∧ Sep G W ((Blk b10 ((a.fld.moves.getD a.arg.toNat default).cells).toArray 115) :: (Blk b2 (a.cells da0 da1).toArray 101) :: Rs) w491 := hW493
  have e497 : vals 12 = (if (decide (((a.cls.getD a.no.toNat default).n) = ((a.fld.moves.getD a.arg.toNat default).frm))) = true then (.bool (decide (((a.fld.moves.getD a.arg.toNat default).need) < 0)) : Value) else undef) := hA492 12 (by decide)
  have e498 : vals 19 = (if ((decide (((a.cls.getD a.no.toNat default).n) = ((a.fld.moves.getD a.arg.toNat default).frm))) = true) ∧ (decide (((a.fld.moves.getD a.arg.toNat default).need) < 0)) = false then (.int .i64 ((a.cls.getD (((a.fld.moves.getD a.arg.toNat default).need).toNat) default).n) : Value) else undef) := hA492 19 (by decide)
  have e499 : vals 21 = (if ((decide (((a.cls.getD a.no.toNat default).n) = ((a.fld.moves.getD a.arg.toNat default).frm))) = true) ∧ (decide (((a.fld.moves.getD a.arg.toNat default).need) < 0)) = false then (.int .i64 ((a.fld.moves.getD a.arg.toNat default).least) : Value) else undef) := hA492 21 (by decide)
  refine oblcP rfl rfl e497 (fun hb500 => ?_) (fun hb500 => fun vals' hv _ => ⟨trivial, hv.trans (if_neg hb500).symm⟩)
  have hl501 := hb500.1
  have hl501 := of_decide_eq_true hl501
  have hl502 := hb500.2
  have hl502 := of_decide_eq_false hl502
  exact ov_geq (k := .i64) (a := (a.cls.getD (((a.fld.moves.getD a.arg.toNat default).need).toNat) default).n) (b := (a.fld.moves.getD a.arg.toNat default).least) (show _ = (.int .i64 ((a.cls.getD (((a.fld.moves.getD a.arg.toNat default).need).toNat) default).n) : Value) from (Eq.trans e498 (if_pos ⟨hb500.1, hb500.2⟩))) (show _ = (.int .i64 ((a.fld.moves.getD a.arg.toNat default).least) : Value) from (Eq.trans e499 (if_pos ⟨hb500.1, hb500.2⟩))) (fun vals' hv _ => ⟨rfl, hv.trans (if_pos hb500).symm⟩)
 ·intro k503 vals w504 h507 h508 hW506 hA505
  have e509 : vals 8 = (.bool (decide (((a.cls.getD a.no.toNat default).n) = ((a.fld.moves.getD a.arg.toNat default).frm))) : Value) := hA505 8 (by decide)
  have e510 : vals 12 = (if (decide (((a.cls.getD a.no.toNat default).n) = ((a.fld.moves.getD a.arg.toNat default).frm))) = true then (.bool (decide (((a.fld.moves.getD a.arg.toNat default).need) < 0)) : Value) else undef) := hA505 12 (by decide)
  have e511 : vals 22 = (if ((decide (((a.cls.getD a.no.toNat default).n) = ((a.fld.moves.getD a.arg.toNat default).frm))) = true) ∧ (decide (((a.fld.moves.getD a.arg.toNat default).need) < 0)) = false then (.bool (decide (((a.fld.moves.getD a.arg.toNat default).least) ≤ ((a.cls.getD (((a.fld.moves.getD a.arg.toNat default).need).toNat) default).n))) : Value) else undef) := hA505 22 (by decide)
  refine oblc rfl rfl e509 (fun hb512 => ?_) (fun hb512 => fun vals' hv _ => ⟨trivial, hv.trans (if_neg hb512).symm⟩)
  have hl513 := hb512
  have hl513 := of_decide_eq_true hl513
  exact ov_pick_or (b := decide (((a.fld.moves.getD a.arg.toNat default).need) < 0)) (b' := decide (((a.fld.moves.getD a.arg.toNat default).least) ≤ ((a.cls.getD (((a.fld.moves.getD a.arg.toNat default).need).toNat) default).n))) (show _ = (.bool (decide (((a.fld.moves.getD a.arg.toNat default).need) < 0)) : Value) from (Eq.trans e510 (if_pos hb512))) (fun hbp => (show _ = (.bool (decide (((a.fld.moves.getD a.arg.toNat default).least) ≤ ((a.cls.getD (((a.fld.moves.getD a.arg.toNat default).need).toNat) default).n))) : Value) from (Eq.trans e511 (if_pos ⟨hb512, hbp⟩)))) (fun vals' hv _ => ⟨rfl, hv.trans (if_pos hb512).symm⟩)
 ·intro k514 vals w515 h518 h519 hW517 hA516
  have e520 : vals 8 = (.bool (decide (((a.cls.getD a.no.toNat default).n) = ((a.fld.moves.getD a.arg.toNat default).frm))) : Value) := hA516 8 (by decide)
  have e521 : vals 23 = (if (decide (((a.cls.getD a.no.toNat default).n) = ((a.fld.moves.getD a.arg.toNat default).frm))) = true then (.bool ((decide (((a.fld.moves.getD a.arg.toNat default).need) < 0)) || (decide (((a.fld.moves.getD a.arg.toNat default).least) ≤ ((a.cls.getD (((a.fld.moves.getD a.arg.toNat default).need).toNat) default).n)))) : Value) else undef) := hA516 23 (by decide)
  refine obl rfl ?_
  exact ov_pick_and (b := decide (((a.cls.getD a.no.toNat default).n) = ((a.fld.moves.getD a.arg.toNat default).frm))) (b' := (decide (((a.fld.moves.getD a.arg.toNat default).need) < 0)) || (decide (((a.fld.moves.getD a.arg.toNat default).least) ≤ ((a.cls.getD (((a.fld.moves.getD a.arg.toNat default).need).toNat) default).n)))) e520 (fun hbp => (show _ = (.bool ((decide (((a.fld.moves.getD a.arg.toNat default).need) < 0)) || (decide (((a.fld.moves.getD a.arg.toNat default).least) ≤ ((a.cls.getD (((a.fld.moves.getD a.arg.toNat default).need).toNat) default).n)))) : Value) from (Eq.trans e521 (if_pos hbp)))) (fun vals' hv _ => ⟨rfl, hv⟩)
 ·intro k522 vals w523 h526 h527 hW525 hA524
  have e528 : vals 24 = (.bool ((decide (((a.cls.getD a.no.toNat default).n) = ((a.fld.moves.getD a.arg.toNat default).frm))) && ((decide (((a.fld.moves.getD a.arg.toNat default).need) < 0)) || (decide (((a.fld.moves.getD a.arg.toNat default).least) ≤ ((a.cls.getD (((a.fld.moves.getD a.arg.toNat default).need).toNat) default).n))))) : Value) := hA524 24 (by decide)
  refine obl rfl ?_
  exact ov_assign (v := .bool ((decide (((a.cls.getD a.no.toNat default).n) = ((a.fld.moves.getD a.arg.toNat default).frm))) && ((decide (((a.fld.moves.getD a.arg.toNat default).need) < 0)) || (decide (((a.fld.moves.getD a.arg.toNat default).least) ≤ ((a.cls.getD (((a.fld.moves.getD a.arg.toNat default).need).toNat) default).n)))))) e528 (fun vals' hv _ => ⟨rfl, hv⟩)
 intro vals w529 hW530 hA531
 obtain ⟨he33, hS532⟩ : (vals 1 = (.pointer (some ⟨sb da1, so da1 + a.no.toNat * 2, none⟩) : Value)) ∧ Sep G W ((Blk b10 ((a.fld.moves.getD a.arg.toNat default).cells).toArray 115) :: (Blk b2 (a.cells da0 da1).toArray 101) :: Rs) w529 := hW530
 have e533 : vals 25 = (.bool ((decide (((a.cls.getD a.no.toNat default).n) = ((a.fld.moves.getD a.arg.toNat default).frm))) && ((decide (((a.fld.moves.getD a.arg.toNat default).need) < 0)) || (decide (((a.fld.moves.getD a.arg.toNat default).least) ≤ ((a.cls.getD (((a.fld.moves.getD a.arg.toNat default).need).toNat) default).n))))) : Value) := hA531 25 (by decide)
 refine st_env (kv := [(0, .agg (a.cells da0 da1).toArray), (1, .pointer (some ⟨b2, 0, none⟩)), (2, .bool ((decide (((a.cls.getD a.no.toNat default).n) = ((a.fld.moves.getD a.arg.toNat default).frm))) && ((decide (((a.fld.moves.getD a.arg.toNat default).need) < 0)) || (decide (((a.fld.moves.getD a.arg.toNat default).least) ≤ ((a.cls.getD (((a.fld.moves.getD a.arg.toNat default).need).toNat) default).n)))))), (4, .pointer (some ⟨b2, 0, none⟩)), (5, .pointer (some ⟨b2, 3, none⟩)), (6, da0), (7, .pointer (some ⟨b2, 6, none⟩)), (8, .int .i64 (a.arg)), (9, .pointer (some ⟨sb da0, so da0 + a.arg.toNat * 4, none⟩)), (10, .agg ((a.fld.moves.getD a.arg.toNat default).cells).toArray), (3, .pointer (some ⟨b10, 0, none⟩))]) ⟨rfl, rfl, (by exact e533), rfl, rfl, rfl, rfl, rfl, rfl, rfl, rfl, trivial⟩ (fun ρw529 => ?_)
 refine st_nil ?_
 refine WP_ret ?_
 refine fin1 Tryd.results85 (show _ = (.bool ((decide (((a.cls.getD a.no.toNat default).n) = ((a.fld.moves.getD a.arg.toNat default).frm))) && ((decide (((a.fld.moves.getD a.arg.toNat default).need) < 0)) || (decide (((a.fld.moves.getD a.arg.toNat default).least) ≤ ((a.cls.getD (((a.fld.moves.getD a.arg.toNat default).need).toNat) default).n))))) : Value) from rfl) ?_
 have hS534 : Sep G W Rs w529 := hS532.sel 2 [] (Nat.le_add_left _ _) rfl rfl
 refine ⟨?_, hS534⟩
 unfold mayB
 rw [if_neg (by decide), if_neg (by decide), if_pos rfl]
 rfl

end Go.Proofs.YtlblilbmpdejgaaDoor
