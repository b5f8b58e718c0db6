/- Steps of the proofs of this seat: part K3. -/
import Derived.Test.YtlblilbmpdejgaaDoorK2
set_option linter.unusedSimpArgs false
set_option linter.unusedVariables false
set_option maxRecDepth 8000
set_option maxHeartbeats 4000000
namespace Go.Proofs.YtlblilbmpdejgaaDoor
open Go.Proofs Go.RowKit

theorem doL_other {t : Typ} {c : List Cel} {f op arg : Int} {j : Nat} (h0 : 0 ≤ f) (h : ¬ (j : Int) = f) : (doL t c f op arg).getD j default = c.getD j default := by
  unfold doL
  exact getD_set_ne (by omega) _ _
theorem mayB_of {t : Typ} {c : List Cel} {f op arg : Int} (h : mayL t c f op arg = 0) : mayB (fldAt t f) c (celAt c f) op arg = true := by
  unfold mayL at h
  split at h
  · assumption
  · cases h
theorem guard_why {t : Typ} {c : List Cel} {f op arg : Int} (ha : InR arg) (hn : InR (celAt c f).n) (hfl : (fldAt t f).floor = true → 0 ≤ (celAt c f).n) (h : ¬ mayL t c f op arg = 0) : mayL t c f op arg = 10 ∧ op ≠ 2 ∧ op ≠ 4 ∧ (op = 1 → 0 < arg → ¬ (celAt c f).n < 0) := by
  have hm : ¬ mayB (fldAt t f) c (celAt c f) op arg = true := fun e => h (by unfold mayL; rw [if_pos e])
  refine ⟨by unfold mayL; rw [if_neg hm], fun e => hm (by subst e; rfl), fun e => hm (by subst e; rfl), fun e h1 h2 => hm ?_⟩
  subst e
  have hw : iwrap ((celAt c f).n + arg) = (celAt c f).n + arg := iwrap_in (by omega)
  unfold mayB
  rw [if_pos rfl, hw]
  have hb : (fldAt t f).floor = false := by
    cases hb : (fldAt t f).floor with
    | false => rfl
    | true => have := hfl hb; omega
  rw [hb]
  have k1 : decide ((celAt c f).n < (celAt c f).n + arg) = decide (0 < arg) := decide_eq_decide.2 (by omega)
  rw [k1]
  simp
theorem fd36_0 {d : Option Tmp} {ty : TypeId} {pos : String} {af : Array Edge} {g : Option (Nat × Bool)} {σ : Env} {w : World} {K : Value → World → Prop} {x : Operand} {b o : Nat} (hx : ev σ x = .pointer (some ⟨b, o, none⟩)) (h : K (.pointer (some ⟨b, o + 0, none⟩)) w) : opV Tryd.prog ⟨d, .fieldAddr 36 x 0, ty, pos, af, g⟩ σ w K := ov_fieldAddr Tryd.underlying36 rfl rfl (fun w => ⟨0, Tryd.sizeOf3 w⟩) hx h
theorem fd36_1 {d : Option Tmp} {ty : TypeId} {pos : String} {af : Array Edge} {g : Option (Nat × Bool)} {σ : Env} {w : World} {K : Value → World → Prop} {x : Operand} {b o : Nat} (hx : ev σ x = .pointer (some ⟨b, o, none⟩)) (h : K (.pointer (some ⟨b, o + 1, none⟩)) w) : opV Tryd.prog ⟨d, .fieldAddr 36 x 1, ty, pos, af, g⟩ σ w K := ov_fieldAddr Tryd.underlying36 rfl rfl (fun w => ⟨0, Tryd.sizeOf3 w⟩) hx h
theorem fd36_2 {d : Option Tmp} {ty : TypeId} {pos : String} {af : Array Edge} {g : Option (Nat × Bool)} {σ : Env} {w : World} {K : Value → World → Prop} {x : Operand} {b o : Nat} (hx : ev σ x = .pointer (some ⟨b, o, none⟩)) (h : K (.pointer (some ⟨b, o + 2, none⟩)) w) : opV Tryd.prog ⟨d, .fieldAddr 36 x 2, ty, pos, af, g⟩ σ w K := ov_fieldAddr Tryd.underlying36 rfl rfl (fun w => ⟨0, Tryd.sizeOf3 w⟩) hx h
set_option maxHeartbeats 8000000 in
theorem D_CellKeeps {G : Nat → Prop} {W w : World} {Rs : List HP} {d : Dcl} {dd0 : Value} (hdd0 : RdS W G dd0 d.types) {dd1 : Value} (hdd1 : RdS W G dd1 d.projs) (od : d.Ok) {ty : Int} (hty : InR ty) {vl : Value} {l : List Cel} (hl : RdS W G vl l) {vqs : Value} {qs : List Ask} (hqs : RdS W G vqs qs) (hKN : RdS W G (.slice (some ⟨0, 0, none⟩) 6 6) kindsL) (hS0 : Sep G W Rs w) : Ret Tryd.prog 3 [.agg (d.cells dd0 dd1).toArray, .int .i64 (ty), vl, vqs] w (fun r w' => r = (.bool true : Value) ∧ Sep G W Rs w') := by
 have hdd0s : d.types.length * 24 ≤ 140737488355328 := hdd0.small
 have hdd1s : d.projs.length * 40 ≤ 140737488355328 := hdd1.small
 have hls : l.length * 32 ≤ 140737488355328 := hl.small
 have hqss : qs.length * 24 ≤ 140737488355328 := hqs.small
 have hKNs : kindsL.length * 8 ≤ 140737488355328 := hKN.small
 refine Calls_of_WP (args := [.agg (d.cells dd0 dd1).toArray, .int .i64 (ty), vl, vqs]) Tryd.func3 rfl rfl ?_
 refine WP_seq ?_
 refine WP_region0 (by kernel_rfl) (fun _ => ?_)
 refine st (ov_box (v := .agg (d.cells dd0 dd1).toArray) rfl ?_)
 intro w3 b2 hn1
 have hS4 : Sep G W ((Blk b2 (d.cells dd0 dd1).toArray 25) :: Rs) w3 := hS0.new hn1
 refine st (ov_assign (v := .bool false) rfl ?_)
 refine st_nil ?_
 refine WP_seq ?_
 refine WP_seq ?_
 refine WP_region0 (by kernel_rfl) (fun _ => ?_)
 refine st (ov_loadk (k := 2) Tryd.isAgg25 Tryd.sizeOf25 rfl rfl (CellsAt.all (hS4.blk (i := 0) rfl)) ?_)
 refine st (ov_move (v := vl) rfl ?_)
 refine st (ov_call (f := 11) (vals := [.agg (d.cells dd0 dd1).toArray, vl]) (cap := []) (show _ = (.func (.func 11) #[] #[] : Value) from rfl) rfl Tryd.call11 (D_Right (d := d) (l := l) (vl := vl) hdd0 hdd1 od hl hS4) ?_)
 rintro _ w7 ⟨b5, rfl, hb6, hS8⟩
 refine st (ov_not (a := b5) rfl ?_)
 refine st_nil ?_
 cases hc9 : !b5
 ·skip
  try simp only [bools] at hc9
  have hrg := hb6 hc9
  have hdo := hrg.1
  have hd1 := hdo.some
  have hd2 := hdo.few
  refine WP_cond_f rfl ?_
  refine WP_skip ?_
  refine WP_seq ?_
  refine WP_region0 (by kernel_rfl) (fun _ => ?_)
  refine st (ov_move (v := .int .i64 (ty)) rfl ?_)
  refine st (fd25_0 rfl ?_)
  refine st (ov_load1 (v := dd0) Tryd.isAgg22 rfl (blk_cellL (hS8.blk (i := 0) rfl) rfl) ?_)
  refine st (ov_len (n := d.types.length) Tryd.underlying22 rfl hdd0.sl ?_)
  refine st (ov_call (f := 13) (vals := [.int .i64 (ty), .int .i64 ((d.types.length : Nat) : Int)]) (cap := []) (show _ = (.func (.func 13) #[] #[] : Value) from rfl) rfl Tryd.call13 (D_Pick (x := ty) (n := d.types.length) hty (by first | omega | (refine ⟨?_, ?_⟩ <;> omega)) hS8) ?_)
  rintro _ w12 ⟨q10, rfl, hq11, hS13⟩
  refine st (ov_assign (v := .int .i64 ((q10 : Nat) : Int)) rfl ?_)
  refine st_nil ?_
  refine WP_seq ?_
  refine WP_region0 (by kernel_rfl) (fun _ => ?_)
  refine st (fd25_0 rfl ?_)
  refine st (ov_load1 (v := dd0) Tryd.isAgg22 rfl (blk_cellL (hS13.blk (i := 0) rfl) rfl) ?_)
  refine st (ov_move (v := .int .i64 ((q10 : Nat) : Int)) rfl ?_)
  have hi14 : q10 < d.types.length := (by first | omega | (simp only [lens]; omega))
  refine st (ov_indexAddrN (k := 1) (i := q10) Tryd.underlying22 Tryd.sizeOf33 rfl hdd0.sl rfl hi14 ?_)
  have hi16 : q10 < d.types.length := (by first | omega | (simp only [lens]; omega))
  obtain ⟨hce15, hde15_0, hoke15⟩ := hdd0.typ hi16
  rw [← getD_at default hi16] at hce15 hde15_0 hoke15
  have hsm17 : ((d.types.getD q10 default).fields).length * 48 ≤ 140737488355328 := hde15_0.small
  have hcw18 := hS13.cells hce15 (hdd0.foot (ne_of_lt hi16))
  refine st (ov_loadk (k := 1) Tryd.isAgg33 Tryd.sizeOf33 rfl rfl hcw18 ?_)
  refine st (ov_alloc Tryd.zeroValue33 ?_)
  intro w21 b20 hn19
  have hS22 : Sep G W ((Blk b20 #[(.slice none 0 0)] 33) :: (Blk b2 (d.cells dd0 dd1).toArray 25) :: Rs) w21 := hS13.new hn19
  refine stn (ov_store (v := .agg ((d.types.getD q10 default).cells (cellV W (sb dd0) (so dd0 + q10 * 1 + 0))).toArray) (c' := ((d.types.getD q10 default).cells (cellV W (sb dd0) (so dd0 + q10 * 1 + 0))).toArray) Tryd.sizeOf33 rfl rfl (hS22.blk (i := 0) rfl) (all1 ⟨hde15_0.sl.one, trivial⟩) (Nat.le_of_ble_eq_true rfl) rfl ?_)
  intro w23 hp24
  have hS25 : Sep G W ((Blk b20 ((d.types.getD q10 default).cells (cellV W (sb dd0) (so dd0 + q10 * 1 + 0))).toArray 33) :: (Blk b2 (d.cells dd0 dd1).toArray 25) :: Rs) w23 := hS22.put (i := 0) rfl hp24
  refine st_nil ?_
  refine WP_seq ?_
  refine WP_region0 (by kernel_rfl) (fun _ => ?_)
  refine st (ov_loadk (k := 1) Tryd.isAgg33 Tryd.sizeOf33 rfl rfl (CellsAt.all (hS25.blk (i := 0) rfl)) ?_)
  refine st (ov_move (v := vl) rfl ?_)
  refine st (ov_call (f := 14) (vals := [.agg ((d.types.getD q10 default).cells (cellV W (sb dd0) (so dd0 + q10 * 1 + 0))).toArray, vl]) (cap := []) (show _ = (.func (.func 14) #[] #[] : Value) from rfl) rfl Tryd.call14 (D_Cells (t := (d.types.getD q10 default)) (l := l) (vl := vl) hde15_0 hoke15 hl hS25 ((hdo.typ _ (by omega)))) ?_)
  rintro v26 w29 ⟨_, c227, rfl, hR28, hS30⟩
  have hr31 := hS30.row (i := 0) rfl
  have hr31s : c227.length * 32 ≤ 140737488355328 := hr31.2
  refine st (ov_assign (v := v26) rfl ?_)
  refine st_nil ?_
  refine WP_seq ?_
  refine WP_seq ?_
  refine WP_region0 (by kernel_rfl) (fun _ => ?_)
  have hcl := hR28.len
  have hty := hdo.typ _ (show q10 < d.types.length by omega)
  have hty1 := hty.some
  have hty2 := hty.few
  refine st (ov_assign (v := .int .i64 (0)) rfl ?_)
  refine st_nil ?_
  refine WP_block ?_
  have hS32 : Sep G W ((RowE (α := Cel) own 42 v26 c227) :: (Blk b2 (d.cells dd0 dd1).toArray 25) :: (Blk b20 ((d.types.getD q10 default).cells (cellV W (sb dd0) (so dd0 + q10 * 1 + 0))).toArray 33) :: Rs) w29 := hS30.sel 3 [0, 2, 1] (Nat.le_add_left _ _) rfl rfl
  refine WP_loop (fun mq σ wq => ∃ (k : Nat) (vc : Value) (c : List Cel) (ρ : Env), mq = qs.length - k ∧ σ = setAll ρ [(1, .int .i64 ((q10 : Nat) : Int)), (3, vqs), (4, .pointer (some ⟨b2, 0, none⟩)), (9, .pointer (some ⟨b20, 0, none⟩)), (10, vc), (11, .int .i64 ((k : Nat) : Int))] ∧ (k ≤ qs.length) ∧ (Right (d.types.getD q10 default) c) ∧ Sep G W ((RowE (α := Cel) own 42 vc c) :: (Blk b2 (d.cells dd0 dd1).toArray 25) :: (Blk b20 ((d.types.getD q10 default).cells (cellV W (sb dd0) (so dd0 + q10 * 1 + 0))).toArray 33) :: Rs) wq) ⟨0, v26, c227, _, rfl, setAll_self ⟨rfl, rfl, rfl, rfl, rfl, rfl, trivial⟩, Nat.zero_le _, hR28, hS32⟩ ?_
  rintro m34 σ35 w33 ⟨k, vc, c, ρl1, rfl, rfl, hk, hR, hS36⟩
  have hr37 := hS36.row (i := 0) rfl
  have hr37s : c.length * 32 ≤ 140737488355328 := hr37.2
  have hcl9 := hR.len
  refine WP_seq ?_
  refine WP_seq ?_
  refine WP_region (by kernel_rfl) ?_
  refine st (ov_move (v := .int .i64 ((k : Nat) : Int)) rfl ?_)
  refine st (ov_move (v := vqs) rfl ?_)
  refine st (ov_len (n := qs.length) Tryd.underlying27 rfl hqs.sl ?_)
  refine st (ov_lss (k := .i64) (a := ((k : Nat) : Int)) (b := ((qs.length : Nat) : Int)) rfl rfl ?_)
  refine st (ov_move (v := .bool (decide (((k : Nat) : Int) < ((qs.length : Nat) : Int)))) rfl ?_)
  refine stc (V := .int .i64 ((k : Nat) : Int)) rfl rfl (fun hb38 => ?_) ?_
  ·have hl39 := hb38
   have hl39 := of_decide_eq_true hl39
   exact ov_move (v := .int .i64 ((k : Nat) : Int)) rfl ⟨rfl, rfl⟩
  refine stc (V := .bool (decide (((k : Nat) : Int) < 100))) rfl rfl (fun hb40 => ?_) ?_
  ·have hl41 := hb40
   have hl41 := of_decide_eq_true hl41
   exact ov_lss (k := .i64) (a := ((k : Nat) : Int)) (b := 100) (show _ = (.int .i64 ((k : Nat) : Int) : Value) from (if_pos hb40)) rfl ⟨rfl, rfl⟩
  refine st (ov_pick_and (b := decide (((k : Nat) : Int) < ((qs.length : Nat) : Int))) (b' := decide (((k : Nat) : Int) < 100)) rfl (fun hbp => (show _ = (.bool (decide (((k : Nat) : Int) < 100)) : Value) from (if_pos hbp))) ?_)
  refine st_nil ?_
  cases hc42 : (decide (((k : Nat) : Int) < ((qs.length : Nat) : Int))) && (decide (((k : Nat) : Int) < 100))
  ·skip
   try simp only [bools] at hc42
   refine WP_cond_f rfl ?_
   refine WP_exit ?_
   refine blk_exit ?_
   refine WP_seq ?_
   refine WP_region0 (by kernel_rfl) (fun _ => ?_)
   refine st (ov_call (f := 12) (vals := []) (cap := []) (show _ = (.func (.func 12) #[] #[] : Value) from rfl) rfl Tryd.call12 (D_known  hS36) ?_)
   rintro _ w43 ⟨rfl, hS44⟩
   refine st (ov_assign (v := .bool true) rfl ?_)
   refine st_nil ?_
   refine WP_ret ?_
   refine fin1 Tryd.results3 (show _ = (.bool true : Value) from rfl) ?_
   have hS45 : Sep G W Rs w43 := hS44.sel 3 [] (Nat.le_add_left _ _) rfl rfl
   refine ⟨rfl, hS45⟩
  ·skip
   try simp only [bools] at hc42
   refine WP_cond_t rfl ?_
   refine WP_skip ?_
   refine WP_seq ?_
   refine WP_block ?_
   refine WP_seq ?_
   refine WP_region0 (by kernel_rfl) (fun _ => ?_)
   refine st (ov_move (v := vqs) rfl ?_)
   refine st (ov_move (v := .int .i64 ((k : Nat) : Int)) rfl ?_)
   have hi46 : k < qs.length := (by first | omega | (simp only [lens]; omega))
   refine st (ov_indexAddrN (k := 3) (i := k) Tryd.underlying27 Tryd.sizeOf36 rfl hqs.sl rfl hi46 ?_)
   have hi48 : k < qs.length := (by first | omega | (simp only [lens]; omega))
   obtain ⟨hce47, hoke47⟩ := hqs.ask hi48
   rw [← getD_at default hi48] at hce47 hoke47
   have hcw49 := hS36.cells hce47 (hqs.foot (ne_of_lt hi48))
   refine st (ov_loadk (k := 3) Tryd.isAgg36 Tryd.sizeOf36 rfl rfl hcw49 ?_)
   refine st (ov_alloc Tryd.zeroValue36 ?_)
   intro w52 b51 hn50
   have hS53 : Sep G W ((Blk b51 #[.int .i64 (0), .int .i64 (0), .int .i64 (0)] 36) :: (RowE (α := Cel) own 42 vc c) :: (Blk b2 (d.cells dd0 dd1).toArray 25) :: (Blk b20 ((d.types.getD q10 default).cells (cellV W (sb dd0) (so dd0 + q10 * 1 + 0))).toArray 33) :: Rs) w52 := hS36.new hn50
   refine stn (ov_store (v := .agg ((qs.getD k default).cells).toArray) (c' := ((qs.getD k default).cells).toArray) Tryd.sizeOf36 rfl rfl (hS53.blk (i := 0) rfl) (all1 ⟨rfl, rfl, rfl, trivial⟩) (Nat.le_of_ble_eq_true rfl) rfl ?_)
   intro w54 hp55
   have hS56 : Sep G W ((Blk b51 ((qs.getD k default).cells).toArray 36) :: (RowE (α := Cel) own 42 vc c) :: (Blk b2 (d.cells dd0 dd1).toArray 25) :: (Blk b20 ((d.types.getD q10 default).cells (cellV W (sb dd0) (so dd0 + q10 * 1 + 0))).toArray 33) :: Rs) w54 := hS53.put (i := 0) rfl hp55
   refine st_nil ?_
   refine WP_seq ?_
   refine WP_seq ?_
   refine WP_region0 (by kernel_rfl) (fun _ => ?_)
   refine st (ov_loadk (k := 2) Tryd.isAgg25 Tryd.sizeOf25 rfl rfl (CellsAt.all (hS56.blk (i := 2) rfl)) ?_)
   refine st (ov_move (v := .int .i64 ((q10 : Nat) : Int)) rfl ?_)
   refine st (fd36_0 rfl ?_)
   refine st (ov_load1 (v := .int .i64 ((qs.getD k default).afield)) Tryd.isAgg3 rfl (blk_cellL (hS56.blk (i := 0) rfl) rfl) ?_)
   refine st (fd36_1 rfl ?_)
   refine st (ov_load1 (v := .int .i64 ((qs.getD k default).aop)) Tryd.isAgg3 rfl (blk_cellL (hS56.blk (i := 0) rfl) rfl) ?_)
   refine st (fd36_2 rfl ?_)
   refine st (ov_load1 (v := .int .i64 ((qs.getD k default).aarg)) Tryd.isAgg3 rfl (blk_cellL (hS56.blk (i := 0) rfl) rfl) ?_)
   refine st (ov_call (f := 15) (vals := [.agg (d.cells dd0 dd1).toArray, .int .i64 ((q10 : Nat) : Int), .int .i64 ((qs.getD k default).afield), .int .i64 ((qs.getD k default).aop), .int .i64 ((qs.getD k default).aarg)]) (cap := []) (show _ = (.func (.func 15) #[] #[] : Value) from rfl) rfl Tryd.call15 (D_Fits (d := d) (ty := ((q10 : Nat) : Int)) (f := (qs.getD k default).afield) (op := (qs.getD k default).aop) (arg := (qs.getD k default).aarg) hdd0 hdd1 od (by omega) hoke47.afield hoke47.aop hoke47.aarg hKN hS56) ?_)
   rintro _ w57 ⟨rfl, hS58⟩
   refine st (ov_neq (k := .i64) (a := fitsL d ((q10 : Nat) : Int) ((qs.getD k default).afield) ((qs.getD k default).aop) ((qs.getD k default).aarg)) (b := 0) rfl rfl ?_)
   refine st_nil ?_
   cases hc59 : !decide ((fitsL d ((q10 : Nat) : Int) ((qs.getD k default).afield) ((qs.getD k default).aop) ((qs.getD k default).aarg)) = 0)
   ·skip
    have hc59 := ndec_false hc59
    have hft : Fits (d.types.getD q10 default) (qs.getD k default).afield (qs.getD k default).aop (qs.getD k default).aarg := (fits_ok hc59).2.2
    have hft1 := hft.lo; have hft2 := hft.hi
    have hak9 := hft.ask hty hR
    refine WP_cond_f rfl ?_
    refine WP_skip ?_
    refine WP_seq ?_
    refine WP_region0 (by kernel_rfl) (fun _ => ?_)
    refine st (ov_loadk (k := 1) Tryd.isAgg33 Tryd.sizeOf33 rfl rfl (CellsAt.all (hS58.blk (i := 3) rfl)) ?_)
    refine st (ov_move (v := vc) rfl ?_)
    refine st (fd36_0 rfl ?_)
    refine st (ov_load1 (v := .int .i64 ((qs.getD k default).afield)) Tryd.isAgg3 rfl (blk_cellL (hS58.blk (i := 0) rfl) rfl) ?_)
    refine st (fd36_1 rfl ?_)
    refine st (ov_load1 (v := .int .i64 ((qs.getD k default).aop)) Tryd.isAgg3 rfl (blk_cellL (hS58.blk (i := 0) rfl) rfl) ?_)
    refine st (fd36_2 rfl ?_)
    refine st (ov_load1 (v := .int .i64 ((qs.getD k default).aarg)) Tryd.isAgg3 rfl (blk_cellL (hS58.blk (i := 0) rfl) rfl) ?_)
    have hS60 : Sep G W ((RowE (α := Cel) own 42 vc c) :: (Blk b51 ((qs.getD k default).cells).toArray 36) :: (Blk b2 (d.cells dd0 dd1).toArray 25) :: (Blk b20 ((d.types.getD q10 default).cells (cellV W (sb dd0) (so dd0 + q10 * 1 + 0))).toArray 33) :: Rs) w57 := hS58.sel 4 [1, 0, 2, 3] (Nat.le_add_left _ _) rfl rfl
    obtain ⟨G61, hA63, hB64, hS65, hk66⟩ := hS60.lend
    have hrd67 := RowE.rd hA63
    have hrd67s : c.length * 32 ≤ 140737488355328 := hrd67.small
    refine st (ov_call (f := 16) (vals := [.agg ((d.types.getD q10 default).cells (cellV W (sb dd0) (so dd0 + q10 * 1 + 0))).toArray, vc, .int .i64 ((qs.getD k default).afield), .int .i64 ((qs.getD k default).aop), .int .i64 ((qs.getD k default).aarg)]) (cap := []) (show _ = (.func (.func 16) #[] #[] : Value) from rfl) rfl Tryd.call16 (D_May (t := (d.types.getD q10 default)) (c := c) (vc := vc) (f := (qs.getD k default).afield) (op := (qs.getD k default).aop) (arg := (qs.getD k default).aarg) (RdS.base hde15_0 hB64) hoke15 hrd67 hoke47.afield hoke47.aop hoke47.aarg hS65 (hak9)) ?_)
    rintro _ w68 ⟨rfl, hS69⟩
    have hS70 : Sep G W ((RowE (α := Cel) own 42 vc c) :: (Blk b51 ((qs.getD k default).cells).toArray 36) :: (Blk b2 (d.cells dd0 dd1).toArray 25) :: (Blk b20 ((d.types.getD q10 default).cells (cellV W (sb dd0) (so dd0 + q10 * 1 + 0))).toArray 33) :: Rs) w68 := hk66 _ _ hS69
    refine st (ov_assign (v := .int .i64 (mayL (d.types.getD q10 default) c ((qs.getD k default).afield) ((qs.getD k default).aop) ((qs.getD k default).aarg))) rfl ?_)
    refine st_nil ?_
    refine WP_seq ?_
    refine WP_seq ?_
    refine WP_region0 (by kernel_rfl) (fun _ => ?_)
    refine st (ov_move (v := .int .i64 (mayL (d.types.getD q10 default) c ((qs.getD k default).afield) ((qs.getD k default).aop) ((qs.getD k default).aarg))) rfl ?_)
    refine st (ov_neq (k := .i64) (a := mayL (d.types.getD q10 default) c ((qs.getD k default).afield) ((qs.getD k default).aop) ((qs.getD k default).aarg)) (b := 0) rfl rfl ?_)
    refine st_nil ?_
    cases hc71 : !decide ((mayL (d.types.getD q10 default) c ((qs.getD k default).afield) ((qs.getD k default).aop) ((qs.getD k default).aarg)) = 0)
    ·skip
     have hc71 := ndec_false hc71
     have hRx := do_right hft hty hR (mayB_of hc71)
     refine WP_cond_f rfl ?_
     refine WP_skip ?_
     refine WP_seq ?_
     refine WP_region0 (by kernel_rfl) (fun _ => ?_)
     refine st (ov_loadk (k := 1) Tryd.isAgg33 Tryd.sizeOf33 rfl rfl (CellsAt.all (hS70.blk (i := 3) rfl)) ?_)
     refine st (ov_move (v := vc) rfl ?_)
     refine st (fd36_0 rfl ?_)
     refine st (ov_load1 (v := .int .i64 ((qs.getD k default).afield)) Tryd.isAgg3 rfl (blk_cellL (hS70.blk (i := 1) rfl) rfl) ?_)
     refine st (fd36_1 rfl ?_)
     refine st (ov_load1 (v := .int .i64 ((qs.getD k default).aop)) Tryd.isAgg3 rfl (blk_cellL (hS70.blk (i := 1) rfl) rfl) ?_)
     refine st (fd36_2 rfl ?_)
     refine st (ov_load1 (v := .int .i64 ((qs.getD k default).aarg)) Tryd.isAgg3 rfl (blk_cellL (hS70.blk (i := 1) rfl) rfl) ?_)
     obtain ⟨G72, hA74, hB75, hS76, hk77⟩ := hS70.lend
     have hrd78 := RowE.rd hA74
     have hrd78s : c.length * 32 ≤ 140737488355328 := hrd78.small
     refine st (ov_call (f := 17) (vals := [.agg ((d.types.getD q10 default).cells (cellV W (sb dd0) (so dd0 + q10 * 1 + 0))).toArray, vc, .int .i64 ((qs.getD k default).afield), .int .i64 ((qs.getD k default).aop), .int .i64 ((qs.getD k default).aarg)]) (cap := []) (show _ = (.func (.func 17) #[] #[] : Value) from rfl) rfl Tryd.call17 (D_Do (t := (d.types.getD q10 default)) (c := c) (vc := vc) (f := (qs.getD k default).afield) (op := (qs.getD k default).aop) (arg := (qs.getD k default).aarg) (RdS.base hde15_0 hB75) hoke15 hrd78 hoke47.afield hoke47.aop hoke47.aarg hS76 (hak9) ((fun _ => Nat.le_trans (hR.most _ (by omega)) (by omega)))) ?_)
     rintro v79 w80 ⟨_, rfl, hS81⟩
     have hr82 := hS81.row (i := 0) rfl
     have hr82s : (doL (d.types.getD q10 default) c ((qs.getD k default).afield) ((qs.getD k default).aop) ((qs.getD k default).aarg)).length * 32 ≤ 140737488355328 := hr82.2
     have hS83 : Sep G W ((RowE (α := Cel) own 42 vc c) :: (RowE (α := Cel) own 42 v79 (doL (d.types.getD q10 default) c ((qs.getD k default).afield) ((qs.getD k default).aop) ((qs.getD k default).aarg))) :: (Blk b51 ((qs.getD k default).cells).toArray 36) :: (Blk b2 (d.cells dd0 dd1).toArray 25) :: (Blk b20 ((d.types.getD q10 default).cells (cellV W (sb dd0) (so dd0 + q10 * 1 + 0))).toArray 33) :: Rs) w80 := hk77 _ _ hS81
     refine st (ov_assign (v := v79) rfl ?_)
     refine st_nil ?_
     refine WP_seq ?_
     refine WP_seq ?_
     refine WP_region0 (by kernel_rfl) (fun _ => ?_)
     refine st (ov_loadk (k := 1) Tryd.isAgg33 Tryd.sizeOf33 rfl rfl (CellsAt.all (hS83.blk (i := 4) rfl)) ?_)
     refine st (ov_move (v := v79) rfl ?_)
     have hS84 : Sep G W ((RowE (α := Cel) own 42 v79 (doL (d.types.getD q10 default) c ((qs.getD k default).afield) ((qs.getD k default).aop) ((qs.getD k default).aarg))) :: (RowE (α := Cel) own 42 vc c) :: (Blk b51 ((qs.getD k default).cells).toArray 36) :: (Blk b2 (d.cells dd0 dd1).toArray 25) :: (Blk b20 ((d.types.getD q10 default).cells (cellV W (sb dd0) (so dd0 + q10 * 1 + 0))).toArray 33) :: Rs) w80 := hS83.sel 5 [1, 0, 2, 3, 4] (Nat.le_add_left _ _) rfl rfl
     obtain ⟨G85, hA87, hB88, hS89, hk90⟩ := hS84.lend
     have hrd91 := RowE.rd hA87
     have hrd91s : (doL (d.types.getD q10 default) c ((qs.getD k default).afield) ((qs.getD k default).aop) ((qs.getD k default).aarg)).length * 32 ≤ 140737488355328 := hrd91.small
     refine st (ov_call (f := 18) (vals := [.agg ((d.types.getD q10 default).cells (cellV W (sb dd0) (so dd0 + q10 * 1 + 0))).toArray, v79]) (cap := []) (show _ = (.func (.func 18) #[] #[] : Value) from rfl) rfl Tryd.call18 (D_right (t := (d.types.getD q10 default)) (l := (doL (d.types.getD q10 default) c ((qs.getD k default).afield) ((qs.getD k default).aop) ((qs.getD k default).aarg))) (vl := v79) (RdS.base hde15_0 hB88) hoke15 hrd91 hS89 (hRx)) ?_)
     rintro _ w92 ⟨rfl, hS93⟩
     have hS94 : Sep G W ((RowE (α := Cel) own 42 v79 (doL (d.types.getD q10 default) c ((qs.getD k default).afield) ((qs.getD k default).aop) ((qs.getD k default).aarg))) :: (RowE (α := Cel) own 42 vc c) :: (Blk b51 ((qs.getD k default).cells).toArray 36) :: (Blk b2 (d.cells dd0 dd1).toArray 25) :: (Blk b20 ((d.types.getD q10 default).cells (cellV W (sb dd0) (so dd0 + q10 * 1 + 0))).toArray 33) :: Rs) w92 := hk90 _ _ hS93
     refine st (ov_not (a := true) rfl ?_)
     refine st_nil ?_
     refine WP_cond_f rfl ?_
     refine WP_skip ?_
     refine WP_seq ?_
     refine WP_seq ?_
     have hdl9 := doL_len (d.types.getD q10 default) c (qs.getD k default).afield (qs.getD k default).aop (qs.getD k default).aarg
     have hS95 : Sep G W ((RowE (α := Cel) own 42 vc c) :: (RowE (α := Cel) own 42 v79 (doL (d.types.getD q10 default) c ((qs.getD k default).afield) ((qs.getD k default).aop) ((qs.getD k default).aarg))) :: (Blk b51 ((qs.getD k default).cells).toArray 36) :: (Blk b2 (d.cells dd0 dd1).toArray 25) :: (Blk b20 ((d.types.getD q10 default).cells (cellV W (sb dd0) (so dd0 + q10 * 1 + 0))).toArray 33) :: Rs) w92 := hS94.sel 5 [1, 0, 2, 3, 4] (Nat.le_add_left _ _) rfl rfl
     obtain ⟨G96, hA98, hB99, hS100, hk101⟩ := hS95.lend
     have hrd102 := RowE.rd hA98
     have hrd102s : c.length * 32 ≤ 140737488355328 := hrd102.small
     obtain ⟨G103, hA105, hB106, hS107, hk108⟩ := hS100.lend
     have hrd109 := RowE.rd hA105
     have hrd109s : (doL (d.types.getD q10 default) c ((qs.getD k default).afield) ((qs.getD k default).aop) ((qs.getD k default).aarg)).length * 32 ≤ 140737488355328 := hrd109.small
     refine WP_region0 (by kernel_rfl) (fun _ => ?_)
     refine st (ov_assign (v := .int .i64 (0)) rfl ?_)
     refine st_nil ?_
     refine WP_block ?_
     refine WP_loop (fun mq σ wq => ∃ (j : Nat) (ρ : Env), mq = (doL (d.types.getD q10 default) c ((qs.getD k default).afield) ((qs.getD k default).aop) ((qs.getD k default).aarg)).length - j ∧ σ = setAll ρ [(1, .int .i64 ((q10 : Nat) : Int)), (3, vqs), (4, .pointer (some ⟨b2, 0, none⟩)), (9, .pointer (some ⟨b20, 0, none⟩)), (10, vc), (11, .int .i64 ((k : Nat) : Int)), (12, .pointer (some ⟨b51, 0, none⟩)), (14, v79), (15, .int .i64 ((j : Nat) : Int))] ∧ (j ≤ (doL (d.types.getD q10 default) c ((qs.getD k default).afield) ((qs.getD k default).aop) ((qs.getD k default).aarg)).length) ∧ Sep G103 w92 ((Blk b51 ((qs.getD k default).cells).toArray 36) :: (Blk b2 (d.cells dd0 dd1).toArray 25) :: (Blk b20 ((d.types.getD q10 default).cells (cellV W (sb dd0) (so dd0 + q10 * 1 + 0))).toArray 33) :: Rs) wq) ⟨0, _, rfl, setAll_self ⟨rfl, rfl, rfl, rfl, rfl, rfl, rfl, rfl, rfl, trivial⟩, Nat.zero_le _, hS107⟩ ?_
     rintro m111 σ112 w110 ⟨j, ρl2, rfl, rfl, hkj, hS113⟩
     refine WP_seq ?_
     refine WP_seq ?_
     refine WP_region0 (by kernel_rfl) (fun _ => ?_)
     refine st (ov_move (v := .int .i64 ((j : Nat) : Int)) rfl ?_)
     refine st (ov_move (v := v79) rfl ?_)
     refine st (ov_len (n := (doL (d.types.getD q10 default) c ((qs.getD k default).afield) ((qs.getD k default).aop) ((qs.getD k default).aarg)).length) Tryd.underlying26 rfl hrd109.sl ?_)
     refine st (ov_lss (k := .i64) (a := ((j : Nat) : Int)) (b := (((doL (d.types.getD q10 default) c ((qs.getD k default).afield) ((qs.getD k default).aop) ((qs.getD k default).aarg)).length : Nat) : Int)) rfl rfl ?_)
     refine st_nil ?_
     cases hc114 : decide (((j : Nat) : Int) < (((doL (d.types.getD q10 default) c ((qs.getD k default).afield) ((qs.getD k default).aop) ((qs.getD k default).aarg)).length : Nat) : Int))
     ·skip
      have hc114 := of_decide_eq_false hc114
      refine WP_cond_f rfl ?_
      refine WP_exit ?_
      refine blk_exit ?_
      refine WP_region0 (by kernel_rfl) (fun _ => ?_)
      refine st (ov_move (v := v79) rfl ?_)
      refine st (ov_assign (v := v79) rfl ?_)
      refine st_nil ?_
      refine WP_region0 (by kernel_rfl) (fun _ => ?_)
      refine st (ov_move (v := .int .i64 ((k : Nat) : Int)) rfl ?_)
      have hr115 : InR ((k + 1 : Nat) : Int) := by first | omega | (simp only [lens]; omega)
      refine st (ov_add (r := ((k + 1 : Nat) : Int)) (k := .i64) (a := ((k : Nat) : Int)) (b := 1) rfl rfl (by rw [show (((k : Nat) : Int) + 1 : Int) = ((k + 1 : Nat) : Int) by first | omega | (simp only [lens]; omega)]; exact wrap_in hr115) ?_)
      refine st (ov_assign (v := .int .i64 ((k + 1 : Nat) : Int)) rfl ?_)
      refine st_nil ?_
      have hS116 : Sep G96 w92 ((RowE (α := Cel) own 42 v79 (doL (d.types.getD q10 default) c ((qs.getD k default).afield) ((qs.getD k default).aop) ((qs.getD k default).aarg))) :: (Blk b51 ((qs.getD k default).cells).toArray 36) :: (Blk b2 (d.cells dd0 dd1).toArray 25) :: (Blk b20 ((d.types.getD q10 default).cells (cellV W (sb dd0) (so dd0 + q10 * 1 + 0))).toArray 33) :: Rs) w110 := hk108 _ _ hS113
      have hS117 : Sep G W ((RowE (α := Cel) own 42 vc c) :: (RowE (α := Cel) own 42 v79 (doL (d.types.getD q10 default) c ((qs.getD k default).afield) ((qs.getD k default).aop) ((qs.getD k default).aarg))) :: (Blk b51 ((qs.getD k default).cells).toArray 36) :: (Blk b2 (d.cells dd0 dd1).toArray 25) :: (Blk b20 ((d.types.getD q10 default).cells (cellV W (sb dd0) (so dd0 + q10 * 1 + 0))).toArray 33) :: Rs) w110 := hk101 _ _ hS116
      have hS118 : Sep G W ((RowE (α := Cel) own 42 v79 (doL (d.types.getD q10 default) c ((qs.getD k default).afield) ((qs.getD k default).aop) ((qs.getD k default).aarg))) :: (Blk b2 (d.cells dd0 dd1).toArray 25) :: (Blk b20 ((d.types.getD q10 default).cells (cellV W (sb dd0) (so dd0 + q10 * 1 + 0))).toArray 33) :: Rs) w110 := hS117.sel 5 [1, 3, 4] (Nat.le_add_left _ _) rfl rfl
      exact ⟨_, by omega, k + 1, v79, (doL (d.types.getD q10 default) c ((qs.getD k default).afield) ((qs.getD k default).aop) ((qs.getD k default).aarg)), _, rfl, setAll_self ⟨rfl, rfl, rfl, rfl, rfl, rfl, trivial⟩, by omega, hRx, hS118⟩
     ·skip
      have hc114 := of_decide_eq_true hc114
      refine WP_cond_t rfl ?_
      refine WP_skip ?_
      refine WP_seq ?_
      refine WP_block ?_
      refine WP_seq ?_
      refine WP_draw4 (WF [fun vals wq => Sep G103 w92 ((Blk b51 ((qs.getD k default).cells).toArray 36) :: (Blk b2 (d.cells dd0 dd1).toArray 25) :: (Blk b20 ((d.types.getD q10 default).cells (cellV W (sb dd0) (so dd0 + q10 * 1 + 0))).toArray 33) :: Rs) wq, fun vals wq => (vals 27 = (if ((!decide (((j : Nat) : Int) = ((qs.getD k default).afield))) = true) ∧ (!decide ((((doL (d.types.getD q10 default) c ((qs.getD k default).afield) ((qs.getD k default).aop) ((qs.getD k default).aarg)).getD j default).n) = ((c.getD j default).n))) = false then (.bool (decide ((((doL (d.types.getD q10 default) c ((qs.getD k default).afield) ((qs.getD k default).aop) ((qs.getD k default).aarg)).getD j default).set) = ((c.getD j default).set))) : Value) else undef)) ∧ Sep G103 w92 ((Blk b51 ((qs.getD k default).cells).toArray 36) :: (Blk b2 (d.cells dd0 dd1).toArray 25) :: (Blk b20 ((d.types.getD q10 default).cells (cellV W (sb dd0) (so dd0 + q10 * 1 + 0))).toArray 33) :: Rs) wq]) (AF [Vl 0 (.int .i64 ((j : Nat) : Int)), Vl 1 (.pointer (some ⟨b51, 0, none⟩)), Vl 2 (.int .i64 ((qs.getD k default).afield)), Vl 3 (.bool (!decide (((j : Nat) : Int) = ((qs.getD k default).afield)))), Vl 4 (.bool (!decide (((j : Nat) : Int) = ((qs.getD k default).afield)))), Vl 5 (if (!decide (((j : Nat) : Int) = ((qs.getD k default).afield))) = true then v79 else undef), Vl 6 (if (!decide (((j : Nat) : Int) = ((qs.getD k default).afield))) = true then .int .i64 ((j : Nat) : Int) else undef), Vl 7 (if (!decide (((j : Nat) : Int) = ((qs.getD k default).afield))) = true then .pointer (some ⟨sb v79, so v79 + j * 2, none⟩) else undef), Vl 8 (if (!decide (((j : Nat) : Int) = ((qs.getD k default).afield))) = true then .pointer (some ⟨sb v79, so v79 + j * 2, none⟩) else undef), Vl 9 (if (!decide (((j : Nat) : Int) = ((qs.getD k default).afield))) = true then .int .i64 (((doL (d.types.getD q10 default) c ((qs.getD k default).afield) ((qs.getD k default).aop) ((qs.getD k default).aarg)).getD j default).n) else undef), Vl 10 (if (!decide (((j : Nat) : Int) = ((qs.getD k default).afield))) = true then vc else undef), Vl 11 (if (!decide (((j : Nat) : Int) = ((qs.getD k default).afield))) = true then .int .i64 ((j : Nat) : Int) else undef), Vl 12 (if (!decide (((j : Nat) : Int) = ((qs.getD k default).afield))) = true then .pointer (some ⟨sb vc, so vc + j * 2, none⟩) else undef), Vl 13 (if (!decide (((j : Nat) : Int) = ((qs.getD k default).afield))) = true then .pointer (some ⟨sb vc, so vc + j * 2, none⟩) else undef), Vl 14 (if (!decide (((j : Nat) : Int) = ((qs.getD k default).afield))) = true then .int .i64 ((c.getD j default).n) else undef), Vl 15 (if (!decide (((j : Nat) : Int) = ((qs.getD k default).afield))) = true then .bool (!decide ((((doL (d.types.getD q10 default) c ((qs.getD k default).afield) ((qs.getD k default).aop) ((qs.getD k default).aarg)).getD j default).n) = ((c.getD j default).n))) else undef), Vl 16 (if (!decide (((j : Nat) : Int) = ((qs.getD k default).afield))) = true then .bool (!decide ((((doL (d.types.getD q10 default) c ((qs.getD k default).afield) ((qs.getD k default).aop) ((qs.getD k default).aarg)).getD j default).n) = ((c.getD j default).n))) else undef), Vl 17 (if ((!decide (((j : Nat) : Int) = ((qs.getD k default).afield))) = true) ∧ (!decide ((((doL (d.types.getD q10 default) c ((qs.getD k default).afield) ((qs.getD k default).aop) ((qs.getD k default).aarg)).getD j default).n) = ((c.getD j default).n))) = false then v79 else undef), Vl 18 (if ((!decide (((j : Nat) : Int) = ((qs.getD k default).afield))) = true) ∧ (!decide ((((doL (d.types.getD q10 default) c ((qs.getD k default).afield) ((qs.getD k default).aop) ((qs.getD k default).aarg)).getD j default).n) = ((c.getD j default).n))) = false then .int .i64 ((j : Nat) : Int) else undef), Vl 19 (if ((!decide (((j : Nat) : Int) = ((qs.getD k default).afield))) = true) ∧ (!decide ((((doL (d.types.getD q10 default) c ((qs.getD k default).afield) ((qs.getD k default).aop) ((qs.getD k default).aarg)).getD j default).n) = ((c.getD j default).n))) = false then .pointer (some ⟨sb v79, so v79 + j * 2, none⟩) else undef), Vl 20 (if ((!decide (((j : Nat) : Int) = ((qs.getD k default).afield))) = true) ∧ (!decide ((((doL (d.types.getD q10 default) c ((qs.getD k default).afield) ((qs.getD k default).aop) ((qs.getD k default).aarg)).getD j default).n) = ((c.getD j default).n))) = false then .pointer (some ⟨sb v79, so v79 + j * 2 + 1, none⟩) else undef), Vl 21 (if ((!decide (((j : Nat) : Int) = ((qs.getD k default).afield))) = true) ∧ (!decide ((((doL (d.types.getD q10 default) c ((qs.getD k default).afield) ((qs.getD k default).aop) ((qs.getD k default).aarg)).getD j default).n) = ((c.getD j default).n))) = false then (cellV w92 (sb v79) (so v79 + j * 2 + 1)) else undef), Vl 22 (if ((!decide (((j : Nat) : Int) = ((qs.getD k default).afield))) = true) ∧ (!decide ((((doL (d.types.getD q10 default) c ((qs.getD k default).afield) ((qs.getD k default).aop) ((qs.getD k default).aarg)).getD j default).n) = ((c.getD j default).n))) = false then vc else undef), Vl 23 (if ((!decide (((j : Nat) : Int) = ((qs.getD k default).afield))) = true) ∧ (!decide ((((doL (d.types.getD q10 default) c ((qs.getD k default).afield) ((qs.getD k default).aop) ((qs.getD k default).aarg)).getD j default).n) = ((c.getD j default).n))) = false then .int .i64 ((j : Nat) : Int) else undef), Vl 24 (if ((!decide (((j : Nat) : Int) = ((qs.getD k default).afield))) = true) ∧ (!decide ((((doL (d.types.getD q10 default) c ((qs.getD k default).afield) ((qs.getD k default).aop) ((qs.getD k default).aarg)).getD j default).n) = ((c.getD j default).n))) = false then .pointer (some ⟨sb vc, so vc + j * 2, none⟩) else undef), Vl 25 (if ((!decide (((j : Nat) : Int) = ((qs.getD k default).afield))) = true) ∧ (!decide ((((doL (d.types.getD q10 default) c ((qs.getD k default).afield) ((qs.getD k default).aop) ((qs.getD k default).aarg)).getD j default).n) = ((c.getD j default).n))) = false then .pointer (some ⟨sb vc, so vc + j * 2 + 1, none⟩) else undef), Vl 26 (if ((!decide (((j : Nat) : Int) = ((qs.getD k default).afield))) = true) ∧ (!decide ((((doL (d.types.getD q10 default) c ((qs.getD k default).afield) ((qs.getD k default).aop) ((qs.getD k default).aarg)).getD j default).n) = ((c.getD j default).n))) = false then (cellV w92 (sb vc) (so vc + j * 2 + 1)) else undef), fun _ => True, Vl 28 (if ((!decide (((j : Nat) : Int) = ((qs.getD k default).afield))) = true) ∧ (!decide ((((doL (d.types.getD q10 default) c ((qs.getD k default).afield) ((qs.getD k default).aop) ((qs.getD k default).aarg)).getD j default).n) = ((c.getD j default).n))) = false then .bool (!(decide ((((doL (d.types.getD q10 default) c ((qs.getD k default).afield) ((qs.getD k default).aop) ((qs.getD k default).aarg)).getD j default).set) = ((c.getD j default).set)))) else undef), Vl 29 (if (!decide (((j : Nat) : Int) = ((qs.getD k default).afield))) = true then .bool ((!decide ((((doL (d.types.getD q10 default) c ((qs.getD k default).afield) ((qs.getD k default).aop) ((qs.getD k default).aarg)).getD j default).n) = ((c.getD j default).n))) || (!(decide ((((doL (d.types.getD q10 default) c ((qs.getD k default).afield) ((qs.getD k default).aop) ((qs.getD k default).aarg)).getD j default).set) = ((c.getD j default).set))))) else undef), Vl 30 (.bool ((!decide (((j : Nat) : Int) = ((qs.getD k default).afield))) && ((!decide ((((doL (d.types.getD q10 default) c ((qs.getD k default).afield) ((qs.getD k default).aop) ((qs.getD k default).aarg)).getD j default).n) = ((c.getD j default).n))) || (!(decide ((((doL (d.types.getD q10 default) c ((qs.getD k default).afield) ((qs.getD k default).aop) ((qs.getD k default).aarg)).getD j default).set) = ((c.getD j default).set)))))))]) [[], [], [1], [0, 1, 2], [0, 1, 2, 3], [0, 1, 2, 3, 4], [0, 1, 2, 3, 4], [0, 1, 2, 3, 4, 5, 6], [0, 1, 2, 3, 4, 5, 6, 7], [0, 1, 2, 3, 4, 5, 6, 7, 8], [0, 1, 2, 3, 4], [0, 1, 2, 3, 4], [0, 1, 2, 3, 4, 10, 11], [0, 1, 2, 3, 4, 10, 11, 12], [0, 1, 2, 3, 4, 10, 11, 12, 13], [0, 1, 2, 3, 4, 5, 6, 7, 8, 9, 10, 11, 12, 13, 14], [0, 1, 2, 3, 4, 5, 6, 7, 8, 9, 10, 11, 12, 13, 14, 15], [0, 1, 2, 3, 4, 5, 6, 7, 8, 9, 10, 11, 12, 13, 14, 15, 16], [0, 1, 2, 3, 4, 5, 6, 7, 8, 9, 10, 11, 12, 13, 14, 15, 16], [0, 1, 2, 3, 4, 5, 6, 7, 8, 9, 10, 11, 12, 13, 14, 15, 16, 17, 18], [0, 1, 2, 3, 4, 5, 6, 7, 8, 9, 10, 11, 12, 13, 14, 15, 16, 17, 18, 19], [0, 1, 2, 3, 4, 5, 6, 7, 8, 9, 10, 11, 12, 13, 14, 15, 16, 17, 18, 19, 20], [0, 1, 2, 3, 4, 5, 6, 7, 8, 9, 10, 11, 12, 13, 14, 15, 16], [0, 1, 2, 3, 4, 5, 6, 7, 8, 9, 10, 11, 12, 13, 14, 15, 16], [0, 1, 2, 3, 4, 5, 6, 7, 8, 9, 10, 11, 12, 13, 14, 15, 16, 22, 23], [0, 1, 2, 3, 4, 5, 6, 7, 8, 9, 10, 11, 12, 13, 14, 15, 16, 22, 23, 24], [0, 1, 2, 3, 4, 5, 6, 7, 8, 9, 10, 11, 12, 13, 14, 15, 16, 22, 23, 24, 25], [0, 1, 2, 3, 4, 5, 6, 7, 8, 9, 10, 11, 12, 13, 14, 15, 16, 17, 18, 19, 20, 21, 22, 23, 24, 25, 26], [0, 1, 2, 3, 4, 5, 6, 7, 8, 9, 10, 11, 12, 13, 14, 15, 16, 17, 18, 19, 20, 21, 22, 23, 24, 25, 26, 27], [0, 1, 2, 3, 4, 5, 6, 7, 8, 9, 10, 11, 12, 13, 14, 15, 16, 17, 18, 19, 20, 21, 22, 23, 24, 25, 26, 27, 28], [0, 1, 2, 3, 4, 5, 6, 7, 8, 9, 10, 11, 12, 13, 14, 15, 16, 17, 18, 19, 20, 21, 22, 23, 24, 25, 26, 27, 28, 29]] [27] [(0, 0), (0, 0), (0, 0), (0, 0), (0, 0), (0, 0), (0, 0), (0, 0), (0, 0), (0, 0), (0, 0), (0, 0), (0, 0), (0, 0), (0, 0), (0, 0), (0, 0), (0, 0), (0, 0), (0, 0), (0, 0), (0, 0), (0, 0), (0, 0), (0, 0), (0, 0), (0, 0), (0, 0), (1, 1), (1, 1), (1, 1)] (by kernel_rfl) (by kernel_rfl) (by kernel_rfl) rfl (by kernel_rfl) (by kernel_rfl) (fun _ h1 h2 h3 h4 _ => hS113.same h1 h2 h3 h4) ?_ (AF_loc ⟨dA, dA, dA, dA, dA, dA, dA, dA, dA, dA, dA, dA, dA, dA, dA, dA, dA, dA, dA, dA, dA, dA, dA, dA, dA, dA, dA, dT, dA, dA, dA, trivial⟩) ⟨?_, ?_, ?_, ?_, ?_, ?_, ?_, ?_, ?_, ?_, ?_, ?_, ?_, ?_, ?_, ?_, ?_, ?_, ?_, ?_, ?_, ?_, ?_, ?_, ?_, ?_, ?_, ?_, ?_, ?_, ?_, trivial⟩ ?_
      ·intro k vals vals' w hv h
       have e : ∀ j ∈ ([27] : List Nat), vals' j = vals j := hv
       match k, h with
       | 0, h => exact h
       | 1, h => exact (by simpa only [WF, List.getElem?_cons_zero, List.getElem?_cons_succ, e 27 (by decide)] using h)
       | _ + 2, _ => trivial
      ·intro k465 vals w466 h469 h470 hW468 hA467
       refine obl rfl ?_
       exact ov_move (v := .int .i64 ((j : Nat) : Int)) rfl (fun vals' hv _ => ⟨rfl, hv⟩)
      ·intro k471 vals w472 h475 h476 hW474 hA473
       refine obl rfl ?_
       exact fd36_0 rfl (fun vals' hv _ => ⟨rfl, hv⟩)
      ·intro k477 vals w478 h481 h482 hW480 hA479
       obtain rfl : k477 = 0 := Nat.le_antisymm h482 h481
       have hS483 : Sep G103 w92 ((Blk b51 ((qs.getD k default).cells).toArray 36) :: (Blk b2 (d.cells dd0 dd1).toArray 25) :: (Blk b20 ((d.types.getD q10 default).cells (cellV W (sb dd0) (so dd0 + q10 * 1 + 0))).toArray 33) :: Rs) w478 := hW480
       have e484 : vals 1 = (.pointer (some ⟨b51, 0, none⟩) : Value) := hA479 1 (by decide)
       refine obl rfl ?_
       exact ov_load1 (v := .int .i64 ((qs.getD k default).afield)) Tryd.isAgg3 e484 (blk_cellL (hS483.blk (i := 0) rfl) rfl) (fun vals' hv _ => ⟨rfl, hv⟩)
      ·intro k485 vals w486 h489 h490 hW488 hA487
       obtain rfl : k485 = 0 := Nat.le_antisymm h490 h489
       have hS491 : Sep G103 w92 ((Blk b51 ((qs.getD k default).cells).toArray 36) :: (Blk b2 (d.cells dd0 dd1).toArray 25) :: (Blk b20 ((d.types.getD q10 default).cells (cellV W (sb dd0) (so dd0 + q10 * 1 + 0))).toArray 33) :: Rs) w486 := hW488
       have e492 : vals 0 = (.int .i64 ((j : Nat) : Int) : Value) := hA487 0 (by decide)
       have e493 : vals 2 = (.int .i64 ((qs.getD k default).afield) : Value) := hA487 2 (by decide)
       refine obl rfl ?_
       exact ov_neq (k := .i64) (a := ((j : Nat) : Int)) (b := (qs.getD k default).afield) e492 e493 (fun vals' hv _ => ⟨rfl, hv⟩)
      ·intro k494 vals w495 h498 h499 hW497 hA496
       have e500 : vals 3 = (.bool (!decide (((j : Nat) : Int) = ((qs.getD k default).afield))) : Value) := hA496 3 (by decide)
       refine obl rfl ?_
       exact ov_move (v := .bool (!decide (((j : Nat) : Int) = ((qs.getD k default).afield)))) e500 (fun vals' hv _ => ⟨rfl, hv⟩)
      ·intro k501 vals w502 h505 h506 hW504 hA503
       have e507 : vals 4 = (.bool (!decide (((j : Nat) : Int) = ((qs.getD k default).afield))) : Value) := hA503 4 (by decide)
       refine oblc rfl rfl e507 (fun hb508 => ?_) (fun hb508 => fun vals' hv _ => ⟨trivial, hv.trans (if_neg hb508).symm⟩)
       have hl509 := hb508
       have hl509 := ndec_true hl509
       exact ov_move (v := v79) rfl (fun vals' hv _ => ⟨rfl, hv.trans (if_pos hb508).symm⟩)
      ·intro k510 vals w511 h514 h515 hW513 hA512
       have e516 : vals 4 = (.bool (!decide (((j : Nat) : Int) = ((qs.getD k default).afield))) : Value) := hA512 4 (by decide)
       refine oblc rfl rfl e516 (fun hb517 => ?_) (fun hb517 => fun vals' hv _ => ⟨trivial, hv.trans (if_neg hb517).symm⟩)
       have hl518 := hb517
       have hl518 := ndec_true hl518
       exact ov_move (v := .int .i64 ((j : Nat) : Int)) rfl (fun vals' hv _ => ⟨rfl, hv.trans (if_pos hb517).symm⟩)
      ·intro k519 vals w520 h523 h524 hW522 hA521
       obtain rfl : k519 = 0 := Nat.le_antisymm h524 h523
       have hS525 : Sep G103 w92 ((Blk b51 ((qs.getD k default).cells).toArray 36) :: (Blk b2 (d.cells dd0 dd1).toArray 25) :: (Blk b20 ((d.types.getD q10 default).cells (cellV W (sb dd0) (so dd0 + q10 * 1 + 0))).toArray 33) :: Rs) w520 := hW522
       have e526 : vals 4 = (.bool (!decide (((j : Nat) : Int) = ((qs.getD k default).afield))) : Value) := hA521 4 (by decide)
       have e527 : vals 5 = (if (!decide (((j : Nat) : Int) = ((qs.getD k default).afield))) = true then (v79 : Value) else undef) := hA521 5 (by decide)
       have e528 : vals 6 = (if (!decide (((j : Nat) : Int) = ((qs.getD k default).afield))) = true then (.int .i64 ((j : Nat) : Int) : Value) else undef) := hA521 6 (by decide)
       refine oblc rfl rfl e526 (fun hb529 => ?_) (fun hb529 => fun vals' hv _ => ⟨trivial, hv.trans (if_neg hb529).symm⟩)
       have hl530 := hb529
       have hl530 := ndec_true hl530
       have hi531 : j < (doL (d.types.getD q10 default) c ((qs.getD k default).afield) ((qs.getD k default).aop) ((qs.getD k default).aarg)).length := (by first | omega | (simp only [lens]; omega))
       exact ov_indexAddrN (k := 2) (i := j) Tryd.underlying26 Tryd.sizeOf42 (show _ = (v79 : Value) from (Eq.trans e527 (if_pos hb529))) hrd109.sl (show _ = (.int .i64 ((j : Nat) : Int) : Value) from (Eq.trans e528 (if_pos hb529))) hi531 (fun vals' hv _ => ⟨rfl, hv.trans (if_pos hb529).symm⟩)
      ·intro k532 vals w533 h536 h537 hW535 hA534
       have e538 : vals 4 = (.bool (!decide (((j : Nat) : Int) = ((qs.getD k default).afield))) : Value) := hA534 4 (by decide)
       have e539 : vals 7 = (if (!decide (((j : Nat) : Int) = ((qs.getD k default).afield))) = true then (.pointer (some ⟨sb v79, so v79 + j * 2, none⟩) : Value) else undef) := hA534 7 (by decide)
       refine oblc rfl rfl e538 (fun hb540 => ?_) (fun hb540 => fun vals' hv _ => ⟨trivial, hv.trans (if_neg hb540).symm⟩)
       have hl541 := hb540
       have hl541 := ndec_true hl541
       exact fd42_0 (show _ = (.pointer (some ⟨sb v79, so v79 + j * 2, none⟩) : Value) from (Eq.trans e539 (if_pos hb540))) (fun vals' hv _ => ⟨rfl, hv.trans (if_pos hb540).symm⟩)
      ·intro k542 vals w543 h546 h547 hW545 hA544
       obtain rfl : k542 = 0 := Nat.le_antisymm h547 h546
       have hS548 : Sep G103 w92 ((Blk b51 ((qs.getD k default).cells).toArray 36) :: (Blk b2 (d.cells dd0 dd1).toArray 25) :: (Blk b20 ((d.types.getD q10 default).cells (cellV W (sb dd0) (so dd0 + q10 * 1 + 0))).toArray 33) :: Rs) w543 := hW545
       have e549 : vals 4 = (.bool (!decide (((j : Nat) : Int) = ((qs.getD k default).afield))) : Value) := hA544 4 (by decide)
       have e550 : vals 8 = (if (!decide (((j : Nat) : Int) = ((qs.getD k default).afield))) = true then (.pointer (some ⟨sb v79, so v79 + j * 2, none⟩) : Value) else undef) := hA544 8 (by decide)
       refine oblc rfl rfl e549 (fun hb551 => ?_) (fun hb551 => fun vals' hv _ => ⟨trivial, hv.trans (if_neg hb551).symm⟩)
       have hl552 := hb551
       have hl552 := ndec_true hl552
       have hi554 : j < (doL (d.types.getD q10 default) c ((qs.getD k default).afield) ((qs.getD k default).aop) ((qs.getD k default).aarg)).length := (by first | omega | (simp only [lens]; omega))
       obtain ⟨hce553, hde553_0, hoke553⟩ := hrd109.cel hi554
       rw [← getD_at default hi554] at hce553 hde553_0 hoke553
       have hsm555 : (((doL (d.types.getD q10 default) c ((qs.getD k default).afield) ((qs.getD k default).aop) ((qs.getD k default).aarg)).getD j default).set).length * 8 ≤ 140737488355328 := hde553_0.small
       have hcw556 := hS548.cells hce553 (hrd109.foot (ne_of_lt hi554))
       exact ov_load1 (v := .int .i64 (((doL (d.types.getD q10 default) c ((qs.getD k default).afield) ((qs.getD k default).aop) ((qs.getD k default).aarg)).getD j default).n)) Tryd.isAgg3 (show _ = (.pointer (some ⟨sb v79, so v79 + j * 2, none⟩) : Value) from (Eq.trans e550 (if_pos hb551))) (hcw556.get (j := 0) rfl) (fun vals' hv _ => ⟨rfl, hv.trans (if_pos hb551).symm⟩)
      ·intro k557 vals w558 h561 h562 hW560 hA559
       have e563 : vals 4 = (.bool (!decide (((j : Nat) : Int) = ((qs.getD k default).afield))) : Value) := hA559 4 (by decide)
       refine oblc rfl rfl e563 (fun hb564 => ?_) (fun hb564 => fun vals' hv _ => ⟨trivial, hv.trans (if_neg hb564).symm⟩)
       have hl565 := hb564
       have hl565 := ndec_true hl565
       exact ov_move (v := vc) rfl (fun vals' hv _ => ⟨rfl, hv.trans (if_pos hb564).symm⟩)
      ·intro k566 vals w567 h570 h571 hW569 hA568
       have e572 : vals 4 = (.bool (!decide (((j : Nat) : Int) = ((qs.getD k default).afield))) : Value) := hA568 4 (by decide)
       refine oblc rfl rfl e572 (fun hb573 => ?_) (fun hb573 => fun vals' hv _ => ⟨trivial, hv.trans (if_neg hb573).symm⟩)
       have hl574 := hb573
       have hl574 := ndec_true hl574
       exact ov_move (v := .int .i64 ((j : Nat) : Int)) rfl (fun vals' hv _ => ⟨rfl, hv.trans (if_pos hb573).symm⟩)
      ·intro k575 vals w576 h579 h580 hW578 hA577
       obtain rfl : k575 = 0 := Nat.le_antisymm h580 h579
       have hS581 : Sep G103 w92 ((Blk b51 ((qs.getD k default).cells).toArray 36) :: (Blk b2 (d.cells dd0 dd1).toArray 25) :: (Blk b20 ((d.types.getD q10 default).cells (cellV W (sb dd0) (so dd0 + q10 * 1 + 0))).toArray 33) :: Rs) w576 := hW578
       have e582 : vals 4 = (.bool (!decide (((j : Nat) : Int) = ((qs.getD k default).afield))) : Value) := hA577 4 (by decide)
       have e583 : vals 10 = (if (!decide (((j : Nat) : Int) = ((qs.getD k default).afield))) = true then (vc : Value) else undef) := hA577 10 (by decide)
       have e584 : vals 11 = (if (!decide (((j : Nat) : Int) = ((qs.getD k default).afield))) = true then (.int .i64 ((j : Nat) : Int) : Value) else undef) := hA577 11 (by decide)
       refine oblc rfl rfl e582 (fun hb585 => ?_) (fun hb585 => fun vals' hv _ => ⟨trivial, hv.trans (if_neg hb585).symm⟩)
       have hl586 := hb585
       have hl586 := ndec_true hl586
       have hi587 : j < c.length := (by first | omega | (simp only [lens]; omega))
       exact ov_indexAddrN (k := 2) (i := j) Tryd.underlying26 Tryd.sizeOf42 (show _ = (vc : Value) from (Eq.trans e583 (if_pos hb585))) (RdS.base hrd102 hB106).sl (show _ = (.int .i64 ((j : Nat) : Int) : Value) from (Eq.trans e584 (if_pos hb585))) hi587 (fun vals' hv _ => ⟨rfl, hv.trans (if_pos hb585).symm⟩)
      ·intro k588 vals w589 h592 h593 hW591 hA590
       have e594 : vals 4 = (.bool (!decide (((j : Nat) : Int) = ((qs.getD k default).afield))) : Value) := hA590 4 (by decide)
       have e595 : vals 12 = (if (!decide (((j : Nat) : Int) = ((qs.getD k default).afield))) = true then (.pointer (some ⟨sb vc, so vc + j * 2, none⟩) : Value) else undef) := hA590 12 (by decide)
       refine oblc rfl rfl e594 (fun hb596 => ?_) (fun hb596 => fun vals' hv _ => ⟨trivial, hv.trans (if_neg hb596).symm⟩)
       have hl597 := hb596
       have hl597 := ndec_true hl597
       exact fd42_0 (show _ = (.pointer (some ⟨sb vc, so vc + j * 2, none⟩) : Value) from (Eq.trans e595 (if_pos hb596))) (fun vals' hv _ => ⟨rfl, hv.trans (if_pos hb596).symm⟩)
      ·intro k598 vals w599 h602 h603 hW601 hA600
       obtain rfl : k598 = 0 := Nat.le_antisymm h603 h602
       have hS604 : Sep G103 w92 ((Blk b51 ((qs.getD k default).cells).toArray 36) :: (Blk b2 (d.cells dd0 dd1).toArray 25) :: (Blk b20 ((d.types.getD q10 default).cells (cellV W (sb dd0) (so dd0 + q10 * 1 + 0))).toArray 33) :: Rs) w599 := hW601
       have e605 : vals 4 = (.bool (!decide (((j : Nat) : Int) = ((qs.getD k default).afield))) : Value) := hA600 4 (by decide)
       have e606 : vals 13 = (if (!decide (((j : Nat) : Int) = ((qs.getD k default).afield))) = true then (.pointer (some ⟨sb vc, so vc + j * 2, none⟩) : Value) else undef) := hA600 13 (by decide)
       refine oblc rfl rfl e605 (fun hb607 => ?_) (fun hb607 => fun vals' hv _ => ⟨trivial, hv.trans (if_neg hb607).symm⟩)
       have hl608 := hb607
       have hl608 := ndec_true hl608
       have hi610 : j < c.length := (by first | omega | (simp only [lens]; omega))
       obtain ⟨hce609, hde609_0, hoke609⟩ := (RdS.base hrd102 hB106).cel hi610
       rw [← getD_at default hi610] at hce609 hde609_0 hoke609
       have hsm611 : ((c.getD j default).set).length * 8 ≤ 140737488355328 := hde609_0.small
       have hcw612 := hS604.cells hce609 ((RdS.base hrd102 hB106).foot (ne_of_lt hi610))
       exact ov_load1 (v := .int .i64 ((c.getD j default).n)) Tryd.isAgg3 (show _ = (.pointer (some ⟨sb vc, so vc + j * 2, none⟩) : Value) from (Eq.trans e606 (if_pos hb607))) (hcw612.get (j := 0) rfl) (fun vals' hv _ => ⟨rfl, hv.trans (if_pos hb607).symm⟩)
      ·intro k613 vals w614 h617 h618 hW616 hA615
       obtain rfl : k613 = 0 := Nat.le_antisymm h618 h617
       have hS619 : Sep G103 w92 ((Blk b51 ((qs.getD k default).cells).toArray 36) :: (Blk b2 (d.cells dd0 dd1).toArray 25) :: (Blk b20 ((d.types.getD q10 default).cells (cellV W (sb dd0) (so dd0 + q10 * 1 + 0))).toArray 33) :: Rs) w614 := hW616
       have e620 : vals 4 = (.bool (!decide (((j : Nat) : Int) = ((qs.getD k default).afield))) : Value) := hA615 4 (by decide)
       have e621 : vals 9 = (if (!decide (((j : Nat) : Int) = ((qs.getD k default).afield))) = true then (.int .i64 (((doL (d.types.getD q10 default) c ((qs.getD k default).afield) ((qs.getD k default).aop) ((qs.getD k default).aarg)).getD j default).n) : Value) else undef) := hA615 9 (by decide)
       have e622 : vals 14 = (if (!decide (((j : Nat) : Int) = ((qs.getD k default).afield))) = true then (.int .i64 ((c.getD j default).n) : Value) else undef) := hA615 14 (by decide)
       refine oblc rfl rfl e620 (fun hb623 => ?_) (fun hb623 => fun vals' hv _ => ⟨trivial, hv.trans (if_neg hb623).symm⟩)
       have hl624 := hb623
       have hl624 := ndec_true hl624
       exact ov_neq (k := .i64) (a := ((doL (d.types.getD q10 default) c ((qs.getD k default).afield) ((qs.getD k default).aop) ((qs.getD k default).aarg)).getD j default).n) (b := (c.getD j default).n) (show _ = (.int .i64 (((doL (d.types.getD q10 default) c ((qs.getD k default).afield) ((qs.getD k default).aop) ((qs.getD k default).aarg)).getD j default).n) : Value) from (Eq.trans e621 (if_pos hb623))) (show _ = (.int .i64 ((c.getD j default).n) : Value) from (Eq.trans e622 (if_pos hb623))) (fun vals' hv _ => ⟨rfl, hv.trans (if_pos hb623).symm⟩)
      ·intro k625 vals w626 h629 h630 hW628 hA627
       have e631 : vals 4 = (.bool (!decide (((j : Nat) : Int) = ((qs.getD k default).afield))) : Value) := hA627 4 (by decide)
       have e632 : vals 15 = (if (!decide (((j : Nat) : Int) = ((qs.getD k default).afield))) = true then (.bool (!decide ((((doL (d.types.getD q10 default) c ((qs.getD k default).afield) ((qs.getD k default).aop) ((qs.getD k default).aarg)).getD j default).n) = ((c.getD j default).n))) : Value) else undef) := hA627 15 (by decide)
       refine oblc rfl rfl e631 (fun hb633 => ?_) (fun hb633 => fun vals' hv _ => ⟨trivial, hv.trans (if_neg hb633).symm⟩)
       have hl634 := hb633
       have hl634 := ndec_true hl634
       exact ov_move (v := .bool (!decide ((((doL (d.types.getD q10 default) c ((qs.getD k default).afield) ((qs.getD k default).aop) ((qs.getD k default).aarg)).getD j default).n) = ((c.getD j default).n)))) (show _ = (.bool (!decide ((((doL (d.types.getD q10 default) c ((qs.getD k default).afield) ((qs.getD k default).aop) ((qs.getD k default).aarg)).getD j default).n) = ((c.getD j default).n))) : Value) from (Eq.trans e632 (if_pos hb633))) (fun vals' hv _ => ⟨rfl, hv.trans (if_pos hb633).symm⟩)
      ·intro k635 vals w636 h639 h640 hW638 hA637
       have e641 : vals 16 = (if (!decide (((j : Nat) : Int) = ((qs.getD k default).afield))) = true then (.bool (!decide ((((doL (d.types.getD q10 default) c ((qs.getD k default).afield) ((qs.getD k default).aop) ((qs.getD k default).aarg)).getD j default).n) = ((c.getD j default).n))) : Value) else undef) := hA637 16 (by decide)
       refine oblcP rfl rfl e641 (fun hb642 => ?_) (fun hb642 => fun vals' hv _ => ⟨trivial, hv.trans (if_neg hb642).symm⟩)
       have hl643 := hb642.1
       have hl643 := ndec_true hl643
       have hl644 := hb642.2
       have hl644 := ndec_false hl644
       exact ov_move (v := v79) rfl (fun vals' hv _ => ⟨rfl, hv.trans (if_pos hb642).symm⟩)
      ·intro k645 vals w646 h649 h650 hW648 hA647
       have e651 : vals 16 = (if (!decide (((j : Nat) : Int) = ((qs.getD k default).afield))) = true then (.bool (!decide ((((doL (d.types.getD q10 default) c ((qs.getD k default).afield) ((qs.getD k default).aop) ((qs.getD k default).aarg)).getD j default).n) = ((c.getD j default).n))) : Value) else undef) := hA647 16 (by decide)
       refine oblcP rfl rfl e651 (fun hb652 => ?_) (fun hb652 => fun vals' hv _ => ⟨trivial, hv.trans (if_neg hb652).symm⟩)
       have hl653 := hb652.1
       have hl653 := ndec_true hl653
       have hl654 := hb652.2
       have hl654 := ndec_false hl654
       exact ov_move (v := .int .i64 ((j : Nat) : Int)) rfl (fun vals' hv _ => ⟨rfl, hv.trans (if_pos hb652).symm⟩)
      ·intro k655 vals w656 h659 h660 hW658 hA657
       obtain rfl : k655 = 0 := Nat.le_antisymm h660 h659
       have hS661 : Sep G103 w92 ((Blk b51 ((qs.getD k default).cells).toArray 36) :: (Blk b2 (d.cells dd0 dd1).toArray 25) :: (Blk b20 ((d.types.getD q10 default).cells (cellV W (sb dd0) (so dd0 + q10 * 1 + 0))).toArray 33) :: Rs) w656 := hW658
       have e662 : vals 16 = (if (!decide (((j : Nat) : Int) = ((qs.getD k default).afield))) = true then (.bool (!decide ((((doL (d.types.getD q10 default) c ((qs.getD k default).afield) ((qs.getD k default).aop) ((qs.getD k default).aarg)).getD j default).n) = ((c.getD j default).n))) : Value) else undef) := hA657 16 (by decide)
       have e663 : vals 17 = (if ((!decide (((j : Nat) : Int) = ((qs.getD k default).afield))) = true) ∧ (!decide ((((doL (d.types.getD q10 default) c ((qs.getD k default).afield) ((qs.getD k default).aop) ((qs.getD k default).aarg)).getD j default).n) = ((c.getD j default).n))) = false then (v79 : Value) else undef) := hA657 17 (by decide)
       have e664 : vals 18 = (if ((!decide (((j : Nat) : Int) = ((qs.getD k default).afield))) = true) ∧ (!decide ((((doL (d.types.getD q10 default) c ((qs.getD k default).afield) ((qs.getD k default).aop) ((qs.getD k default).aarg)).getD j default).n) = ((c.getD j default).n))) = false then (.int .i64 ((j : Nat) : Int) : Value) else undef) := hA657 18 (by decide)
       refine oblcP rfl rfl e662 (fun hb665 => ?_) (fun hb665 => fun vals' hv _ => ⟨trivial, hv.trans (if_neg hb665).symm⟩)
       have hl666 := hb665.1
       have hl666 := ndec_true hl666
       have hl667 := hb665.2
       have hl667 := ndec_false hl667
       have hi668 : j < (doL (d.types.getD q10 default) c ((qs.getD k default).afield) ((qs.getD k default).aop) ((qs.getD k default).aarg)).length := (by first | omega | (simp only [lens]; omega))
       exact ov_indexAddrN (k := 2) (i := j) Tryd.underlying26 Tryd.sizeOf42 (show _ = (v79 : Value) from (Eq.trans e663 (if_pos ⟨hb665.1, hb665.2⟩))) hrd109.sl (show _ = (.int .i64 ((j : Nat) : Int) : Value) from (Eq.trans e664 (if_pos ⟨hb665.1, hb665.2⟩))) hi668 (fun vals' hv _ => ⟨rfl, hv.trans (if_pos hb665).symm⟩)
      ·intro k669 vals w670 h673 h674 hW672 hA671
       have e675 : vals 16 = (if (!decide (((j : Nat) : Int) = ((qs.getD k default).afield))) = true then (.bool (!decide ((((doL (d.types.getD q10 default) c ((qs.getD k default).afield) ((qs.getD k default).aop) ((qs.getD k default).aarg)).getD j default).n) = ((c.getD j default).n))) : Value) else undef) := hA671 16 (by decide)
       have e676 : vals 19 = (if ((!decide (((j : Nat) : Int) = ((qs.getD k default).afield))) = true) ∧ (!decide ((((doL (d.types.getD q10 default) c ((qs.getD k default).afield) ((qs.getD k default).aop) ((qs.getD k default).aarg)).getD j default).n) = ((c.getD j default).n))) = false then (.pointer (some ⟨sb v79, so v79 + j * 2, none⟩) : Value) else undef) := hA671 19 (by decide)
       refine oblcP rfl rfl e675 (fun hb677 => ?_) (fun hb677 => fun vals' hv _ => ⟨trivial, hv.trans (if_neg hb677).symm⟩)
       have hl678 := hb677.1
       have hl678 := ndec_true hl678
       have hl679 := hb677.2
       have hl679 := ndec_false hl679
       exact fd42_1 (show _ = (.pointer (some ⟨sb v79, so v79 + j * 2, none⟩) : Value) from (Eq.trans e676 (if_pos ⟨hb677.1, hb677.2⟩))) (fun vals' hv _ => ⟨rfl, hv.trans (if_pos hb677).symm⟩)
      ·intro k680 vals w681 h684 h685 hW683 hA682
       obtain rfl : k680 = 0 := Nat.le_antisymm h685 h684
       have hS686 : Sep G103 w92 ((Blk b51 ((qs.getD k default).cells).toArray 36) :: (Blk b2 (d.cells dd0 dd1).toArray 25) :: (Blk b20 ((d.types.getD q10 default).cells (cellV W (sb dd0) (so dd0 + q10 * 1 + 0))).toArray 33) :: Rs) w681 := hW683
       have e687 : vals 16 = (if (!decide (((j : Nat) : Int) = ((qs.getD k default).afield))) = true then (.bool (!decide ((((doL (d.types.getD q10 default) c ((qs.getD k default).afield) ((qs.getD k default).aop) ((qs.getD k default).aarg)).getD j default).n) = ((c.getD j default).n))) : Value) else undef) := hA682 16 (by decide)
       have e688 : vals 20 = (if ((!decide (((j : Nat) : Int) = ((qs.getD k default).afield))) = true) ∧ (!decide ((((doL (d.types.getD q10 default) c ((qs.getD k default).afield) ((qs.getD k default).aop) ((qs.getD k default).aarg)).getD j default).n) = ((c.getD j default).n))) = false then (.pointer (some ⟨sb v79, so v79 + j * 2 + 1, none⟩) : Value) else undef) := hA682 20 (by decide)
       refine oblcP rfl rfl e687 (fun hb689 => ?_) (fun hb689 => fun vals' hv _ => ⟨trivial, hv.trans (if_neg hb689).symm⟩)
       have hl690 := hb689.1
       have hl690 := ndec_true hl690
       have hl691 := hb689.2
       have hl691 := ndec_false hl691
       have hi693 : j < (doL (d.types.getD q10 default) c ((qs.getD k default).afield) ((qs.getD k default).aop) ((qs.getD k default).aarg)).length := (by first | omega | (simp only [lens]; omega))
       obtain ⟨hce692, hde692_0, hoke692⟩ := hrd109.cel hi693
       rw [← getD_at default hi693] at hce692 hde692_0 hoke692
       have hsm694 : (((doL (d.types.getD q10 default) c ((qs.getD k default).afield) ((qs.getD k default).aop) ((qs.getD k default).aarg)).getD j default).set).length * 8 ≤ 140737488355328 := hde692_0.small
       have hcw695 := hS686.cells hce692 (hrd109.foot (ne_of_lt hi693))
       exact ov_load1 (v := (cellV w92 (sb v79) (so v79 + j * 2 + 1))) Tryd.isAgg40 (show _ = (.pointer (some ⟨sb v79, so v79 + j * 2 + 1, none⟩) : Value) from (Eq.trans e688 (if_pos ⟨hb689.1, hb689.2⟩))) (hcw695.get (j := 1) rfl) (fun vals' hv _ => ⟨rfl, hv.trans (if_pos hb689).symm⟩)
      ·intro k696 vals w697 h700 h701 hW699 hA698
       have e702 : vals 16 = (if (!decide (((j : Nat) : Int) = ((qs.getD k default).afield))) = true then (.bool (!decide ((((doL (d.types.getD q10 default) c ((qs.getD k default).afield) ((qs.getD k default).aop) ((qs.getD k default).aarg)).getD j default).n) = ((c.getD j default).n))) : Value) else undef) := hA698 16 (by decide)
       refine oblcP rfl rfl e702 (fun hb703 => ?_) (fun hb703 => fun vals' hv _ => ⟨trivial, hv.trans (if_neg hb703).symm⟩)
       have hl704 := hb703.1
       have hl704 := ndec_true hl704
       have hl705 := hb703.2
       have hl705 := ndec_false hl705
       exact ov_move (v := vc) rfl (fun vals' hv _ => ⟨rfl, hv.trans (if_pos hb703).symm⟩)
      ·intro k706 vals w707 h710 h711 hW709 hA708
       have e712 : vals 16 = (if (!decide (((j : Nat) : Int) = ((qs.getD k default).afield))) = true then (.bool (!decide ((((doL (d.types.getD q10 default) c ((qs.getD k default).afield) ((qs.getD k default).aop) ((qs.getD k default).aarg)).getD j default).n) = ((c.getD j default).n))) : Value) else undef) := hA708 16 (by decide)
       refine oblcP rfl rfl e712 (fun hb713 => ?_) (fun hb713 => fun vals' hv _ => ⟨trivial, hv.trans (if_neg hb713).symm⟩)
       have hl714 := hb713.1
       have hl714 := ndec_true hl714
       have hl715 := hb713.2
       have hl715 := ndec_false hl715
       exact ov_move (v := .int .i64 ((j : Nat) : Int)) rfl (fun vals' hv _ => ⟨rfl, hv.trans (if_pos hb713).symm⟩)
      ·intro k716 vals w717 h720 h721 hW719 hA718
       obtain rfl : k716 = 0 := Nat.le_antisymm h721 h720
       have hS722 : Sep G103 w92 ((Blk b51 ((qs.getD k default).cells).toArray 36) :: (Blk b2 (d.cells dd0 dd1).toArray 25) :: (Blk b20 ((d.types.getD q10 default).cells (cellV W (sb dd0) (so dd0 + q10 * 1 + 0))).toArray 33) :: Rs) w717 := hW719
       have e723 : vals 16 = (if (!decide (((j : Nat) : Int) = ((qs.getD k default).afield))) = true then (.bool (!decide ((((doL (d.types.getD q10 default) c ((qs.getD k default).afield) ((qs.getD k default).aop) ((qs.getD k default).aarg)).getD j default).n) = ((c.getD j default).n))) : Value) else undef) := hA718 16 (by decide)
       have e724 : vals 22 = (if ((!decide (((j : Nat) : Int) = ((qs.getD k default).afield))) = true) ∧ (!decide ((((doL (d.types.getD q10 default) c ((qs.getD k default).afield) ((qs.getD k default).aop) ((qs.getD k default).aarg)).getD j default).n) = ((c.getD j default).n))) = false then (vc : Value) else undef) := hA718 22 (by decide)
       have e725 : vals 23 = (if ((!decide (((j : Nat) : Int) = ((qs.getD k default).afield))) = true) ∧ (!decide ((((doL (d.types.getD q10 default) c ((qs.getD k default).afield) ((qs.getD k default).aop) ((qs.getD k default).aarg)).getD j default).n) = ((c.getD j default).n))) = false then (.int .i64 ((j : Nat) : Int) : Value) else undef) := hA718 23 (by decide)
       refine oblcP rfl rfl e723 (fun hb726 => ?_) (fun hb726 => fun vals' hv _ => ⟨trivial, hv.trans (if_neg hb726).symm⟩)
       have hl727 := hb726.1
       have hl727 := ndec_true hl727
       have hl728 := hb726.2
       have hl728 := ndec_false hl728
       have hi729 : j < c.length := (by first | omega | (simp only [lens]; omega))
       exact ov_indexAddrN (k := 2) (i := j) Tryd.underlying26 Tryd.sizeOf42 (show _ = (vc : Value) from (Eq.trans e724 (if_pos ⟨hb726.1, hb726.2⟩))) (RdS.base hrd102 hB106).sl (show _ = (.int .i64 ((j : Nat) : Int) : Value) from (Eq.trans e725 (if_pos ⟨hb726.1, hb726.2⟩))) hi729 (fun vals' hv _ => ⟨rfl, hv.trans (if_pos hb726).symm⟩)
      ·intro k730 vals w731 h734 h735 hW733 hA732
       have e736 : vals 16 = (if (!decide (((j : Nat) : Int) = ((qs.getD k default).afield))) = true then (.bool (!decide ((((doL (d.types.getD q10 default) c ((qs.getD k default).afield) ((qs.getD k default).aop) ((qs.getD k default).aarg)).getD j default).n) = ((c.getD j default).n))) : Value) else undef) := hA732 16 (by decide)
       have e737 : vals 24 = (if ((!decide (((j : Nat) : Int) = ((qs.getD k default).afield))) = true) ∧ (!decide ((((doL (d.types.getD q10 default) c ((qs.getD k default).afield) ((qs.getD k default).aop) ((qs.getD k default).aarg)).getD j default).n) = ((c.getD j default).n))) = false then (.pointer (some ⟨sb vc, so vc + j * 2, none⟩) : Value) else undef) := hA732 24 (by decide)
       refine oblcP rfl rfl e736 (fun hb738 => ?_) (fun hb738 => fun vals' hv _ => ⟨trivial, hv.trans (if_neg hb738).symm⟩)
       have hl739 := hb738.1
       have hl739 := ndec_true hl739
       have hl740 := hb738.2
       have hl740 := ndec_false hl740
       exact fd42_1 (show _ = (.pointer (some ⟨sb vc, so vc + j * 2, none⟩) : Value) from (Eq.trans e737 (if_pos ⟨hb738.1, hb738.2⟩))) (fun vals' hv _ => ⟨rfl, hv.trans (if_pos hb738).symm⟩)
      ·intro k741 vals w742 h745 h746 hW744 hA743
       obtain rfl : k741 = 0 := Nat.le_antisymm h746 h745
       have hS747 : Sep G103 w92 ((Blk b51 ((qs.getD k default).cells).toArray 36) :: (Blk b2 (d.cells dd0 dd1).toArray 25) :: (Blk b20 ((d.types.getD q10 default).cells (cellV W (sb dd0) (so dd0 + q10 * 1 + 0))).toArray 33) :: Rs) w742 := hW744
       have e748 : vals 16 = (if (!decide (((j : Nat) : Int) = ((qs.getD k default).afield))) = true then (.bool (!decide ((((doL (d.types.getD q10 default) c ((qs.getD k default).afield) ((qs.getD k default).aop) ((qs.getD k default).aarg)).getD j default).n) = ((c.getD j default).n))) : Value) else undef) := hA743 16 (by decide)
       have e749 : vals 25 = (if ((!decide (((j : Nat) : Int) = ((qs.getD k default).afield))) = true) ∧ (!decide ((((doL (d.types.getD q10 default) c ((qs.getD k default).afield) ((qs.getD k default).aop) ((qs.getD k default).aarg)).getD j default).n) = ((c.getD j default).n))) = false then (.pointer (some ⟨sb vc, so vc + j * 2 + 1, none⟩) : Value) else undef) := hA743 25 (by decide)
       refine oblcP rfl rfl e748 (fun hb750 => ?_) (fun hb750 => fun vals' hv _ => ⟨trivial, hv.trans (if_neg hb750).symm⟩)
       have hl751 := hb750.1
       have hl751 := ndec_true hl751
       have hl752 := hb750.2
       have hl752 := ndec_false hl752
       have hi754 : j < c.length := (by first | omega | (simp only [lens]; omega))
       obtain ⟨hce753, hde753_0, hoke753⟩ := (RdS.base hrd102 hB106).cel hi754
       rw [← getD_at default hi754] at hce753 hde753_0 hoke753
       have hsm755 : ((c.getD j default).set).length * 8 ≤ 140737488355328 := hde753_0.small
       have hcw756 := hS747.cells hce753 ((RdS.base hrd102 hB106).foot (ne_of_lt hi754))
       exact ov_load1 (v := (cellV w92 (sb vc) (so vc + j * 2 + 1))) Tryd.isAgg40 (show _ = (.pointer (some ⟨sb vc, so vc + j * 2 + 1, none⟩) : Value) from (Eq.trans e749 (if_pos ⟨hb750.1, hb750.2⟩))) (hcw756.get (j := 1) rfl) (fun vals' hv _ => ⟨rfl, hv.trans (if_pos hb750).symm⟩)
      ·intro k411 vals w412 h415 h416 hW414 hA413
       obtain rfl : k411 = 0 := Nat.le_antisymm h416 h415
       have hS417 : Sep G103 w92 ((Blk b51 ((qs.getD k default).cells).toArray 36) :: (Blk b2 (d.cells dd0 dd1).toArray 25) :: (Blk b20 ((d.types.getD q10 default).cells (cellV W (sb dd0) (so dd0 + q10 * 1 + 0))).toArray 33) :: Rs) w412 := hW414
       have e418 : vals 16 = (if (!decide (((j : Nat) : Int) = ((qs.getD k default).afield))) = true then (.bool (!decide ((((doL (d.types.getD q10 default) c ((qs.getD k default).afield) ((qs.getD k default).aop) ((qs.getD k default).aarg)).getD j default).n) = ((c.getD j default).n))) : Value) else undef) := hA413 16 (by decide)
       have e419 : vals 21 = (if ((!decide (((j : Nat) : Int) = ((qs.getD k default).afield))) = true) ∧ (!decide ((((doL (d.types.getD q10 default) c ((qs.getD k default).afield) ((qs.getD k default).aop) ((qs.getD k default).aarg)).getD j default).n) = ((c.getD j default).n))) = false then ((cellV w92 (sb v79) (so v79 + j * 2 + 1)) : Value) else undef) := hA413 21 (by decide)
       have e420 : vals 26 = (if ((!decide (((j : Nat) : Int) = ((qs.getD k default).afield))) = true) ∧ (!decide ((((doL (d.types.getD q10 default) c ((qs.getD k default).afield) ((qs.getD k default).aop) ((qs.getD k default).aarg)).getD j default).n) = ((c.getD j default).n))) = false then ((cellV w92 (sb vc) (so vc + j * 2 + 1)) : Value) else undef) := hA413 26 (by decide)
       refine oblcP rfl rfl e418 (fun hb421 => ?_) (fun hb421 vals' hv hv' => ?_)
       ·skip
        have hl422 := hb421.1
        have hl422 := ndec_true hl422
        have hl423 := hb421.2
        have hl423 := ndec_false hl423
        have hi425 : j < (doL (d.types.getD q10 default) c ((qs.getD k default).afield) ((qs.getD k default).aop) ((qs.getD k default).aarg)).length := (by first | omega | (simp only [lens]; omega))
        obtain ⟨hce424, hde424_0, hoke424⟩ := hrd109.cel hi425
        rw [← getD_at default hi425] at hce424 hde424_0 hoke424
        have hsm426 : (((doL (d.types.getD q10 default) c ((qs.getD k default).afield) ((qs.getD k default).aop) ((qs.getD k default).aarg)).getD j default).set).length * 8 ≤ 140737488355328 := hde424_0.small
        have hcw427 := hS417.cells hce424 (hrd109.foot (ne_of_lt hi425))
        have hi429 : j < c.length := (by first | omega | (simp only [lens]; omega))
        obtain ⟨hce428, hde428_0, hoke428⟩ := (RdS.base hrd102 hB106).cel hi429
        rw [← getD_at default hi429] at hce428 hde428_0 hoke428
        have hsm430 : ((c.getD j default).set).length * 8 ≤ 140737488355328 := hde428_0.small
        have hcw431 := hS417.cells hce428 ((RdS.base hrd102 hB106).foot (ne_of_lt hi429))
        refine (ov_call (f := 19) (vals := [(cellV w92 (sb v79) (so v79 + j * 2 + 1)), (cellV w92 (sb vc) (so vc + j * 2 + 1))]) (cap := []) (show _ = (.func (.func 19) #[] #[] : Value) from rfl) (mapL ⟨(show _ = ((cellV w92 (sb v79) (so v79 + j * 2 + 1)) : Value) from (Eq.trans e419 (if_pos ⟨hb421.1, hb421.2⟩))), (show _ = ((cellV w92 (sb vc) (so vc + j * 2 + 1)) : Value) from (Eq.trans e420 (if_pos ⟨hb421.1, hb421.2⟩))), trivial⟩) Tryd.call19 (D_SameInts (a := ((doL (d.types.getD q10 default) c ((qs.getD k default).afield) ((qs.getD k default).aop) ((qs.getD k default).aarg)).getD j default).set) (va := (cellV w92 (sb v79) (so v79 + j * 2 + 1))) (b := (c.getD j default).set) (vb := (cellV w92 (sb vc) (so vc + j * 2 + 1))) hde424_0 hde428_0 hS417) ?_)
        rintro _ w432 ⟨rfl, hS433⟩
        intro vals' hv hv'
        refine ⟨?_, trivial⟩
        show (vals' 27 = (if ((!decide (((j : Nat) : Int) = ((qs.getD k default).afield))) = true) ∧ (!decide ((((doL (d.types.getD q10 default) c ((qs.getD k default).afield) ((qs.getD k default).aop) ((qs.getD k default).aarg)).getD j default).n) = ((c.getD j default).n))) = false then (.bool (decide ((((doL (d.types.getD q10 default) c ((qs.getD k default).afield) ((qs.getD k default).aop) ((qs.getD k default).aarg)).getD j default).set) = ((c.getD j default).set))) : Value) else undef)) ∧ Sep G103 w92 ((Blk b51 ((qs.getD k default).cells).toArray 36) :: (Blk b2 (d.cells dd0 dd1).toArray 25) :: (Blk b20 ((d.types.getD q10 default).cells (cellV W (sb dd0) (so dd0 + q10 * 1 + 0))).toArray 33) :: Rs) w432
        exact ⟨(hv.trans (if_pos hb421).symm), hS433⟩
       ·skip
        refine ⟨?_, trivial⟩
        show (vals' 27 = (if ((!decide (((j : Nat) : Int) = ((qs.getD k default).afield))) = true) ∧ (!decide ((((doL (d.types.getD q10 default) c ((qs.getD k default).afield) ((qs.getD k default).aop) ((qs.getD k default).aarg)).getD j default).n) = ((c.getD j default).n))) = false then (.bool (decide ((((doL (d.types.getD q10 default) c ((qs.getD k default).afield) ((qs.getD k default).aop) ((qs.getD k default).aarg)).getD j default).set) = ((c.getD j default).set))) : Value) else undef)) ∧ Sep G103 w92 ((Blk b51 ((qs.getD k default).cells).toArray 36) :: (Blk b2 (d.cells dd0 dd1).toArray 25) :: (Blk b20 ((d.types.getD q10 default).cells (cellV W (sb dd0) (so dd0 + q10 * 1 + 0))).toArray 33) :: Rs) w412
        exact ⟨(hv.trans (if_neg hb421).symm), hS417⟩
      ·intro k757 vals w758 h761 h762 hW760 hA759
       obtain rfl : k757 = 1 := Nat.le_antisymm h762 h761
       obtain ⟨he434, hS763⟩ : (vals 27 = (if ((!decide (((j : Nat) : Int) = ((qs.getD k default).afield))) = true) ∧ (!decide ((((doL (d.types.getD q10 default) c ((qs.getD k default).afield) ((qs.getD k default).aop) ((qs.getD k default).aarg)).getD j default).n) = ((c.getD j default).n))) = false then (.bool (decide ((((doL (d.types.getD q10 default) c ((qs.getD k default).afield) ((qs.getD k default).aop) ((qs.getD k default).aarg)).getD j default).set) = ((c.getD j default).set))) : Value) else undef)) ∧ Sep G103 w92 ((Blk b51 ((qs.getD k default).cells).toArray 36) :: (Blk b2 (d.cells dd0 dd1).toArray 25) :: (Blk b20 ((d.types.getD q10 default).cells (cellV W (sb dd0) (so dd0 + q10 * 1 + 0))).toArray 33) :: Rs) w758 := hW760
       have e764 : vals 16 = (if (!decide (((j : Nat) : Int) = ((qs.getD k default).afield))) = true then (.bool (!decide ((((doL (d.types.getD q10 default) c ((qs.getD k default).afield) ((qs.getD k default).aop) ((qs.getD k default).aarg)).getD j default).n) = ((c.getD j default).n))) : Value) else undef) := hA759 16 (by decide)
       refine oblcP rfl rfl e764 (fun hb765 => ?_) (fun hb765 => fun vals' hv _ => ⟨trivial, hv.trans (if_neg hb765).symm⟩)
       have hl766 := hb765.1
       have hl766 := ndec_true hl766
       have hl767 := hb765.2
       have hl767 := ndec_false hl767
       exact ov_not (a := decide ((((doL (d.types.getD q10 default) c ((qs.getD k default).afield) ((qs.getD k default).aop) ((qs.getD k default).aarg)).getD j default).set) = ((c.getD j default).set))) (show _ = (.bool (decide ((((doL (d.types.getD q10 default) c ((qs.getD k default).afield) ((qs.getD k default).aop) ((qs.getD k default).aarg)).getD j default).set) = ((c.getD j default).set))) : Value) from (Eq.trans he434 (if_pos ⟨hb765.1, hb765.2⟩))) (fun vals' hv _ => ⟨rfl, hv.trans (if_pos hb765).symm⟩)
      ·intro k768 vals w769 h772 h773 hW771 hA770
       have e774 : vals 4 = (.bool (!decide (((j : Nat) : Int) = ((qs.getD k default).afield))) : Value) := hA770 4 (by decide)
       have e775 : vals 16 = (if (!decide (((j : Nat) : Int) = ((qs.getD k default).afield))) = true then (.bool (!decide ((((doL (d.types.getD q10 default) c ((qs.getD k default).afield) ((qs.getD k default).aop) ((qs.getD k default).aarg)).getD j default).n) = ((c.getD j default).n))) : Value) else undef) := hA770 16 (by decide)
       have e776 : vals 28 = (if ((!decide (((j : Nat) : Int) = ((qs.getD k default).afield))) = true) ∧ (!decide ((((doL (d.types.getD q10 default) c ((qs.getD k default).afield) ((qs.getD k default).aop) ((qs.getD k default).aarg)).getD j default).n) = ((c.getD j default).n))) = false then (.bool (!(decide ((((doL (d.types.getD q10 default) c ((qs.getD k default).afield) ((qs.getD k default).aop) ((qs.getD k default).aarg)).getD j default).set) = ((c.getD j default).set)))) : Value) else undef) := hA770 28 (by decide)
       refine oblc rfl rfl e774 (fun hb777 => ?_) (fun hb777 => fun vals' hv _ => ⟨trivial, hv.trans (if_neg hb777).symm⟩)
       have hl778 := hb777
       have hl778 := ndec_true hl778
       exact ov_pick_or (b := !decide ((((doL (d.types.getD q10 default) c ((qs.getD k default).afield) ((qs.getD k default).aop) ((qs.getD k default).aarg)).getD j default).n) = ((c.getD j default).n))) (b' := !(decide ((((doL (d.types.getD q10 default) c ((qs.getD k default).afield) ((qs.getD k default).aop) ((qs.getD k default).aarg)).getD j default).set) = ((c.getD j default).set)))) (show _ = (.bool (!decide ((((doL (d.types.getD q10 default) c ((qs.getD k default).afield) ((qs.getD k default).aop) ((qs.getD k default).aarg)).getD j default).n) = ((c.getD j default).n))) : Value) from (Eq.trans e775 (if_pos hb777))) (fun hbp => (show _ = (.bool (!(decide ((((doL (d.types.getD q10 default) c ((qs.getD k default).afield) ((qs.getD k default).aop) ((qs.getD k default).aarg)).getD j default).set) = ((c.getD j default).set)))) : Value) from (Eq.trans e776 (if_pos ⟨hb777, hbp⟩)))) (fun vals' hv _ => ⟨rfl, hv.trans (if_pos hb777).symm⟩)
      ·intro k779 vals w780 h783 h784 hW782 hA781
       have e785 : vals 4 = (.bool (!decide (((j : Nat) : Int) = ((qs.getD k default).afield))) : Value) := hA781 4 (by decide)
       have e786 : vals 29 = (if (!decide (((j : Nat) : Int) = ((qs.getD k default).afield))) = true then (.bool ((!decide ((((doL (d.types.getD q10 default) c ((qs.getD k default).afield) ((qs.getD k default).aop) ((qs.getD k default).aarg)).getD j default).n) = ((c.getD j default).n))) || (!(decide ((((doL (d.types.getD q10 default) c ((qs.getD k default).afield) ((qs.getD k default).aop) ((qs.getD k default).aarg)).getD j default).set) = ((c.getD j default).set))))) : Value) else undef) := hA781 29 (by decide)
       refine obl rfl ?_
       exact ov_pick_and (b := !decide (((j : Nat) : Int) = ((qs.getD k default).afield))) (b' := (!decide ((((doL (d.types.getD q10 default) c ((qs.getD k default).afield) ((qs.getD k default).aop) ((qs.getD k default).aarg)).getD j default).n) = ((c.getD j default).n))) || (!(decide ((((doL (d.types.getD q10 default) c ((qs.getD k default).afield) ((qs.getD k default).aop) ((qs.getD k default).aarg)).getD j default).set) = ((c.getD j default).set))))) e785 (fun hbp => (show _ = (.bool ((!decide ((((doL (d.types.getD q10 default) c ((qs.getD k default).afield) ((qs.getD k default).aop) ((qs.getD k default).aarg)).getD j default).n) = ((c.getD j default).n))) || (!(decide ((((doL (d.types.getD q10 default) c ((qs.getD k default).afield) ((qs.getD k default).aop) ((qs.getD k default).aarg)).getD j default).set) = ((c.getD j default).set))))) : Value) from (Eq.trans e786 (if_pos hbp)))) (fun vals' hv _ => ⟨rfl, hv⟩)
      intro vals w787 hW788 hA789
      obtain ⟨he434, hS790⟩ : (vals 27 = (if ((!decide (((j : Nat) : Int) = ((qs.getD k default).afield))) = true) ∧ (!decide ((((doL (d.types.getD q10 default) c ((qs.getD k default).afield) ((qs.getD k default).aop) ((qs.getD k default).aarg)).getD j default).n) = ((c.getD j default).n))) = false then (.bool (decide ((((doL (d.types.getD q10 default) c ((qs.getD k default).afield) ((qs.getD k default).aop) ((qs.getD k default).aarg)).getD j default).set) = ((c.getD j default).set))) : Value) else undef)) ∧ Sep G103 w92 ((Blk b51 ((qs.getD k default).cells).toArray 36) :: (Blk b2 (d.cells dd0 dd1).toArray 25) :: (Blk b20 ((d.types.getD q10 default).cells (cellV W (sb dd0) (so dd0 + q10 * 1 + 0))).toArray 33) :: Rs) w787 := hW788
      have e791 : vals 30 = (.bool ((!decide (((j : Nat) : Int) = ((qs.getD k default).afield))) && ((!decide ((((doL (d.types.getD q10 default) c ((qs.getD k default).afield) ((qs.getD k default).aop) ((qs.getD k default).aarg)).getD j default).n) = ((c.getD j default).n))) || (!(decide ((((doL (d.types.getD q10 default) c ((qs.getD k default).afield) ((qs.getD k default).aop) ((qs.getD k default).aarg)).getD j default).set) = ((c.getD j default).set)))))) : Value) := hA789 30 (by decide)
      refine st_env (kv := [(1, .int .i64 ((q10 : Nat) : Int)), (3, vqs), (4, .pointer (some ⟨b2, 0, none⟩)), (9, .pointer (some ⟨b20, 0, none⟩)), (10, vc), (11, .int .i64 ((k : Nat) : Int)), (12, .pointer (some ⟨b51, 0, none⟩)), (14, v79), (15, .int .i64 ((j : Nat) : Int)), (113, .int .i64 ((j : Nat) : Int)), (114, v79), (115, .int .i64 (((doL (d.types.getD q10 default) c ((qs.getD k default).afield) ((qs.getD k default).aop) ((qs.getD k default).aarg)).length : Nat) : Int)), (116, .bool true), (149, .bool ((!decide (((j : Nat) : Int) = ((qs.getD k default).afield))) && ((!decide ((((doL (d.types.getD q10 default) c ((qs.getD k default).afield) ((qs.getD k default).aop) ((qs.getD k default).aarg)).getD j default).n) = ((c.getD j default).n))) || (!(decide ((((doL (d.types.getD q10 default) c ((qs.getD k default).afield) ((qs.getD k default).aop) ((qs.getD k default).aarg)).getD j default).set) = ((c.getD j default).set)))))))]) ⟨rfl, rfl, rfl, rfl, rfl, rfl, rfl, rfl, rfl, rfl, rfl, rfl, rfl, (by exact e791), trivial⟩ (fun ρw787 => ?_)
      refine st_nil ?_
      cases hc792 : (!decide (((j : Nat) : Int) = ((qs.getD k default).afield))) && ((!decide ((((doL (d.types.getD q10 default) c ((qs.getD k default).afield) ((qs.getD k default).aop) ((qs.getD k default).aarg)).getD j default).n) = ((c.getD j default).n))) || (!(decide ((((doL (d.types.getD q10 default) c ((qs.getD k default).afield) ((qs.getD k default).aop) ((qs.getD k default).aarg)).getD j default).set) = ((c.getD j default).set)))))
      ·skip
       try simp only [bools] at hc792
       refine WP_cond_f rfl ?_
       refine WP_skip ?_
       refine WP_region0 (by kernel_rfl) (fun _ => ?_)
       refine st (ov_move (v := .int .i64 ((j : Nat) : Int)) rfl ?_)
       have hr793 : InR ((j + 1 : Nat) : Int) := by first | omega | (simp only [lens]; omega)
       refine st (ov_add (r := ((j + 1 : Nat) : Int)) (k := .i64) (a := ((j : Nat) : Int)) (b := 1) rfl rfl (by rw [show (((j : Nat) : Int) + 1 : Int) = ((j + 1 : Nat) : Int) by first | omega | (simp only [lens]; omega)]; exact wrap_in hr793) ?_)
       refine st (ov_assign (v := .int .i64 ((j + 1 : Nat) : Int)) rfl ?_)
       refine st_nil ?_
       exact ⟨_, by omega, j + 1, _, rfl, setAll_self ⟨rfl, rfl, rfl, rfl, rfl, rfl, rfl, rfl, rfl, trivial⟩, by omega, hS790⟩
      ·skip
       try simp only [bools] at hc792
       exfalso
       have e9 := doL_other (t := (d.types.getD q10 default)) (c := c) (op := (qs.getD k default).aop) (arg := (qs.getD k default).aarg) hft1 hc792.1
       rw [e9] at hc792
       simp at hc792
    ·skip
     have hc71 := ndec_true hc71
     refine WP_cond_t rfl ?_
     refine WP_seq ?_
     refine WP_seq ?_
     obtain ⟨G794, hA796, hB797, hS798, hk799⟩ := hS70.lend
     have hrd800 := RowE.rd hA796
     have hrd800s : c.length * 32 ≤ 140737488355328 := hrd800.small
     refine WP_region (by kernel_rfl) ?_
     refine st (ov_move (v := .int .i64 (mayL (d.types.getD q10 default) c ((qs.getD k default).afield) ((qs.getD k default).aop) ((qs.getD k default).aarg))) rfl ?_)
     refine st (ov_neq (k := .i64) (a := mayL (d.types.getD q10 default) c ((qs.getD k default).afield) ((qs.getD k default).aop) ((qs.getD k default).aarg)) (b := 10) rfl rfl ?_)
     refine st (ov_move (v := .bool (!decide ((mayL (d.types.getD q10 default) c ((qs.getD k default).afield) ((qs.getD k default).aop) ((qs.getD k default).aarg)) = 10))) rfl ?_)
     refine stc (V := .pointer (some ⟨b51, 1, none⟩)) rfl rfl (fun hb801 => ?_) ?_
     ·have hl802 := hb801
      have hl802 := ndec_false hl802
      exact fd36_1 rfl ⟨rfl, rfl⟩
     refine stc (V := .int .i64 ((qs.getD k default).aop)) rfl rfl (fun hb803 => ?_) ?_
     ·have hl804 := hb803
      have hl804 := ndec_false hl804
      exact ov_load1 (v := .int .i64 ((qs.getD k default).aop)) Tryd.isAgg3 (show _ = (.pointer (some ⟨b51, 1, none⟩) : Value) from (if_pos hb803)) (blk_cellL (hS798.blk (i := 0) rfl) rfl) ⟨rfl, rfl⟩
     refine stc (V := .bool (decide (((qs.getD k default).aop) = 2))) rfl rfl (fun hb805 => ?_) ?_
     ·have hl806 := hb805
      have hl806 := ndec_false hl806
      exact ov_eql (k := .i64) (a := (qs.getD k default).aop) (b := 2) (show _ = (.int .i64 ((qs.getD k default).aop) : Value) from (if_pos hb805)) rfl ⟨rfl, rfl⟩
     refine st (ov_pick_or (b := !decide ((mayL (d.types.getD q10 default) c ((qs.getD k default).afield) ((qs.getD k default).aop) ((qs.getD k default).aarg)) = 10)) (b' := decide (((qs.getD k default).aop) = 2)) rfl (fun hbp => (show _ = (.bool (decide (((qs.getD k default).aop) = 2)) : Value) from (if_pos hbp))) ?_)
     refine st (ov_move (v := .bool ((!decide ((mayL (d.types.getD q10 default) c ((qs.getD k default).afield) ((qs.getD k default).aop) ((qs.getD k default).aarg)) = 10)) || (decide (((qs.getD k default).aop) = 2)))) rfl ?_)
     refine stc (V := .pointer (some ⟨b51, 1, none⟩)) rfl rfl (fun hb807 => ?_) ?_
     ·have hl808 := hb807
      try simp only [bools] at hl808
      exact fd36_1 rfl ⟨rfl, rfl⟩
     refine stc (V := .int .i64 ((qs.getD k default).aop)) rfl rfl (fun hb809 => ?_) ?_
     ·have hl810 := hb809
      try simp only [bools] at hl810
      exact ov_load1 (v := .int .i64 ((qs.getD k default).aop)) Tryd.isAgg3 (show _ = (.pointer (some ⟨b51, 1, none⟩) : Value) from (if_pos hb809)) (blk_cellL (hS798.blk (i := 0) rfl) rfl) ⟨rfl, rfl⟩
     refine stc (V := .bool (decide (((qs.getD k default).aop) = 4))) rfl rfl (fun hb811 => ?_) ?_
     ·have hl812 := hb811
      try simp only [bools] at hl812
      exact ov_eql (k := .i64) (a := (qs.getD k default).aop) (b := 4) (show _ = (.int .i64 ((qs.getD k default).aop) : Value) from (if_pos hb811)) rfl ⟨rfl, rfl⟩
     refine st (ov_pick_or (b := (!decide ((mayL (d.types.getD q10 default) c ((qs.getD k default).afield) ((qs.getD k default).aop) ((qs.getD k default).aarg)) = 10)) || (decide (((qs.getD k default).aop) = 2))) (b' := decide (((qs.getD k default).aop) = 4)) rfl (fun hbp => (show _ = (.bool (decide (((qs.getD k default).aop) = 4)) : Value) from (if_pos hbp))) ?_)
     refine st (ov_move (v := .bool (((!decide ((mayL (d.types.getD q10 default) c ((qs.getD k default).afield) ((qs.getD k default).aop) ((qs.getD k default).aarg)) = 10)) || (decide (((qs.getD k default).aop) = 2))) || (decide (((qs.getD k default).aop) = 4)))) rfl ?_)
     refine stc (V := .pointer (some ⟨b51, 1, none⟩)) rfl rfl (fun hb813 => ?_) ?_
     ·have hl814 := hb813
      try simp only [bools] at hl814
      exact fd36_1 rfl ⟨rfl, rfl⟩
     refine stc (V := .int .i64 ((qs.getD k default).aop)) rfl rfl (fun hb815 => ?_) ?_
     ·have hl816 := hb815
      try simp only [bools] at hl816
      exact ov_load1 (v := .int .i64 ((qs.getD k default).aop)) Tryd.isAgg3 (show _ = (.pointer (some ⟨b51, 1, none⟩) : Value) from (if_pos hb815)) (blk_cellL (hS798.blk (i := 0) rfl) rfl) ⟨rfl, rfl⟩
     refine stc (V := .bool (decide (((qs.getD k default).aop) = 1))) rfl rfl (fun hb817 => ?_) ?_
     ·have hl818 := hb817
      try simp only [bools] at hl818
      exact ov_eql (k := .i64) (a := (qs.getD k default).aop) (b := 1) (show _ = (.int .i64 ((qs.getD k default).aop) : Value) from (if_pos hb817)) rfl ⟨rfl, rfl⟩
     refine stc (V := .bool (decide (((qs.getD k default).aop) = 1))) rfl rfl (fun hb819 => ?_) ?_
     ·have hl820 := hb819
      try simp only [bools] at hl820
      exact ov_move (v := .bool (decide (((qs.getD k default).aop) = 1))) (show _ = (.bool (decide (((qs.getD k default).aop) = 1)) : Value) from (if_pos hb819)) ⟨rfl, rfl⟩
     refine stcP (V := .pointer (some ⟨b51, 2, none⟩)) rfl rfl (fun hb821 => ?_) ?_
     ·have hl822 := hb821.1
      try simp only [bools] at hl822
      have hl823 := hb821.2
      have hl823 := of_decide_eq_true hl823
      exact fd36_2 rfl ⟨rfl, rfl⟩
     refine stcP (V := .int .i64 ((qs.getD k default).aarg)) rfl rfl (fun hb824 => ?_) ?_
     ·have hl825 := hb824.1
      try simp only [bools] at hl825
      have hl826 := hb824.2
      have hl826 := of_decide_eq_true hl826
      exact ov_load1 (v := .int .i64 ((qs.getD k default).aarg)) Tryd.isAgg3 (show _ = (.pointer (some ⟨b51, 2, none⟩) : Value) from (if_pos ⟨hb824.1, hb824.2⟩)) (blk_cellL (hS798.blk (i := 0) rfl) rfl) ⟨rfl, rfl⟩
     refine stcP (V := .bool (decide (0 < ((qs.getD k default).aarg)))) rfl rfl (fun hb827 => ?_) ?_
     ·have hl828 := hb827.1
      try simp only [bools] at hl828
      have hl829 := hb827.2
      have hl829 := of_decide_eq_true hl829
      exact ov_gtr (k := .i64) (a := (qs.getD k default).aarg) (b := 0) (show _ = (.int .i64 ((qs.getD k default).aarg) : Value) from (if_pos ⟨hb827.1, hb827.2⟩)) rfl ⟨rfl, rfl⟩
     refine stc (V := .bool ((decide (((qs.getD k default).aop) = 1)) && (decide (0 < ((qs.getD k default).aarg))))) rfl rfl (fun hb830 => ?_) ?_
     ·have hl831 := hb830
      try simp only [bools] at hl831
      exact ov_pick_and (b := decide (((qs.getD k default).aop) = 1)) (b' := decide (0 < ((qs.getD k default).aarg))) (show _ = (.bool (decide (((qs.getD k default).aop) = 1)) : Value) from (if_pos hb830)) (fun hbp => (show _ = (.bool (decide (0 < ((qs.getD k default).aarg))) : Value) from (if_pos ⟨hb830, hbp⟩))) ⟨rfl, rfl⟩
     refine stc (V := .bool ((decide (((qs.getD k default).aop) = 1)) && (decide (0 < ((qs.getD k default).aarg))))) rfl rfl (fun hb832 => ?_) ?_
     ·have hl833 := hb832
      try simp only [bools] at hl833
      exact ov_move (v := .bool ((decide (((qs.getD k default).aop) = 1)) && (decide (0 < ((qs.getD k default).aarg))))) (show _ = (.bool ((decide (((qs.getD k default).aop) = 1)) && (decide (0 < ((qs.getD k default).aarg)))) : Value) from (if_pos hb832)) ⟨rfl, rfl⟩
     refine stcP (V := vc) rfl rfl (fun hb834 => ?_) ?_
     ·have hl835 := hb834.1
      try simp only [bools] at hl835
      have hl836 := hb834.2
      try simp only [bools] at hl836
      exact ov_move (v := vc) rfl ⟨rfl, rfl⟩
     refine stcP (V := .pointer (some ⟨b51, 0, none⟩)) rfl rfl (fun hb837 => ?_) ?_
     ·have hl838 := hb837.1
      try simp only [bools] at hl838
      have hl839 := hb837.2
      try simp only [bools] at hl839
      exact fd36_0 rfl ⟨rfl, rfl⟩
     refine stcP (V := .int .i64 ((qs.getD k default).afield)) rfl rfl (fun hb840 => ?_) ?_
     ·have hl841 := hb840.1
      try simp only [bools] at hl841
      have hl842 := hb840.2
      try simp only [bools] at hl842
      exact ov_load1 (v := .int .i64 ((qs.getD k default).afield)) Tryd.isAgg3 (show _ = (.pointer (some ⟨b51, 0, none⟩) : Value) from (if_pos ⟨hb840.1, hb840.2⟩)) (blk_cellL (hS798.blk (i := 0) rfl) rfl) ⟨rfl, rfl⟩
     refine stcP (V := .pointer (some ⟨sb vc, so vc + (((qs.getD k default).afield).toNat) * 2, none⟩)) rfl rfl (fun hb843 => ?_) ?_
     ·have hl844 := hb843.1
      try simp only [bools] at hl844
      have hl845 := hb843.2
      try simp only [bools] at hl845
      have hi846 : ((qs.getD k default).afield).toNat < c.length := (by first | omega | (simp only [lens]; omega))
      exact ov_indexAddr (k := 2) (i := (qs.getD k default).afield) Tryd.underlying26 Tryd.sizeOf42 (show _ = (vc : Value) from (if_pos ⟨hb843.1, hb843.2⟩)) hrd800.sl (show _ = (.int .i64 ((qs.getD k default).afield) : Value) from (if_pos ⟨hb843.1, hb843.2⟩)) ⟨by omega, by omega⟩ ⟨rfl, rfl⟩
     refine stcP (V := .pointer (some ⟨sb vc, so vc + (((qs.getD k default).afield).toNat) * 2, none⟩)) rfl rfl (fun hb847 => ?_) ?_
     ·have hl848 := hb847.1
      try simp only [bools] at hl848
      have hl849 := hb847.2
      try simp only [bools] at hl849
      exact fd42_0 (show _ = (.pointer (some ⟨sb vc, so vc + (((qs.getD k default).afield).toNat) * 2, none⟩) : Value) from (if_pos ⟨hb847.1, hb847.2⟩)) ⟨rfl, rfl⟩
     refine stcP (V := .int .i64 ((c.getD (((qs.getD k default).afield).toNat) default).n)) rfl rfl (fun hb850 => ?_) ?_
     ·have hl851 := hb850.1
      try simp only [bools] at hl851
      have hl852 := hb850.2
      try simp only [bools] at hl852
      have hi854 : ((qs.getD k default).afield).toNat < c.length := (by first | omega | (simp only [lens]; omega))
      obtain ⟨hce853, hde853_0, hoke853⟩ := hrd800.cel hi854
      rw [← getD_at default hi854] at hce853 hde853_0 hoke853
      have hsm855 : ((c.getD (((qs.getD k default).afield).toNat) default).set).length * 8 ≤ 140737488355328 := hde853_0.small
      have hcw856 := hS798.cells hce853 (hrd800.foot (ne_of_lt hi854))
      exact ov_load1 (v := .int .i64 ((c.getD (((qs.getD k default).afield).toNat) default).n)) Tryd.isAgg3 (show _ = (.pointer (some ⟨sb vc, so vc + (((qs.getD k default).afield).toNat) * 2, none⟩) : Value) from (if_pos ⟨hb850.1, hb850.2⟩)) (hcw856.get (j := 0) rfl) ⟨rfl, rfl⟩
     refine stcP (V := .bool (decide (((c.getD (((qs.getD k default).afield).toNat) default).n) < 0))) rfl rfl (fun hb857 => ?_) ?_
     ·have hl858 := hb857.1
      try simp only [bools] at hl858
      have hl859 := hb857.2
      try simp only [bools] at hl859
      exact ov_lss (k := .i64) (a := (c.getD (((qs.getD k default).afield).toNat) default).n) (b := 0) (show _ = (.int .i64 ((c.getD (((qs.getD k default).afield).toNat) default).n) : Value) from (if_pos ⟨hb857.1, hb857.2⟩)) rfl ⟨rfl, rfl⟩
     refine stc (V := .bool (((decide (((qs.getD k default).aop) = 1)) && (decide (0 < ((qs.getD k default).aarg)))) && (decide (((c.getD (((qs.getD k default).afield).toNat) default).n) < 0)))) rfl rfl (fun hb860 => ?_) ?_
     ·have hl861 := hb860
      try simp only [bools] at hl861
      exact ov_pick_and (b := (decide (((qs.getD k default).aop) = 1)) && (decide (0 < ((qs.getD k default).aarg)))) (b' := decide (((c.getD (((qs.getD k default).afield).toNat) default).n) < 0)) (show _ = (.bool ((decide (((qs.getD k default).aop) = 1)) && (decide (0 < ((qs.getD k default).aarg)))) : Value) from (if_pos hb860)) (fun hbp => (show _ = (.bool (decide (((c.getD (((qs.getD k default).afield).toNat) default).n) < 0)) : Value) from (if_pos ⟨hb860, hbp⟩))) ⟨rfl, rfl⟩
     refine st (ov_pick_or (b := ((!decide ((mayL (d.types.getD q10 default) c ((qs.getD k default).afield) ((qs.getD k default).aop) ((qs.getD k default).aarg)) = 10)) || (decide (((qs.getD k default).aop) = 2))) || (decide (((qs.getD k default).aop) = 4))) (b' := ((decide (((qs.getD k default).aop) = 1)) && (decide (0 < ((qs.getD k default).aarg)))) && (decide (((c.getD (((qs.getD k default).afield).toNat) default).n) < 0))) rfl (fun hbp => (show _ = (.bool (((decide (((qs.getD k default).aop) = 1)) && (decide (0 < ((qs.getD k default).aarg)))) && (decide (((c.getD (((qs.getD k default).afield).toNat) default).n) < 0))) : Value) from (if_pos hbp))) ?_)
     refine st_nil ?_
     cases hc862 : (((!decide ((mayL (d.types.getD q10 default) c ((qs.getD k default).afield) ((qs.getD k default).aop) ((qs.getD k default).aarg)) = 10)) || (decide (((qs.getD k default).aop) = 2))) || (decide (((qs.getD k default).aop) = 4))) || (((decide (((qs.getD k default).aop) = 1)) && (decide (0 < ((qs.getD k default).aarg)))) && (decide (((c.getD (((qs.getD k default).afield).toNat) default).n) < 0)))
     ·skip
      try simp only [bools] at hc862
      refine WP_cond_f rfl ?_
      refine WP_skip ?_
      refine WP_exit ?_
      refine blk_exit ?_
      refine WP_region0 (by kernel_rfl) (fun _ => ?_)
      refine st (ov_move (v := .int .i64 ((k : Nat) : Int)) rfl ?_)
      have hr863 : InR ((k + 1 : Nat) : Int) := by first | omega | (simp only [lens]; omega)
      refine st (ov_add (r := ((k + 1 : Nat) : Int)) (k := .i64) (a := ((k : Nat) : Int)) (b := 1) rfl rfl (by rw [show (((k : Nat) : Int) + 1 : Int) = ((k + 1 : Nat) : Int) by first | omega | (simp only [lens]; omega)]; exact wrap_in hr863) ?_)
      refine st (ov_assign (v := .int .i64 ((k + 1 : Nat) : Int)) rfl ?_)
      refine st_nil ?_
      have hS864 : Sep G W ((RowE (α := Cel) own 42 vc c) :: (Blk b51 ((qs.getD k default).cells).toArray 36) :: (Blk b2 (d.cells dd0 dd1).toArray 25) :: (Blk b20 ((d.types.getD q10 default).cells (cellV W (sb dd0) (so dd0 + q10 * 1 + 0))).toArray 33) :: Rs) w68 := hk799 _ _ hS798
      have hS865 : Sep G W ((RowE (α := Cel) own 42 vc c) :: (Blk b2 (d.cells dd0 dd1).toArray 25) :: (Blk b20 ((d.types.getD q10 default).cells (cellV W (sb dd0) (so dd0 + q10 * 1 + 0))).toArray 33) :: Rs) w68 := hS864.sel 4 [0, 2, 3] (Nat.le_add_left _ _) rfl rfl
      exact ⟨_, by omega, k + 1, vc, c, _, rfl, setAll_self ⟨rfl, rfl, rfl, rfl, rfl, rfl, trivial⟩, by omega, hR, hS865⟩
     ·skip
      try simp only [bools] at hc862
      have hi867 : (qs.getD k default).afield.toNat < c.length := (by first | omega | (simp only [lens]; omega))
      obtain ⟨hce866, hde866_0, hoke866⟩ := hrd800.cel hi867
      rw [← getD_at default hi867] at hce866 hde866_0 hoke866
      have hsm868 : ((c.getD ((qs.getD k default).afield.toNat) default).set).length * 8 ≤ 140737488355328 := hde866_0.small
      have hcw869 := hS798.cells hce866 (hrd800.foot (ne_of_lt hi867))
      exfalso
      have hg9 := guard_why (t := (d.types.getD q10 default)) (c := c) (f := (qs.getD k default).afield) hoke47.aarg (show InR (celAt c (qs.getD k default).afield).n from hoke866.n) (fun hf => hR.floor _ (by omega) hf) hc71
      have hg8 : (celAt c (qs.getD k default).afield).n = (c.getD ((qs.getD k default).afield.toNat) default).n := rfl
      rw [hg8] at hg9
      omega
   ·skip
    have hc59 := ndec_true hc59
    refine WP_cond_t rfl ?_
    refine WP_exit ?_
    refine blk_exit ?_
    refine WP_region0 (by kernel_rfl) (fun _ => ?_)
    refine st (ov_move (v := .int .i64 ((k : Nat) : Int)) rfl ?_)
    have hr870 : InR ((k + 1 : Nat) : Int) := by first | omega | (simp only [lens]; omega)
    refine st (ov_add (r := ((k + 1 : Nat) : Int)) (k := .i64) (a := ((k : Nat) : Int)) (b := 1) rfl rfl (by rw [show (((k : Nat) : Int) + 1 : Int) = ((k + 1 : Nat) : Int) by first | omega | (simp only [lens]; omega)]; exact wrap_in hr870) ?_)
    refine st (ov_assign (v := .int .i64 ((k + 1 : Nat) : Int)) rfl ?_)
    refine st_nil ?_
    have hS871 : Sep G W ((RowE (α := Cel) own 42 vc c) :: (Blk b2 (d.cells dd0 dd1).toArray 25) :: (Blk b20 ((d.types.getD q10 default).cells (cellV W (sb dd0) (so dd0 + q10 * 1 + 0))).toArray 33) :: Rs) w57 := hS58.sel 4 [1, 2, 3] (Nat.le_add_left _ _) rfl rfl
    exact ⟨_, by omega, k + 1, vc, c, _, rfl, setAll_self ⟨rfl, rfl, rfl, rfl, rfl, rfl, trivial⟩, by omega, hR, hS871⟩
 ·skip
  try simp only [bools] at hc9
  refine WP_cond_t rfl ?_
  refine WP_seq ?_
  refine WP_region0 (by kernel_rfl) (fun _ => ?_)
  refine st (ov_call (f := 12) (vals := []) (cap := []) (show _ = (.func (.func 12) #[] #[] : Value) from rfl) rfl Tryd.call12 (D_known  hS8) ?_)
  rintro _ w872 ⟨rfl, hS873⟩
  refine st (ov_assign (v := .bool true) rfl ?_)
  refine st_nil ?_
  refine WP_ret ?_
  refine fin1 Tryd.results3 (show _ = (.bool true : Value) from rfl) ?_
  have hS874 : Sep G W Rs w872 := hS873.sel 1 [] (Nat.le_add_left _ _) rfl rfl
  refine ⟨rfl, hS874⟩

end Go.Proofs.YtlblilbmpdejgaaDoor
