/- Steps of the proofs of this seat: part K2. -/
import Derived.Test.YtlblilbmpdejgaaDoorK1
set_option linter.unusedSimpArgs false
set_option linter.unusedVariables false
set_option maxRecDepth 8000
set_option maxHeartbeats 4000000
namespace Go.Proofs.YtlblilbmpdejgaaDoor
open Go.Proofs Go.RowKit

theorem D_right {G : Nat → Prop} {W w : World} {Rs : List HP} {t : Typ} {dt0 : Value} (hdt0 : RdS W G dt0 t.fields) (ot : t.Ok) {vl : Value} {l : List Cel} (hl : RdS W G vl l) (hS0 : Sep G W Rs w) (hR : Right t l) : Ret Tryd.prog 18 [.agg (t.cells dt0).toArray, vl] w (fun r w' => r = (.bool true : Value) ∧ Sep G W Rs w') := by
 have hdt0s : t.fields.length * 48 ≤ 140737488355328 := hdt0.small
 have hls : l.length * 32 ≤ 140737488355328 := hl.small
 have hRl := hR.len
 refine Calls_of_WP (args := [.agg (t.cells dt0).toArray, vl]) Tryd.func18 rfl rfl ?_
 refine WP_seq ?_
 refine WP_region0 (by kernel_rfl) (fun _ => ?_)
 refine st (ov_box (v := .agg (t.cells dt0).toArray) rfl ?_)
 intro w3 b2 hn1
 have hS4 : Sep G W ((Blk b2 (t.cells dt0).toArray 33) :: Rs) w3 := hS0.new hn1
 refine st (ov_assign (v := .bool false) rfl ?_)
 refine st_nil ?_
 refine WP_seq ?_
 refine WP_seq ?_
 refine WP_region0 (by kernel_rfl) (fun _ => ?_)
 refine st (ov_move (v := vl) rfl ?_)
 refine st (ov_len (n := l.length) Tryd.underlying26 rfl hl.sl ?_)
 refine st (fd33_0 rfl ?_)
 refine st (ov_load1 (v := dt0) Tryd.isAgg31 rfl (blk_cellL (hS4.blk (i := 0) rfl) rfl) ?_)
 refine st (ov_len (n := t.fields.length) Tryd.underlying31 rfl hdt0.sl ?_)
 refine st (ov_neq (k := .i64) (a := ((l.length : Nat) : Int)) (b := ((t.fields.length : Nat) : Int)) rfl rfl ?_)
 refine st_nil ?_
 cases hc5 : !decide (((l.length : Nat) : Int) = ((t.fields.length : Nat) : Int))
 ·skip
  have hc5 := ndec_false hc5
  refine WP_cond_f rfl ?_
  refine WP_skip ?_
  refine WP_seq ?_
  refine WP_seq ?_
  refine WP_region0 (by kernel_rfl) (fun _ => ?_)
  refine st (ov_assign (v := .int .i64 (0)) rfl ?_)
  refine st_nil ?_
  refine WP_block ?_
  refine WP_loop (fun mq σ wq => ∃ (k : Nat) (ρ : Env), mq = l.length - k ∧ σ = setAll ρ [(1, vl), (2, .pointer (some ⟨b2, 0, none⟩)), (5, .int .i64 ((k : Nat) : Int))] ∧ (k ≤ l.length) ∧ Sep G W ((Blk b2 (t.cells dt0).toArray 33) :: Rs) wq) ⟨0, _, rfl, setAll_self ⟨rfl, rfl, rfl, trivial⟩, Nat.zero_le _, hS4⟩ ?_
  rintro m7 σ8 w6 ⟨k, ρl1, rfl, rfl, hkk, hS9⟩
  refine WP_seq ?_
  refine WP_seq ?_
  refine WP_region0 (by kernel_rfl) (fun _ => ?_)
  refine st (ov_move (v := .int .i64 ((k : Nat) : Int)) rfl ?_)
  refine st (ov_move (v := vl) rfl ?_)
  refine st (ov_len (n := l.length) Tryd.underlying26 rfl hl.sl ?_)
  refine st (ov_lss (k := .i64) (a := ((k : Nat) : Int)) (b := ((l.length : Nat) : Int)) rfl rfl ?_)
  refine st_nil ?_
  cases hc10 : decide (((k : Nat) : Int) < ((l.length : Nat) : Int))
  ·skip
   have hc10 := of_decide_eq_false hc10
   refine WP_cond_f rfl ?_
   refine WP_exit ?_
   refine blk_exit ?_
   refine WP_seq ?_
   refine WP_region0 (by kernel_rfl) (fun _ => ?_)
   refine st (ov_assign (v := .bool true) rfl ?_)
   refine st_nil ?_
   refine WP_ret ?_
   refine fin1 Tryd.results18 (show _ = (.bool true : Value) from rfl) ?_
   have hS11 : Sep G W Rs w6 := hS9.sel 1 [] (Nat.le_add_left _ _) rfl rfl
   refine ⟨rfl, hS11⟩
  ·skip
   have hc10 := of_decide_eq_true hc10
   refine WP_cond_t rfl ?_
   refine WP_skip ?_
   refine WP_seq ?_
   refine WP_block ?_
   refine WP_seq ?_
   refine WP_region0 (by kernel_rfl) (fun _ => ?_)
   refine st (fd33_0 rfl ?_)
   refine st (ov_load1 (v := dt0) Tryd.isAgg31 rfl (blk_cellL (hS9.blk (i := 0) rfl) rfl) ?_)
   refine st (ov_move (v := .int .i64 ((k : Nat) : Int)) rfl ?_)
   have hi12 : k < t.fields.length := (by first | omega | (simp only [lens]; omega))
   refine st (ov_indexAddrN (k := 4) (i := k) Tryd.underlying31 Tryd.sizeOf79 rfl hdt0.sl rfl hi12 ?_)
   have hi14 : k < t.fields.length := (by first | omega | (simp only [lens]; omega))
   obtain ⟨hce13, hde13_0, hoke13⟩ := hdt0.fld hi14
   rw [← getD_at default hi14] at hce13 hde13_0 hoke13
   have hsm15 : ((t.fields.getD k default).moves).length * 32 ≤ 140737488355328 := hde13_0.small
   have hcw16 := hS9.cells hce13 (hdt0.foot (ne_of_lt hi14))
   refine st (ov_loadk (k := 4) Tryd.isAgg79 Tryd.sizeOf79 rfl rfl hcw16 ?_)
   refine st (ov_alloc Tryd.zeroValue79 ?_)
   intro w19 b18 hn17
   have hS20 : Sep G W ((Blk b18 #[.int .i64 (0), .int .i64 (0), .bool false, (.slice none 0 0)] 79) :: (Blk b2 (t.cells dt0).toArray 33) :: Rs) w19 := hS9.new hn17
   refine stn (ov_store (v := .agg ((t.fields.getD k default).cells (cellV W (sb dt0) (so dt0 + k * 4 + 3))).toArray) (c' := ((t.fields.getD k default).cells (cellV W (sb dt0) (so dt0 + k * 4 + 3))).toArray) Tryd.sizeOf79 rfl rfl (hS20.blk (i := 0) rfl) (all1 ⟨rfl, rfl, rfl, hde13_0.sl.one, trivial⟩) (Nat.le_of_ble_eq_true rfl) rfl ?_)
   intro w21 hp22
   have hS23 : Sep G W ((Blk b18 ((t.fields.getD k default).cells (cellV W (sb dt0) (so dt0 + k * 4 + 3))).toArray 79) :: (Blk b2 (t.cells dt0).toArray 33) :: Rs) w21 := hS20.put (i := 0) rfl hp22
   refine st_nil ?_
   refine WP_seq ?_
   refine WP_seq ?_
   refine WP_region (by kernel_rfl) ?_
   refine st (fd79_0 rfl ?_)
   refine st (ov_load1 (v := .int .i64 ((t.fields.getD k default).kind)) Tryd.isAgg3 rfl (blk_cellL (hS23.blk (i := 0) rfl) rfl) ?_)
   refine st (ov_eql (k := .i64) (a := (t.fields.getD k default).kind) (b := 3) rfl rfl ?_)
   refine st (ov_move (v := .bool (decide (((t.fields.getD k default).kind) = 3))) rfl ?_)
   refine stc (V := vl) rfl rfl (fun hb24 => ?_) ?_
   ·have hl25 := hb24
    have hl25 := of_decide_eq_true hl25
    exact ov_move (v := vl) rfl ⟨rfl, rfl⟩
   refine stc (V := .int .i64 ((k : Nat) : Int)) rfl rfl (fun hb26 => ?_) ?_
   ·have hl27 := hb26
    have hl27 := of_decide_eq_true hl27
    exact ov_move (v := .int .i64 ((k : Nat) : Int)) rfl ⟨rfl, rfl⟩
   refine stc (V := .pointer (some ⟨sb vl, so vl + k * 2, none⟩)) rfl rfl (fun hb28 => ?_) ?_
   ·have hl29 := hb28
    have hl29 := of_decide_eq_true hl29
    have hi30 : k < l.length := (by first | omega | (simp only [lens]; omega))
    exact ov_indexAddrN (k := 2) (i := k) Tryd.underlying26 Tryd.sizeOf42 (show _ = (vl : Value) from (if_pos hb28)) hl.sl (show _ = (.int .i64 ((k : Nat) : Int) : Value) from (if_pos hb28)) hi30 ⟨rfl, rfl⟩
   refine stc (V := .pointer (some ⟨sb vl, so vl + k * 2, none⟩)) rfl rfl (fun hb31 => ?_) ?_
   ·have hl32 := hb31
    have hl32 := of_decide_eq_true hl32
    exact fd42_0 (show _ = (.pointer (some ⟨sb vl, so vl + k * 2, none⟩) : Value) from (if_pos hb31)) ⟨rfl, rfl⟩
   refine stc (V := .int .i64 ((l.getD k default).n)) rfl rfl (fun hb33 => ?_) ?_
   ·have hl34 := hb33
    have hl34 := of_decide_eq_true hl34
    have hi36 : k < l.length := (by first | omega | (simp only [lens]; omega))
    obtain ⟨hce35, hde35_0, hoke35⟩ := hl.cel hi36
    rw [← getD_at default hi36] at hce35 hde35_0 hoke35
    have hsm37 : ((l.getD k default).set).length * 8 ≤ 140737488355328 := hde35_0.small
    have hcw38 := hS23.cells hce35 (hl.foot (ne_of_lt hi36))
    exact ov_load1 (v := .int .i64 ((l.getD k default).n)) Tryd.isAgg3 (show _ = (.pointer (some ⟨sb vl, so vl + k * 2, none⟩) : Value) from (if_pos hb33)) (hcw38.get (j := 0) rfl) ⟨rfl, rfl⟩
   refine stc (V := .bool (!decide (((l.getD k default).n) = 0))) rfl rfl (fun hb39 => ?_) ?_
   ·have hl40 := hb39
    have hl40 := of_decide_eq_true hl40
    exact ov_neq (k := .i64) (a := (l.getD k default).n) (b := 0) (show _ = (.int .i64 ((l.getD k default).n) : Value) from (if_pos hb39)) rfl ⟨rfl, rfl⟩
   refine st (ov_pick_and (b := decide (((t.fields.getD k default).kind) = 3)) (b' := !decide (((l.getD k default).n) = 0)) rfl (fun hbp => (show _ = (.bool (!decide (((l.getD k default).n) = 0)) : Value) from (if_pos hbp))) ?_)
   refine st (ov_move (v := .bool ((decide (((t.fields.getD k default).kind) = 3)) && (!decide (((l.getD k default).n) = 0)))) rfl ?_)
   refine stc (V := .pointer (some ⟨b18, 0, none⟩)) rfl rfl (fun hb41 => ?_) ?_
   ·have hl42 := hb41
    try simp only [bools] at hl42
    exact fd79_0 rfl ⟨rfl, rfl⟩
   refine stc (V := .int .i64 ((t.fields.getD k default).kind)) rfl rfl (fun hb43 => ?_) ?_
   ·have hl44 := hb43
    try simp only [bools] at hl44
    exact ov_load1 (v := .int .i64 ((t.fields.getD k default).kind)) Tryd.isAgg3 (show _ = (.pointer (some ⟨b18, 0, none⟩) : Value) from (if_pos hb43)) (blk_cellL (hS23.blk (i := 0) rfl) rfl) ⟨rfl, rfl⟩
   refine stc (V := .bool (!decide (((t.fields.getD k default).kind) = 3))) rfl rfl (fun hb45 => ?_) ?_
   ·have hl46 := hb45
    try simp only [bools] at hl46
    exact ov_neq (k := .i64) (a := (t.fields.getD k default).kind) (b := 3) (show _ = (.int .i64 ((t.fields.getD k default).kind) : Value) from (if_pos hb45)) rfl ⟨rfl, rfl⟩
   refine stc (V := .bool (!decide (((t.fields.getD k default).kind) = 3))) rfl rfl (fun hb47 => ?_) ?_
   ·have hl48 := hb47
    try simp only [bools] at hl48
    exact ov_move (v := .bool (!decide (((t.fields.getD k default).kind) = 3))) (show _ = (.bool (!decide (((t.fields.getD k default).kind) = 3)) : Value) from (if_pos hb47)) ⟨rfl, rfl⟩
   refine stcP (V := vl) rfl rfl (fun hb49 => ?_) ?_
   ·have hl50 := hb49.1
    try simp only [bools] at hl50
    have hl51 := hb49.2
    have hl51 := ndec_true hl51
    exact ov_move (v := vl) rfl ⟨rfl, rfl⟩
   refine stcP (V := .int .i64 ((k : Nat) : Int)) rfl rfl (fun hb52 => ?_) ?_
   ·have hl53 := hb52.1
    try simp only [bools] at hl53
    have hl54 := hb52.2
    have hl54 := ndec_true hl54
    exact ov_move (v := .int .i64 ((k : Nat) : Int)) rfl ⟨rfl, rfl⟩
   refine stcP (V := .pointer (some ⟨sb vl, so vl + k * 2, none⟩)) rfl rfl (fun hb55 => ?_) ?_
   ·have hl56 := hb55.1
    try simp only [bools] at hl56
    have hl57 := hb55.2
    have hl57 := ndec_true hl57
    have hi58 : k < l.length := (by first | omega | (simp only [lens]; omega))
    exact ov_indexAddrN (k := 2) (i := k) Tryd.underlying26 Tryd.sizeOf42 (show _ = (vl : Value) from (if_pos ⟨hb55.1, hb55.2⟩)) hl.sl (show _ = (.int .i64 ((k : Nat) : Int) : Value) from (if_pos ⟨hb55.1, hb55.2⟩)) hi58 ⟨rfl, rfl⟩
   refine stcP (V := .pointer (some ⟨sb vl, so vl + k * 2 + 1, none⟩)) rfl rfl (fun hb59 => ?_) ?_
   ·have hl60 := hb59.1
    try simp only [bools] at hl60
    have hl61 := hb59.2
    have hl61 := ndec_true hl61
    exact fd42_1 (show _ = (.pointer (some ⟨sb vl, so vl + k * 2, none⟩) : Value) from (if_pos ⟨hb59.1, hb59.2⟩)) ⟨rfl, rfl⟩
   refine stcP (V := (cellV W (sb vl) (so vl + k * 2 + 1))) rfl rfl (fun hb62 => ?_) ?_
   ·have hl63 := hb62.1
    try simp only [bools] at hl63
    have hl64 := hb62.2
    have hl64 := ndec_true hl64
    have hi66 : k < l.length := (by first | omega | (simp only [lens]; omega))
    obtain ⟨hce65, hde65_0, hoke65⟩ := hl.cel hi66
    rw [← getD_at default hi66] at hce65 hde65_0 hoke65
    have hsm67 : ((l.getD k default).set).length * 8 ≤ 140737488355328 := hde65_0.small
    have hcw68 := hS23.cells hce65 (hl.foot (ne_of_lt hi66))
    exact ov_load1 (v := (cellV W (sb vl) (so vl + k * 2 + 1))) Tryd.isAgg40 (show _ = (.pointer (some ⟨sb vl, so vl + k * 2 + 1, none⟩) : Value) from (if_pos ⟨hb62.1, hb62.2⟩)) (hcw68.get (j := 1) rfl) ⟨rfl, rfl⟩
   refine stcP (V := .int .i64 ((((l.getD k default).set).length : Nat) : Int)) rfl rfl (fun hb69 => ?_) ?_
   ·have hl70 := hb69.1
    try simp only [bools] at hl70
    have hl71 := hb69.2
    have hl71 := ndec_true hl71
    have hi73 : k < l.length := (by first | omega | (simp only [lens]; omega))
    obtain ⟨hce72, hde72_0, hoke72⟩ := hl.cel hi73
    rw [← getD_at default hi73] at hce72 hde72_0 hoke72
    have hsm74 : ((l.getD k default).set).length * 8 ≤ 140737488355328 := hde72_0.small
    have hcw75 := hS23.cells hce72 (hl.foot (ne_of_lt hi73))
    exact ov_len (n := ((l.getD k default).set).length) Tryd.underlying40 (show _ = ((cellV W (sb vl) (so vl + k * 2 + 1)) : Value) from (if_pos ⟨hb69.1, hb69.2⟩)) hde72_0.sl ⟨rfl, rfl⟩
   refine stcP (V := .bool (decide (0 < ((((l.getD k default).set).length : Nat) : Int)))) rfl rfl (fun hb76 => ?_) ?_
   ·have hl77 := hb76.1
    try simp only [bools] at hl77
    have hl78 := hb76.2
    have hl78 := ndec_true hl78
    exact ov_gtr (k := .i64) (a := ((((l.getD k default).set).length : Nat) : Int)) (b := 0) (show _ = (.int .i64 ((((l.getD k default).set).length : Nat) : Int) : Value) from (if_pos ⟨hb76.1, hb76.2⟩)) rfl ⟨rfl, rfl⟩
   refine stc (V := .bool ((!decide (((t.fields.getD k default).kind) = 3)) && (decide (0 < ((((l.getD k default).set).length : Nat) : Int))))) rfl rfl (fun hb79 => ?_) ?_
   ·have hl80 := hb79
    try simp only [bools] at hl80
    exact ov_pick_and (b := !decide (((t.fields.getD k default).kind) = 3)) (b' := decide (0 < ((((l.getD k default).set).length : Nat) : Int))) (show _ = (.bool (!decide (((t.fields.getD k default).kind) = 3)) : Value) from (if_pos hb79)) (fun hbp => (show _ = (.bool (decide (0 < ((((l.getD k default).set).length : Nat) : Int))) : Value) from (if_pos ⟨hb79, hbp⟩))) ⟨rfl, rfl⟩
   refine st (ov_pick_or (b := (decide (((t.fields.getD k default).kind) = 3)) && (!decide (((l.getD k default).n) = 0))) (b' := (!decide (((t.fields.getD k default).kind) = 3)) && (decide (0 < ((((l.getD k default).set).length : Nat) : Int)))) rfl (fun hbp => (show _ = (.bool ((!decide (((t.fields.getD k default).kind) = 3)) && (decide (0 < ((((l.getD k default).set).length : Nat) : Int)))) : Value) from (if_pos hbp))) ?_)
   refine st (ov_move (v := .bool (((decide (((t.fields.getD k default).kind) = 3)) && (!decide (((l.getD k default).n) = 0))) || ((!decide (((t.fields.getD k default).kind) = 3)) && (decide (0 < ((((l.getD k default).set).length : Nat) : Int)))))) rfl ?_)
   refine stc (V := .pointer (some ⟨b18, 2, none⟩)) rfl rfl (fun hb81 => ?_) ?_
   ·have hl82 := hb81
    try simp only [bools] at hl82
    exact fd79_2 rfl ⟨rfl, rfl⟩
   refine stc (V := .bool ((t.fields.getD k default).floor)) rfl rfl (fun hb83 => ?_) ?_
   ·have hl84 := hb83
    try simp only [bools] at hl84
    exact ov_load1 (v := .bool ((t.fields.getD k default).floor)) Tryd.isAgg4 (show _ = (.pointer (some ⟨b18, 2, none⟩) : Value) from (if_pos hb83)) (blk_cellL (hS23.blk (i := 0) rfl) rfl) ⟨rfl, rfl⟩
   refine stc (V := .bool ((t.fields.getD k default).floor)) rfl rfl (fun hb85 => ?_) ?_
   ·have hl86 := hb85
    try simp only [bools] at hl86
    exact ov_move (v := .bool ((t.fields.getD k default).floor)) (show _ = (.bool ((t.fields.getD k default).floor) : Value) from (if_pos hb85)) ⟨rfl, rfl⟩
   refine stcP (V := vl) rfl rfl (fun hb87 => ?_) ?_
   ·have hl88 := hb87.1
    try simp only [bools] at hl88
    have hl89 := hb87.2
    exact ov_move (v := vl) rfl ⟨rfl, rfl⟩
   refine stcP (V := .int .i64 ((k : Nat) : Int)) rfl rfl (fun hb90 => ?_) ?_
   ·have hl91 := hb90.1
    try simp only [bools] at hl91
    have hl92 := hb90.2
    exact ov_move (v := .int .i64 ((k : Nat) : Int)) rfl ⟨rfl, rfl⟩
   refine stcP (V := .pointer (some ⟨sb vl, so vl + k * 2, none⟩)) rfl rfl (fun hb93 => ?_) ?_
   ·have hl94 := hb93.1
    try simp only [bools] at hl94
    have hl95 := hb93.2
    have hi96 : k < l.length := (by first | omega | (simp only [lens]; omega))
    exact ov_indexAddrN (k := 2) (i := k) Tryd.underlying26 Tryd.sizeOf42 (show _ = (vl : Value) from (if_pos ⟨hb93.1, hb93.2⟩)) hl.sl (show _ = (.int .i64 ((k : Nat) : Int) : Value) from (if_pos ⟨hb93.1, hb93.2⟩)) hi96 ⟨rfl, rfl⟩
   refine stcP (V := .pointer (some ⟨sb vl, so vl + k * 2, none⟩)) rfl rfl (fun hb97 => ?_) ?_
   ·have hl98 := hb97.1
    try simp only [bools] at hl98
    have hl99 := hb97.2
    exact fd42_0 (show _ = (.pointer (some ⟨sb vl, so vl + k * 2, none⟩) : Value) from (if_pos ⟨hb97.1, hb97.2⟩)) ⟨rfl, rfl⟩
   refine stcP (V := .int .i64 ((l.getD k default).n)) rfl rfl (fun hb100 => ?_) ?_
   ·have hl101 := hb100.1
    try simp only [bools] at hl101
    have hl102 := hb100.2
    have hi104 : k < l.length := (by first | omega | (simp only [lens]; omega))
    obtain ⟨hce103, hde103_0, hoke103⟩ := hl.cel hi104
    rw [← getD_at default hi104] at hce103 hde103_0 hoke103
    have hsm105 : ((l.getD k default).set).length * 8 ≤ 140737488355328 := hde103_0.small
    have hcw106 := hS23.cells hce103 (hl.foot (ne_of_lt hi104))
    exact ov_load1 (v := .int .i64 ((l.getD k default).n)) Tryd.isAgg3 (show _ = (.pointer (some ⟨sb vl, so vl + k * 2, none⟩) : Value) from (if_pos ⟨hb100.1, hb100.2⟩)) (hcw106.get (j := 0) rfl) ⟨rfl, rfl⟩
   refine stcP (V := .bool (decide (((l.getD k default).n) < 0))) rfl rfl (fun hb107 => ?_) ?_
   ·have hl108 := hb107.1
    try simp only [bools] at hl108
    have hl109 := hb107.2
    exact ov_lss (k := .i64) (a := (l.getD k default).n) (b := 0) (show _ = (.int .i64 ((l.getD k default).n) : Value) from (if_pos ⟨hb107.1, hb107.2⟩)) rfl ⟨rfl, rfl⟩
   refine stc (V := .bool (((t.fields.getD k default).floor) && (decide (((l.getD k default).n) < 0)))) rfl rfl (fun hb110 => ?_) ?_
   ·have hl111 := hb110
    try simp only [bools] at hl111
    exact ov_pick_and (b := (t.fields.getD k default).floor) (b' := decide (((l.getD k default).n) < 0)) (show _ = (.bool ((t.fields.getD k default).floor) : Value) from (if_pos hb110)) (fun hbp => (show _ = (.bool (decide (((l.getD k default).n) < 0)) : Value) from (if_pos ⟨hb110, hbp⟩))) ⟨rfl, rfl⟩
   refine st (ov_pick_or (b := ((decide (((t.fields.getD k default).kind) = 3)) && (!decide (((l.getD k default).n) = 0))) || ((!decide (((t.fields.getD k default).kind) = 3)) && (decide (0 < ((((l.getD k default).set).length : Nat) : Int))))) (b' := ((t.fields.getD k default).floor) && (decide (((l.getD k default).n) < 0))) rfl (fun hbp => (show _ = (.bool (((t.fields.getD k default).floor) && (decide (((l.getD k default).n) < 0))) : Value) from (if_pos hbp))) ?_)
   refine st (ov_move (v := .bool ((((decide (((t.fields.getD k default).kind) = 3)) && (!decide (((l.getD k default).n) = 0))) || ((!decide (((t.fields.getD k default).kind) = 3)) && (decide (0 < ((((l.getD k default).set).length : Nat) : Int))))) || (((t.fields.getD k default).floor) && (decide (((l.getD k default).n) < 0))))) rfl ?_)
   refine stc (V := vl) rfl rfl (fun hb112 => ?_) ?_
   ·have hl113 := hb112
    try simp only [bools] at hl113
    exact ov_move (v := vl) rfl ⟨rfl, rfl⟩
   refine stc (V := .int .i64 ((k : Nat) : Int)) rfl rfl (fun hb114 => ?_) ?_
   ·have hl115 := hb114
    try simp only [bools] at hl115
    exact ov_move (v := .int .i64 ((k : Nat) : Int)) rfl ⟨rfl, rfl⟩
   refine stc (V := .pointer (some ⟨sb vl, so vl + k * 2, none⟩)) rfl rfl (fun hb116 => ?_) ?_
   ·have hl117 := hb116
    try simp only [bools] at hl117
    have hi118 : k < l.length := (by first | omega | (simp only [lens]; omega))
    exact ov_indexAddrN (k := 2) (i := k) Tryd.underlying26 Tryd.sizeOf42 (show _ = (vl : Value) from (if_pos hb116)) hl.sl (show _ = (.int .i64 ((k : Nat) : Int) : Value) from (if_pos hb116)) hi118 ⟨rfl, rfl⟩
   refine stc (V := .pointer (some ⟨sb vl, so vl + k * 2 + 1, none⟩)) rfl rfl (fun hb119 => ?_) ?_
   ·have hl120 := hb119
    try simp only [bools] at hl120
    exact fd42_1 (show _ = (.pointer (some ⟨sb vl, so vl + k * 2, none⟩) : Value) from (if_pos hb119)) ⟨rfl, rfl⟩
   refine stc (V := (cellV W (sb vl) (so vl + k * 2 + 1))) rfl rfl (fun hb121 => ?_) ?_
   ·have hl122 := hb121
    try simp only [bools] at hl122
    have hi124 : k < l.length := (by first | omega | (simp only [lens]; omega))
    obtain ⟨hce123, hde123_0, hoke123⟩ := hl.cel hi124
    rw [← getD_at default hi124] at hce123 hde123_0 hoke123
    have hsm125 : ((l.getD k default).set).length * 8 ≤ 140737488355328 := hde123_0.small
    have hcw126 := hS23.cells hce123 (hl.foot (ne_of_lt hi124))
    exact ov_load1 (v := (cellV W (sb vl) (so vl + k * 2 + 1))) Tryd.isAgg40 (show _ = (.pointer (some ⟨sb vl, so vl + k * 2 + 1, none⟩) : Value) from (if_pos hb121)) (hcw126.get (j := 1) rfl) ⟨rfl, rfl⟩
   refine stc (V := .int .i64 ((((l.getD k default).set).length : Nat) : Int)) rfl rfl (fun hb127 => ?_) ?_
   ·have hl128 := hb127
    try simp only [bools] at hl128
    have hi130 : k < l.length := (by first | omega | (simp only [lens]; omega))
    obtain ⟨hce129, hde129_0, hoke129⟩ := hl.cel hi130
    rw [← getD_at default hi130] at hce129 hde129_0 hoke129
    have hsm131 : ((l.getD k default).set).length * 8 ≤ 140737488355328 := hde129_0.small
    have hcw132 := hS23.cells hce129 (hl.foot (ne_of_lt hi130))
    exact ov_len (n := ((l.getD k default).set).length) Tryd.underlying40 (show _ = ((cellV W (sb vl) (so vl + k * 2 + 1)) : Value) from (if_pos hb127)) hde129_0.sl ⟨rfl, rfl⟩
   refine stc (V := .bool (decide (64 < ((((l.getD k default).set).length : Nat) : Int)))) rfl rfl (fun hb133 => ?_) ?_
   ·have hl134 := hb133
    try simp only [bools] at hl134
    exact ov_gtr (k := .i64) (a := ((((l.getD k default).set).length : Nat) : Int)) (b := 64) (show _ = (.int .i64 ((((l.getD k default).set).length : Nat) : Int) : Value) from (if_pos hb133)) rfl ⟨rfl, rfl⟩
   refine st (ov_pick_or (b := (((decide (((t.fields.getD k default).kind) = 3)) && (!decide (((l.getD k default).n) = 0))) || ((!decide (((t.fields.getD k default).kind) = 3)) && (decide (0 < ((((l.getD k default).set).length : Nat) : Int))))) || (((t.fields.getD k default).floor) && (decide (((l.getD k default).n) < 0)))) (b' := decide (64 < ((((l.getD k default).set).length : Nat) : Int))) rfl (fun hbp => (show _ = (.bool (decide (64 < ((((l.getD k default).set).length : Nat) : Int))) : Value) from (if_pos hbp))) ?_)
   refine st_nil ?_
   cases hc135 : ((((decide (((t.fields.getD k default).kind) = 3)) && (!decide (((l.getD k default).n) = 0))) || ((!decide (((t.fields.getD k default).kind) = 3)) && (decide (0 < ((((l.getD k default).set).length : Nat) : Int))))) || (((t.fields.getD k default).floor) && (decide (((l.getD k default).n) < 0)))) || (decide (64 < ((((l.getD k default).set).length : Nat) : Int)))
   ·skip
    try simp only [bools] at hc135
    refine WP_cond_f rfl ?_
    refine WP_skip ?_
    refine WP_seq ?_
    refine WP_region0 (by kernel_rfl) (fun _ => ?_)
    refine st (ov_assign (v := .int .i64 (1)) rfl ?_)
    refine st_nil ?_
    refine WP_block ?_
    refine WP_loop (fun mq σ wq => ∃ (j : Nat) (ρ : Env), mq = (l.getD k default).set.length + 1 - j ∧ σ = setAll ρ [(1, vl), (2, .pointer (some ⟨b2, 0, none⟩)), (5, .int .i64 ((k : Nat) : Int)), (7, .int .i64 ((j : Nat) : Int))] ∧ (1 ≤ j) ∧ Sep G W ((Blk b18 ((t.fields.getD k default).cells (cellV W (sb dt0) (so dt0 + k * 4 + 3))).toArray 79) :: (Blk b2 (t.cells dt0).toArray 33) :: Rs) wq) ⟨1, _, rfl, setAll_self ⟨rfl, rfl, rfl, rfl, trivial⟩, Nat.le_refl 1, hS23⟩ ?_
    rintro m137 σ138 w136 ⟨j, ρl2, rfl, rfl, hj, hS139⟩
    refine WP_seq ?_
    refine WP_seq ?_
    refine WP_region0 (by kernel_rfl) (fun _ => ?_)
    refine st (ov_move (v := .int .i64 ((j : Nat) : Int)) rfl ?_)
    refine st (ov_move (v := vl) rfl ?_)
    refine st (ov_move (v := .int .i64 ((k : Nat) : Int)) rfl ?_)
    have hi140 : k < l.length := (by first | omega | (simp only [lens]; omega))
    refine st (ov_indexAddrN (k := 2) (i := k) Tryd.underlying26 Tryd.sizeOf42 rfl hl.sl rfl hi140 ?_)
    refine st (fd42_1 rfl ?_)
    have hi142 : k < l.length := (by first | omega | (simp only [lens]; omega))
    obtain ⟨hce141, hde141_0, hoke141⟩ := hl.cel hi142
    rw [← getD_at default hi142] at hce141 hde141_0 hoke141
    have hsm143 : ((l.getD k default).set).length * 8 ≤ 140737488355328 := hde141_0.small
    have hcw144 := hS139.cells hce141 (hl.foot (ne_of_lt hi142))
    refine st (ov_load1 (v := (cellV W (sb vl) (so vl + k * 2 + 1))) Tryd.isAgg40 rfl (hcw144.get (j := 1) rfl) ?_)
    refine st (ov_len (n := ((l.getD k default).set).length) Tryd.underlying40 rfl hde141_0.sl ?_)
    refine st (ov_lss (k := .i64) (a := ((j : Nat) : Int)) (b := ((((l.getD k default).set).length : Nat) : Int)) rfl rfl ?_)
    refine st_nil ?_
    cases hc145 : decide (((j : Nat) : Int) < ((((l.getD k default).set).length : Nat) : Int))
    ·skip
     have hc145 := of_decide_eq_false hc145
     refine WP_cond_f rfl ?_
     refine WP_exit ?_
     refine blk_exit ?_
     refine WP_region0 (by kernel_rfl) (fun _ => ?_)
     refine st (ov_move (v := .int .i64 ((k : Nat) : Int)) rfl ?_)
     have hr146 : InR ((k + 1 : Nat) : Int) := by first | omega | (simp only [lens]; omega)
     refine st (ov_add (r := ((k + 1 : Nat) : Int)) (k := .i64) (a := ((k : Nat) : Int)) (b := 1) rfl rfl (by rw [show (((k : Nat) : Int) + 1 : Int) = ((k + 1 : Nat) : Int) by first | omega | (simp only [lens]; omega)]; exact wrap_in hr146) ?_)
     refine st (ov_assign (v := .int .i64 ((k + 1 : Nat) : Int)) rfl ?_)
     refine st_nil ?_
     have hS147 : Sep G W ((Blk b2 (t.cells dt0).toArray 33) :: Rs) w136 := hS139.sel 2 [1] (Nat.le_add_left _ _) rfl rfl
     exact ⟨_, by omega, k + 1, _, rfl, setAll_self ⟨rfl, rfl, rfl, trivial⟩, by omega, hS147⟩
    ·skip
     have hc145 := of_decide_eq_true hc145
     refine WP_cond_t rfl ?_
     refine WP_skip ?_
     refine WP_seq ?_
     refine WP_block ?_
     refine WP_seq ?_
     refine WP_draw4 (WF [fun vals wq => Sep G W ((Blk b18 ((t.fields.getD k default).cells (cellV W (sb dt0) (so dt0 + k * 4 + 3))).toArray 79) :: (Blk b2 (t.cells dt0).toArray 33) :: Rs) wq]) (AF [Vl 0 (vl), Vl 1 (.int .i64 ((k : Nat) : Int)), Vl 2 (.pointer (some ⟨sb vl, so vl + k * 2, none⟩)), Vl 3 (.pointer (some ⟨sb vl, so vl + k * 2 + 1, none⟩)), Vl 4 ((cellV W (sb vl) (so vl + k * 2 + 1))), Vl 5 (.int .i64 ((j : Nat) : Int)), Vl 6 (.int .i64 ((j - 1 : Nat) : Int)), Vl 7 (.pointer (some ⟨sb (cellV W (sb vl) (so vl + k * 2 + 1)), so (cellV W (sb vl) (so vl + k * 2 + 1)) + (j - 1) * 1, none⟩)), Vl 8 (.int .i64 ((((l.getD k default).set).getD (j - 1) 0))), Vl 9 (vl), Vl 10 (.int .i64 ((k : Nat) : Int)), Vl 11 (.pointer (some ⟨sb vl, so vl + k * 2, none⟩)), Vl 12 (.pointer (some ⟨sb vl, so vl + k * 2 + 1, none⟩)), Vl 13 ((cellV W (sb vl) (so vl + k * 2 + 1))), Vl 14 (.int .i64 ((j : Nat) : Int)), Vl 15 (.pointer (some ⟨sb (cellV W (sb vl) (so vl + k * 2 + 1)), so (cellV W (sb vl) (so vl + k * 2 + 1)) + j * 1, none⟩)), Vl 16 (.int .i64 ((((l.getD k default).set).getD j 0))), Vl 17 (.bool (decide ((((l.getD k default).set).getD j 0) ≤ (((l.getD k default).set).getD (j - 1) 0))))]) [[], [], [0, 1], [0, 1, 2], [0, 1, 2, 3], [], [5], [0, 1, 2, 3, 4, 5, 6], [0, 1, 2, 3, 4, 5, 6, 7], [], [], [9, 10], [9, 10, 11], [9, 10, 11, 12], [], [9, 10, 11, 12, 13, 14], [9, 10, 11, 12, 13, 14, 15], [0, 1, 2, 3, 4, 5, 6, 7, 8, 9, 10, 11, 12, 13, 14, 15, 16]] [] [(0, 0), (0, 0), (0, 0), (0, 0), (0, 0), (0, 0), (0, 0), (0, 0), (0, 0), (0, 0), (0, 0), (0, 0), (0, 0), (0, 0), (0, 0), (0, 0), (0, 0), (0, 0)] (by kernel_rfl) (by kernel_rfl) (by kernel_rfl) rfl (by kernel_rfl) (by kernel_rfl) (fun _ h1 h2 h3 h4 _ => hS139.same h1 h2 h3 h4) ?_ (AF_loc ⟨dA, dA, dA, dA, dA, dA, dA, dA, dA, dA, dA, dA, dA, dA, dA, dA, dA, dA, trivial⟩) ⟨?_, ?_, ?_, ?_, ?_, ?_, ?_, ?_, ?_, ?_, ?_, ?_, ?_, ?_, ?_, ?_, ?_, ?_, trivial⟩ ?_
     ·intro k vals vals' w hv h
      match k, h with
      | 0, h => exact h
      | _ + 1, _ => trivial
     ·intro k298 vals w299 h302 h303 hW301 hA300
      refine obl rfl ?_
      exact ov_move (v := vl) rfl (fun vals' hv _ => ⟨rfl, hv⟩)
     ·intro k304 vals w305 h308 h309 hW307 hA306
      refine obl rfl ?_
      exact ov_move (v := .int .i64 ((k : Nat) : Int)) rfl (fun vals' hv _ => ⟨rfl, hv⟩)
     ·intro k310 vals w311 h314 h315 hW313 hA312
      obtain rfl : k310 = 0 := Nat.le_antisymm h315 h314
      have hS316 : Sep G W ((Blk b18 ((t.fields.getD k default).cells (cellV W (sb dt0) (so dt0 + k * 4 + 3))).toArray 79) :: (Blk b2 (t.cells dt0).toArray 33) :: Rs) w311 := hW313
      have e317 : vals 0 = (vl : Value) := hA312 0 (by decide)
      have e318 : vals 1 = (.int .i64 ((k : Nat) : Int) : Value) := hA312 1 (by decide)
      refine obl rfl ?_
      have hi319 : k < l.length := (by first | omega | (simp only [lens]; omega))
      exact ov_indexAddrN (k := 2) (i := k) Tryd.underlying26 Tryd.sizeOf42 e317 hl.sl e318 hi319 (fun vals' hv _ => ⟨rfl, hv⟩)
     ·intro k320 vals w321 h324 h325 hW323 hA322
      have e326 : vals 2 = (.pointer (some ⟨sb vl, so vl + k * 2, none⟩) : Value) := hA322 2 (by decide)
      refine obl rfl ?_
      exact fd42_1 e326 (fun vals' hv _ => ⟨rfl, hv⟩)
     ·intro k327 vals w328 h331 h332 hW330 hA329
      obtain rfl : k327 = 0 := Nat.le_antisymm h332 h331
      have hS333 : Sep G W ((Blk b18 ((t.fields.getD k default).cells (cellV W (sb dt0) (so dt0 + k * 4 + 3))).toArray 79) :: (Blk b2 (t.cells dt0).toArray 33) :: Rs) w328 := hW330
      have e334 : vals 3 = (.pointer (some ⟨sb vl, so vl + k * 2 + 1, none⟩) : Value) := hA329 3 (by decide)
      refine obl rfl ?_
      have hcw336 := hS333.cells hce141 (hl.foot (ne_of_lt hi142))
      exact ov_load1 (v := (cellV W (sb vl) (so vl + k * 2 + 1))) Tryd.isAgg40 e334 (hcw336.get (j := 1) rfl) (fun vals' hv _ => ⟨rfl, hv⟩)
     ·intro k337 vals w338 h341 h342 hW340 hA339
      refine obl rfl ?_
      exact ov_move (v := .int .i64 ((j : Nat) : Int)) rfl (fun vals' hv _ => ⟨rfl, hv⟩)
     ·intro k343 vals w344 h347 h348 hW346 hA345
      obtain rfl : k343 = 0 := Nat.le_antisymm h348 h347
      have hS349 : Sep G W ((Blk b18 ((t.fields.getD k default).cells (cellV W (sb dt0) (so dt0 + k * 4 + 3))).toArray 79) :: (Blk b2 (t.cells dt0).toArray 33) :: Rs) w344 := hW346
      have e350 : vals 5 = (.int .i64 ((j : Nat) : Int) : Value) := hA345 5 (by decide)
      refine obl rfl ?_
      have hr351 : InR ((j - 1 : Nat) : Int) := by first | omega | (simp only [lens]; omega)
      exact ov_sub (r := ((j - 1 : Nat) : Int)) (k := .i64) (a := ((j : Nat) : Int)) (b := 1) e350 rfl (by rw [show (((j : Nat) : Int) - 1 : Int) = ((j - 1 : Nat) : Int) by first | omega | (simp only [lens]; omega)]; exact wrap_in hr351) (fun vals' hv _ => ⟨rfl, hv⟩)
     ·intro k352 vals w353 h356 h357 hW355 hA354
      obtain rfl : k352 = 0 := Nat.le_antisymm h357 h356
      have hS358 : Sep G W ((Blk b18 ((t.fields.getD k default).cells (cellV W (sb dt0) (so dt0 + k * 4 + 3))).toArray 79) :: (Blk b2 (t.cells dt0).toArray 33) :: Rs) w353 := hW355
      have e359 : vals 4 = ((cellV W (sb vl) (so vl + k * 2 + 1)) : Value) := hA354 4 (by decide)
      have e360 : vals 6 = (.int .i64 ((j - 1 : Nat) : Int) : Value) := hA354 6 (by decide)
      refine obl rfl ?_
      have hi361 : j - 1 < ((l.getD k default).set).length := (by first | omega | (simp only [lens]; omega))
      exact ov_indexAddrN (k := 1) (i := j - 1) Tryd.underlying40 Tryd.sizeOf3 e359 hde141_0.sl e360 hi361 (fun vals' hv _ => ⟨rfl, hv⟩)
     ·intro k362 vals w363 h366 h367 hW365 hA364
      obtain rfl : k362 = 0 := Nat.le_antisymm h367 h366
      have hS368 : Sep G W ((Blk b18 ((t.fields.getD k default).cells (cellV W (sb dt0) (so dt0 + k * 4 + 3))).toArray 79) :: (Blk b2 (t.cells dt0).toArray 33) :: Rs) w363 := hW365
      have e369 : vals 7 = (.pointer (some ⟨sb (cellV W (sb vl) (so vl + k * 2 + 1)), so (cellV W (sb vl) (so vl + k * 2 + 1)) + (j - 1) * 1, none⟩) : Value) := hA364 7 (by decide)
      refine obl rfl ?_
      have hi371 : j - 1 < ((l.getD k default).set).length := (by first | omega | (simp only [lens]; omega))
      obtain ⟨hce370, hxe370⟩ := hde141_0.int hi371
      rw [← getD_at 0 hi371] at hce370 hxe370
      have hcw372 := hS368.cells hce370 (hde141_0.foot (ne_of_lt hi371))
      exact ov_load1 (v := .int .i64 ((((l.getD k default).set).getD (j - 1) 0))) Tryd.isAgg3 e369 (hcw372.get (j := 0) rfl) (fun vals' hv _ => ⟨rfl, hv⟩)
     ·intro k373 vals w374 h377 h378 hW376 hA375
      refine obl rfl ?_
      exact ov_move (v := vl) rfl (fun vals' hv _ => ⟨rfl, hv⟩)
     ·intro k379 vals w380 h383 h384 hW382 hA381
      refine obl rfl ?_
      exact ov_move (v := .int .i64 ((k : Nat) : Int)) rfl (fun vals' hv _ => ⟨rfl, hv⟩)
     ·intro k385 vals w386 h389 h390 hW388 hA387
      obtain rfl : k385 = 0 := Nat.le_antisymm h390 h389
      have hS391 : Sep G W ((Blk b18 ((t.fields.getD k default).cells (cellV W (sb dt0) (so dt0 + k * 4 + 3))).toArray 79) :: (Blk b2 (t.cells dt0).toArray 33) :: Rs) w386 := hW388
      have e392 : vals 9 = (vl : Value) := hA387 9 (by decide)
      have e393 : vals 10 = (.int .i64 ((k : Nat) : Int) : Value) := hA387 10 (by decide)
      refine obl rfl ?_
      have hi394 : k < l.length := (by first | omega | (simp only [lens]; omega))
      exact ov_indexAddrN (k := 2) (i := k) Tryd.underlying26 Tryd.sizeOf42 e392 hl.sl e393 hi394 (fun vals' hv _ => ⟨rfl, hv⟩)
     ·intro k395 vals w396 h399 h400 hW398 hA397
      have e401 : vals 11 = (.pointer (some ⟨sb vl, so vl + k * 2, none⟩) : Value) := hA397 11 (by decide)
      refine obl rfl ?_
      exact fd42_1 e401 (fun vals' hv _ => ⟨rfl, hv⟩)
     ·intro k402 vals w403 h406 h407 hW405 hA404
      obtain rfl : k402 = 0 := Nat.le_antisymm h407 h406
      have hS408 : Sep G W ((Blk b18 ((t.fields.getD k default).cells (cellV W (sb dt0) (so dt0 + k * 4 + 3))).toArray 79) :: (Blk b2 (t.cells dt0).toArray 33) :: Rs) w403 := hW405
      have e409 : vals 12 = (.pointer (some ⟨sb vl, so vl + k * 2 + 1, none⟩) : Value) := hA404 12 (by decide)
      refine obl rfl ?_
      have hcw411 := hS408.cells hce141 (hl.foot (ne_of_lt hi142))
      exact ov_load1 (v := (cellV W (sb vl) (so vl + k * 2 + 1))) Tryd.isAgg40 e409 (hcw411.get (j := 1) rfl) (fun vals' hv _ => ⟨rfl, hv⟩)
     ·intro k412 vals w413 h416 h417 hW415 hA414
      refine obl rfl ?_
      exact ov_move (v := .int .i64 ((j : Nat) : Int)) rfl (fun vals' hv _ => ⟨rfl, hv⟩)
     ·intro k418 vals w419 h422 h423 hW421 hA420
      obtain rfl : k418 = 0 := Nat.le_antisymm h423 h422
      have hS424 : Sep G W ((Blk b18 ((t.fields.getD k default).cells (cellV W (sb dt0) (so dt0 + k * 4 + 3))).toArray 79) :: (Blk b2 (t.cells dt0).toArray 33) :: Rs) w419 := hW421
      have e425 : vals 13 = ((cellV W (sb vl) (so vl + k * 2 + 1)) : Value) := hA420 13 (by decide)
      have e426 : vals 14 = (.int .i64 ((j : Nat) : Int) : Value) := hA420 14 (by decide)
      refine obl rfl ?_
      have hi427 : j < ((l.getD k default).set).length := (by first | omega | (simp only [lens]; omega))
      exact ov_indexAddrN (k := 1) (i := j) Tryd.underlying40 Tryd.sizeOf3 e425 hde141_0.sl e426 hi427 (fun vals' hv _ => ⟨rfl, hv⟩)
     ·intro k428 vals w429 h432 h433 hW431 hA430
      obtain rfl : k428 = 0 := Nat.le_antisymm h433 h432
      have hS434 : Sep G W ((Blk b18 ((t.fields.getD k default).cells (cellV W (sb dt0) (so dt0 + k * 4 + 3))).toArray 79) :: (Blk b2 (t.cells dt0).toArray 33) :: Rs) w429 := hW431
      have e435 : vals 15 = (.pointer (some ⟨sb (cellV W (sb vl) (so vl + k * 2 + 1)), so (cellV W (sb vl) (so vl + k * 2 + 1)) + j * 1, none⟩) : Value) := hA430 15 (by decide)
      refine obl rfl ?_
      have hi437 : j < ((l.getD k default).set).length := (by first | omega | (simp only [lens]; omega))
      obtain ⟨hce436, hxe436⟩ := hde141_0.int hi437
      rw [← getD_at 0 hi437] at hce436 hxe436
      have hcw438 := hS434.cells hce436 (hde141_0.foot (ne_of_lt hi437))
      exact ov_load1 (v := .int .i64 ((((l.getD k default).set).getD j 0))) Tryd.isAgg3 e435 (hcw438.get (j := 0) rfl) (fun vals' hv _ => ⟨rfl, hv⟩)
     ·intro k439 vals w440 h443 h444 hW442 hA441
      obtain rfl : k439 = 0 := Nat.le_antisymm h444 h443
      have hS445 : Sep G W ((Blk b18 ((t.fields.getD k default).cells (cellV W (sb dt0) (so dt0 + k * 4 + 3))).toArray 79) :: (Blk b2 (t.cells dt0).toArray 33) :: Rs) w440 := hW442
      have e446 : vals 8 = (.int .i64 ((((l.getD k default).set).getD (j - 1) 0)) : Value) := hA441 8 (by decide)
      have e447 : vals 16 = (.int .i64 ((((l.getD k default).set).getD j 0)) : Value) := hA441 16 (by decide)
      refine obl rfl ?_
      exact ov_geq (k := .i64) (a := (((l.getD k default).set).getD (j - 1) 0)) (b := (((l.getD k default).set).getD j 0)) e446 e447 (fun vals' hv _ => ⟨rfl, hv⟩)
     intro vals w448 hW449 hA450
     have hS451 : Sep G W ((Blk b18 ((t.fields.getD k default).cells (cellV W (sb dt0) (so dt0 + k * 4 + 3))).toArray 79) :: (Blk b2 (t.cells dt0).toArray 33) :: Rs) w448 := hW449
     have e452 : vals 17 = (.bool (decide ((((l.getD k default).set).getD j 0) ≤ (((l.getD k default).set).getD (j - 1) 0))) : Value) := hA450 17 (by decide)
     refine st_env (kv := [(1, vl), (2, .pointer (some ⟨b2, 0, none⟩)), (5, .int .i64 ((k : Nat) : Int)), (7, .int .i64 ((j : Nat) : Int)), (71, .int .i64 ((j : Nat) : Int)), (72, vl), (73, .int .i64 ((k : Nat) : Int)), (74, .pointer (some ⟨sb vl, so vl + k * 2, none⟩)), (75, .pointer (some ⟨sb vl, so vl + k * 2 + 1, none⟩)), (76, (cellV W (sb vl) (so vl + k * 2 + 1))), (77, .int .i64 ((((l.getD k default).set).length : Nat) : Int)), (78, .bool true), (98, .bool (decide ((((l.getD k default).set).getD j 0) ≤ (((l.getD k default).set).getD (j - 1) 0))))]) ⟨rfl, rfl, rfl, rfl, rfl, rfl, rfl, rfl, rfl, rfl, rfl, rfl, (by exact e452), trivial⟩ (fun ρw448 => ?_)
     refine st_nil ?_
     cases hc453 : decide ((((l.getD k default).set).getD j 0) ≤ (((l.getD k default).set).getD (j - 1) 0))
     ·skip
      have hc453 := of_decide_eq_false hc453
      refine WP_cond_f rfl ?_
      refine WP_skip ?_
      refine WP_region0 (by kernel_rfl) (fun _ => ?_)
      refine st (ov_move (v := .int .i64 ((j : Nat) : Int)) rfl ?_)
      have hr454 : InR ((j + 1 : Nat) : Int) := by first | omega | (simp only [lens]; omega)
      refine st (ov_add (r := ((j + 1 : Nat) : Int)) (k := .i64) (a := ((j : Nat) : Int)) (b := 1) rfl rfl (by rw [show (((j : Nat) : Int) + 1 : Int) = ((j + 1 : Nat) : Int) by first | omega | (simp only [lens]; omega)]; exact wrap_in hr454) ?_)
      refine st (ov_assign (v := .int .i64 ((j + 1 : Nat) : Int)) rfl ?_)
      refine st_nil ?_
      exact ⟨_, by omega, j + 1, _, rfl, setAll_self ⟨rfl, rfl, rfl, rfl, trivial⟩, by omega, hS451⟩
     ·skip
      have hc453 := of_decide_eq_true hc453
      exfalso
      have h9 := asc_lt (hR.asc k (by omega)) (show j - 1 < j by omega) (by omega)
      omega
   ·skip
    try simp only [bools] at hc135
    exfalso
    have h1 := hR.num k (by omega); have h2 := hR.set k (by omega); have h3 := hR.floor k (by omega); have h4 := hR.most k (by omega)
    rcases hc135 with ((h | h) | h) | h
    · have := h1 h.1; omega
    · have := h2 h.1; rw [this] at h; simp at h
    · have := h3 h.1; omega
    · omega
 ·skip
  have hc5 := ndec_true hc5
  exfalso
  omega

end Go.Proofs.YtlblilbmpdejgaaDoor
