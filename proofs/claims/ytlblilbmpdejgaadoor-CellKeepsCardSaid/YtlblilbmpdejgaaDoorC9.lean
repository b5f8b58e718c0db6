/- Steps of the proofs of this seat: part C9. -/
import Derived.Test.YtlblilbmpdejgaaDoorC8
set_option linter.unusedSimpArgs false
set_option linter.unusedVariables false
set_option maxRecDepth 8000
namespace Go.Proofs.YtlblilbmpdejgaaDoor
open Go.Proofs Go.RowKit

theorem D_Right {G : Nat → Prop} {W w : World} {Rs : List HP} {d : Dcl} {dd0 : Value} (hdd0 : RdS W G dd0 d.types) {dd1 : Value} (hdd1 : RdS W G dd1 d.projs) (od : d.Ok) {vl : Value} {l : List Cel} (hl : RdS W G vl l) (hS0 : Sep G W Rs w) : Ret Tryd.prog 11 [.agg (d.cells dd0 dd1).toArray, vl] w (fun r w' => ∃ (b : Bool), r = (.bool b : Value) ∧ (b = true → DclOk d ∧ l.length ≤ 50 ∧ ∀ i, i < l.length → (l.getD i default).set.length ≤ 100) ∧ Sep G W Rs w') := by
 have hdd0s : d.types.length * 24 ≤ 140737488355328 := hdd0.small
 have hdd1s : d.projs.length * 40 ≤ 140737488355328 := hdd1.small
 have hls : l.length * 32 ≤ 140737488355328 := hl.small
 refine Calls_of_WP (args := [.agg (d.cells dd0 dd1).toArray, vl]) Tryd.func11 rfl rfl ?_
 refine WP_seq ?_
 refine WP_region0 (by kernel_rfl) (fun _ => ?_)
 refine st (ov_box (v := .agg (d.cells dd0 dd1).toArray) rfl ?_)
 intro w3 b2 hn1
 have hS4 : Sep G W ((Blk b2 (d.cells dd0 dd1).toArray 25) :: Rs) w3 := hS0.new hn1
 refine st (ov_assign (v := .bool false) rfl ?_)
 refine st_nil ?_
 refine WP_seq ?_
 refine WP_seq ?_
 refine WP_region (by kernel_rfl) ?_
 refine st (ov_loadk (k := 2) Tryd.isAgg25 Tryd.sizeOf25 rfl rfl (CellsAt.all (hS4.blk (i := 0) rfl)) ?_)
 refine st (ov_call (f := 45) (vals := [.agg (d.cells dd0 dd1).toArray]) (cap := []) (show _ = (.func (.func 45) #[] #[] : Value) from rfl) rfl Tryd.call45 (D_long (d := d) hdd0 hdd1 od hS4) ?_)
 rintro _ w6 ⟨b5, rfl, hS7⟩
 refine st (ov_move (v := .bool b5) rfl ?_)
 refine stc (V := .agg (d.cells dd0 dd1).toArray) rfl rfl (fun hb8 => ?_) ?_
 ·have hl9 := hb8
  exact ov_loadk (k := 2) Tryd.isAgg25 Tryd.sizeOf25 rfl rfl (CellsAt.all (hS7.blk (i := 0) rfl)) ⟨rfl, rfl⟩
 cases hg10 : b5
 ·skip
  have hg10r := hg10
  refine sty rfl rfl (ov_call (f := 46) (vals := [.agg (d.cells dd0 dd1).toArray]) (cap := []) (show _ = (.func (.func 46) #[] #[] : Value) from rfl) rfl Tryd.call46 (D_check (d := d) hdd0 hdd1 od hS7) ?_)
  rintro _ w14 ⟨e11, rfl, hin12, hok13, hS15⟩
  refine sty rfl rfl (ov_neq (k := .i64) (a := e11) (b := 0) rfl rfl ?_)
  refine st (ov_pick_f (v := .bool (!decide (e11 = 0))) rfl rfl ?_)
  refine st (ov_move (v := .bool (!decide (e11 = 0))) rfl ?_)
  refine stc (V := vl) rfl rfl (fun hb16 => ?_) ?_
  ·have hl17 := hb16
   have hl17 := ndec_false hl17
   exact ov_move (v := vl) rfl ⟨rfl, rfl⟩
  refine stc (V := .int .i64 ((l.length : Nat) : Int)) rfl rfl (fun hb18 => ?_) ?_
  ·have hl19 := hb18
   have hl19 := ndec_false hl19
   exact ov_len (n := l.length) Tryd.underlying26 (show _ = (vl : Value) from (if_pos hb18)) hl.sl ⟨rfl, rfl⟩
  refine stc (V := .bool (decide (50 < ((l.length : Nat) : Int)))) rfl rfl (fun hb20 => ?_) ?_
  ·have hl21 := hb20
   have hl21 := ndec_false hl21
   exact ov_gtr (k := .i64) (a := ((l.length : Nat) : Int)) (b := 50) (show _ = (.int .i64 ((l.length : Nat) : Int) : Value) from (if_pos hb20)) rfl ⟨rfl, rfl⟩
  refine st (ov_pick_or (b := !decide (e11 = 0)) (b' := decide (50 < ((l.length : Nat) : Int))) rfl (fun hbp => (show _ = (.bool (decide (50 < ((l.length : Nat) : Int))) : Value) from (if_pos hbp))) ?_)
  refine st_nil ?_
  cases hc22 : (!decide (e11 = 0)) || (decide (50 < ((l.length : Nat) : Int)))
  ·skip
   try simp only [bools] at hc22
   refine WP_cond_f rfl ?_
   refine WP_skip ?_
   refine WP_seq ?_
   refine WP_seq ?_
   refine WP_region0 (by kernel_rfl) (fun _ => ?_)
   refine st (ov_assign (v := .int .i64 (0)) rfl ?_)
   refine st_nil ?_
   refine WP_block ?_
   refine WP_loop (fun mq σ wq => ∃ (k : Nat) (ρ : Env), mq = l.length - k ∧ σ = setAll ρ [(1, vl), (2, .pointer (some ⟨b2, 0, none⟩)), (5, .int .i64 ((k : Nat) : Int))] ∧ (k ≤ l.length) ∧ (∀ i, i < k → (l.getD i default).set.length ≤ 100) ∧ Sep G W ((Blk b2 (d.cells dd0 dd1).toArray 25) :: Rs) wq) ⟨0, _, rfl, setAll_self ⟨rfl, rfl, rfl, trivial⟩, Nat.zero_le _, (fun i h => absurd h (Nat.not_lt_zero i)), hS15⟩ ?_
   rintro m24 σ25 w23 ⟨k, ρl1, rfl, rfl, hkk, hm, hS26⟩
   refine WP_seq ?_
   refine WP_seq ?_
   refine WP_region0 (by kernel_rfl) (fun _ => ?_)
   refine st (ov_move (v := .int .i64 ((k : Nat) : Int)) rfl ?_)
   refine st (ov_move (v := vl) rfl ?_)
   refine st (ov_len (n := l.length) Tryd.underlying26 rfl hl.sl ?_)
   refine st (ov_lss (k := .i64) (a := ((k : Nat) : Int)) (b := ((l.length : Nat) : Int)) rfl rfl ?_)
   refine st_nil ?_
   cases hc27 : decide (((k : Nat) : Int) < ((l.length : Nat) : Int))
   ·skip
    have hc27 := of_decide_eq_false hc27
    refine WP_cond_f rfl ?_
    refine WP_exit ?_
    refine blk_exit ?_
    refine WP_seq ?_
    refine WP_region0 (by kernel_rfl) (fun _ => ?_)
    refine st (ov_assign (v := .bool true) rfl ?_)
    refine st_nil ?_
    refine WP_ret ?_
    refine fin1 Tryd.results11 (show _ = (.bool true : Value) from rfl) ?_
    have hS28 : Sep G W Rs w23 := hS26.sel 1 [] (Nat.le_add_left _ _) rfl rfl
    refine ⟨true, rfl, ?_, hS28⟩
    intro h9
    exact ⟨hok13 (by omega), by omega, fun i hi => hm i (by omega)⟩
   ·skip
    have hc27 := of_decide_eq_true hc27
    refine WP_cond_t rfl ?_
    refine WP_skip ?_
    refine WP_seq ?_
    refine WP_block ?_
    refine WP_seq ?_
    refine WP_region0 (by kernel_rfl) (fun _ => ?_)
    refine st (ov_move (v := vl) rfl ?_)
    refine st (ov_move (v := .int .i64 ((k : Nat) : Int)) rfl ?_)
    have hi29 : k < l.length := (by first | omega | (simp only [lens]; omega))
    refine st (ov_indexAddrN (k := 2) (i := k) Tryd.underlying26 Tryd.sizeOf42 rfl hl.sl rfl hi29 ?_)
    refine st (fd42_1 rfl ?_)
    have hi31 : k < l.length := (by first | omega | (simp only [lens]; omega))
    obtain ⟨hce30, hde30_0, hoke30⟩ := hl.cel hi31
    rw [← getD_at default hi31] at hce30 hde30_0 hoke30
    have hsm32 : ((l.getD k default).set).length * 8 ≤ 140737488355328 := hde30_0.small
    have hcw33 := hS26.cells hce30 (hl.foot (ne_of_lt hi31))
    refine st (ov_load1 (v := (cellV W (sb vl) (so vl + k * 2 + 1))) Tryd.isAgg40 rfl (hcw33.get (j := 1) rfl) ?_)
    refine st (ov_len (n := ((l.getD k default).set).length) Tryd.underlying40 rfl hde30_0.sl ?_)
    refine st (ov_gtr (k := .i64) (a := ((((l.getD k default).set).length : Nat) : Int)) (b := 100) rfl rfl ?_)
    refine st_nil ?_
    cases hc34 : decide (100 < ((((l.getD k default).set).length : Nat) : Int))
    ·skip
     have hc34 := of_decide_eq_false hc34
     refine WP_cond_f rfl ?_
     refine WP_skip ?_
     refine WP_region0 (by kernel_rfl) (fun _ => ?_)
     refine st (ov_move (v := .int .i64 ((k : Nat) : Int)) rfl ?_)
     have hr35 : InR ((k + 1 : Nat) : Int) := by first | omega | (simp only [lens]; omega)
     refine st (ov_add (r := ((k + 1 : Nat) : Int)) (k := .i64) (a := ((k : Nat) : Int)) (b := 1) rfl rfl (by rw [show (((k : Nat) : Int) + 1 : Int) = ((k + 1 : Nat) : Int) by first | omega | (simp only [lens]; omega)]; exact wrap_in hr35) ?_)
     refine st (ov_assign (v := .int .i64 ((k + 1 : Nat) : Int)) rfl ?_)
     refine st_nil ?_
     exact ⟨_, by omega, k + 1, _, rfl, setAll_self ⟨rfl, rfl, rfl, trivial⟩, by omega, (all_step hm (by omega)), hS26⟩
    ·skip
     have hc34 := of_decide_eq_true hc34
     refine WP_cond_t rfl ?_
     refine WP_seq ?_
     refine WP_region0 (by kernel_rfl) (fun _ => ?_)
     refine st (ov_assign (v := .bool false) rfl ?_)
     refine st_nil ?_
     refine WP_ret ?_
     refine fin1 Tryd.results11 (show _ = (.bool false : Value) from rfl) ?_
     have hS36 : Sep G W Rs w23 := hS26.sel 1 [] (Nat.le_add_left _ _) rfl rfl
     refine ⟨false, rfl, ?_, hS36⟩
     intro h9
     cases h9
  ·skip
   try simp only [bools] at hc22
   refine WP_cond_t rfl ?_
   refine WP_seq ?_
   refine WP_region0 (by kernel_rfl) (fun _ => ?_)
   refine st (ov_assign (v := .bool false) rfl ?_)
   refine st_nil ?_
   refine WP_ret ?_
   refine fin1 Tryd.results11 (show _ = (.bool false : Value) from rfl) ?_
   have hS37 : Sep G W Rs w14 := hS15.sel 1 [] (Nat.le_add_left _ _) rfl rfl
   refine ⟨false, rfl, ?_, hS37⟩
   intro h9
   cases h9
 ·skip
  have hg10r := hg10
  refine stx rfl rfl ?_
  refine stx rfl rfl ?_
  refine st (ov_pick_t (v := .bool true) rfl rfl ?_)
  refine st (ov_move (v := .bool true) rfl ?_)
  refine stx rfl rfl ?_
  refine stx rfl rfl ?_
  refine stx rfl rfl ?_
  refine st (ov_pick_t (v := .bool true) rfl rfl ?_)
  refine st_nil ?_
  refine WP_cond_t rfl ?_
  refine WP_seq ?_
  refine WP_region0 (by kernel_rfl) (fun _ => ?_)
  refine st (ov_assign (v := .bool false) rfl ?_)
  refine st_nil ?_
  refine WP_ret ?_
  refine fin1 Tryd.results11 (show _ = (.bool false : Value) from rfl) ?_
  have hS38 : Sep G W Rs w6 := hS7.sel 1 [] (Nat.le_add_left _ _) rfl rfl
  refine ⟨false, rfl, ?_, hS38⟩
  intro h9
  cases h9

theorem D_Pick {G : Nat → Prop} {W w : World} {Rs : List HP} {x : Int} (hx : InR x) {n : Nat} (hn : 1 ≤ n ∧ n ≤ 281474976710656) (hS0 : Sep G W Rs w) : Ret Tryd.prog 13 [.int .i64 (x), .int .i64 ((n : Nat) : Int)] w (fun r w' => ∃ (q : Nat), r = (.int .i64 ((q : Nat) : Int) : Value) ∧ (q < n) ∧ Sep G W Rs w') := by
 refine Calls_of_WP (args := [.int .i64 (x), .int .i64 ((n : Nat) : Int)]) Tryd.func13 rfl rfl ?_
 refine WP_seq ?_
 refine WP_region0 (by kernel_rfl) (fun _ => ?_)
 refine st (ov_assign (v := .int .i64 (0)) rfl ?_)
 refine st_nil ?_
 refine WP_seq ?_
 refine WP_seq ?_
 refine WP_region0 (by kernel_rfl) (fun _ => ?_)
 refine st (ov_move (v := .int .i64 ((n : Nat) : Int)) rfl ?_)
 refine st (ov_lss (k := .i64) (a := ((n : Nat) : Int)) (b := 1) rfl rfl ?_)
 refine st_nil ?_
 cases hc1 : decide (((n : Nat) : Int) < 1)
 ·skip
  have hc1 := of_decide_eq_false hc1
  refine WP_cond_f rfl ?_
  refine WP_skip ?_
  refine WP_seq ?_
  refine WP_region0 (by kernel_rfl) (fun _ => ?_)
  refine st (ov_move (v := .int .i64 (x)) rfl ?_)
  refine st (ov_move (v := .int .i64 ((n : Nat) : Int)) rfl ?_)
  have h03 : (0 : Int) < ((n : Nat) : Int) := by omega
  have hr4 := Int.tmod_lt_of_pos x h03; have hr5 := Int.lt_tmod_of_pos x h03
  obtain ⟨rm2, hr6⟩ : ∃ z, Int.tmod x ((n : Nat) : Int) = z := ⟨_, rfl⟩; rw [hr6] at hr4 hr5
  refine st (ov_rem (r := rm2) rfl rfl h03 hr6 ?_)
  refine st (ov_assign (v := .int .i64 (rm2)) rfl ?_)
  refine st_nil ?_
  refine WP_seq ?_
  refine WP_seq ?_
  refine WP_region0 (by kernel_rfl) (fun _ => ?_)
  refine st (ov_move (v := .int .i64 (rm2)) rfl ?_)
  refine st (ov_lss (k := .i64) (a := rm2) (b := 0) rfl rfl ?_)
  refine st_nil ?_
  cases hc7 : decide (rm2 < 0)
  ·skip
   have hc7 := of_decide_eq_false hc7
   refine WP_cond_f rfl ?_
   refine WP_skip ?_
   refine WP_seq ?_
   refine WP_region0 (by kernel_rfl) (fun _ => ?_)
   refine st (ov_move (v := .int .i64 (rm2)) rfl ?_)
   refine st (ov_assign (v := .int .i64 (rm2)) rfl ?_)
   refine st_nil ?_
   refine WP_ret ?_
   refine fin1 Tryd.results13 (show _ = (.int .i64 (rm2) : Value) from rfl) ?_
   refine ⟨(rm2).toNat, ?_, ?_, hS0⟩
   · rw [Int.toNat_of_nonneg (by omega)]
   · omega
  ·skip
   have hc7 := of_decide_eq_true hc7
   refine WP_cond_t rfl ?_
   refine WP_region0 (by kernel_rfl) (fun _ => ?_)
   refine st (ov_move (v := .int .i64 (rm2)) rfl ?_)
   refine st (ov_move (v := .int .i64 ((n : Nat) : Int)) rfl ?_)
   have hr8 : InR (rm2 + ((n : Nat) : Int)) := by omega
   refine st (ov_add (r := rm2 + ((n : Nat) : Int)) (k := .i64) (a := rm2) (b := ((n : Nat) : Int)) rfl rfl (wrap_in hr8) ?_)
   refine st (ov_assign (v := .int .i64 (rm2 + ((n : Nat) : Int))) rfl ?_)
   refine st_nil ?_
   refine WP_seq ?_
   refine WP_region0 (by kernel_rfl) (fun _ => ?_)
   refine st (ov_move (v := .int .i64 (rm2 + ((n : Nat) : Int))) rfl ?_)
   refine st (ov_assign (v := .int .i64 (rm2 + ((n : Nat) : Int))) rfl ?_)
   refine st_nil ?_
   refine WP_ret ?_
   refine fin1 Tryd.results13 (show _ = (.int .i64 (rm2 + ((n : Nat) : Int)) : Value) from rfl) ?_
   refine ⟨(rm2 + ((n : Nat) : Int)).toNat, ?_, ?_, hS0⟩
   · rw [Int.toNat_of_nonneg (by omega)]
   · omega
 ·skip
  have hc1 := of_decide_eq_true hc1
  refine WP_cond_t rfl ?_
  refine WP_seq ?_
  refine WP_region0 (by kernel_rfl) (fun _ => ?_)
  refine st (ov_assign (v := .int .i64 (0)) rfl ?_)
  refine st_nil ?_
  refine WP_ret ?_
  refine fin1 Tryd.results13 (show _ = (.int .i64 (0) : Value) from rfl) ?_
  refine ⟨0, ?_, ?_, hS0⟩
  · exfalso; omega
  · omega

end Go.Proofs.YtlblilbmpdejgaaDoor
