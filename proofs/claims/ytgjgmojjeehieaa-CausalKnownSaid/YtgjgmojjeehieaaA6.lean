/- Steps of the proofs of this seat: part A6. -/
import Derived.Test.YtgjgmojjeehieaaA5
set_option linter.unusedSimpArgs false
set_option linter.unusedVariables false
set_option maxRecDepth 8000
set_option maxHeartbeats 4000000
namespace Go.Proofs.Ytgjgmojjeehieaa
open Go.Proofs Go.RowKit

/-- Whether an event stands ahead of another one. -/
def ltE (a b : Ev) : Bool := if (!decide (a.lam = b.lam)) = true then decide (a.lam < b.lam) else if (!decide (a.origin = b.origin)) = true then decide (a.origin < b.origin) else decide (a.seq < b.seq)
def vget (v : List Int) (o : Int) : Int := if o < 0 ∨ (v.length : Int) ≤ o then 0 else max (v.getD o.toNat 0) 0
/-- Events that are more than the statements go through. -/
def Few (l : List Ev) : Prop := l.length ≤ 60 ∧ ∀ i, i < l.length → (l.getD i default).deps.length ≤ 80
theorem D_less9 {G : Nat → Prop} {W w : World} {Rs : List HP} {a : Ev} {da0 : Value} (hda0 : RdS W G da0 a.deps) (oa : a.Ok) {b : Ev} {db0 : Value} (hdb0 : RdS W G db0 b.deps) (ob : b.Ok) (hS0 : Sep G W Rs w) : Ret Try.prog 66 [.agg (a.cells da0).toArray, .agg (b.cells db0).toArray] w (fun r w' => r = (.bool ((ltE a b)) : Value) ∧ Sep G W Rs w') := by
 have hda0s : a.deps.length * 8 ≤ 140737488355328 := hda0.small
 have hdb0s : b.deps.length * 8 ≤ 140737488355328 := hdb0.small
 refine Calls_of_WP (args := [.agg (a.cells da0).toArray, .agg (b.cells db0).toArray]) Try.func66 rfl rfl ?_
 refine WP_seq ?_
 refine WP_region0 (by kernel_rfl) (fun _ => ?_)
 refine st (ov_box (v := .agg (a.cells da0).toArray) rfl ?_)
 intro w3 b2 hn1
 have hS4 : Sep G W ((Blk b2 (a.cells da0).toArray 36) :: Rs) w3 := hS0.new hn1
 refine st (ov_box (v := .agg (b.cells db0).toArray) rfl ?_)
 intro w7 b6 hn5
 have hS8 : Sep G W ((Blk b6 (b.cells db0).toArray 36) :: (Blk b2 (a.cells da0).toArray 36) :: Rs) w7 := hS4.new hn5
 refine st (ov_assign (v := .bool false) rfl ?_)
 refine st_nil ?_
 refine WP_seq ?_
 refine WP_seq ?_
 refine WP_region0 (by kernel_rfl) (fun _ => ?_)
 refine st (fd36_1 rfl ?_)
 refine st (ov_load1 (v := .int .i64 (a.lam)) Try.isAgg3 rfl (blk_cellL (hS8.blk (i := 1) rfl) rfl) ?_)
 refine st (fd36_1 rfl ?_)
 refine st (ov_load1 (v := .int .i64 (b.lam)) Try.isAgg3 rfl (blk_cellL (hS8.blk (i := 0) rfl) rfl) ?_)
 refine st (ov_neq (k := .i64) (a := a.lam) (b := b.lam) rfl rfl ?_)
 refine st_nil ?_
 cases hc9 : !decide (a.lam = b.lam)
 ·skip
  have hc9r := hc9
  have hc9 := ndec_false hc9
  refine WP_cond_f rfl ?_
  refine WP_skip ?_
  refine WP_seq ?_
  refine WP_seq ?_
  refine WP_region0 (by kernel_rfl) (fun _ => ?_)
  refine st (fd36_0 rfl ?_)
  refine st (fd33_0 rfl ?_)
  refine st (ov_load1 (v := .int .i64 (a.origin)) Try.isAgg3 rfl (blk_cellL (hS8.blk (i := 1) rfl) rfl) ?_)
  refine st (fd36_0 rfl ?_)
  refine st (fd33_0 rfl ?_)
  refine st (ov_load1 (v := .int .i64 (b.origin)) Try.isAgg3 rfl (blk_cellL (hS8.blk (i := 0) rfl) rfl) ?_)
  refine st (ov_neq (k := .i64) (a := a.origin) (b := b.origin) rfl rfl ?_)
  refine st_nil ?_
  cases hc10 : !decide (a.origin = b.origin)
  ·skip
   have hc10r := hc10
   have hc10 := ndec_false hc10
   refine WP_cond_f rfl ?_
   refine WP_skip ?_
   refine WP_seq ?_
   refine WP_region0 (by kernel_rfl) (fun _ => ?_)
   refine st (fd36_0 rfl ?_)
   refine st (fd33_1 rfl ?_)
   refine st (ov_load1 (v := .int .i64 (a.seq)) Try.isAgg3 rfl (blk_cellL (hS8.blk (i := 1) rfl) rfl) ?_)
   refine st (fd36_0 rfl ?_)
   refine st (fd33_1 rfl ?_)
   refine st (ov_load1 (v := .int .i64 (b.seq)) Try.isAgg3 rfl (blk_cellL (hS8.blk (i := 0) rfl) rfl) ?_)
   refine st (ov_lss (k := .i64) (a := a.seq) (b := b.seq) rfl rfl ?_)
   refine st (ov_assign (v := .bool (decide (a.seq < b.seq))) rfl ?_)
   refine st_nil ?_
   refine WP_ret ?_
   refine fin1 Try.results66 (show _ = (.bool (decide (a.seq < b.seq)) : Value) from rfl) ?_
   have hS11 : Sep G W Rs w7 := hS8.sel 2 [] (Nat.le_add_left _ _) rfl rfl
   refine ⟨?_, hS11⟩
   unfold ltE
   simp only [hc9r, hc10r, if_true, if_false, Bool.false_eq_true, ↓reduceIte]
  ·skip
   have hc10r := hc10
   have hc10 := ndec_true hc10
   refine WP_cond_t rfl ?_
   refine WP_seq ?_
   refine WP_region0 (by kernel_rfl) (fun _ => ?_)
   refine st (fd36_0 rfl ?_)
   refine st (fd33_0 rfl ?_)
   refine st (ov_load1 (v := .int .i64 (a.origin)) Try.isAgg3 rfl (blk_cellL (hS8.blk (i := 1) rfl) rfl) ?_)
   refine st (fd36_0 rfl ?_)
   refine st (fd33_0 rfl ?_)
   refine st (ov_load1 (v := .int .i64 (b.origin)) Try.isAgg3 rfl (blk_cellL (hS8.blk (i := 0) rfl) rfl) ?_)
   refine st (ov_lss (k := .i64) (a := a.origin) (b := b.origin) rfl rfl ?_)
   refine st (ov_assign (v := .bool (decide (a.origin < b.origin))) rfl ?_)
   refine st_nil ?_
   refine WP_ret ?_
   refine fin1 Try.results66 (show _ = (.bool (decide (a.origin < b.origin)) : Value) from rfl) ?_
   have hS12 : Sep G W Rs w7 := hS8.sel 2 [] (Nat.le_add_left _ _) rfl rfl
   refine ⟨?_, hS12⟩
   unfold ltE
   simp only [hc9r, hc10r, if_true, if_false, Bool.false_eq_true, ↓reduceIte]
 ·skip
  have hc9r := hc9
  have hc9 := ndec_true hc9
  refine WP_cond_t rfl ?_
  refine WP_seq ?_
  refine WP_region0 (by kernel_rfl) (fun _ => ?_)
  refine st (fd36_1 rfl ?_)
  refine st (ov_load1 (v := .int .i64 (a.lam)) Try.isAgg3 rfl (blk_cellL (hS8.blk (i := 1) rfl) rfl) ?_)
  refine st (fd36_1 rfl ?_)
  refine st (ov_load1 (v := .int .i64 (b.lam)) Try.isAgg3 rfl (blk_cellL (hS8.blk (i := 0) rfl) rfl) ?_)
  refine st (ov_lss (k := .i64) (a := a.lam) (b := b.lam) rfl rfl ?_)
  refine st (ov_assign (v := .bool (decide (a.lam < b.lam))) rfl ?_)
  refine st_nil ?_
  refine WP_ret ?_
  refine fin1 Try.results66 (show _ = (.bool (decide (a.lam < b.lam)) : Value) from rfl) ?_
  have hS13 : Sep G W Rs w7 := hS8.sel 2 [] (Nat.le_add_left _ _) rfl rfl
  refine ⟨?_, hS13⟩
  unfold ltE
  simp only [hc9r, if_true, if_false, Bool.false_eq_true, ↓reduceIte]

theorem D_ahead {G : Nat → Prop} {W w : World} {Rs : List HP} {a : Ev} {da0 : Value} (hda0 : RdS W G da0 a.deps) (oa : a.Ok) {b : Ev} {db0 : Value} (hdb0 : RdS W G db0 b.deps) (ob : b.Ok) (hS0 : Sep G W Rs w) : Ret Try.prog 28 [.agg (a.cells da0).toArray, .agg (b.cells db0).toArray] w (fun r w' => r = (.bool ((ltE a b)) : Value) ∧ Sep G W Rs w') := by
 have hda0s : a.deps.length * 8 ≤ 140737488355328 := hda0.small
 have hdb0s : b.deps.length * 8 ≤ 140737488355328 := hdb0.small
 refine Calls_of_WP (args := [.agg (a.cells da0).toArray, .agg (b.cells db0).toArray]) Try.func28 rfl rfl ?_
 refine WP_seq ?_
 refine WP_region0 (by kernel_rfl) (fun _ => ?_)
 refine st (ov_box (v := .agg (a.cells da0).toArray) rfl ?_)
 intro w3 b2 hn1
 have hS4 : Sep G W ((Blk b2 (a.cells da0).toArray 36) :: Rs) w3 := hS0.new hn1
 refine st (ov_box (v := .agg (b.cells db0).toArray) rfl ?_)
 intro w7 b6 hn5
 have hS8 : Sep G W ((Blk b6 (b.cells db0).toArray 36) :: (Blk b2 (a.cells da0).toArray 36) :: Rs) w7 := hS4.new hn5
 refine st (ov_assign (v := .bool false) rfl ?_)
 refine st_nil ?_
 refine WP_seq ?_
 refine WP_seq ?_
 refine WP_region0 (by kernel_rfl) (fun _ => ?_)
 refine st (fd36_1 rfl ?_)
 refine st (ov_load1 (v := .int .i64 (a.lam)) Try.isAgg3 rfl (blk_cellL (hS8.blk (i := 1) rfl) rfl) ?_)
 refine st (fd36_1 rfl ?_)
 refine st (ov_load1 (v := .int .i64 (b.lam)) Try.isAgg3 rfl (blk_cellL (hS8.blk (i := 0) rfl) rfl) ?_)
 refine st (ov_neq (k := .i64) (a := a.lam) (b := b.lam) rfl rfl ?_)
 refine st_nil ?_
 cases hc9 : !decide (a.lam = b.lam)
 ·skip
  have hc9r := hc9
  have hc9 := ndec_false hc9
  refine WP_cond_f rfl ?_
  refine WP_skip ?_
  refine WP_seq ?_
  refine WP_seq ?_
  refine WP_region0 (by kernel_rfl) (fun _ => ?_)
  refine st (fd36_0 rfl ?_)
  refine st (fd33_0 rfl ?_)
  refine st (ov_load1 (v := .int .i64 (a.origin)) Try.isAgg3 rfl (blk_cellL (hS8.blk (i := 1) rfl) rfl) ?_)
  refine st (fd36_0 rfl ?_)
  refine st (fd33_0 rfl ?_)
  refine st (ov_load1 (v := .int .i64 (b.origin)) Try.isAgg3 rfl (blk_cellL (hS8.blk (i := 0) rfl) rfl) ?_)
  refine st (ov_neq (k := .i64) (a := a.origin) (b := b.origin) rfl rfl ?_)
  refine st_nil ?_
  cases hc10 : !decide (a.origin = b.origin)
  ·skip
   have hc10r := hc10
   have hc10 := ndec_false hc10
   refine WP_cond_f rfl ?_
   refine WP_skip ?_
   refine WP_seq ?_
   refine WP_region0 (by kernel_rfl) (fun _ => ?_)
   refine st (fd36_0 rfl ?_)
   refine st (fd33_1 rfl ?_)
   refine st (ov_load1 (v := .int .i64 (a.seq)) Try.isAgg3 rfl (blk_cellL (hS8.blk (i := 1) rfl) rfl) ?_)
   refine st (fd36_0 rfl ?_)
   refine st (fd33_1 rfl ?_)
   refine st (ov_load1 (v := .int .i64 (b.seq)) Try.isAgg3 rfl (blk_cellL (hS8.blk (i := 0) rfl) rfl) ?_)
   refine st (ov_lss (k := .i64) (a := a.seq) (b := b.seq) rfl rfl ?_)
   refine st (ov_assign (v := .bool (decide (a.seq < b.seq))) rfl ?_)
   refine st_nil ?_
   refine WP_ret ?_
   refine fin1 Try.results28 (show _ = (.bool (decide (a.seq < b.seq)) : Value) from rfl) ?_
   have hS11 : Sep G W Rs w7 := hS8.sel 2 [] (Nat.le_add_left _ _) rfl rfl
   refine ⟨?_, hS11⟩
   unfold ltE
   simp only [hc9r, hc10r, if_true, if_false, Bool.false_eq_true, ↓reduceIte]
  ·skip
   have hc10r := hc10
   have hc10 := ndec_true hc10
   refine WP_cond_t rfl ?_
   refine WP_seq ?_
   refine WP_region0 (by kernel_rfl) (fun _ => ?_)
   refine st (fd36_0 rfl ?_)
   refine st (fd33_0 rfl ?_)
   refine st (ov_load1 (v := .int .i64 (a.origin)) Try.isAgg3 rfl (blk_cellL (hS8.blk (i := 1) rfl) rfl) ?_)
   refine st (fd36_0 rfl ?_)
   refine st (fd33_0 rfl ?_)
   refine st (ov_load1 (v := .int .i64 (b.origin)) Try.isAgg3 rfl (blk_cellL (hS8.blk (i := 0) rfl) rfl) ?_)
   refine st (ov_lss (k := .i64) (a := a.origin) (b := b.origin) rfl rfl ?_)
   refine st (ov_assign (v := .bool (decide (a.origin < b.origin))) rfl ?_)
   refine st_nil ?_
   refine WP_ret ?_
   refine fin1 Try.results28 (show _ = (.bool (decide (a.origin < b.origin)) : Value) from rfl) ?_
   have hS12 : Sep G W Rs w7 := hS8.sel 2 [] (Nat.le_add_left _ _) rfl rfl
   refine ⟨?_, hS12⟩
   unfold ltE
   simp only [hc9r, hc10r, if_true, if_false, Bool.false_eq_true, ↓reduceIte]
 ·skip
  have hc9r := hc9
  have hc9 := ndec_true hc9
  refine WP_cond_t rfl ?_
  refine WP_seq ?_
  refine WP_region0 (by kernel_rfl) (fun _ => ?_)
  refine st (fd36_1 rfl ?_)
  refine st (ov_load1 (v := .int .i64 (a.lam)) Try.isAgg3 rfl (blk_cellL (hS8.blk (i := 1) rfl) rfl) ?_)
  refine st (fd36_1 rfl ?_)
  refine st (ov_load1 (v := .int .i64 (b.lam)) Try.isAgg3 rfl (blk_cellL (hS8.blk (i := 0) rfl) rfl) ?_)
  refine st (ov_lss (k := .i64) (a := a.lam) (b := b.lam) rfl rfl ?_)
  refine st (ov_assign (v := .bool (decide (a.lam < b.lam))) rfl ?_)
  refine st_nil ?_
  refine WP_ret ?_
  refine fin1 Try.results28 (show _ = (.bool (decide (a.lam < b.lam)) : Value) from rfl) ?_
  have hS13 : Sep G W Rs w7 := hS8.sel 2 [] (Nat.le_add_left _ _) rfl rfl
  refine ⟨?_, hS13⟩
  unfold ltE
  simp only [hc9r, if_true, if_false, Bool.false_eq_true, ↓reduceIte]

theorem D_vget {G : Nat → Prop} {W w : World} {Rs : List HP} {vv : Value} {v : List Int} (hv : RdS W G vv v) {o : Int} (ho : InR o) (hS0 : Sep G W Rs w) : Ret Try.prog 59 [vv, .int .i64 (o)] w (fun r w' => r = (.int .i64 (vget v o) : Value) ∧ (InR (vget v o)) ∧ Sep G W Rs w') := by
 have hvs : v.length * 8 ≤ 140737488355328 := hv.small
 refine Calls_of_WP (args := [vv, .int .i64 (o)]) Try.func59 rfl rfl ?_
 refine WP_seq ?_
 refine WP_region0 (by kernel_rfl) (fun _ => ?_)
 refine st (ov_assign (v := .int .i64 (0)) rfl ?_)
 refine st_nil ?_
 refine WP_seq ?_
 refine WP_seq ?_
 refine WP_region (by kernel_rfl) ?_
 refine st (ov_move (v := .int .i64 (o)) rfl ?_)
 refine st (ov_lss (k := .i64) (a := o) (b := 0) rfl rfl ?_)
 refine st (ov_move (v := .bool (decide (o < 0))) rfl ?_)
 refine stc (V := .int .i64 (o)) rfl rfl (fun hb1 => ?_) ?_
 ·have hl2 := hb1
  have hl2 := of_decide_eq_false hl2
  exact ov_move (v := .int .i64 (o)) rfl ⟨rfl, rfl⟩
 refine stc (V := vv) rfl rfl (fun hb3 => ?_) ?_
 ·have hl4 := hb3
  have hl4 := of_decide_eq_false hl4
  exact ov_move (v := vv) rfl ⟨rfl, rfl⟩
 refine stc (V := .int .i64 ((v.length : Nat) : Int)) rfl rfl (fun hb5 => ?_) ?_
 ·have hl6 := hb5
  have hl6 := of_decide_eq_false hl6
  exact ov_len (n := v.length) Try.underlying34 (show _ = (vv : Value) from (if_pos hb5)) hv.sl ⟨rfl, rfl⟩
 refine stc (V := .bool (decide (((v.length : Nat) : Int) ≤ o))) rfl rfl (fun hb7 => ?_) ?_
 ·have hl8 := hb7
  have hl8 := of_decide_eq_false hl8
  exact ov_geq (k := .i64) (a := o) (b := ((v.length : Nat) : Int)) (show _ = (.int .i64 (o) : Value) from (if_pos hb7)) (show _ = (.int .i64 ((v.length : Nat) : Int) : Value) from (if_pos hb7)) ⟨rfl, rfl⟩
 refine st (ov_pick_or (b := decide (o < 0)) (b' := decide (((v.length : Nat) : Int) ≤ o)) rfl (fun hbp => (show _ = (.bool (decide (((v.length : Nat) : Int) ≤ o)) : Value) from (if_pos hbp))) ?_)
 refine st_nil ?_
 cases hc9 : (decide (o < 0)) || (decide (((v.length : Nat) : Int) ≤ o))
 ·skip
  try simp only [bools] at hc9
  refine WP_cond_f rfl ?_
  refine WP_skip ?_
  refine WP_seq ?_
  refine WP_region0 (by kernel_rfl) (fun _ => ?_)
  refine st (ov_move (v := vv) rfl ?_)
  refine st (ov_move (v := .int .i64 (o)) rfl ?_)
  have hi10 : o.toNat < v.length := (by first | omega | (simp only [lens]; omega))
  refine st (ov_indexAddr (k := 1) (i := o) Try.underlying34 Try.sizeOf3 rfl hv.sl rfl ⟨by omega, by omega⟩ ?_)
  have hi12 : o.toNat < v.length := (by first | omega | (simp only [lens]; omega))
  obtain ⟨hce11, hxe11⟩ := hv.int hi12
  rw [← getD_at 0 hi12] at hce11 hxe11
  have hcw13 := hS0.cells hce11 (hv.foot (ne_of_lt hi12))
  refine st (ov_load1 (v := .int .i64 ((v.getD o.toNat 0))) Try.isAgg3 rfl (hcw13.get (j := 0) rfl) ?_)
  refine st (ov_max (k := .i64) (a := (v.getD o.toNat 0)) (b := 0) rfl rfl ?_)
  refine st (ov_assign (v := .int .i64 (max (v.getD o.toNat 0) 0)) rfl ?_)
  refine st_nil ?_
  refine WP_ret ?_
  refine fin1 Try.results59 (show _ = (.int .i64 (max (v.getD o.toNat 0) 0) : Value) from rfl) ?_
  refine ⟨?_, ?_, hS0⟩
  · unfold vget; rw [if_neg (by omega)]
  · unfold vget; rw [if_neg (by omega)]; omega
 ·skip
  try simp only [bools] at hc9
  refine WP_cond_t rfl ?_
  refine WP_seq ?_
  refine WP_region0 (by kernel_rfl) (fun _ => ?_)
  refine st (ov_assign (v := .int .i64 (0)) rfl ?_)
  refine st_nil ?_
  refine WP_ret ?_
  refine fin1 Try.results59 (show _ = (.int .i64 (0) : Value) from rfl) ?_
  refine ⟨?_, ?_, hS0⟩
  · unfold vget; rw [if_pos (by omega)]
  · unfold vget; rw [if_pos (by omega)]; omega

theorem D_long {G : Nat → Prop} {W w : World} {Rs : List HP} {vl : Value} {l : List Ev} (hl : RdS W G vl l) (hS0 : Sep G W Rs w) : Ret Try.prog 15 [vl] w (fun r w' => ∃ (b : Bool), r = (.bool b : Value) ∧ (b = false → Few l) ∧ Sep G W Rs w') := by
 have hls : l.length * 96 ≤ 140737488355328 := hl.small
 refine Calls_of_WP (args := [vl]) Try.func15 rfl rfl ?_
 refine WP_seq ?_
 refine WP_region0 (by kernel_rfl) (fun _ => ?_)
 refine st (ov_assign (v := .bool false) rfl ?_)
 refine st_nil ?_
 refine WP_seq ?_
 refine WP_seq ?_
 refine WP_region0 (by kernel_rfl) (fun _ => ?_)
 refine st (ov_move (v := vl) rfl ?_)
 refine st (ov_len (n := l.length) Try.underlying22 rfl hl.sl ?_)
 refine st (ov_gtr (k := .i64) (a := ((l.length : Nat) : Int)) (b := 60) rfl rfl ?_)
 refine st_nil ?_
 cases hc1 : decide (60 < ((l.length : Nat) : Int))
 ·skip
  have hc1 := of_decide_eq_false hc1
  refine WP_cond_f rfl ?_
  refine WP_skip ?_
  refine WP_seq ?_
  refine WP_seq ?_
  refine WP_region0 (by kernel_rfl) (fun _ => ?_)
  refine st (ov_assign (v := .int .i64 (0)) rfl ?_)
  refine st_nil ?_
  refine WP_block ?_
  refine WP_loop (fun mq σ wq => ∃ (k : Nat) (ρ : Env), mq = l.length - k ∧ σ = setAll ρ [(0, vl), (3, .int .i64 ((k : Nat) : Int))] ∧ (k ≤ l.length) ∧ (∀ i, i < k → (l.getD i default).deps.length ≤ 80) ∧ Sep G W Rs wq) ⟨0, _, rfl, setAll_self ⟨rfl, rfl, trivial⟩, Nat.zero_le _, (fun i h => absurd h (Nat.not_lt_zero i)), hS0⟩ ?_
  rintro m3 σ4 w2 ⟨k, ρl1, rfl, rfl, hkk, hm, hS5⟩
  refine WP_seq ?_
  refine WP_seq ?_
  refine WP_region0 (by kernel_rfl) (fun _ => ?_)
  refine st (ov_move (v := .int .i64 ((k : Nat) : Int)) rfl ?_)
  refine st (ov_move (v := vl) rfl ?_)
  refine st (ov_len (n := l.length) Try.underlying22 rfl hl.sl ?_)
  refine st (ov_lss (k := .i64) (a := ((k : Nat) : Int)) (b := ((l.length : Nat) : Int)) rfl rfl ?_)
  refine st_nil ?_
  cases hc6 : decide (((k : Nat) : Int) < ((l.length : Nat) : Int))
  ·skip
   have hc6 := of_decide_eq_false hc6
   refine WP_cond_f rfl ?_
   refine WP_exit ?_
   refine blk_exit ?_
   refine WP_seq ?_
   refine WP_region0 (by kernel_rfl) (fun _ => ?_)
   refine st (ov_assign (v := .bool false) rfl ?_)
   refine st_nil ?_
   refine WP_ret ?_
   refine fin1 Try.results15 (show _ = (.bool false : Value) from rfl) ?_
   refine ⟨false, rfl, ?_, hS5⟩
   intro h9
   exact ⟨by omega, fun i hi => hm i (by omega)⟩
  ·skip
   have hc6 := of_decide_eq_true hc6
   refine WP_cond_t rfl ?_
   refine WP_skip ?_
   refine WP_seq ?_
   refine WP_block ?_
   refine WP_seq ?_
   refine WP_region0 (by kernel_rfl) (fun _ => ?_)
   refine st (ov_move (v := vl) rfl ?_)
   refine st (ov_move (v := .int .i64 ((k : Nat) : Int)) rfl ?_)
   have hi7 : k < l.length := (by first | omega | (simp only [lens]; omega))
   refine st (ov_indexAddrN (k := 10) (i := k) Try.underlying22 Try.sizeOf36 rfl hl.sl rfl hi7 ?_)
   refine st (fd36_2 rfl ?_)
   have hi9 : k < l.length := (by first | omega | (simp only [lens]; omega))
   obtain ⟨hce8, hde8_0, hoke8⟩ := hl.ev hi9
   rw [← getD_at default hi9] at hce8 hde8_0 hoke8
   have hsm10 : ((l.getD k default).deps).length * 8 ≤ 140737488355328 := hde8_0.small
   have hcw11 := hS5.cells hce8 (hl.foot (ne_of_lt hi9))
   refine st (ov_load1 (v := (cellV W (sb vl) (so vl + k * 10 + 3))) Try.isAgg34 rfl (hcw11.get (j := 3) rfl) ?_)
   refine st (ov_len (n := ((l.getD k default).deps).length) Try.underlying34 rfl hde8_0.sl ?_)
   refine st (ov_gtr (k := .i64) (a := ((((l.getD k default).deps).length : Nat) : Int)) (b := 80) rfl rfl ?_)
   refine st_nil ?_
   cases hc12 : decide (80 < ((((l.getD k default).deps).length : Nat) : Int))
   ·skip
    have hc12 := of_decide_eq_false hc12
    refine WP_cond_f rfl ?_
    refine WP_skip ?_
    refine WP_region0 (by kernel_rfl) (fun _ => ?_)
    refine st (ov_move (v := .int .i64 ((k : Nat) : Int)) rfl ?_)
    have hr13 : InR ((k + 1 : Nat) : Int) := by first | omega | (simp only [lens]; omega)
    refine st (ov_add (r := ((k + 1 : Nat) : Int)) (k := .i64) (a := ((k : Nat) : Int)) (b := 1) rfl rfl (by rw [show (((k : Nat) : Int) + 1 : Int) = ((k + 1 : Nat) : Int) by first | omega | (simp only [lens]; omega)]; exact wrap_in hr13) ?_)
    refine st (ov_assign (v := .int .i64 ((k + 1 : Nat) : Int)) rfl ?_)
    refine st_nil ?_
    exact ⟨_, by omega, k + 1, _, rfl, setAll_self ⟨rfl, rfl, trivial⟩, by omega, (all_step hm (by omega)), hS5⟩
   ·skip
    have hc12 := of_decide_eq_true hc12
    refine WP_cond_t rfl ?_
    refine WP_seq ?_
    refine WP_region0 (by kernel_rfl) (fun _ => ?_)
    refine st (ov_assign (v := .bool true) rfl ?_)
    refine st_nil ?_
    refine WP_ret ?_
    refine fin1 Try.results15 (show _ = (.bool true : Value) from rfl) ?_
    refine ⟨true, rfl, ?_, hS5⟩
    intro h9
    cases h9
 ·skip
  have hc1 := of_decide_eq_true hc1
  refine WP_cond_t rfl ?_
  refine WP_seq ?_
  refine WP_region0 (by kernel_rfl) (fun _ => ?_)
  refine st (ov_assign (v := .bool true) rfl ?_)
  refine st_nil ?_
  refine WP_ret ?_
  refine fin1 Try.results15 (show _ = (.bool true : Value) from rfl) ?_
  refine ⟨true, rfl, ?_, hS0⟩
  intro h9
  cases h9

end Go.Proofs.Ytgjgmojjeehieaa
