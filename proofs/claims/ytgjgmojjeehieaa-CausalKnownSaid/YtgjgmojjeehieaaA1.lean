/- Steps of the proofs of this seat: part A1. -/
import Derived.Test.YtgjgmojjeehieaaProg
import Derived.Test.YtgjgmojjeehieaaData
import Derived.Test.YtgjgmojjeehieaaRowE2
import Derived.Test.YtgjgmojjeehieaaDraw4
import Derived.Test.YtgjgmojjeehieaaDraw6
import Derived.Test.YtgjgmojjeehieaaOps2
import Derived.Test.YtgjgmojjeehieaaSep2
import Derived.Test.YtgjgmojjeehieaaMix
import Derived.Test.YtgjgmojjeehieaaBasic
set_option linter.unusedSimpArgs false
set_option linter.unusedVariables false
set_option maxRecDepth 8000
set_option maxHeartbeats 4000000
namespace Go.Proofs.Ytgjgmojjeehieaa
open Go.Proofs Go.RowKit

theorem D_nan1 {G : Nat → Prop} {W w : World} {Rs : List HP} {x : Int} (hS0 : Sep G W Rs w) : Ret Try.prog 97 [.int .i64 (x)] w (fun r w' => r = (.bool false : Value) ∧ Sep G W Rs w') := by
 refine Calls_of_WP (args := [.int .i64 (x)]) Try.func97 rfl rfl ?_
 refine WP_seq ?_
 refine WP_region0 (by kernel_rfl) (fun _ => ?_)
 refine st (ov_assign (v := .bool false) rfl ?_)
 refine st_nil ?_
 refine WP_seq ?_
 refine WP_region0 (by kernel_rfl) (fun _ => ?_)
 refine st (ov_move (v := .int .i64 (x)) rfl ?_)
 refine st (ov_move (v := .int .i64 (x)) rfl ?_)
 refine st (ov_neq (k := .i64) (a := x) (b := x) rfl rfl ?_)
 refine st (ov_assign (v := .bool (!decide (x = x))) rfl ?_)
 refine st_nil ?_
 refine WP_ret ?_
 refine fin1 Try.results97 (show _ = (.bool (!decide (x = x)) : Value) from rfl) ?_
 refine ⟨?_, hS0⟩
 simp

theorem D_cmp {G : Nat → Prop} {W w : World} {Rs : List HP} {x : Int} {y : Int} (hS0 : Sep G W Rs w) : Ret Try.prog 85 [.int .i64 (x), .int .i64 (y)] w (fun r w' => r = (.int .i64 ((cmpI x y)) : Value) ∧ Sep G W Rs w') := by
 refine Calls_of_WP (args := [.int .i64 (x), .int .i64 (y)]) Try.func85 rfl rfl ?_
 refine WP_seq ?_
 refine WP_region0 (by kernel_rfl) (fun _ => ?_)
 refine st (ov_assign (v := .int .i64 (0)) rfl ?_)
 refine st_nil ?_
 refine WP_seq ?_
 refine WP_region0 (by kernel_rfl) (fun _ => ?_)
 refine st (ov_move (v := .int .i64 (x)) rfl ?_)
 refine st (ov_call (f := 97) (vals := [.int .i64 (x)]) (cap := []) (show _ = (.func (.func 97) #[] #[] : Value) from rfl) rfl Try.call97 (D_nan1  hS0) ?_)
 rintro _ w1 ⟨rfl, hS2⟩
 refine st (ov_assign (v := .bool false) rfl ?_)
 refine st_nil ?_
 refine WP_seq ?_
 refine WP_region0 (by kernel_rfl) (fun _ => ?_)
 refine st (ov_move (v := .int .i64 (y)) rfl ?_)
 refine st (ov_call (f := 97) (vals := [.int .i64 (y)]) (cap := []) (show _ = (.func (.func 97) #[] #[] : Value) from rfl) rfl Try.call97 (D_nan1  hS2) ?_)
 rintro _ w3 ⟨rfl, hS4⟩
 refine st (ov_assign (v := .bool false) rfl ?_)
 refine st_nil ?_
 refine WP_seq ?_
 refine WP_seq ?_
 refine WP_region0 (by kernel_rfl) (fun _ => ?_)
 refine st (ov_move (v := .bool false) rfl ?_)
 refine st_nil ?_
 refine WP_cond_f rfl ?_
 refine WP_skip ?_
 refine WP_seq ?_
 refine WP_seq ?_
 refine WP_region0 (by kernel_rfl) (fun _ => ?_)
 refine st (ov_move (v := .bool false) rfl ?_)
 refine st_nil ?_
 refine WP_cond_f rfl ?_
 refine WP_skip ?_
 refine WP_seq ?_
 refine WP_seq ?_
 refine WP_region0 (by kernel_rfl) (fun _ => ?_)
 refine st (ov_move (v := .int .i64 (x)) rfl ?_)
 refine st (ov_move (v := .int .i64 (y)) rfl ?_)
 refine st (ov_lss (k := .i64) (a := x) (b := y) rfl rfl ?_)
 refine st_nil ?_
 cases hc5 : decide (x < y)
 ·skip
  have hc5 := of_decide_eq_false hc5
  refine WP_cond_f rfl ?_
  refine WP_skip ?_
  refine WP_seq ?_
  refine WP_seq ?_
  refine WP_region0 (by kernel_rfl) (fun _ => ?_)
  refine st (ov_move (v := .int .i64 (x)) rfl ?_)
  refine st (ov_move (v := .int .i64 (y)) rfl ?_)
  refine st (ov_gtr (k := .i64) (a := x) (b := y) rfl rfl ?_)
  refine st_nil ?_
  cases hc6 : decide (y < x)
  ·skip
   have hc6 := of_decide_eq_false hc6
   refine WP_cond_f rfl ?_
   refine WP_skip ?_
   refine WP_seq ?_
   refine WP_region0 (by kernel_rfl) (fun _ => ?_)
   refine st (ov_assign (v := .int .i64 (0)) rfl ?_)
   refine st_nil ?_
   refine WP_ret ?_
   refine fin1 Try.results85 (show _ = (.int .i64 (0) : Value) from rfl) ?_
   refine ⟨?_, hS4⟩
   unfold cmpI
   (repeat (first | rw [if_pos (by omega)] | rw [if_neg (by omega)]))
  ·skip
   have hc6 := of_decide_eq_true hc6
   refine WP_cond_t rfl ?_
   refine WP_seq ?_
   refine WP_region0 (by kernel_rfl) (fun _ => ?_)
   refine st (ov_assign (v := .int .i64 (1)) rfl ?_)
   refine st_nil ?_
   refine WP_ret ?_
   refine fin1 Try.results85 (show _ = (.int .i64 (1) : Value) from rfl) ?_
   refine ⟨?_, hS4⟩
   unfold cmpI
   (repeat (first | rw [if_pos (by omega)] | rw [if_neg (by omega)]))
 ·skip
  have hc5 := of_decide_eq_true hc5
  refine WP_cond_t rfl ?_
  refine WP_seq ?_
  refine WP_region0 (by kernel_rfl) (fun _ => ?_)
  refine st (ov_assign (v := .int .i64 (-1)) rfl ?_)
  refine st_nil ?_
  refine WP_ret ?_
  refine fin1 Try.results85 (show _ = (.int .i64 (-1) : Value) from rfl) ?_
  refine ⟨?_, hS4⟩
  unfold cmpI
  (repeat (first | rw [if_pos (by omega)] | rw [if_neg (by omega)]))

theorem D_or {G : Nat → Prop} {W w : World} {Rs : List HP} {vl : Value} {l : List Int} (hl : RdS W G vl l) (hS0 : Sep G W Rs w) : Ret Try.prog 84 [vl] w (fun r w' => r = (.int .i64 ((orL l)) : Value) ∧ Sep G W Rs w') := by
 have hls : l.length * 8 ≤ 140737488355328 := hl.small
 refine Calls_of_WP (args := [vl]) Try.func84 rfl rfl ?_
 refine WP_seq ?_
 refine WP_region0 (by kernel_rfl) (fun _ => ?_)
 refine st (ov_assign (v := .int .i64 (0)) rfl ?_)
 refine st_nil ?_
 refine WP_seq ?_
 refine WP_region0 (by kernel_rfl) (fun _ => ?_)
 refine st (ov_assign (v := .int .i64 (0)) rfl ?_)
 refine st_nil ?_
 refine WP_seq ?_
 refine WP_seq ?_
 refine WP_region0 (by kernel_rfl) (fun _ => ?_)
 refine st (ov_move (v := vl) rfl ?_)
 refine st (ov_len (n := l.length) Try.underlying34 rfl hl.sl ?_)
 refine st (ov_move (v := .int .i64 (0)) rfl ?_)
 refine st_nil ?_
 refine WP_block ?_
 refine WP_loop (fun mq σ wq => ∃ (k : Nat) (ρ : Env), mq = l.length - k ∧ σ = setAll ρ [(0, vl), (3, .int .i64 (0)), (6, vl), (7, .int .i64 ((l.length : Nat) : Int)), (8, .int .i64 ((k : Nat) : Int))] ∧ (k ≤ l.length) ∧ (orL l = orL (l.drop k)) ∧ Sep G W Rs wq) ⟨0, _, rfl, setAll_self ⟨rfl, rfl, rfl, rfl, rfl, trivial⟩, Nat.zero_le _, rfl, hS0⟩ ?_
 rintro m2 σ3 w1 ⟨k, ρl1, rfl, rfl, hkk, hv, hS4⟩
 refine WP_seq ?_
 refine WP_region0 (by kernel_rfl) (fun _ => ?_)
 refine st (ov_lss (k := .i64) (a := ((k : Nat) : Int)) (b := ((l.length : Nat) : Int)) rfl rfl ?_)
 refine st_nil ?_
 refine WP_seq ?_
 cases hc5 : decide (((k : Nat) : Int) < ((l.length : Nat) : Int))
 ·skip
  have hc5 := of_decide_eq_false hc5
  refine WP_cond_f rfl ?_
  refine WP_exit ?_
  refine blk_exit ?_
  refine WP_seq ?_
  refine WP_region0 (by kernel_rfl) (fun _ => ?_)
  refine st (ov_move (v := .int .i64 (0)) rfl ?_)
  refine st (ov_assign (v := .int .i64 (0)) rfl ?_)
  refine st_nil ?_
  refine WP_ret ?_
  refine fin1 Try.results84 (show _ = (.int .i64 (0) : Value) from rfl) ?_
  refine ⟨?_, hS4⟩
  rw [hv, List.drop_of_length_le (by omega)]; rfl
 ·skip
  have hc5 := of_decide_eq_true hc5
  refine WP_cond_t rfl ?_
  refine WP_skip ?_
  refine WP_seq ?_
  refine WP_block ?_
  refine WP_seq ?_
  refine WP_region0 (by kernel_rfl) (fun _ => ?_)
  have hi6 : k < l.length := (by first | omega | (simp only [lens]; omega))
  refine st (ov_indexAddrN (k := 1) (i := k) Try.underlying34 Try.sizeOf3 rfl hl.sl rfl hi6 ?_)
  have hi8 : k < l.length := (by first | omega | (simp only [lens]; omega))
  obtain ⟨hce7, hxe7⟩ := hl.int hi8
  rw [← getD_at 0 hi8] at hce7 hxe7
  have hcw9 := hS4.cells hce7 (hl.foot (ne_of_lt hi8))
  refine st (ov_load1 (v := .int .i64 ((l.getD k 0))) Try.isAgg3 rfl (hcw9.get (j := 0) rfl) ?_)
  refine st (ov_assign (v := .int .i64 ((l.getD k 0))) rfl ?_)
  refine st_nil ?_
  refine WP_seq ?_
  refine WP_region0 (by kernel_rfl) (fun _ => ?_)
  refine st (ov_move (v := .int .i64 ((l.getD k 0))) rfl ?_)
  refine st (ov_move (v := .int .i64 (0)) rfl ?_)
  refine st (ov_neq (k := .i64) (a := (l.getD k 0)) (b := 0) rfl rfl ?_)
  refine st_nil ?_
  cases hc10 : !decide ((l.getD k 0) = 0)
  ·skip
   have hc10 := ndec_false hc10
   refine WP_cond_f rfl ?_
   refine WP_skip ?_
   refine WP_region0 (by kernel_rfl) (fun _ => ?_)
   have hr11 : InR ((k + 1 : Nat) : Int) := by first | omega | (simp only [lens]; omega)
   refine st (ov_add (r := ((k + 1 : Nat) : Int)) (k := .i64) (a := ((k : Nat) : Int)) (b := 1) rfl rfl (by rw [show (((k : Nat) : Int) + 1 : Int) = ((k + 1 : Nat) : Int) by first | omega | (simp only [lens]; omega)]; exact wrap_in hr11) ?_)
   refine st (ov_move (v := .int .i64 ((k + 1 : Nat) : Int)) rfl ?_)
   refine st_nil ?_
   exact ⟨_, by omega, k + 1, _, rfl, setAll_self ⟨rfl, rfl, rfl, rfl, rfl, trivial⟩, by omega, (by rw [hv, List.drop_eq_getElem_cons (by omega)]; simp only [orL]; rw [if_neg (by rw [← getD_at 0 (by omega)]; simpa using hc10)]), hS4⟩
  ·skip
   have hc10 := ndec_true hc10
   refine WP_cond_t rfl ?_
   refine WP_seq ?_
   refine WP_region0 (by kernel_rfl) (fun _ => ?_)
   refine st (ov_move (v := .int .i64 ((l.getD k 0))) rfl ?_)
   refine st (ov_assign (v := .int .i64 ((l.getD k 0))) rfl ?_)
   refine st_nil ?_
   refine WP_ret ?_
   refine fin1 Try.results84 (show _ = (.int .i64 ((l.getD k 0)) : Value) from rfl) ?_
   refine ⟨?_, hS4⟩
   rw [hv, List.drop_eq_getElem_cons (by omega)]; simp only [orL]; rw [if_pos (by rw [← getD_at 0 (by omega)]; simpa using hc10), ← getD_at 0 (by omega)]

theorem D_below {G : Nat → Prop} {W w : World} {Rs : List HP} {x : Int} (hx : InR x) (hS0 : Sep G W Rs w) : Ret Try.prog 79 [.int .i64 (x)] w (fun r w' => r = (.bool (decide (x < 0)) : Value) ∧ Sep G W Rs w') := by
 refine Calls_of_WP (args := [.int .i64 (x)]) Try.func79 rfl rfl ?_
 refine WP_seq ?_
 refine WP_region0 (by kernel_rfl) (fun _ => ?_)
 refine st (ov_assign (v := .bool false) rfl ?_)
 refine st_nil ?_
 refine WP_seq ?_
 refine WP_region0 (by kernel_rfl) (fun _ => ?_)
 refine st (ov_move (v := .int .i64 (x)) rfl ?_)
 refine st (ov_lss (k := .i64) (a := x) (b := 0) rfl rfl ?_)
 refine st (ov_assign (v := .bool (decide (x < 0))) rfl ?_)
 refine st_nil ?_
 refine WP_ret ?_
 refine fin1 Try.results79 (show _ = (.bool (decide (x < 0)) : Value) from rfl) ?_
 refine ⟨rfl, hS0⟩

end Go.Proofs.Ytgjgmojjeehieaa
