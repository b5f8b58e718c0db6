/- Steps of the proofs of this seat: part Fns9. -/
import Derived.Test.YtbbhpddgjiifmaaFns8
set_option linter.unusedSimpArgs false
set_option linter.unusedVariables false
namespace Go.Proofs.Ytbbhpddgjiifmaa
open Go.Proofs Go.RowKit

theorem C_stable_small {w : World} {lo : Nat} {F : Nat → Prop} {vv : Value} {l : List Ev} (ho : OwnS 29 lo w F vv l)  {cb : Nat} (hcb : w.heap[cb]? = some (.cells #[.func (.func 28) #[] #[]] 49)) (hn : l.length < 20) (hne : vv.ownBlock ≠ some cb) : Ret Try.prog 38 [vv, .int .i64 ((l.length : Nat) : Int), .func (.func 39) #[] #[.pointer (some ⟨cb, 0, none⟩)]] w (fun r w' => r = .tuple #[] ∧ OwnS 29 lo w' F vv (insFrom 0 (l.length - (0 + 1)) (0 + 1) (l)) ∧ Chg (fun i => vv.ownBlock = some i) w w') := by
  have hsm0 : l.length * 96 ≤ 140737488355328 := ho.small
  refine Calls_of_WP (args := [vv, .int .i64 ((l.length : Nat) : Int), .func (.func 39) #[] #[.pointer (some ⟨cb, 0, none⟩)]]) Try.func38 rfl rfl ?_
  refine WP_seq ?_
  refine WP_region0 (by kernel_rfl) (fun _ => ?_)
  refine st (ov_assign (v := .int .i64 (20)) rfl ?_)
  refine st_nil ?_
  refine WP_seq ?_
  refine WP_region0 (by kernel_rfl) (fun _ => ?_)
  refine st (ov_move (v := .int .i64 (20)) rfl ?_)
  refine st (ov_assign (v := .int .i64 (0)) rfl ?_)
  refine st (ov_assign (v := .int .i64 (20)) rfl ?_)
  refine st_nil ?_
  refine WP_seq ?_
  refine WP_block ?_
  refine WP_loop (fun m σ wq => ∃  (ρ : Env), m = 0 ∧ σ = setAll ρ [(0, vv), (1, .int .i64 ((l.length : Nat) : Int)), (2, .func (.func 39) #[] #[.pointer (some ⟨cb, 0, none⟩)]), (6, .int .i64 (20)), (7, .int .i64 (0)), (8, .int .i64 (20))] ∧ (Ext w wq)) ⟨_, rfl, setAll_self ⟨rfl, rfl, rfl, rfl, rfl, rfl, trivial⟩, (Chg.refl _ _)⟩ ?_
  rintro m2 σ3 w1 ⟨ρ1, rfl, rfl, hx1⟩
  refine WP_seq ?_
  refine WP_seq ?_
  refine WP_region0 (by kernel_rfl) (fun _ => ?_)
  refine st (ov_move (v := .int .i64 (20)) rfl ?_)
  refine st (ov_move (v := .int .i64 ((l.length : Nat) : Int)) rfl ?_)
  refine st (ov_leq (k := .i64) (a := 20) (b := ((l.length : Nat) : Int)) rfl rfl ?_)
  refine st_nil ?_
  cases hc4 : decide (20 ≤ ((l.length : Nat) : Int))
  · skip
    have hc4 := of_decide_eq_false hc4
    refine WP_cond_f rfl ?_
    refine WP_exit ?_
    refine blk_exit ?_
    refine WP_seq ?_
    refine WP_region0 (by kernel_rfl) (fun _ => ?_)
    refine st (ov_move (v := vv) rfl ?_)
    refine st (ov_move (v := .int .i64 (0)) rfl ?_)
    refine st (ov_move (v := .int .i64 ((l.length : Nat) : Int)) rfl ?_)
    refine st (ov_move (v := .func (.func 39) #[] #[.pointer (some ⟨cb, 0, none⟩)]) rfl ?_)
    have h5 := ho.ext hx1
    have h6 := hx1.keep hcb (fun h => h)
    refine st (ov_call (f := 42) (vals := [vv, .int .i64 (0), .int .i64 ((l.length : Nat) : Int), .func (.func 39) #[] #[.pointer (some ⟨cb, 0, none⟩)]]) (cap := []) (show _ = (.func (.func 42) #[] #[] : Value) from rfl) rfl Try.call42 (C_ins (a := 0) (b := l.length) h5 h6 (by omega) (by omega) hne) ?_)
    rintro _ w2 ⟨rfl, ho8, hch7⟩
    have hch7s := hch7.size
    have h9 := hch7.keep h6 (fun e => hne e)
    refine st_nil ?_
    refine WP_block ?_
    refine WP_loop (fun m σ wq => ∃  (ρ : Env), m = 0 ∧ σ = setAll ρ [(6, .int .i64 (20)), (1, .int .i64 ((l.length : Nat) : Int))] ∧ (Ext w2 wq)) ⟨_, rfl, setAll_self ⟨rfl, rfl, trivial⟩, (Chg.refl _ _)⟩ ?_
    rintro m11 σ12 w3 ⟨ρ3, rfl, rfl, hx10⟩
    refine WP_seq ?_
    refine WP_seq ?_
    refine WP_region0 (by kernel_rfl) (fun _ => ?_)
    refine st (ov_move (v := .int .i64 (20)) rfl ?_)
    refine st (ov_move (v := .int .i64 ((l.length : Nat) : Int)) rfl ?_)
    refine st (ov_lss (k := .i64) (a := 20) (b := ((l.length : Nat) : Int)) rfl rfl ?_)
    refine st_nil ?_
    cases hc13 : decide (20 < ((l.length : Nat) : Int))
    · skip
      have hc13 := of_decide_eq_false hc13
      refine WP_cond_f rfl ?_
      refine WP_exit ?_
      refine blk_exit ?_
      refine fin0 Try.results38 ?_
      have h14 := ho8.ext hx10
      exact ⟨rfl, h14, (Chg.trans (Chg.trans (Chg.ext _ hx1) hch7) (Chg.ext _ hx10))⟩
    · skip
      have hc13 := of_decide_eq_true hc13
      exfalso; omega
  · skip
    have hc4 := of_decide_eq_true hc4
    exfalso; omega

theorem C_sortStable_small {w : World} {lo : Nat} {F : Nat → Prop} {vv : Value} {l : List Ev} (ho : OwnS 29 lo w F vv l) {cb : Nat} (hcb : w.heap[cb]? = some (.cells #[.func (.func 28) #[] #[]] 49)) (hn : l.length < 20) (hne : vv.ownBlock ≠ some cb) : Ret Try.prog 31 [vv, .func (.func 39) #[] #[.pointer (some ⟨cb, 0, none⟩)]] w (fun r w' => r = .tuple #[] ∧ OwnS 29 lo w' F vv (insFrom 0 (l.length - (0 + 1)) (0 + 1) (l)) ∧ Chg (fun i => vv.ownBlock = some i) w w') := by
  have hsm0 : l.length * 96 ≤ 140737488355328 := ho.small
  refine Calls_of_WP (args := [vv, .func (.func 39) #[] #[.pointer (some ⟨cb, 0, none⟩)]]) Try.func31 rfl rfl ?_
  refine WP_region0 (by kernel_rfl) (fun _ => ?_)
  refine st (ov_move (v := vv) rfl ?_)
  refine st (ov_move (v := vv) rfl ?_)
  refine st (ov_len (n := l.length) Try.underlying22 rfl ho.isSl ?_)
  refine st (ov_move (v := .func (.func 39) #[] #[.pointer (some ⟨cb, 0, none⟩)]) rfl ?_)
  refine st (ov_call (f := 38) (vals := [vv, .int .i64 ((l.length : Nat) : Int), .func (.func 39) #[] #[.pointer (some ⟨cb, 0, none⟩)]]) (cap := []) (show _ = (.func (.func 38) #[] #[] : Value) from rfl) rfl Try.call38 (C_stable_small  ho hcb hn hne) ?_)
  rintro _ w1 ⟨rfl, ho2, hch1⟩
  have hch1s := hch1.size
  have h3 := hch1.keep hcb (fun e => hne e)
  refine st_nil ?_
  refine fin0 Try.results31 ?_
  exact ⟨rfl, ho2, hch1⟩

end Go.Proofs.Ytbbhpddgjiifmaa
