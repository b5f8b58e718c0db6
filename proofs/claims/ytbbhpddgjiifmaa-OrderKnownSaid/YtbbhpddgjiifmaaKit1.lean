/- Steps of the proofs of this seat: part Kit1. -/
import Derived.Test.YtbbhpddgjiifmaaFns12
import Derived.Test.YtbbhpddgjiifmaaPlain10
import Derived.Test.YtbbhpddgjiifmaaMore
set_option linter.unusedSimpArgs false
set_option linter.unusedVariables false
namespace Go.Proofs.Ytbbhpddgjiifmaa
open Go.Proofs Go.RowKit

theorem C_markInts {w : World} {n : Nat} (hn : n ≤ 281474976710656) : Ret Try.prog 40 [.int .i64 ((n : Nat) : Int)] w (fun r w' => r = .int .i64 (7001 + ((13 * n : Nat) : Int)) ∧ Ext w w') := by
  refine Calls_of_WP (args := [.int .i64 ((n : Nat) : Int)]) Try.func40 rfl rfl ?_
  refine WP_seq ?_
  refine WP_region0 (by kernel_rfl) (fun _ => ?_)
  refine st (ov_assign (v := .int .i64 (0)) rfl ?_)
  refine st_nil ?_
  refine WP_seq ?_
  refine WP_region0 (by kernel_rfl) (fun _ => ?_)
  refine st (ov_move (v := .int .i64 ((n : Nat) : Int)) rfl ?_)
  have hr1 : InR ((13 * n : Nat) : Int) := by omega
  refine st (ov_mul (r := ((13 * n : Nat) : Int)) (k := .i64) (a := 13) (b := ((n : Nat) : Int)) rfl rfl (by rw [show (13 * ((n : Nat) : Int) : Int) = ((13 * n : Nat) : Int) by omega]; exact wrap_in hr1) ?_)
  have hr2 : InR (7001 + ((13 * n : Nat) : Int)) := by omega
  refine st (ov_add (r := 7001 + ((13 * n : Nat) : Int)) (k := .i64) (a := 7001) (b := ((13 * n : Nat) : Int)) rfl rfl (wrap_in hr2) ?_)
  refine st (ov_assign (v := .int .i64 (7001 + ((13 * n : Nat) : Int))) rfl ?_)
  refine st_nil ?_
  refine WP_ret ?_
  refine fin1 Try.results40 (show _ = (.int .i64 (7001 + ((13 * n : Nat) : Int)) : Value) from rfl) ?_
  refine ⟨?_, (Chg.refl _ _)⟩
  rfl

theorem C_SpoilInts {w : World} {F : Nat → Prop} {vl : Value} {l : List Int} (hl : RdS w F vl l) (hs : ∀ b, F b → Soft w b) : Ret Try.prog 33 [vl] w (fun r w' => r = .tuple #[] ∧ Mild F w w') := by
  have hls : l.length * 8 ≤ 140737488355328 := hl.small
  refine Calls_of_WP (args := [vl]) Try.func33 rfl rfl ?_
  refine WP_seq ?_
  refine WP_region0 (by kernel_rfl) (fun _ => ?_)
  refine st (ov_assign (v := .int .i64 (0)) rfl ?_)
  refine st_nil ?_
  refine WP_block ?_
  refine WP_loop (fun m σ wq => ∃ (i : Nat) (L : List Int) (ρ : Env), m = l.length - i ∧ σ = setAll ρ [(0, vl), (2, .int .i64 ((i : Nat) : Int))] ∧ (Mild F w wq) ∧ (RdS wq F vl L) ∧ (L.length = l.length) ∧ (i ≤ l.length)) ⟨0, l, _, rfl, setAll_self ⟨rfl, rfl, trivial⟩, (Mild.refl _ _), hl, rfl, Nat.zero_le _⟩ ?_
  rintro m1 σ2 w1 ⟨i, L, ρ1, rfl, rfl, hM, hl1, hLl, hi0⟩
  have hMs := hM.chg.size
  have hsm : L.length * 8 ≤ 140737488355328 := hl1.small
  refine WP_seq ?_
  refine WP_seq ?_
  refine WP_region0 (by kernel_rfl) (fun _ => ?_)
  refine st (ov_move (v := .int .i64 ((i : Nat) : Int)) rfl ?_)
  refine st (ov_move (v := vl) rfl ?_)
  refine st (ov_len (n := L.length) Try.underlying27 rfl hl1.sl ?_)
  refine st (ov_lss (k := .i64) (a := ((i : Nat) : Int)) (b := ((L.length : Nat) : Int)) rfl rfl ?_)
  refine st_nil ?_
  cases hc3 : decide (((i : Nat) : Int) < ((L.length : Nat) : Int))
  · skip
    have hc3 := of_decide_eq_false hc3
    refine WP_cond_f rfl ?_
    refine WP_exit ?_
    refine blk_exit ?_
    refine fin0 Try.results33 ?_
    exact ⟨rfl, hM⟩
  · skip
    have hc3 := of_decide_eq_true hc3
    refine WP_cond_t rfl ?_
    refine WP_skip ?_
    refine WP_seq ?_
    refine WP_block ?_
    refine WP_region0 (by kernel_rfl) (fun _ => ?_)
    refine st (ov_move (v := vl) rfl ?_)
    refine st (ov_move (v := .int .i64 ((i : Nat) : Int)) rfl ?_)
    refine st (ov_move (v := .int .i64 ((i : Nat) : Int)) rfl ?_)
    have hr4 : InR ((i + 7 : Nat) : Int) := by omega
    refine st (ov_add (r := ((i + 7 : Nat) : Int)) (k := .i64) (a := ((i : Nat) : Int)) (b := 7) rfl rfl (by rw [show (((i : Nat) : Int) + 7 : Int) = ((i + 7 : Nat) : Int) by omega]; exact wrap_in hr4) ?_)
    refine st (ov_call (f := 40) (vals := [.int .i64 ((i + 7 : Nat) : Int)]) (cap := []) (show _ = (.func (.func 40) #[] #[] : Value) from rfl) rfl Try.call40 (C_markInts (n := i + 7) (by omega)) ?_)
    rintro _ w2 ⟨rfl, hx5⟩
    have hx5s := hx5.size
    have hi6 : i < L.length := by omega
    have h8 := hl1.ext hx5
    have hi7 : i < L.length := by omega
    obtain ⟨hc7, hx7⟩ := h8.int hi7
    refine st (ov_indexAddrN (k := 1) (i := i) Try.underlying27 Try.sizeOf3 rfl hl1.sl rfl hi6 ?_)
    refine stn (ov_storeInt (O := F) (n := L[i]) (k := 7001 + ((13 * (i + 7) : Nat) : Int)) Try.sizeOf3 rfl rfl (hc7.get (j := 0) rfl) ((Chg.trans hM.chg (Chg.ext _ hx5)).soft _ (fun _ => hs _ (h8.foot (by intro e; have := congrArg List.length e; simp only [List.length_nil] at this; omega)))) (h8.foot (by intro e; have := congrArg List.length e; simp only [List.length_nil] at this; omega)) (by omega) (fun w3 hM9 => ?_))
    obtain ⟨L10, hn11, hl12⟩ := RdS.loose h8 hM9
    have hs13 := hM9.chg.size
    refine st_nil ?_
    refine WP_region0 (by kernel_rfl) (fun _ => ?_)
    refine st (ov_move (v := .int .i64 ((i : Nat) : Int)) rfl ?_)
    have hr14 : InR ((i + 1 : Nat) : Int) := by omega
    refine st (ov_add (r := ((i + 1 : Nat) : Int)) (k := .i64) (a := ((i : Nat) : Int)) (b := 1) rfl rfl (by rw [show (((i : Nat) : Int) + 1 : Int) = ((i + 1 : Nat) : Int) by omega]; exact wrap_in hr14) ?_)
    refine st (ov_assign (v := .int .i64 ((i + 1 : Nat) : Int)) rfl ?_)
    refine st_nil ?_
    exact ⟨_, by omega, i + 1, L10, _, rfl, setAll_self ⟨rfl, rfl, trivial⟩, (Mild.trans (Mild.trans hM (Mild.of_ext hx5)) hM9), hl12, by omega, by omega⟩

theorem C_SpoilEvents {w : World} {F : Nat → Prop} {vl : Value} {l : List Ev} (hl : RdS w F vl l) (hs : ∀ b, F b → Soft w b) : Ret Try.prog 21 [vl] w (fun r w' => r = .tuple #[] ∧ Mild F w w') := by
  have hls : l.length * 96 ≤ 140737488355328 := hl.small
  refine Calls_of_WP (args := [vl]) Try.func21 rfl rfl ?_
  refine WP_seq ?_
  refine WP_region0 (by kernel_rfl) (fun _ => ?_)
  refine st (ov_assign (v := .int .i64 (0)) rfl ?_)
  refine st_nil ?_
  refine WP_block ?_
  refine WP_loop (fun m σ wq => ∃ (i : Nat) (L : List Ev) (ρ : Env), m = l.length - i ∧ σ = setAll ρ [(0, vl), (2, .int .i64 ((i : Nat) : Int))] ∧ (Mild F w wq) ∧ (RdS wq F vl L) ∧ (L.length = l.length) ∧ (i ≤ l.length)) ⟨0, l, _, rfl, setAll_self ⟨rfl, rfl, trivial⟩, (Mild.refl _ _), hl, rfl, Nat.zero_le _⟩ ?_
  rintro m1 σ2 w1 ⟨i, L, ρ1, rfl, rfl, hM, hl1, hLl, hi0⟩
  have hMs := hM.chg.size
  have hsm : L.length * 96 ≤ 140737488355328 := hl1.small
  refine WP_seq ?_
  refine WP_seq ?_
  refine WP_region0 (by kernel_rfl) (fun _ => ?_)
  refine st (ov_move (v := .int .i64 ((i : Nat) : Int)) rfl ?_)
  refine st (ov_move (v := vl) rfl ?_)
  refine st (ov_len (n := L.length) Try.underlying22 rfl hl1.sl ?_)
  refine st (ov_lss (k := .i64) (a := ((i : Nat) : Int)) (b := ((L.length : Nat) : Int)) rfl rfl ?_)
  refine st_nil ?_
  cases hc3 : decide (((i : Nat) : Int) < ((L.length : Nat) : Int))
  · skip
    have hc3 := of_decide_eq_false hc3
    refine WP_cond_f rfl ?_
    refine WP_exit ?_
    refine blk_exit ?_
    refine fin0 Try.results21 ?_
    exact ⟨rfl, hM⟩
  · skip
    have hc3 := of_decide_eq_true hc3
    refine WP_cond_t rfl ?_
    refine WP_skip ?_
    refine WP_seq ?_
    refine WP_block ?_
    refine WP_seq ?_
    refine WP_region0 (by kernel_rfl) (fun _ => ?_)
    refine st (ov_move (v := vl) rfl ?_)
    refine st (ov_move (v := .int .i64 ((i : Nat) : Int)) rfl ?_)
    have hi4 : i < L.length := by omega
    have hi5 : i < L.length := by omega
    obtain ⟨hc5, hd5, hok5⟩ := hl1.ev hi5
    refine st (ov_indexAddrN (k := 10) (i := i) Try.underlying22 Try.sizeOf29 rfl hl1.sl rfl hi4 ?_)
    refine st (fa29_2 rfl ?_)
    refine st (ov_load1 (v := (cellV w1 (sb vl) (so vl + i * 10 + 3))) Try.isAgg27 rfl (hc5.get (j := 3) rfl) ?_)
    refine st (ov_call (f := 33) (vals := [(cellV w1 (sb vl) (so vl + i * 10 + 3))]) (cap := []) (show _ = (.func (.func 33) #[] #[] : Value) from rfl) rfl Try.call33 (C_SpoilInts hd5 (fun b hb => hM.chg.soft b (fun _ => hs b hb))) ?_)
    rintro _ w2 ⟨rfl, hM6⟩
    obtain ⟨L7, hn8, hl9⟩ := RdS.loose hl1 hM6
    have hs10 := hM6.chg.size
    refine st_nil ?_
    refine WP_seq ?_
    refine WP_region0 (by kernel_rfl) (fun _ => ?_)
    refine st (ov_move (v := vl) rfl ?_)
    refine st (ov_move (v := .int .i64 ((i : Nat) : Int)) rfl ?_)
    have hi11 : i < L7.length := by omega
    have hi12 : i < L7.length := by omega
    obtain ⟨hc12, hd12, hok12⟩ := hl9.ev hi12
    refine st (ov_indexAddrN (k := 10) (i := i) Try.underlying22 Try.sizeOf29 rfl hl9.sl rfl hi11 ?_)
    refine st (fa29_1 rfl ?_)
    refine stn (ov_storeInt (O := F) (n := (L7[i]).lam) (k := 77) Try.sizeOf3 rfl rfl (hc12.get (j := 2) rfl) ((Chg.trans hM.chg hM6.chg).soft _ (fun _ => hs _ (hl9.foot (by intro e; have := congrArg List.length e; simp only [List.length_nil] at this; omega)))) (hl9.foot (by intro e; have := congrArg List.length e; simp only [List.length_nil] at this; omega)) (by omega) (fun w3 hM13 => ?_))
    obtain ⟨L14, hn15, hl16⟩ := RdS.loose hl9 hM13
    have hs17 := hM13.chg.size
    refine st_nil ?_
    refine WP_region0 (by kernel_rfl) (fun _ => ?_)
    refine st (ov_move (v := vl) rfl ?_)
    refine st (ov_move (v := .int .i64 ((i : Nat) : Int)) rfl ?_)
    have hi18 : i < L14.length := by omega
    have hi19 : i < L14.length := by omega
    obtain ⟨hc19, hd19, hok19⟩ := hl16.ev hi19
    refine st (ov_indexAddrN (k := 10) (i := i) Try.underlying22 Try.sizeOf29 rfl hl16.sl rfl hi18 ?_)
    refine st (fa29_7 rfl ?_)
    refine stn (ov_storeInt (O := F) (n := (L14[i]).arg) (k := -7) Try.sizeOf3 rfl rfl (hc19.get (j := 8) rfl) ((Chg.trans (Chg.trans hM.chg hM6.chg) hM13.chg).soft _ (fun _ => hs _ (hl16.foot (by intro e; have := congrArg List.length e; simp only [List.length_nil] at this; omega)))) (hl16.foot (by intro e; have := congrArg List.length e; simp only [List.length_nil] at this; omega)) (by omega) (fun w4 hM20 => ?_))
    obtain ⟨L21, hn22, hl23⟩ := RdS.loose hl16 hM20
    have hs24 := hM20.chg.size
    refine st_nil ?_
    refine WP_region0 (by kernel_rfl) (fun _ => ?_)
    refine st (ov_move (v := .int .i64 ((i : Nat) : Int)) rfl ?_)
    have hr25 : InR ((i + 1 : Nat) : Int) := by omega
    refine st (ov_add (r := ((i + 1 : Nat) : Int)) (k := .i64) (a := ((i : Nat) : Int)) (b := 1) rfl rfl (by rw [show (((i : Nat) : Int) + 1 : Int) = ((i + 1 : Nat) : Int) by omega]; exact wrap_in hr25) ?_)
    refine st (ov_assign (v := .int .i64 ((i + 1 : Nat) : Int)) rfl ?_)
    refine st_nil ?_
    exact ⟨_, by omega, i + 1, L21, _, rfl, setAll_self ⟨rfl, rfl, trivial⟩, (Mild.trans (Mild.trans (Mild.trans hM hM6) hM13) hM20), hl23, by omega, by omega⟩

end Go.Proofs.Ytbbhpddgjiifmaa
