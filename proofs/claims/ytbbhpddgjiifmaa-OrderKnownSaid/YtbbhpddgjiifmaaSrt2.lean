/- Steps of the proofs of this seat: part Srt2. -/
import Derived.Test.YtbbhpddgjiifmaaSrt1
set_option linter.unusedSimpArgs false
set_option linter.unusedVariables false
namespace Go.Proofs.Ytbbhpddgjiifmaa
open Go.Proofs Go.RowKit

theorem less_t {x y : Ev} (h : cmpP x y < 0) : less x y = true := by unfold less; exact decide_eq_true h
theorem less_f {x y : Ev} (h : ¬ cmpP x y < 0) : less x y = false := by unfold less; exact decide_eq_false h
theorem nless_t {x y : Ev} (h : cmpP x y < 0) : (!less x y) = false := by rw [less_t h]; rfl
theorem nless_f {x y : Ev} (h : ¬ cmpP x y < 0) : (!less x y) = true := by rw [less_f h]; rfl

def SymC (N : Nat) : Prop := ∀ {lo : Nat} {F : Nat → Prop} {vv : Value} {l : List Ev} {a md b cb : Nat} {w : World}, OwnS 29 lo w F vv l → w.heap[cb]? = some (.cells #[.func (.func 28) #[] #[]] 49) → a < md → md < b → b ≤ l.length → b - a ≤ N → vv.ownBlock ≠ some cb → Ret Try.prog 43 [vv, .int .i64 ((a : Nat) : Int), .int .i64 ((md : Nat) : Int), .int .i64 ((b : Nat) : Int), .func (.func 39) #[] #[.pointer (some ⟨cb, 0, none⟩)]] w (fun r w' => r = .tuple #[] ∧ OwnS 29 lo w' F vv (symL less N a md b l) ∧ Chg (fun i => vv.ownBlock = some i) w w')

set_option maxHeartbeats 4000000 in
theorem C_sym1 {w : World} {lo : Nat} {F : Nat → Prop} {vv : Value} {l : List Ev} (ho : OwnS 29 lo w F vv l) {a : Nat} {md : Nat} {b : Nat} {cb : Nat} (hcb : w.heap[cb]? = some (.cells #[.func (.func 28) #[] #[]] 49)) {N : Nat} (ih : ∀ {lo : Nat} {F : Nat → Prop} {vv : Value} {l : List Ev} {a md b cb : Nat} {w : World}, OwnS 29 lo w F vv l → w.heap[cb]? = some (.cells #[.func (.func 28) #[] #[]] 49) → a < md → md < b → b ≤ l.length → b - a ≤ N → vv.ownBlock ≠ some cb → Ret Try.prog 43 [vv, .int .i64 ((a : Nat) : Int), .int .i64 ((md : Nat) : Int), .int .i64 ((b : Nat) : Int), .func (.func 39) #[] #[.pointer (some ⟨cb, 0, none⟩)]] w (fun r w' => r = .tuple #[] ∧ OwnS 29 lo w' F vv (symL less N a md b l) ∧ Chg (fun i => vv.ownBlock = some i) w w')) (h1 : a < md) (h2 : md < b) (h3 : b ≤ l.length) (hN : b - a ≤ N + 1) (hne : vv.ownBlock ≠ some cb) : Ret Try.prog 43 [vv, .int .i64 ((a : Nat) : Int), .int .i64 ((md : Nat) : Int), .int .i64 ((b : Nat) : Int), .func (.func 39) #[] #[.pointer (some ⟨cb, 0, none⟩)]] w (fun r w' => r = .tuple #[] ∧ OwnS 29 lo w' F vv (symL less (N + 1) a md b l) ∧ Chg (fun i => vv.ownBlock = some i) w w') := by
  have hsm0 : l.length * 96 ≤ 140737488355328 := ho.small
  refine Calls_of_WP (args := [vv, .int .i64 ((a : Nat) : Int), .int .i64 ((md : Nat) : Int), .int .i64 ((b : Nat) : Int), .func (.func 39) #[] #[.pointer (some ⟨cb, 0, none⟩)]]) Try.func43 rfl rfl ?_
  refine WP_seq ?_
  refine WP_seq ?_
  refine WP_region0 (by kernel_rfl) (fun _ => ?_)
  refine st (ov_move (v := .int .i64 ((md : Nat) : Int)) rfl ?_)
  refine st (ov_move (v := .int .i64 ((a : Nat) : Int)) rfl ?_)
  have hr1 : InR ((md - a : Nat) : Int) := by omega
  refine st (ov_sub (r := ((md - a : Nat) : Int)) (k := .i64) (a := ((md : Nat) : Int)) (b := ((a : Nat) : Int)) rfl rfl (by rw [show (((md : Nat) : Int) - ((a : Nat) : Int) : Int) = ((md - a : Nat) : Int) by omega]; exact wrap_in hr1) ?_)
  refine st (ov_eql (k := .i64) (a := ((md - a : Nat) : Int)) (b := 1) rfl rfl ?_)
  refine st_nil ?_
  cases hc2 : decide (((md - a : Nat) : Int) = 1)
  · skip
    have hc2 := of_decide_eq_false hc2
    refine WP_cond_f rfl ?_
    refine WP_skip ?_
    refine WP_seq ?_
    refine WP_seq ?_
    refine WP_region0 (by kernel_rfl) (fun _ => ?_)
    refine st (ov_move (v := .int .i64 ((b : Nat) : Int)) rfl ?_)
    refine st (ov_move (v := .int .i64 ((md : Nat) : Int)) rfl ?_)
    have hr3 : InR ((b - md : Nat) : Int) := by omega
    refine st (ov_sub (r := ((b - md : Nat) : Int)) (k := .i64) (a := ((b : Nat) : Int)) (b := ((md : Nat) : Int)) rfl rfl (by rw [show (((b : Nat) : Int) - ((md : Nat) : Int) : Int) = ((b - md : Nat) : Int) by omega]; exact wrap_in hr3) ?_)
    refine st (ov_eql (k := .i64) (a := ((b - md : Nat) : Int)) (b := 1) rfl rfl ?_)
    refine st_nil ?_
    cases hc4 : decide (((b - md : Nat) : Int) = 1)
    · skip
      have hc4 := of_decide_eq_false hc4
      refine WP_cond_f rfl ?_
      refine WP_skip ?_
      refine WP_seq ?_
      refine WP_region0 (by kernel_rfl) (fun _ => ?_)
      refine st (ov_move (v := .int .i64 ((a : Nat) : Int)) rfl ?_)
      refine st (ov_move (v := .int .i64 ((b : Nat) : Int)) rfl ?_)
      have hr5 : InR ((a + b : Nat) : Int) := by omega
      refine st (ov_add (r := ((a + b : Nat) : Int)) (k := .i64) (a := ((a : Nat) : Int)) (b := ((b : Nat) : Int)) rfl rfl (by rw [show (((a : Nat) : Int) + ((b : Nat) : Int) : Int) = ((a + b : Nat) : Int) by omega]; exact wrap_in hr5) ?_)
      refine st (ov_cvt (k := .i64) (k2 := .u64) (a := ((a + b : Nat) : Int)) (r := ((a + b : Nat) : Int)) (by rw [Try.underlying3]; rfl) Try.underlying58 rfl (wrapU_in ⟨by omega, by omega⟩) ?_)
      refine st (ov_shr (k := .u64) (yk := .u64) (a := ((a + b : Nat) : Int)) (b := 1) (r := (((a + b) / 2 : Nat) : Int)) rfl rfl (by decide) (by decide) (by show ((a + b : Nat) : Int) / (2 : Int) ^ (1 : Nat) = (((a + b) / 2 : Nat) : Int); omega) ?_)
      refine st (ov_cvt (k := .u64) (k2 := .i64) (a := (((a + b) / 2 : Nat) : Int)) (r := (((a + b) / 2 : Nat) : Int)) (by rw [Try.underlying58]; rfl) Try.underlying3 rfl (wrap_in (by omega)) ?_)
      refine st (ov_assign (v := .int .i64 ((((a + b) / 2 : Nat) : Int))) rfl ?_)
      refine st_nil ?_
      refine WP_seq ?_
      refine WP_region0 (by kernel_rfl) (fun _ => ?_)
      refine st (ov_move (v := .int .i64 ((((a + b) / 2 : Nat) : Int))) rfl ?_)
      refine st (ov_move (v := .int .i64 ((md : Nat) : Int)) rfl ?_)
      have hr6 : InR ((((a + b) / 2) + md : Nat) : Int) := by omega
      refine st (ov_add (r := ((((a + b) / 2) + md : Nat) : Int)) (k := .i64) (a := (((a + b) / 2 : Nat) : Int)) (b := ((md : Nat) : Int)) rfl rfl (by rw [show ((((a + b) / 2 : Nat) : Int) + ((md : Nat) : Int) : Int) = ((((a + b) / 2) + md : Nat) : Int) by omega]; exact wrap_in hr6) ?_)
      refine st (ov_assign (v := .int .i64 ((((a + b) / 2) + md : Nat) : Int)) rfl ?_)
      refine st_nil ?_
      refine WP_seq ?_
      refine WP_region0 (by kernel_rfl) (fun _ => ?_)
      refine st (ov_assign (v := .int .i64 (0)) rfl ?_)
      refine st (ov_assign (v := .int .i64 (0)) rfl ?_)
      refine st_nil ?_
      refine WP_seq ?_
      refine WP_seq ?_
      refine WP_region0 (by kernel_rfl) (fun _ => ?_)
      refine st (ov_move (v := .int .i64 ((md : Nat) : Int)) rfl ?_)
      refine st (ov_move (v := .int .i64 ((((a + b) / 2 : Nat) : Int))) rfl ?_)
      refine st (ov_gtr (k := .i64) (a := ((md : Nat) : Int)) (b := (((a + b) / 2 : Nat) : Int)) rfl rfl ?_)
      refine st_nil ?_
      cases hc7 : decide ((((a + b) / 2 : Nat) : Int) < ((md : Nat) : Int))
      · skip
        have hc7 := of_decide_eq_false hc7
        refine WP_cond_f rfl ?_
        refine WP_seq ?_
        refine WP_region0 (by kernel_rfl) (fun _ => ?_)
        refine st (ov_move (v := .int .i64 ((a : Nat) : Int)) rfl ?_)
        refine st (ov_assign (v := .int .i64 ((a : Nat) : Int)) rfl ?_)
        refine st_nil ?_
        refine WP_region0 (by kernel_rfl) (fun _ => ?_)
        refine st (ov_move (v := .int .i64 ((md : Nat) : Int)) rfl ?_)
        refine st (ov_assign (v := .int .i64 ((md : Nat) : Int)) rfl ?_)
        refine st_nil ?_
        refine WP_seq ?_
        refine WP_region0 (by kernel_rfl) (fun _ => ?_)
        refine st (ov_move (v := .int .i64 ((((a + b) / 2) + md : Nat) : Int)) rfl ?_)
        have hr8 : InR (((((a + b) / 2) + md) - 1 : Nat) : Int) := by omega
        refine st (ov_sub (r := (((((a + b) / 2) + md) - 1 : Nat) : Int)) (k := .i64) (a := ((((a + b) / 2) + md : Nat) : Int)) (b := 1) rfl rfl (by rw [show (((((a + b) / 2) + md : Nat) : Int) - 1 : Int) = (((((a + b) / 2) + md) - 1 : Nat) : Int) by omega]; exact wrap_in hr8) ?_)
        refine st (ov_assign (v := .int .i64 (((((a + b) / 2) + md) - 1 : Nat) : Int)) rfl ?_)
        refine st_nil ?_
        refine WP_seq ?_
        refine WP_block ?_
        refine WP_loop (fun m σ wq => ∃ (i : Nat) (j : Nat) (g : Nat) (ρ : Env), m = 2 * (j - i) ∧ σ = setAll ρ [(0, vv), (1, .int .i64 ((a : Nat) : Int)), (2, .int .i64 ((md : Nat) : Int)), (3, .int .i64 ((b : Nat) : Int)), (4, .func (.func 39) #[] #[.pointer (some ⟨cb, 0, none⟩)]), (18, .int .i64 ((((a + b) / 2 : Nat) : Int))), (19, .int .i64 ((((a + b) / 2) + md : Nat) : Int)), (22, .int .i64 (((((a + b) / 2) + md) - 1 : Nat) : Int)), (20, .int .i64 ((i : Nat) : Int)), (21, .int .i64 ((j : Nat) : Int))] ∧ (Chg (fun i => vv.ownBlock = some i) w wq) ∧ (OwnS 29 lo wq F vv l) ∧ (wq.heap[cb]? = some (.cells #[.func (.func 28) #[] #[]] 49)) ∧ (a ≤ i) ∧ (i ≤ j) ∧ (j ≤ md) ∧ (j - i ≤ g) ∧ (bsA (fun c => !less (gd l ((a + b) / 2 + md - 1 - c)) (gd l c)) g i j = bsA (fun c => !less (gd l ((a + b) / 2 + md - 1 - c)) (gd l c)) (md - a) a md)) ⟨a, md, md - a, _, rfl, setAll_self ⟨rfl, rfl, rfl, rfl, rfl, rfl, rfl, rfl, rfl, rfl, trivial⟩, (Chg.refl _ _), ho, hcb, Nat.le_refl _, by omega, Nat.le_refl _, Nat.le_refl _, rfl⟩ ?_
        rintro m9 σ10 w1 ⟨i, j, g, ρ1, rfl, rfl, hx, ho1, hcb1, hi1, hi2, hj1, hg, hbs⟩
        have hxs := hx.size
        refine WP_seq ?_
        refine WP_seq ?_
        refine WP_region0 (by kernel_rfl) (fun _ => ?_)
        refine st (ov_move (v := .int .i64 ((i : Nat) : Int)) rfl ?_)
        refine st (ov_move (v := .int .i64 ((j : Nat) : Int)) rfl ?_)
        refine st (ov_lss (k := .i64) (a := ((i : Nat) : Int)) (b := ((j : Nat) : Int)) rfl rfl ?_)
        refine st_nil ?_
        cases hc11 : decide (((i : Nat) : Int) < ((j : Nat) : Int))
        · skip
          have hc11 := of_decide_eq_false hc11
          refine WP_cond_f rfl ?_
          refine WP_exit ?_
          refine blk_exit ?_
          refine WP_seq ?_
          refine WP_region0 (by kernel_rfl) (fun _ => ?_)
          refine st (ov_move (v := .int .i64 ((((a + b) / 2) + md : Nat) : Int)) rfl ?_)
          refine st (ov_move (v := .int .i64 ((i : Nat) : Int)) rfl ?_)
          have hr12 : InR (((((a + b) / 2) + md) - i : Nat) : Int) := by omega
          refine st (ov_sub (r := (((((a + b) / 2) + md) - i : Nat) : Int)) (k := .i64) (a := ((((a + b) / 2) + md : Nat) : Int)) (b := ((i : Nat) : Int)) rfl rfl (by rw [show (((((a + b) / 2) + md : Nat) : Int) - ((i : Nat) : Int) : Int) = (((((a + b) / 2) + md) - i : Nat) : Int) by omega]; exact wrap_in hr12) ?_)
          refine st (ov_assign (v := .int .i64 (((((a + b) / 2) + md) - i : Nat) : Int)) rfl ?_)
          refine st_nil ?_
          refine WP_seq ?_
          refine WP_seq ?_
          refine WP_region (by kernel_rfl) ?_
          refine st (ov_move (v := .int .i64 ((i : Nat) : Int)) rfl ?_)
          refine st (ov_move (v := .int .i64 ((md : Nat) : Int)) rfl ?_)
          refine st (ov_lss (k := .i64) (a := ((i : Nat) : Int)) (b := ((md : Nat) : Int)) rfl rfl ?_)
          refine st (ov_move (v := .bool (decide (((i : Nat) : Int) < ((md : Nat) : Int)))) rfl ?_)
          refine stc (V := .int .i64 ((md : Nat) : Int)) rfl rfl (fun hb13 => ?_) ?_
          · have hl14 : (decide (((i : Nat) : Int) < ((md : Nat) : Int))) = true := hb13
            have hl14 := of_decide_eq_true hl14
            exact ov_move (v := .int .i64 ((md : Nat) : Int)) rfl ⟨rfl, rfl⟩
          refine stc (V := .int .i64 (((((a + b) / 2) + md) - i : Nat) : Int)) rfl rfl (fun hb15 => ?_) ?_
          · have hl16 : (decide (((i : Nat) : Int) < ((md : Nat) : Int))) = true := hb15
            have hl16 := of_decide_eq_true hl16
            exact ov_move (v := .int .i64 (((((a + b) / 2) + md) - i : Nat) : Int)) rfl ⟨rfl, rfl⟩
          refine stc (V := .bool (decide (((md : Nat) : Int) < (((((a + b) / 2) + md) - i : Nat) : Int)))) rfl rfl (fun hb17 => ?_) ?_
          · have hl18 : (decide (((i : Nat) : Int) < ((md : Nat) : Int))) = true := hb17
            have hl18 := of_decide_eq_true hl18
            exact ov_lss (k := .i64) (a := ((md : Nat) : Int)) (b := (((((a + b) / 2) + md) - i : Nat) : Int)) (show _ = (.int .i64 ((md : Nat) : Int) : Value) from (if_pos hb17)) (show _ = (.int .i64 (((((a + b) / 2) + md) - i : Nat) : Int) : Value) from (if_pos hb17)) ⟨rfl, rfl⟩
          refine st (ov_pick_and (b := decide (((i : Nat) : Int) < ((md : Nat) : Int))) (b' := decide (((md : Nat) : Int) < (((((a + b) / 2) + md) - i : Nat) : Int))) rfl (fun hbp => (show _ = (.bool (decide (((md : Nat) : Int) < (((((a + b) / 2) + md) - i : Nat) : Int))) : Value) from (if_pos hbp))) ?_)
          refine st_nil ?_
          cases hc19 : (decide (((i : Nat) : Int) < ((md : Nat) : Int))) && (decide (((md : Nat) : Int) < (((((a + b) / 2) + md) - i : Nat) : Int)))
          · skip
            simp only [Bool.and_eq_true, Bool.or_eq_true, Bool.and_eq_false_iff, Bool.or_eq_false_iff, decide_eq_true_eq, decide_eq_false_iff_not, Bool.not_eq_true', Bool.not_eq_false', Int.not_lt, Int.not_le] at hc19
            refine WP_cond_f rfl ?_
            refine WP_skip ?_
            refine WP_seq ?_
            refine WP_seq ?_
            refine WP_region (by kernel_rfl) ?_
            refine st (ov_move (v := .int .i64 ((a : Nat) : Int)) rfl ?_)
            refine st (ov_move (v := .int .i64 ((i : Nat) : Int)) rfl ?_)
            refine st (ov_lss (k := .i64) (a := ((a : Nat) : Int)) (b := ((i : Nat) : Int)) rfl rfl ?_)
            refine st (ov_move (v := .bool (decide (((a : Nat) : Int) < ((i : Nat) : Int)))) rfl ?_)
            refine stc (V := .int .i64 ((i : Nat) : Int)) rfl rfl (fun hb20 => ?_) ?_
            · have hl21 : (decide (((a : Nat) : Int) < ((i : Nat) : Int))) = true := hb20
              have hl21 := of_decide_eq_true hl21
              exact ov_move (v := .int .i64 ((i : Nat) : Int)) rfl ⟨rfl, rfl⟩
            refine stc (V := .int .i64 ((((a + b) / 2 : Nat) : Int))) rfl rfl (fun hb22 => ?_) ?_
            · have hl23 : (decide (((a : Nat) : Int) < ((i : Nat) : Int))) = true := hb22
              have hl23 := of_decide_eq_true hl23
              exact ov_move (v := .int .i64 ((((a + b) / 2 : Nat) : Int))) rfl ⟨rfl, rfl⟩
            refine stc (V := .bool (decide (((i : Nat) : Int) < (((a + b) / 2 : Nat) : Int)))) rfl rfl (fun hb24 => ?_) ?_
            · have hl25 : (decide (((a : Nat) : Int) < ((i : Nat) : Int))) = true := hb24
              have hl25 := of_decide_eq_true hl25
              exact ov_lss (k := .i64) (a := ((i : Nat) : Int)) (b := (((a + b) / 2 : Nat) : Int)) (show _ = (.int .i64 ((i : Nat) : Int) : Value) from (if_pos hb24)) (show _ = (.int .i64 ((((a + b) / 2 : Nat) : Int)) : Value) from (if_pos hb24)) ⟨rfl, rfl⟩
            refine st (ov_pick_and (b := decide (((a : Nat) : Int) < ((i : Nat) : Int))) (b' := decide (((i : Nat) : Int) < (((a + b) / 2 : Nat) : Int))) rfl (fun hbp => (show _ = (.bool (decide (((i : Nat) : Int) < (((a + b) / 2 : Nat) : Int))) : Value) from (if_pos hbp))) ?_)
            refine st_nil ?_
            cases hc26 : (decide (((a : Nat) : Int) < ((i : Nat) : Int))) && (decide (((i : Nat) : Int) < (((a + b) / 2 : Nat) : Int)))
            · skip
              simp only [Bool.and_eq_true, Bool.or_eq_true, Bool.and_eq_false_iff, Bool.or_eq_false_iff, decide_eq_true_eq, decide_eq_false_iff_not, Bool.not_eq_true', Bool.not_eq_false', Int.not_lt, Int.not_le] at hc26
              refine WP_cond_f rfl ?_
              refine WP_skip ?_
              refine WP_seq ?_
              refine WP_region (by kernel_rfl) ?_
              refine st (ov_move (v := .int .i64 ((((a + b) / 2 : Nat) : Int))) rfl ?_)
              refine st (ov_move (v := .int .i64 (((((a + b) / 2) + md) - i : Nat) : Int)) rfl ?_)
              refine st (ov_lss (k := .i64) (a := (((a + b) / 2 : Nat) : Int)) (b := (((((a + b) / 2) + md) - i : Nat) : Int)) rfl rfl ?_)
              refine st (ov_move (v := .bool (decide ((((a + b) / 2 : Nat) : Int) < (((((a + b) / 2) + md) - i : Nat) : Int)))) rfl ?_)
              refine stc (V := .int .i64 (((((a + b) / 2) + md) - i : Nat) : Int)) rfl rfl (fun hb27 => ?_) ?_
              · have hl28 : (decide ((((a + b) / 2 : Nat) : Int) < (((((a + b) / 2) + md) - i : Nat) : Int))) = true := hb27
                have hl28 := of_decide_eq_true hl28
                exact ov_move (v := .int .i64 (((((a + b) / 2) + md) - i : Nat) : Int)) rfl ⟨rfl, rfl⟩
              refine stc (V := .int .i64 ((b : Nat) : Int)) rfl rfl (fun hb29 => ?_) ?_
              · have hl30 : (decide ((((a + b) / 2 : Nat) : Int) < (((((a + b) / 2) + md) - i : Nat) : Int))) = true := hb29
                have hl30 := of_decide_eq_true hl30
                exact ov_move (v := .int .i64 ((b : Nat) : Int)) rfl ⟨rfl, rfl⟩
              refine stc (V := .bool (decide ((((((a + b) / 2) + md) - i : Nat) : Int) < ((b : Nat) : Int)))) rfl rfl (fun hb31 => ?_) ?_
              · have hl32 : (decide ((((a + b) / 2 : Nat) : Int) < (((((a + b) / 2) + md) - i : Nat) : Int))) = true := hb31
                have hl32 := of_decide_eq_true hl32
                exact ov_lss (k := .i64) (a := (((((a + b) / 2) + md) - i : Nat) : Int)) (b := ((b : Nat) : Int)) (show _ = (.int .i64 (((((a + b) / 2) + md) - i : Nat) : Int) : Value) from (if_pos hb31)) (show _ = (.int .i64 ((b : Nat) : Int) : Value) from (if_pos hb31)) ⟨rfl, rfl⟩
              refine st (ov_pick_and (b := decide ((((a + b) / 2 : Nat) : Int) < (((((a + b) / 2) + md) - i : Nat) : Int))) (b' := decide ((((((a + b) / 2) + md) - i : Nat) : Int) < ((b : Nat) : Int))) rfl (fun hbp => (show _ = (.bool (decide ((((((a + b) / 2) + md) - i : Nat) : Int) < ((b : Nat) : Int))) : Value) from (if_pos hbp))) ?_)
              refine st_nil ?_
              cases hc33 : (decide ((((a + b) / 2 : Nat) : Int) < (((((a + b) / 2) + md) - i : Nat) : Int))) && (decide ((((((a + b) / 2) + md) - i : Nat) : Int) < ((b : Nat) : Int)))
              · skip
                simp only [Bool.and_eq_true, Bool.or_eq_true, Bool.and_eq_false_iff, Bool.or_eq_false_iff, decide_eq_true_eq, decide_eq_false_iff_not, Bool.not_eq_true', Bool.not_eq_false', Int.not_lt, Int.not_le] at hc33
                refine WP_cond_f rfl ?_
                refine WP_skip ?_
                refine fin0 Try.results43 ?_
                try simp only [Bool.and_eq_true, Bool.and_eq_false_iff, decide_eq_true_eq, decide_eq_false_iff_not] at hc11 hc19 hc26 hc33
                refine ⟨rfl, ?_, hx⟩
                have hS : symS less a md b l = i := by
                  unfold symS
                  first
                    | (simp only [if_pos (show (a + b) / 2 < md by omega)]; exact hbs.symm.trans (bsA_no (by omega)))
                    | (simp only [if_neg (show ¬ (a + b) / 2 < md by omega)]; exact hbs.symm.trans (bsA_no (by omega)))
                rw [symL, if_neg (by omega), if_neg (by omega)]
                dsimp only
                rw [hS]
                unfold symRot
                repeat (first | rw [if_pos (by omega)] | rw [if_neg (by omega)])
                first | exact ho1 | (exfalso; omega)
              · skip
                simp only [Bool.and_eq_true, Bool.or_eq_true, Bool.and_eq_false_iff, Bool.or_eq_false_iff, decide_eq_true_eq, decide_eq_false_iff_not, Bool.not_eq_true', Bool.not_eq_false', Int.not_lt, Int.not_le] at hc33
                refine WP_cond_t rfl ?_
                refine WP_region0 (by kernel_rfl) (fun _ => ?_)
                refine st (ov_move (v := vv) rfl ?_)
                refine st (ov_move (v := .int .i64 ((((a + b) / 2 : Nat) : Int))) rfl ?_)
                refine st (ov_move (v := .int .i64 (((((a + b) / 2) + md) - i : Nat) : Int)) rfl ?_)
                refine st (ov_move (v := .int .i64 ((b : Nat) : Int)) rfl ?_)
                refine st (ov_move (v := .func (.func 39) #[] #[.pointer (some ⟨cb, 0, none⟩)]) rfl ?_)
                refine st (ov_call (f := 43) (vals := [vv, .int .i64 ((((a + b) / 2 : Nat) : Int)), .int .i64 (((((a + b) / 2) + md) - i : Nat) : Int), .int .i64 ((b : Nat) : Int), .func (.func 39) #[] #[.pointer (some ⟨cb, 0, none⟩)]]) (cap := []) (show _ = (.func (.func 43) #[] #[] : Value) from rfl) rfl Try.call43 (ih (a := (a + b) / 2) (md := (((a + b) / 2) + md) - i) (b := b) ho1 hcb1 (by omega) (by omega) (by first | omega | (simp only [symL_length, rotL_length]; omega)) (by omega) hne) ?_)
                rintro _ w2 ⟨rfl, ho35, hch34⟩
                have hch34s := hch34.size
                have h36 := hch34.keep hcb1 (fun e => hne e)
                refine st_nil ?_
                refine fin0 Try.results43 ?_
                try simp only [Bool.and_eq_true, Bool.and_eq_false_iff, decide_eq_true_eq, decide_eq_false_iff_not] at hc11 hc19 hc26 hc33
                refine ⟨rfl, ?_, (Chg.trans hx hch34)⟩
                have hS : symS less a md b l = i := by
                  unfold symS
                  first
                    | (simp only [if_pos (show (a + b) / 2 < md by omega)]; exact hbs.symm.trans (bsA_no (by omega)))
                    | (simp only [if_neg (show ¬ (a + b) / 2 < md by omega)]; exact hbs.symm.trans (bsA_no (by omega)))
                rw [symL, if_neg (by omega), if_neg (by omega)]
                dsimp only
                rw [hS]
                unfold symRot
                repeat (first | rw [if_pos (by omega)] | rw [if_neg (by omega)])
                first | exact ho35 | (exfalso; omega)
            · skip
              simp only [Bool.and_eq_true, Bool.or_eq_true, Bool.and_eq_false_iff, Bool.or_eq_false_iff, decide_eq_true_eq, decide_eq_false_iff_not, Bool.not_eq_true', Bool.not_eq_false', Int.not_lt, Int.not_le] at hc26
              refine WP_cond_t rfl ?_
              refine WP_region0 (by kernel_rfl) (fun _ => ?_)
              refine st (ov_move (v := vv) rfl ?_)
              refine st (ov_move (v := .int .i64 ((a : Nat) : Int)) rfl ?_)
              refine st (ov_move (v := .int .i64 ((i : Nat) : Int)) rfl ?_)
              refine st (ov_move (v := .int .i64 ((((a + b) / 2 : Nat) : Int))) rfl ?_)
              refine st (ov_move (v := .func (.func 39) #[] #[.pointer (some ⟨cb, 0, none⟩)]) rfl ?_)
              refine st (ov_call (f := 43) (vals := [vv, .int .i64 ((a : Nat) : Int), .int .i64 ((i : Nat) : Int), .int .i64 ((((a + b) / 2 : Nat) : Int)), .func (.func 39) #[] #[.pointer (some ⟨cb, 0, none⟩)]]) (cap := []) (show _ = (.func (.func 43) #[] #[] : Value) from rfl) rfl Try.call43 (ih (a := a) (md := i) (b := (a + b) / 2) ho1 hcb1 (by omega) (by omega) (by first | omega | (simp only [symL_length, rotL_length]; omega)) (by omega) hne) ?_)
              rintro _ w3 ⟨rfl, ho38, hch37⟩
              have hch37s := hch37.size
              have h39 := hch37.keep hcb1 (fun e => hne e)
              refine st_nil ?_
              refine WP_seq ?_
              refine WP_region (by kernel_rfl) ?_
              refine st (ov_move (v := .int .i64 ((((a + b) / 2 : Nat) : Int))) rfl ?_)
              refine st (ov_move (v := .int .i64 (((((a + b) / 2) + md) - i : Nat) : Int)) rfl ?_)
              refine st (ov_lss (k := .i64) (a := (((a + b) / 2 : Nat) : Int)) (b := (((((a + b) / 2) + md) - i : Nat) : Int)) rfl rfl ?_)
              refine st (ov_move (v := .bool (decide ((((a + b) / 2 : Nat) : Int) < (((((a + b) / 2) + md) - i : Nat) : Int)))) rfl ?_)
              refine stc (V := .int .i64 (((((a + b) / 2) + md) - i : Nat) : Int)) rfl rfl (fun hb40 => ?_) ?_
              · have hl41 : (decide ((((a + b) / 2 : Nat) : Int) < (((((a + b) / 2) + md) - i : Nat) : Int))) = true := hb40
                have hl41 := of_decide_eq_true hl41
                exact ov_move (v := .int .i64 (((((a + b) / 2) + md) - i : Nat) : Int)) rfl ⟨rfl, rfl⟩
              refine stc (V := .int .i64 ((b : Nat) : Int)) rfl rfl (fun hb42 => ?_) ?_
              · have hl43 : (decide ((((a + b) / 2 : Nat) : Int) < (((((a + b) / 2) + md) - i : Nat) : Int))) = true := hb42
                have hl43 := of_decide_eq_true hl43
                exact ov_move (v := .int .i64 ((b : Nat) : Int)) rfl ⟨rfl, rfl⟩
              refine stc (V := .bool (decide ((((((a + b) / 2) + md) - i : Nat) : Int) < ((b : Nat) : Int)))) rfl rfl (fun hb44 => ?_) ?_
              · have hl45 : (decide ((((a + b) / 2 : Nat) : Int) < (((((a + b) / 2) + md) - i : Nat) : Int))) = true := hb44
                have hl45 := of_decide_eq_true hl45
                exact ov_lss (k := .i64) (a := (((((a + b) / 2) + md) - i : Nat) : Int)) (b := ((b : Nat) : Int)) (show _ = (.int .i64 (((((a + b) / 2) + md) - i : Nat) : Int) : Value) from (if_pos hb44)) (show _ = (.int .i64 ((b : Nat) : Int) : Value) from (if_pos hb44)) ⟨rfl, rfl⟩
              refine st (ov_pick_and (b := decide ((((a + b) / 2 : Nat) : Int) < (((((a + b) / 2) + md) - i : Nat) : Int))) (b' := decide ((((((a + b) / 2) + md) - i : Nat) : Int) < ((b : Nat) : Int))) rfl (fun hbp => (show _ = (.bool (decide ((((((a + b) / 2) + md) - i : Nat) : Int) < ((b : Nat) : Int))) : Value) from (if_pos hbp))) ?_)
              refine st_nil ?_
              cases hc46 : (decide ((((a + b) / 2 : Nat) : Int) < (((((a + b) / 2) + md) - i : Nat) : Int))) && (decide ((((((a + b) / 2) + md) - i : Nat) : Int) < ((b : Nat) : Int)))
              · skip
                simp only [Bool.and_eq_true, Bool.or_eq_true, Bool.and_eq_false_iff, Bool.or_eq_false_iff, decide_eq_true_eq, decide_eq_false_iff_not, Bool.not_eq_true', Bool.not_eq_false', Int.not_lt, Int.not_le] at hc46
                refine WP_cond_f rfl ?_
                refine WP_skip ?_
                refine fin0 Try.results43 ?_
                try simp only [Bool.and_eq_true, Bool.and_eq_false_iff, decide_eq_true_eq, decide_eq_false_iff_not] at hc11 hc19 hc26 hc46
                refine ⟨rfl, ?_, (Chg.trans hx hch37)⟩
                have hS : symS less a md b l = i := by
                  unfold symS
                  first
                    | (simp only [if_pos (show (a + b) / 2 < md by omega)]; exact hbs.symm.trans (bsA_no (by omega)))
                    | (simp only [if_neg (show ¬ (a + b) / 2 < md by omega)]; exact hbs.symm.trans (bsA_no (by omega)))
                rw [symL, if_neg (by omega), if_neg (by omega)]
                dsimp only
                rw [hS]
                unfold symRot
                repeat (first | rw [if_pos (by omega)] | rw [if_neg (by omega)])
                first | exact ho38 | (exfalso; omega)
              · skip
                simp only [Bool.and_eq_true, Bool.or_eq_true, Bool.and_eq_false_iff, Bool.or_eq_false_iff, decide_eq_true_eq, decide_eq_false_iff_not, Bool.not_eq_true', Bool.not_eq_false', Int.not_lt, Int.not_le] at hc46
                refine WP_cond_t rfl ?_
                refine WP_region0 (by kernel_rfl) (fun _ => ?_)
                refine st (ov_move (v := vv) rfl ?_)
                refine st (ov_move (v := .int .i64 ((((a + b) / 2 : Nat) : Int))) rfl ?_)
                refine st (ov_move (v := .int .i64 (((((a + b) / 2) + md) - i : Nat) : Int)) rfl ?_)
                refine st (ov_move (v := .int .i64 ((b : Nat) : Int)) rfl ?_)
                refine st (ov_move (v := .func (.func 39) #[] #[.pointer (some ⟨cb, 0, none⟩)]) rfl ?_)
                refine st (ov_call (f := 43) (vals := [vv, .int .i64 ((((a + b) / 2 : Nat) : Int)), .int .i64 (((((a + b) / 2) + md) - i : Nat) : Int), .int .i64 ((b : Nat) : Int), .func (.func 39) #[] #[.pointer (some ⟨cb, 0, none⟩)]]) (cap := []) (show _ = (.func (.func 43) #[] #[] : Value) from rfl) rfl Try.call43 (ih (a := (a + b) / 2) (md := (((a + b) / 2) + md) - i) (b := b) ho38 h39 (by omega) (by omega) (by first | omega | (simp only [symL_length, rotL_length]; omega)) (by omega) hne) ?_)
                rintro _ w4 ⟨rfl, ho48, hch47⟩
                have hch47s := hch47.size
                have h49 := hch47.keep h39 (fun e => hne e)
                refine st_nil ?_
                refine fin0 Try.results43 ?_
                try simp only [Bool.and_eq_true, Bool.and_eq_false_iff, decide_eq_true_eq, decide_eq_false_iff_not] at hc11 hc19 hc26 hc46
                refine ⟨rfl, ?_, (Chg.trans (Chg.trans hx hch37) hch47)⟩
                have hS : symS less a md b l = i := by
                  unfold symS
                  first
                    | (simp only [if_pos (show (a + b) / 2 < md by omega)]; exact hbs.symm.trans (bsA_no (by omega)))
                    | (simp only [if_neg (show ¬ (a + b) / 2 < md by omega)]; exact hbs.symm.trans (bsA_no (by omega)))
                rw [symL, if_neg (by omega), if_neg (by omega)]
                dsimp only
                rw [hS]
                unfold symRot
                repeat (first | rw [if_pos (by omega)] | rw [if_neg (by omega)])
                first | exact ho48 | (exfalso; omega)
          · skip
            simp only [Bool.and_eq_true, Bool.or_eq_true, Bool.and_eq_false_iff, Bool.or_eq_false_iff, decide_eq_true_eq, decide_eq_false_iff_not, Bool.not_eq_true', Bool.not_eq_false', Int.not_lt, Int.not_le] at hc19
            refine WP_cond_t rfl ?_
            refine WP_region0 (by kernel_rfl) (fun _ => ?_)
            refine st (ov_move (v := vv) rfl ?_)
            refine st (ov_move (v := .int .i64 ((i : Nat) : Int)) rfl ?_)
            refine st (ov_move (v := .int .i64 ((md : Nat) : Int)) rfl ?_)
            refine st (ov_move (v := .int .i64 (((((a + b) / 2) + md) - i : Nat) : Int)) rfl ?_)
            refine st (ov_move (v := .func (.func 39) #[] #[.pointer (some ⟨cb, 0, none⟩)]) rfl ?_)
            refine st (ov_call (f := 44) (vals := [vv, .int .i64 ((i : Nat) : Int), .int .i64 ((md : Nat) : Int), .int .i64 (((((a + b) / 2) + md) - i : Nat) : Int), .func (.func 39) #[] #[.pointer (some ⟨cb, 0, none⟩)]]) (cap := []) (show _ = (.func (.func 44) #[] #[] : Value) from rfl) rfl Try.call44 (C_rot (a := i) (md := md) (b := (((a + b) / 2) + md) - i) ho1 hcb1 (by omega) (by omega) (by omega) hne) ?_)
            rintro _ w5 ⟨rfl, ho51, hch50⟩
            have hch50s := hch50.size
            have h52 := hch50.keep hcb1 (fun e => hne e)
            refine st_nil ?_
            refine WP_seq ?_
            refine WP_seq ?_
            refine WP_region (by kernel_rfl) ?_
            refine st (ov_move (v := .int .i64 ((a : Nat) : Int)) rfl ?_)
            refine st (ov_move (v := .int .i64 ((i : Nat) : Int)) rfl ?_)
            refine st (ov_lss (k := .i64) (a := ((a : Nat) : Int)) (b := ((i : Nat) : Int)) rfl rfl ?_)
            refine st (ov_move (v := .bool (decide (((a : Nat) : Int) < ((i : Nat) : Int)))) rfl ?_)
            refine stc (V := .int .i64 ((i : Nat) : Int)) rfl rfl (fun hb53 => ?_) ?_
            · have hl54 : (decide (((a : Nat) : Int) < ((i : Nat) : Int))) = true := hb53
              have hl54 := of_decide_eq_true hl54
              exact ov_move (v := .int .i64 ((i : Nat) : Int)) rfl ⟨rfl, rfl⟩
            refine stc (V := .int .i64 ((((a + b) / 2 : Nat) : Int))) rfl rfl (fun hb55 => ?_) ?_
            · have hl56 : (decide (((a : Nat) : Int) < ((i : Nat) : Int))) = true := hb55
              have hl56 := of_decide_eq_true hl56
              exact ov_move (v := .int .i64 ((((a + b) / 2 : Nat) : Int))) rfl ⟨rfl, rfl⟩
            refine stc (V := .bool (decide (((i : Nat) : Int) < (((a + b) / 2 : Nat) : Int)))) rfl rfl (fun hb57 => ?_) ?_
            · have hl58 : (decide (((a : Nat) : Int) < ((i : Nat) : Int))) = true := hb57
              have hl58 := of_decide_eq_true hl58
              exact ov_lss (k := .i64) (a := ((i : Nat) : Int)) (b := (((a + b) / 2 : Nat) : Int)) (show _ = (.int .i64 ((i : Nat) : Int) : Value) from (if_pos hb57)) (show _ = (.int .i64 ((((a + b) / 2 : Nat) : Int)) : Value) from (if_pos hb57)) ⟨rfl, rfl⟩
            refine st (ov_pick_and (b := decide (((a : Nat) : Int) < ((i : Nat) : Int))) (b' := decide (((i : Nat) : Int) < (((a + b) / 2 : Nat) : Int))) rfl (fun hbp => (show _ = (.bool (decide (((i : Nat) : Int) < (((a + b) / 2 : Nat) : Int))) : Value) from (if_pos hbp))) ?_)
            refine st_nil ?_
            cases hc59 : (decide (((a : Nat) : Int) < ((i : Nat) : Int))) && (decide (((i : Nat) : Int) < (((a + b) / 2 : Nat) : Int)))
            · skip
              simp only [Bool.and_eq_true, Bool.or_eq_true, Bool.and_eq_false_iff, Bool.or_eq_false_iff, decide_eq_true_eq, decide_eq_false_iff_not, Bool.not_eq_true', Bool.not_eq_false', Int.not_lt, Int.not_le] at hc59
              refine WP_cond_f rfl ?_
              refine WP_skip ?_
              refine WP_seq ?_
              refine WP_region (by kernel_rfl) ?_
              refine st (ov_move (v := .int .i64 ((((a + b) / 2 : Nat) : Int))) rfl ?_)
              refine st (ov_move (v := .int .i64 (((((a + b) / 2) + md) - i : Nat) : Int)) rfl ?_)
              refine st (ov_lss (k := .i64) (a := (((a + b) / 2 : Nat) : Int)) (b := (((((a + b) / 2) + md) - i : Nat) : Int)) rfl rfl ?_)
              refine st (ov_move (v := .bool (decide ((((a + b) / 2 : Nat) : Int) < (((((a + b) / 2) + md) - i : Nat) : Int)))) rfl ?_)
              refine stc (V := .int .i64 (((((a + b) / 2) + md) - i : Nat) : Int)) rfl rfl (fun hb60 => ?_) ?_
              · have hl61 : (decide ((((a + b) / 2 : Nat) : Int) < (((((a + b) / 2) + md) - i : Nat) : Int))) = true := hb60
                have hl61 := of_decide_eq_true hl61
                exact ov_move (v := .int .i64 (((((a + b) / 2) + md) - i : Nat) : Int)) rfl ⟨rfl, rfl⟩
              refine stc (V := .int .i64 ((b : Nat) : Int)) rfl rfl (fun hb62 => ?_) ?_
              · have hl63 : (decide ((((a + b) / 2 : Nat) : Int) < (((((a + b) / 2) + md) - i : Nat) : Int))) = true := hb62
                have hl63 := of_decide_eq_true hl63
                exact ov_move (v := .int .i64 ((b : Nat) : Int)) rfl ⟨rfl, rfl⟩
              refine stc (V := .bool (decide ((((((a + b) / 2) + md) - i : Nat) : Int) < ((b : Nat) : Int)))) rfl rfl (fun hb64 => ?_) ?_
              · have hl65 : (decide ((((a + b) / 2 : Nat) : Int) < (((((a + b) / 2) + md) - i : Nat) : Int))) = true := hb64
                have hl65 := of_decide_eq_true hl65
                exact ov_lss (k := .i64) (a := (((((a + b) / 2) + md) - i : Nat) : Int)) (b := ((b : Nat) : Int)) (show _ = (.int .i64 (((((a + b) / 2) + md) - i : Nat) : Int) : Value) from (if_pos hb64)) (show _ = (.int .i64 ((b : Nat) : Int) : Value) from (if_pos hb64)) ⟨rfl, rfl⟩
              refine st (ov_pick_and (b := decide ((((a + b) / 2 : Nat) : Int) < (((((a + b) / 2) + md) - i : Nat) : Int))) (b' := decide ((((((a + b) / 2) + md) - i : Nat) : Int) < ((b : Nat) : Int))) rfl (fun hbp => (show _ = (.bool (decide ((((((a + b) / 2) + md) - i : Nat) : Int) < ((b : Nat) : Int))) : Value) from (if_pos hbp))) ?_)
              refine st_nil ?_
              cases hc66 : (decide ((((a + b) / 2 : Nat) : Int) < (((((a + b) / 2) + md) - i : Nat) : Int))) && (decide ((((((a + b) / 2) + md) - i : Nat) : Int) < ((b : Nat) : Int)))
              · skip
                simp only [Bool.and_eq_true, Bool.or_eq_true, Bool.and_eq_false_iff, Bool.or_eq_false_iff, decide_eq_true_eq, decide_eq_false_iff_not, Bool.not_eq_true', Bool.not_eq_false', Int.not_lt, Int.not_le] at hc66
                refine WP_cond_f rfl ?_
                refine WP_skip ?_
                refine fin0 Try.results43 ?_
                try simp only [Bool.and_eq_true, Bool.and_eq_false_iff, decide_eq_true_eq, decide_eq_false_iff_not] at hc11 hc19 hc59 hc66
                refine ⟨rfl, ?_, (Chg.trans hx hch50)⟩
                have hS : symS less a md b l = i := by
                  unfold symS
                  first
                    | (simp only [if_pos (show (a + b) / 2 < md by omega)]; exact hbs.symm.trans (bsA_no (by omega)))
                    | (simp only [if_neg (show ¬ (a + b) / 2 < md by omega)]; exact hbs.symm.trans (bsA_no (by omega)))
                rw [symL, if_neg (by omega), if_neg (by omega)]
                dsimp only
                rw [hS]
                unfold symRot
                repeat (first | rw [if_pos (by omega)] | rw [if_neg (by omega)])
                first | exact ho51 | (exfalso; omega)
              · skip
                simp only [Bool.and_eq_true, Bool.or_eq_true, Bool.and_eq_false_iff, Bool.or_eq_false_iff, decide_eq_true_eq, decide_eq_false_iff_not, Bool.not_eq_true', Bool.not_eq_false', Int.not_lt, Int.not_le] at hc66
                refine WP_cond_t rfl ?_
                refine WP_region0 (by kernel_rfl) (fun _ => ?_)
                refine st (ov_move (v := vv) rfl ?_)
                refine st (ov_move (v := .int .i64 ((((a + b) / 2 : Nat) : Int))) rfl ?_)
                refine st (ov_move (v := .int .i64 (((((a + b) / 2) + md) - i : Nat) : Int)) rfl ?_)
                refine st (ov_move (v := .int .i64 ((b : Nat) : Int)) rfl ?_)
                refine st (ov_move (v := .func (.func 39) #[] #[.pointer (some ⟨cb, 0, none⟩)]) rfl ?_)
                refine st (ov_call (f := 43) (vals := [vv, .int .i64 ((((a + b) / 2 : Nat) : Int)), .int .i64 (((((a + b) / 2) + md) - i : Nat) : Int), .int .i64 ((b : Nat) : Int), .func (.func 39) #[] #[.pointer (some ⟨cb, 0, none⟩)]]) (cap := []) (show _ = (.func (.func 43) #[] #[] : Value) from rfl) rfl Try.call43 (ih (a := (a + b) / 2) (md := (((a + b) / 2) + md) - i) (b := b) ho51 h52 (by omega) (by omega) (by first | omega | (simp only [symL_length, rotL_length]; omega)) (by omega) hne) ?_)
                rintro _ w6 ⟨rfl, ho68, hch67⟩
                have hch67s := hch67.size
                have h69 := hch67.keep h52 (fun e => hne e)
                refine st_nil ?_
                refine fin0 Try.results43 ?_
                try simp only [Bool.and_eq_true, Bool.and_eq_false_iff, decide_eq_true_eq, decide_eq_false_iff_not] at hc11 hc19 hc59 hc66
                refine ⟨rfl, ?_, (Chg.trans (Chg.trans hx hch50) hch67)⟩
                have hS : symS less a md b l = i := by
                  unfold symS
                  first
                    | (simp only [if_pos (show (a + b) / 2 < md by omega)]; exact hbs.symm.trans (bsA_no (by omega)))
                    | (simp only [if_neg (show ¬ (a + b) / 2 < md by omega)]; exact hbs.symm.trans (bsA_no (by omega)))
                rw [symL, if_neg (by omega), if_neg (by omega)]
                dsimp only
                rw [hS]
                unfold symRot
                repeat (first | rw [if_pos (by omega)] | rw [if_neg (by omega)])
                first | exact ho68 | (exfalso; omega)
            · skip
              simp only [Bool.and_eq_true, Bool.or_eq_true, Bool.and_eq_false_iff, Bool.or_eq_false_iff, decide_eq_true_eq, decide_eq_false_iff_not, Bool.not_eq_true', Bool.not_eq_false', Int.not_lt, Int.not_le] at hc59
              refine WP_cond_t rfl ?_
              refine WP_region0 (by kernel_rfl) (fun _ => ?_)
              refine st (ov_move (v := vv) rfl ?_)
              refine st (ov_move (v := .int .i64 ((a : Nat) : Int)) rfl ?_)
              refine st (ov_move (v := .int .i64 ((i : Nat) : Int)) rfl ?_)
              refine st (ov_move (v := .int .i64 ((((a + b) / 2 : Nat) : Int))) rfl ?_)
              refine st (ov_move (v := .func (.func 39) #[] #[.pointer (some ⟨cb, 0, none⟩)]) rfl ?_)
              refine st (ov_call (f := 43) (vals := [vv, .int .i64 ((a : Nat) : Int), .int .i64 ((i : Nat) : Int), .int .i64 ((((a + b) / 2 : Nat) : Int)), .func (.func 39) #[] #[.pointer (some ⟨cb, 0, none⟩)]]) (cap := []) (show _ = (.func (.func 43) #[] #[] : Value) from rfl) rfl Try.call43 (ih (a := a) (md := i) (b := (a + b) / 2) ho51 h52 (by omega) (by omega) (by first | omega | (simp only [symL_length, rotL_length]; omega)) (by omega) hne) ?_)
              rintro _ w7 ⟨rfl, ho71, hch70⟩
              have hch70s := hch70.size
              have h72 := hch70.keep h52 (fun e => hne e)
              refine st_nil ?_
              refine WP_seq ?_
              refine WP_region (by kernel_rfl) ?_
              refine st (ov_move (v := .int .i64 ((((a + b) / 2 : Nat) : Int))) rfl ?_)
              refine st (ov_move (v := .int .i64 (((((a + b) / 2) + md) - i : Nat) : Int)) rfl ?_)
              refine st (ov_lss (k := .i64) (a := (((a + b) / 2 : Nat) : Int)) (b := (((((a + b) / 2) + md) - i : Nat) : Int)) rfl rfl ?_)
              refine st (ov_move (v := .bool (decide ((((a + b) / 2 : Nat) : Int) < (((((a + b) / 2) + md) - i : Nat) : Int)))) rfl ?_)
              refine stc (V := .int .i64 (((((a + b) / 2) + md) - i : Nat) : Int)) rfl rfl (fun hb73 => ?_) ?_
              · have hl74 : (decide ((((a + b) / 2 : Nat) : Int) < (((((a + b) / 2) + md) - i : Nat) : Int))) = true := hb73
                have hl74 := of_decide_eq_true hl74
                exact ov_move (v := .int .i64 (((((a + b) / 2) + md) - i : Nat) : Int)) rfl ⟨rfl, rfl⟩
              refine stc (V := .int .i64 ((b : Nat) : Int)) rfl rfl (fun hb75 => ?_) ?_
              · have hl76 : (decide ((((a + b) / 2 : Nat) : Int) < (((((a + b) / 2) + md) - i : Nat) : Int))) = true := hb75
                have hl76 := of_decide_eq_true hl76
                exact ov_move (v := .int .i64 ((b : Nat) : Int)) rfl ⟨rfl, rfl⟩
              refine stc (V := .bool (decide ((((((a + b) / 2) + md) - i : Nat) : Int) < ((b : Nat) : Int)))) rfl rfl (fun hb77 => ?_) ?_
              · have hl78 : (decide ((((a + b) / 2 : Nat) : Int) < (((((a + b) / 2) + md) - i : Nat) : Int))) = true := hb77
                have hl78 := of_decide_eq_true hl78
                exact ov_lss (k := .i64) (a := (((((a + b) / 2) + md) - i : Nat) : Int)) (b := ((b : Nat) : Int)) (show _ = (.int .i64 (((((a + b) / 2) + md) - i : Nat) : Int) : Value) from (if_pos hb77)) (show _ = (.int .i64 ((b : Nat) : Int) : Value) from (if_pos hb77)) ⟨rfl, rfl⟩
              refine st (ov_pick_and (b := decide ((((a + b) / 2 : Nat) : Int) < (((((a + b) / 2) + md) - i : Nat) : Int))) (b' := decide ((((((a + b) / 2) + md) - i : Nat) : Int) < ((b : Nat) : Int))) rfl (fun hbp => (show _ = (.bool (decide ((((((a + b) / 2) + md) - i : Nat) : Int) < ((b : Nat) : Int))) : Value) from (if_pos hbp))) ?_)
              refine st_nil ?_
              cases hc79 : (decide ((((a + b) / 2 : Nat) : Int) < (((((a + b) / 2) + md) - i : Nat) : Int))) && (decide ((((((a + b) / 2) + md) - i : Nat) : Int) < ((b : Nat) : Int)))
              · skip
                simp only [Bool.and_eq_true, Bool.or_eq_true, Bool.and_eq_false_iff, Bool.or_eq_false_iff, decide_eq_true_eq, decide_eq_false_iff_not, Bool.not_eq_true', Bool.not_eq_false', Int.not_lt, Int.not_le] at hc79
                refine WP_cond_f rfl ?_
                refine WP_skip ?_
                refine fin0 Try.results43 ?_
                try simp only [Bool.and_eq_true, Bool.and_eq_false_iff, decide_eq_true_eq, decide_eq_false_iff_not] at hc11 hc19 hc59 hc79
                refine ⟨rfl, ?_, (Chg.trans (Chg.trans hx hch50) hch70)⟩
                have hS : symS less a md b l = i := by
                  unfold symS
                  first
                    | (simp only [if_pos (show (a + b) / 2 < md by omega)]; exact hbs.symm.trans (bsA_no (by omega)))
                    | (simp only [if_neg (show ¬ (a + b) / 2 < md by omega)]; exact hbs.symm.trans (bsA_no (by omega)))
                rw [symL, if_neg (by omega), if_neg (by omega)]
                dsimp only
                rw [hS]
                unfold symRot
                repeat (first | rw [if_pos (by omega)] | rw [if_neg (by omega)])
                first | exact ho71 | (exfalso; omega)
              · skip
                simp only [Bool.and_eq_true, Bool.or_eq_true, Bool.and_eq_false_iff, Bool.or_eq_false_iff, decide_eq_true_eq, decide_eq_false_iff_not, Bool.not_eq_true', Bool.not_eq_false', Int.not_lt, Int.not_le] at hc79
                refine WP_cond_t rfl ?_
                refine WP_region0 (by kernel_rfl) (fun _ => ?_)
                refine st (ov_move (v := vv) rfl ?_)
                refine st (ov_move (v := .int .i64 ((((a + b) / 2 : Nat) : Int))) rfl ?_)
                refine st (ov_move (v := .int .i64 (((((a + b) / 2) + md) - i : Nat) : Int)) rfl ?_)
                refine st (ov_move (v := .int .i64 ((b : Nat) : Int)) rfl ?_)
                refine st (ov_move (v := .func (.func 39) #[] #[.pointer (some ⟨cb, 0, none⟩)]) rfl ?_)
                refine st (ov_call (f := 43) (vals := [vv, .int .i64 ((((a + b) / 2 : Nat) : Int)), .int .i64 (((((a + b) / 2) + md) - i : Nat) : Int), .int .i64 ((b : Nat) : Int), .func (.func 39) #[] #[.pointer (some ⟨cb, 0, none⟩)]]) (cap := []) (show _ = (.func (.func 43) #[] #[] : Value) from rfl) rfl Try.call43 (ih (a := (a + b) / 2) (md := (((a + b) / 2) + md) - i) (b := b) ho71 h72 (by omega) (by omega) (by first | omega | (simp only [symL_length, rotL_length]; omega)) (by omega) hne) ?_)
                rintro _ w8 ⟨rfl, ho81, hch80⟩
                have hch80s := hch80.size
                have h82 := hch80.keep h72 (fun e => hne e)
                refine st_nil ?_
                refine fin0 Try.results43 ?_
                try simp only [Bool.and_eq_true, Bool.and_eq_false_iff, decide_eq_true_eq, decide_eq_false_iff_not] at hc11 hc19 hc59 hc79
                refine ⟨rfl, ?_, (Chg.trans (Chg.trans (Chg.trans hx hch50) hch70) hch80)⟩
                have hS : symS less a md b l = i := by
                  unfold symS
                  first
                    | (simp only [if_pos (show (a + b) / 2 < md by omega)]; exact hbs.symm.trans (bsA_no (by omega)))
                    | (simp only [if_neg (show ¬ (a + b) / 2 < md by omega)]; exact hbs.symm.trans (bsA_no (by omega)))
                rw [symL, if_neg (by omega), if_neg (by omega)]
                dsimp only
                rw [hS]
                unfold symRot
                repeat (first | rw [if_pos (by omega)] | rw [if_neg (by omega)])
                first | exact ho81 | (exfalso; omega)
        · skip
          have hc11 := of_decide_eq_true hc11
          refine WP_cond_t rfl ?_
          refine WP_skip ?_
          refine WP_block ?_
          refine WP_seq ?_
          refine WP_region0 (by kernel_rfl) (fun _ => ?_)
          refine st (ov_move (v := .int .i64 ((i : Nat) : Int)) rfl ?_)
          refine st (ov_move (v := .int .i64 ((j : Nat) : Int)) rfl ?_)
          have hr83 : InR ((i + j : Nat) : Int) := by omega
          refine st (ov_add (r := ((i + j : Nat) : Int)) (k := .i64) (a := ((i : Nat) : Int)) (b := ((j : Nat) : Int)) rfl rfl (by rw [show (((i : Nat) : Int) + ((j : Nat) : Int) : Int) = ((i + j : Nat) : Int) by omega]; exact wrap_in hr83) ?_)
          refine st (ov_cvt (k := .i64) (k2 := .u64) (a := ((i + j : Nat) : Int)) (r := ((i + j : Nat) : Int)) (by rw [Try.underlying3]; rfl) Try.underlying58 rfl (wrapU_in ⟨by omega, by omega⟩) ?_)
          refine st (ov_shr (k := .u64) (yk := .u64) (a := ((i + j : Nat) : Int)) (b := 1) (r := (((i + j) / 2 : Nat) : Int)) rfl rfl (by decide) (by decide) (by show ((i + j : Nat) : Int) / (2 : Int) ^ (1 : Nat) = (((i + j) / 2 : Nat) : Int); omega) ?_)
          refine st (ov_cvt (k := .u64) (k2 := .i64) (a := (((i + j) / 2 : Nat) : Int)) (r := (((i + j) / 2 : Nat) : Int)) (by rw [Try.underlying58]; rfl) Try.underlying3 rfl (wrap_in (by omega)) ?_)
          refine st (ov_assign (v := .int .i64 ((((i + j) / 2 : Nat) : Int))) rfl ?_)
          refine st_nil ?_
          refine WP_seq ?_
          refine WP_draw Ext (AL [fun v w => v = (.func (.func 39) #[] #[.pointer (some ⟨cb, 0, none⟩)] : Value), fun v w => v = (vv : Value), fun v w => v = (.int .i64 (((((a + b) / 2) + md) - 1 : Nat) : Int) : Value), fun v w => v = (.int .i64 ((((i + j) / 2 : Nat) : Int)) : Value), fun v w => v = (.int .i64 ((((((a + b) / 2) + md) - 1) - ((i + j) / 2) : Nat) : Int) : Value), fun v w => v = (.pointer (some ⟨sb vv, so vv + (((((a + b) / 2) + md) - 1) - ((i + j) / 2)) * 10, none⟩) : Value), fun v w => v = (.agg ((l.getD (((((a + b) / 2) + md) - 1) - ((i + j) / 2)) default).cells (cellV w1 (sb vv) (so vv + (((((a + b) / 2) + md) - 1) - ((i + j) / 2)) * 10 + 3))).toArray : Value), fun v w => v = (vv : Value), fun v w => v = (.int .i64 ((((i + j) / 2 : Nat) : Int)) : Value), fun v w => v = (.pointer (some ⟨sb vv, so vv + ((i + j) / 2) * 10, none⟩) : Value), fun v w => v = (.agg ((l.getD ((i + j) / 2) default).cells (cellV w1 (sb vv) (so vv + ((i + j) / 2) * 10 + 3))).toArray : Value)]) [[], [], [], [], [2, 3], [1, 2, 3, 4], [1, 2, 3, 4, 5], [], [], [7, 8], [7, 8, 9], [0, 1, 2, 3, 4, 5, 6, 7, 8, 9, 10], [0, 1, 2, 3, 4, 5, 6, 7, 8, 9, 10, 11], [0, 1, 2, 3, 4, 5, 6, 7, 8, 9, 10, 11, 12]] 11 (by kernel_rfl) (by kernel_rfl) (by kernel_rfl) (fun w => Chg.refl _ w) (fun _ _ _ h1 h2 => h1.trans h2) (stabL ⟨fun _ _ _ _ h => h, fun _ _ _ _ h => h, fun _ _ _ _ h => h, fun _ _ _ _ h => h, fun _ _ _ _ h => h, fun _ _ _ _ h => h, fun _ _ _ _ h => h, fun _ _ _ _ h => h, fun _ _ _ _ h => h, fun _ _ _ _ h => h, fun _ _ _ _ h => h, trivial⟩) ?_
          intro w9 qh1 qh2 qh3 qh4
          have hx84 := ext_same qh1 qh2 qh3 qh4
          refine ⟨⟨?_, ?_, ?_, ?_, ?_, ?_, ?_, ?_, ?_, ?_, ?_, trivial⟩, ?_⟩
          · intro vals w10 hR85 hA
            have hs86 := hR85.size
            refine obl rfl ?_
            exact ov_move (v := .func (.func 39) #[] #[.pointer (some ⟨cb, 0, none⟩)]) rfl ⟨Chg.refl _ _, rfl⟩
          · intro vals w11 hR87 hA
            have hs88 := hR87.size
            refine obl rfl ?_
            exact ov_move (v := vv) rfl ⟨Chg.refl _ _, rfl⟩
          · intro vals w12 hR89 hA
            have hs90 := hR89.size
            refine obl rfl ?_
            exact ov_move (v := .int .i64 (((((a + b) / 2) + md) - 1 : Nat) : Int)) rfl ⟨Chg.refl _ _, rfl⟩
          · intro vals w13 hR91 hA
            have hs92 := hR91.size
            refine obl rfl ?_
            exact ov_move (v := .int .i64 ((((i + j) / 2 : Nat) : Int))) rfl ⟨Chg.refl _ _, rfl⟩
          · intro vals w14 hR93 hA
            have hs94 := hR93.size
            have e2 : (vals 2) = (.int .i64 (((((a + b) / 2) + md) - 1 : Nat) : Int) : Value) := hA 2 (by decide)
            have e3 : (vals 3) = (.int .i64 ((((i + j) / 2 : Nat) : Int)) : Value) := hA 3 (by decide)
            refine obl rfl ?_
            have hr95 : InR ((((((a + b) / 2) + md) - 1) - ((i + j) / 2) : Nat) : Int) := by omega
            exact ov_sub (r := ((((((a + b) / 2) + md) - 1) - ((i + j) / 2) : Nat) : Int)) (k := .i64) (a := (((((a + b) / 2) + md) - 1 : Nat) : Int)) (b := (((i + j) / 2 : Nat) : Int)) (show _ = (.int .i64 (((((a + b) / 2) + md) - 1 : Nat) : Int) : Value) from e2) (show _ = (.int .i64 ((((i + j) / 2 : Nat) : Int)) : Value) from e3) (by rw [show ((((((a + b) / 2) + md) - 1 : Nat) : Int) - (((i + j) / 2 : Nat) : Int) : Int) = ((((((a + b) / 2) + md) - 1) - ((i + j) / 2) : Nat) : Int) by omega]; exact wrap_in hr95) ⟨Chg.refl _ _, rfl⟩
          · intro vals w15 hR96 hA
            have hs97 := hR96.size
            have e1 : (vals 1) = (vv : Value) := hA 1 (by decide)
            have e4 : (vals 4) = (.int .i64 ((((((a + b) / 2) + md) - 1) - ((i + j) / 2) : Nat) : Int) : Value) := hA 4 (by decide)
            refine obl rfl ?_
            have hi98 : ((((a + b) / 2) + md) - 1) - ((i + j) / 2) < l.length := by omega
            have hi99 : ((((a + b) / 2) + md) - 1) - ((i + j) / 2) < l.length := by omega
            obtain ⟨hc99, hd99, hok99⟩ := ho1.ev hi99
            rw [← getD_at default hi99] at hc99 hd99 hok99
            exact ov_indexAddrN (k := 10) (i := ((((a + b) / 2) + md) - 1) - ((i + j) / 2)) Try.underlying22 Try.sizeOf29 (show _ = (vv : Value) from e1) ho1.isSl (show _ = (.int .i64 ((((((a + b) / 2) + md) - 1) - ((i + j) / 2) : Nat) : Int) : Value) from e4) hi98 ⟨Chg.refl _ _, rfl⟩
          · intro vals w16 hR100 hA
            have hs101 := hR100.size
            have e5 : (vals 5) = (.pointer (some ⟨sb vv, so vv + (((((a + b) / 2) + md) - 1) - ((i + j) / 2)) * 10, none⟩) : Value) := hA 5 (by decide)
            refine obl rfl ?_
            have hi102 : ((((a + b) / 2) + md) - 1) - ((i + j) / 2) < l.length := by omega
            obtain ⟨hc102, hd102, hok102⟩ := ho1.ev hi102
            rw [← getD_at default hi102] at hc102 hd102 hok102
            have h103 := hc102.mono (fun hb => (Chg.trans hx84 hR100).block _ hb (fun h => h))
            exact ov_loadk (k := 10) Try.isAgg29 Try.sizeOf29 rfl (show _ = (.pointer (some ⟨sb vv, so vv + (((((a + b) / 2) + md) - 1) - ((i + j) / 2)) * 10, none⟩) : Value) from e5) h103 ⟨Chg.refl _ _, rfl⟩
          · intro vals w17 hR104 hA
            have hs105 := hR104.size
            refine obl rfl ?_
            exact ov_move (v := vv) rfl ⟨Chg.refl _ _, rfl⟩
          · intro vals w18 hR106 hA
            have hs107 := hR106.size
            refine obl rfl ?_
            exact ov_move (v := .int .i64 ((((i + j) / 2 : Nat) : Int))) rfl ⟨Chg.refl _ _, rfl⟩
          · intro vals w19 hR108 hA
            have hs109 := hR108.size
            have e7 : (vals 7) = (vv : Value) := hA 7 (by decide)
            have e8 : (vals 8) = (.int .i64 ((((i + j) / 2 : Nat) : Int)) : Value) := hA 8 (by decide)
            refine obl rfl ?_
            have hi110 : (i + j) / 2 < l.length := by omega
            have hi111 : (i + j) / 2 < l.length := by omega
            obtain ⟨hc111, hd111, hok111⟩ := ho1.ev hi111
            rw [← getD_at default hi111] at hc111 hd111 hok111
            exact ov_indexAddrN (k := 10) (i := (i + j) / 2) Try.underlying22 Try.sizeOf29 (show _ = (vv : Value) from e7) ho1.isSl (show _ = (.int .i64 ((((i + j) / 2 : Nat) : Int)) : Value) from e8) hi110 ⟨Chg.refl _ _, rfl⟩
          · intro vals w20 hR112 hA
            have hs113 := hR112.size
            have e9 : (vals 9) = (.pointer (some ⟨sb vv, so vv + ((i + j) / 2) * 10, none⟩) : Value) := hA 9 (by decide)
            refine obl rfl ?_
            have hi114 : (i + j) / 2 < l.length := by omega
            obtain ⟨hc114, hd114, hok114⟩ := ho1.ev hi114
            rw [← getD_at default hi114] at hc114 hd114 hok114
            have h115 := hc114.mono (fun hb => (Chg.trans hx84 hR112).block _ hb (fun h => h))
            exact ov_loadk (k := 10) Try.isAgg29 Try.sizeOf29 rfl (show _ = (.pointer (some ⟨sb vv, so vv + ((i + j) / 2) * 10, none⟩) : Value) from e9) h115 ⟨Chg.refl _ _, rfl⟩
          intro vals w21 hR116 hA
          have hs117 := hR116.size
          have hs118 := hx84.size
          have e0 : (vals 0) = (.func (.func 39) #[] #[.pointer (some ⟨cb, 0, none⟩)] : Value) := hA 0 (by decide)
          have e6 : (vals 6) = (.agg ((l.getD (((((a + b) / 2) + md) - 1) - ((i + j) / 2)) default).cells (cellV w1 (sb vv) (so vv + (((((a + b) / 2) + md) - 1) - ((i + j) / 2)) * 10 + 3))).toArray : Value) := hA 6 (by decide)
          have e10 : (vals 10) = (.agg ((l.getD ((i + j) / 2) default).cells (cellV w1 (sb vv) (so vv + ((i + j) / 2) * 10 + 3))).toArray : Value) := hA 10 (by decide)
          refine st_env (kv := [(0, vv), (1, .int .i64 ((a : Nat) : Int)), (2, .int .i64 ((md : Nat) : Int)), (3, .int .i64 ((b : Nat) : Int)), (4, .func (.func 39) #[] #[.pointer (some ⟨cb, 0, none⟩)]), (18, .int .i64 ((((a + b) / 2 : Nat) : Int))), (19, .int .i64 ((((a + b) / 2) + md : Nat) : Int)), (22, .int .i64 (((((a + b) / 2) + md) - 1 : Nat) : Int)), (20, .int .i64 ((i : Nat) : Int)), (21, .int .i64 ((j : Nat) : Int)), (149, .int .i64 ((i : Nat) : Int)), (150, .int .i64 ((j : Nat) : Int)), (151, .bool true), (152, .int .i64 ((i : Nat) : Int)), (153, .int .i64 ((j : Nat) : Int)), (154, .int .i64 ((i + j : Nat) : Int)), (155, .int .u64 (((i + j : Nat) : Int))), (156, .int .u64 (((i + j) / 2 : Nat) : Int)), (157, .int .i64 ((((i + j) / 2 : Nat) : Int))), (23, .int .i64 ((((i + j) / 2 : Nat) : Int))), (158, .func (.func 39) #[] #[.pointer (some ⟨cb, 0, none⟩)]), (164, .agg ((l.getD (((((a + b) / 2) + md) - 1) - ((i + j) / 2)) default).cells (cellV w1 (sb vv) (so vv + (((((a + b) / 2) + md) - 1) - ((i + j) / 2)) * 10 + 3))).toArray), (168, .agg ((l.getD ((i + j) / 2) default).cells (cellV w1 (sb vv) (so vv + ((i + j) / 2) * 10 + 3))).toArray)]) ⟨rfl, rfl, rfl, rfl, rfl, rfl, rfl, rfl, rfl, rfl, rfl, rfl, rfl, rfl, rfl, rfl, rfl, rfl, rfl, rfl, e0, e6, e10, trivial⟩ (fun ρ21 => ?_)
          clear e0 e6 e10
          clear hA qh1 qh2 qh3 qh4
          have hi119 : ((((a + b) / 2) + md) - 1) - ((i + j) / 2) < l.length := by omega
          obtain ⟨hc119, hd119, hok119⟩ := ho1.ev hi119
          rw [← getD_at default hi119] at hc119 hd119 hok119
          have h120 := hd119.ext (Chg.trans hx84 hR116)
          have hi121 : (i + j) / 2 < l.length := by omega
          obtain ⟨hc121, hd121, hok121⟩ := ho1.ev hi121
          rw [← getD_at default hi121] at hc121 hd121 hok121
          have h122 := hd121.ext (Chg.trans hx84 hR116)
          have h123 := (Chg.trans hx84 hR116).keep hcb1 (fun h => h)
          refine st (ov_call (f := 39) (vals := [.agg ((l.getD (((((a + b) / 2) + md) - 1) - ((i + j) / 2)) default).cells (cellV w1 (sb vv) (so vv + (((((a + b) / 2) + md) - 1) - ((i + j) / 2)) * 10 + 3))).toArray, .agg ((l.getD ((i + j) / 2) default).cells (cellV w1 (sb vv) (so vv + ((i + j) / 2) * 10 + 3))).toArray]) (cap := [.pointer (some ⟨cb, 0, none⟩)]) (show _ = (.func (.func 39) #[] #[.pointer (some ⟨cb, 0, none⟩)] : Value) from rfl) rfl Try.call39 (C_by1 h120 hok119 h122 hok121 h123) ?_)
          rintro _ w22 ⟨rfl, hx124⟩
          have hx124s := hx124.size
          refine st (ov_lss (k := .i64) (a := cmpP (l.getD (((((a + b) / 2) + md) - 1) - ((i + j) / 2)) default) (l.getD ((i + j) / 2) default)) (b := 0) rfl rfl ?_)
          refine st (ov_not (a := decide ((cmpP (l.getD (((((a + b) / 2) + md) - 1) - ((i + j) / 2)) default) (l.getD ((i + j) / 2) default)) < 0)) rfl ?_)
          refine st_nil ?_
          cases hc125 : !(decide ((cmpP (l.getD (((((a + b) / 2) + md) - 1) - ((i + j) / 2)) default) (l.getD ((i + j) / 2) default)) < 0))
          · skip
            have hc125 := ndec_false hc125
            refine WP_cond_f rfl ?_
            refine WP_region0 (by kernel_rfl) (fun _ => ?_)
            refine st (ov_move (v := .int .i64 ((((i + j) / 2 : Nat) : Int))) rfl ?_)
            refine st (ov_assign (v := .int .i64 ((((i + j) / 2 : Nat) : Int))) rfl ?_)
            refine st_nil ?_
            have h126 := ho1.ext (Chg.trans (Chg.trans hx84 hR116) hx124)
            have h127 := hx124.keep h123 (fun h => h)
            exact ⟨_, by omega, i, (i + j) / 2, g - 1, _, rfl, setAll_self ⟨rfl, rfl, rfl, rfl, rfl, rfl, rfl, rfl, rfl, rfl, trivial⟩, (Chg.trans (Chg.trans (Chg.trans hx (Chg.ext _ hx84)) (Chg.ext _ hR116)) (Chg.ext _ hx124)), h126, h127, by omega, by omega, by omega, by omega, (by rw [← hbs]; first | exact (bsA_t (by omega) (by omega) (nless_f (by omega))).symm | exact (bsA_f (by omega) (by omega) (nless_t (by omega))).symm)⟩
          · skip
            have hc125 := ndec_true hc125
            refine WP_cond_t rfl ?_
            refine WP_region0 (by kernel_rfl) (fun _ => ?_)
            refine st (ov_move (v := .int .i64 ((((i + j) / 2 : Nat) : Int))) rfl ?_)
            have hr128 : InR (((i + j) / 2 + 1 : Nat) : Int) := by omega
            refine st (ov_add (r := (((i + j) / 2 + 1 : Nat) : Int)) (k := .i64) (a := (((i + j) / 2 : Nat) : Int)) (b := 1) rfl rfl (by rw [show ((((i + j) / 2 : Nat) : Int) + 1 : Int) = (((i + j) / 2 + 1 : Nat) : Int) by omega]; exact wrap_in hr128) ?_)
            refine st (ov_assign (v := .int .i64 (((i + j) / 2 + 1 : Nat) : Int)) rfl ?_)
            refine st_nil ?_
            have h129 := ho1.ext (Chg.trans (Chg.trans hx84 hR116) hx124)
            have h130 := hx124.keep h123 (fun h => h)
            exact ⟨_, by omega, (i + j) / 2 + 1, j, g - 1, _, rfl, setAll_self ⟨rfl, rfl, rfl, rfl, rfl, rfl, rfl, rfl, rfl, rfl, trivial⟩, (Chg.trans (Chg.trans (Chg.trans hx (Chg.ext _ hx84)) (Chg.ext _ hR116)) (Chg.ext _ hx124)), h129, h130, by omega, by omega, by omega, by omega, (by rw [← hbs]; first | exact (bsA_t (by omega) (by omega) (nless_f (by omega))).symm | exact (bsA_f (by omega) (by omega) (nless_t (by omega))).symm)⟩
      · skip
        have hc7 := of_decide_eq_true hc7
        refine WP_cond_t rfl ?_
        refine WP_seq ?_
        refine WP_region0 (by kernel_rfl) (fun _ => ?_)
        refine st (ov_move (v := .int .i64 ((((a + b) / 2) + md : Nat) : Int)) rfl ?_)
        refine st (ov_move (v := .int .i64 ((b : Nat) : Int)) rfl ?_)
        have hr131 : InR (((((a + b) / 2) + md) - b : Nat) : Int) := by omega
        refine st (ov_sub (r := (((((a + b) / 2) + md) - b : Nat) : Int)) (k := .i64) (a := ((((a + b) / 2) + md : Nat) : Int)) (b := ((b : Nat) : Int)) rfl rfl (by rw [show (((((a + b) / 2) + md : Nat) : Int) - ((b : Nat) : Int) : Int) = (((((a + b) / 2) + md) - b : Nat) : Int) by omega]; exact wrap_in hr131) ?_)
        refine st (ov_assign (v := .int .i64 (((((a + b) / 2) + md) - b : Nat) : Int)) rfl ?_)
        refine st_nil ?_
        refine WP_region0 (by kernel_rfl) (fun _ => ?_)
        refine st (ov_move (v := .int .i64 ((((a + b) / 2 : Nat) : Int))) rfl ?_)
        refine st (ov_assign (v := .int .i64 ((((a + b) / 2 : Nat) : Int))) rfl ?_)
        refine st_nil ?_
        refine WP_seq ?_
        refine WP_region0 (by kernel_rfl) (fun _ => ?_)
        refine st (ov_move (v := .int .i64 ((((a + b) / 2) + md : Nat) : Int)) rfl ?_)
        have hr132 : InR (((((a + b) / 2) + md) - 1 : Nat) : Int) := by omega
        refine st (ov_sub (r := (((((a + b) / 2) + md) - 1 : Nat) : Int)) (k := .i64) (a := ((((a + b) / 2) + md : Nat) : Int)) (b := 1) rfl rfl (by rw [show (((((a + b) / 2) + md : Nat) : Int) - 1 : Int) = (((((a + b) / 2) + md) - 1 : Nat) : Int) by omega]; exact wrap_in hr132) ?_)
        refine st (ov_assign (v := .int .i64 (((((a + b) / 2) + md) - 1 : Nat) : Int)) rfl ?_)
        refine st_nil ?_
        refine WP_seq ?_
        refine WP_block ?_
        refine WP_loop (fun m σ wq => ∃ (i : Nat) (j : Nat) (g : Nat) (ρ : Env), m = 2 * (j - i) ∧ σ = setAll ρ [(0, vv), (1, .int .i64 ((a : Nat) : Int)), (2, .int .i64 ((md : Nat) : Int)), (3, .int .i64 ((b : Nat) : Int)), (4, .func (.func 39) #[] #[.pointer (some ⟨cb, 0, none⟩)]), (18, .int .i64 ((((a + b) / 2 : Nat) : Int))), (19, .int .i64 ((((a + b) / 2) + md : Nat) : Int)), (22, .int .i64 (((((a + b) / 2) + md) - 1 : Nat) : Int)), (20, .int .i64 ((i : Nat) : Int)), (21, .int .i64 ((j : Nat) : Int))] ∧ (Chg (fun i => vv.ownBlock = some i) w wq) ∧ (OwnS 29 lo wq F vv l) ∧ (wq.heap[cb]? = some (.cells #[.func (.func 28) #[] #[]] 49)) ∧ (((((a + b) / 2) + md) - b) ≤ i) ∧ (i ≤ j) ∧ (j ≤ ((a + b) / 2)) ∧ (j - i ≤ g) ∧ (bsA (fun c => !less (gd l ((a + b) / 2 + md - 1 - c)) (gd l c)) g i j = bsA (fun c => !less (gd l ((a + b) / 2 + md - 1 - c)) (gd l c)) (((a + b) / 2) - ((((a + b) / 2) + md) - b)) ((((a + b) / 2) + md) - b) ((a + b) / 2))) ⟨(((a + b) / 2) + md) - b, (a + b) / 2, ((a + b) / 2) - ((((a + b) / 2) + md) - b), _, rfl, setAll_self ⟨rfl, rfl, rfl, rfl, rfl, rfl, rfl, rfl, rfl, rfl, trivial⟩, (Chg.refl _ _), ho, hcb, Nat.le_refl _, by omega, Nat.le_refl _, Nat.le_refl _, rfl⟩ ?_
        rintro m133 σ134 w23 ⟨i, j, g, ρ23, rfl, rfl, hx, ho1, hcb1, hi1, hi2, hj1, hg, hbs⟩
        have hxs := hx.size
        refine WP_seq ?_
        refine WP_seq ?_
        refine WP_region0 (by kernel_rfl) (fun _ => ?_)
        refine st (ov_move (v := .int .i64 ((i : Nat) : Int)) rfl ?_)
        refine st (ov_move (v := .int .i64 ((j : Nat) : Int)) rfl ?_)
        refine st (ov_lss (k := .i64) (a := ((i : Nat) : Int)) (b := ((j : Nat) : Int)) rfl rfl ?_)
        refine st_nil ?_
        cases hc135 : decide (((i : Nat) : Int) < ((j : Nat) : Int))
        · skip
          have hc135 := of_decide_eq_false hc135
          refine WP_cond_f rfl ?_
          refine WP_exit ?_
          refine blk_exit ?_
          refine WP_seq ?_
          refine WP_region0 (by kernel_rfl) (fun _ => ?_)
          refine st (ov_move (v := .int .i64 ((((a + b) / 2) + md : Nat) : Int)) rfl ?_)
          refine st (ov_move (v := .int .i64 ((i : Nat) : Int)) rfl ?_)
          have hr136 : InR (((((a + b) / 2) + md) - i : Nat) : Int) := by omega
          refine st (ov_sub (r := (((((a + b) / 2) + md) - i : Nat) : Int)) (k := .i64) (a := ((((a + b) / 2) + md : Nat) : Int)) (b := ((i : Nat) : Int)) rfl rfl (by rw [show (((((a + b) / 2) + md : Nat) : Int) - ((i : Nat) : Int) : Int) = (((((a + b) / 2) + md) - i : Nat) : Int) by omega]; exact wrap_in hr136) ?_)
          refine st (ov_assign (v := .int .i64 (((((a + b) / 2) + md) - i : Nat) : Int)) rfl ?_)
          refine st_nil ?_
          refine WP_seq ?_
          refine WP_seq ?_
          refine WP_region (by kernel_rfl) ?_
          refine st (ov_move (v := .int .i64 ((i : Nat) : Int)) rfl ?_)
          refine st (ov_move (v := .int .i64 ((md : Nat) : Int)) rfl ?_)
          refine st (ov_lss (k := .i64) (a := ((i : Nat) : Int)) (b := ((md : Nat) : Int)) rfl rfl ?_)
          refine st (ov_move (v := .bool (decide (((i : Nat) : Int) < ((md : Nat) : Int)))) rfl ?_)
          refine stc (V := .int .i64 ((md : Nat) : Int)) rfl rfl (fun hb137 => ?_) ?_
          · have hl138 : (decide (((i : Nat) : Int) < ((md : Nat) : Int))) = true := hb137
            have hl138 := of_decide_eq_true hl138
            exact ov_move (v := .int .i64 ((md : Nat) : Int)) rfl ⟨rfl, rfl⟩
          refine stc (V := .int .i64 (((((a + b) / 2) + md) - i : Nat) : Int)) rfl rfl (fun hb139 => ?_) ?_
          · have hl140 : (decide (((i : Nat) : Int) < ((md : Nat) : Int))) = true := hb139
            have hl140 := of_decide_eq_true hl140
            exact ov_move (v := .int .i64 (((((a + b) / 2) + md) - i : Nat) : Int)) rfl ⟨rfl, rfl⟩
          refine stc (V := .bool (decide (((md : Nat) : Int) < (((((a + b) / 2) + md) - i : Nat) : Int)))) rfl rfl (fun hb141 => ?_) ?_
          · have hl142 : (decide (((i : Nat) : Int) < ((md : Nat) : Int))) = true := hb141
            have hl142 := of_decide_eq_true hl142
            exact ov_lss (k := .i64) (a := ((md : Nat) : Int)) (b := (((((a + b) / 2) + md) - i : Nat) : Int)) (show _ = (.int .i64 ((md : Nat) : Int) : Value) from (if_pos hb141)) (show _ = (.int .i64 (((((a + b) / 2) + md) - i : Nat) : Int) : Value) from (if_pos hb141)) ⟨rfl, rfl⟩
          refine st (ov_pick_and (b := decide (((i : Nat) : Int) < ((md : Nat) : Int))) (b' := decide (((md : Nat) : Int) < (((((a + b) / 2) + md) - i : Nat) : Int))) rfl (fun hbp => (show _ = (.bool (decide (((md : Nat) : Int) < (((((a + b) / 2) + md) - i : Nat) : Int))) : Value) from (if_pos hbp))) ?_)
          refine st_nil ?_
          cases hc143 : (decide (((i : Nat) : Int) < ((md : Nat) : Int))) && (decide (((md : Nat) : Int) < (((((a + b) / 2) + md) - i : Nat) : Int)))
          · skip
            simp only [Bool.and_eq_true, Bool.or_eq_true, Bool.and_eq_false_iff, Bool.or_eq_false_iff, decide_eq_true_eq, decide_eq_false_iff_not, Bool.not_eq_true', Bool.not_eq_false', Int.not_lt, Int.not_le] at hc143
            refine WP_cond_f rfl ?_
            refine WP_skip ?_
            refine WP_seq ?_
            refine WP_seq ?_
            refine WP_region (by kernel_rfl) ?_
            refine st (ov_move (v := .int .i64 ((a : Nat) : Int)) rfl ?_)
            refine st (ov_move (v := .int .i64 ((i : Nat) : Int)) rfl ?_)
            refine st (ov_lss (k := .i64) (a := ((a : Nat) : Int)) (b := ((i : Nat) : Int)) rfl rfl ?_)
            refine st (ov_move (v := .bool (decide (((a : Nat) : Int) < ((i : Nat) : Int)))) rfl ?_)
            refine stc (V := .int .i64 ((i : Nat) : Int)) rfl rfl (fun hb144 => ?_) ?_
            · have hl145 : (decide (((a : Nat) : Int) < ((i : Nat) : Int))) = true := hb144
              have hl145 := of_decide_eq_true hl145
              exact ov_move (v := .int .i64 ((i : Nat) : Int)) rfl ⟨rfl, rfl⟩
            refine stc (V := .int .i64 ((((a + b) / 2 : Nat) : Int))) rfl rfl (fun hb146 => ?_) ?_
            · have hl147 : (decide (((a : Nat) : Int) < ((i : Nat) : Int))) = true := hb146
              have hl147 := of_decide_eq_true hl147
              exact ov_move (v := .int .i64 ((((a + b) / 2 : Nat) : Int))) rfl ⟨rfl, rfl⟩
            refine stc (V := .bool (decide (((i : Nat) : Int) < (((a + b) / 2 : Nat) : Int)))) rfl rfl (fun hb148 => ?_) ?_
            · have hl149 : (decide (((a : Nat) : Int) < ((i : Nat) : Int))) = true := hb148
              have hl149 := of_decide_eq_true hl149
              exact ov_lss (k := .i64) (a := ((i : Nat) : Int)) (b := (((a + b) / 2 : Nat) : Int)) (show _ = (.int .i64 ((i : Nat) : Int) : Value) from (if_pos hb148)) (show _ = (.int .i64 ((((a + b) / 2 : Nat) : Int)) : Value) from (if_pos hb148)) ⟨rfl, rfl⟩
            refine st (ov_pick_and (b := decide (((a : Nat) : Int) < ((i : Nat) : Int))) (b' := decide (((i : Nat) : Int) < (((a + b) / 2 : Nat) : Int))) rfl (fun hbp => (show _ = (.bool (decide (((i : Nat) : Int) < (((a + b) / 2 : Nat) : Int))) : Value) from (if_pos hbp))) ?_)
            refine st_nil ?_
            cases hc150 : (decide (((a : Nat) : Int) < ((i : Nat) : Int))) && (decide (((i : Nat) : Int) < (((a + b) / 2 : Nat) : Int)))
            · skip
              simp only [Bool.and_eq_true, Bool.or_eq_true, Bool.and_eq_false_iff, Bool.or_eq_false_iff, decide_eq_true_eq, decide_eq_false_iff_not, Bool.not_eq_true', Bool.not_eq_false', Int.not_lt, Int.not_le] at hc150
              refine WP_cond_f rfl ?_
              refine WP_skip ?_
              refine WP_seq ?_
              refine WP_region (by kernel_rfl) ?_
              refine st (ov_move (v := .int .i64 ((((a + b) / 2 : Nat) : Int))) rfl ?_)
              refine st (ov_move (v := .int .i64 (((((a + b) / 2) + md) - i : Nat) : Int)) rfl ?_)
              refine st (ov_lss (k := .i64) (a := (((a + b) / 2 : Nat) : Int)) (b := (((((a + b) / 2) + md) - i : Nat) : Int)) rfl rfl ?_)
              refine st (ov_move (v := .bool (decide ((((a + b) / 2 : Nat) : Int) < (((((a + b) / 2) + md) - i : Nat) : Int)))) rfl ?_)
              refine stc (V := .int .i64 (((((a + b) / 2) + md) - i : Nat) : Int)) rfl rfl (fun hb151 => ?_) ?_
              · have hl152 : (decide ((((a + b) / 2 : Nat) : Int) < (((((a + b) / 2) + md) - i : Nat) : Int))) = true := hb151
                have hl152 := of_decide_eq_true hl152
                exact ov_move (v := .int .i64 (((((a + b) / 2) + md) - i : Nat) : Int)) rfl ⟨rfl, rfl⟩
              refine stc (V := .int .i64 ((b : Nat) : Int)) rfl rfl (fun hb153 => ?_) ?_
              · have hl154 : (decide ((((a + b) / 2 : Nat) : Int) < (((((a + b) / 2) + md) - i : Nat) : Int))) = true := hb153
                have hl154 := of_decide_eq_true hl154
                exact ov_move (v := .int .i64 ((b : Nat) : Int)) rfl ⟨rfl, rfl⟩
              refine stc (V := .bool (decide ((((((a + b) / 2) + md) - i : Nat) : Int) < ((b : Nat) : Int)))) rfl rfl (fun hb155 => ?_) ?_
              · have hl156 : (decide ((((a + b) / 2 : Nat) : Int) < (((((a + b) / 2) + md) - i : Nat) : Int))) = true := hb155
                have hl156 := of_decide_eq_true hl156
                exact ov_lss (k := .i64) (a := (((((a + b) / 2) + md) - i : Nat) : Int)) (b := ((b : Nat) : Int)) (show _ = (.int .i64 (((((a + b) / 2) + md) - i : Nat) : Int) : Value) from (if_pos hb155)) (show _ = (.int .i64 ((b : Nat) : Int) : Value) from (if_pos hb155)) ⟨rfl, rfl⟩
              refine st (ov_pick_and (b := decide ((((a + b) / 2 : Nat) : Int) < (((((a + b) / 2) + md) - i : Nat) : Int))) (b' := decide ((((((a + b) / 2) + md) - i : Nat) : Int) < ((b : Nat) : Int))) rfl (fun hbp => (show _ = (.bool (decide ((((((a + b) / 2) + md) - i : Nat) : Int) < ((b : Nat) : Int))) : Value) from (if_pos hbp))) ?_)
              refine st_nil ?_
              cases hc157 : (decide ((((a + b) / 2 : Nat) : Int) < (((((a + b) / 2) + md) - i : Nat) : Int))) && (decide ((((((a + b) / 2) + md) - i : Nat) : Int) < ((b : Nat) : Int)))
              · skip
                simp only [Bool.and_eq_true, Bool.or_eq_true, Bool.and_eq_false_iff, Bool.or_eq_false_iff, decide_eq_true_eq, decide_eq_false_iff_not, Bool.not_eq_true', Bool.not_eq_false', Int.not_lt, Int.not_le] at hc157
                refine WP_cond_f rfl ?_
                refine WP_skip ?_
                refine fin0 Try.results43 ?_
                try simp only [Bool.and_eq_true, Bool.and_eq_false_iff, decide_eq_true_eq, decide_eq_false_iff_not] at hc135 hc143 hc150 hc157
                refine ⟨rfl, ?_, hx⟩
                have hS : symS less a md b l = i := by
                  unfold symS
                  first
                    | (simp only [if_pos (show (a + b) / 2 < md by omega)]; exact hbs.symm.trans (bsA_no (by omega)))
                    | (simp only [if_neg (show ¬ (a + b) / 2 < md by omega)]; exact hbs.symm.trans (bsA_no (by omega)))
                rw [symL, if_neg (by omega), if_neg (by omega)]
                dsimp only
                rw [hS]
                unfold symRot
                repeat (first | rw [if_pos (by omega)] | rw [if_neg (by omega)])
                first | exact ho1 | (exfalso; omega)
              · skip
                simp only [Bool.and_eq_true, Bool.or_eq_true, Bool.and_eq_false_iff, Bool.or_eq_false_iff, decide_eq_true_eq, decide_eq_false_iff_not, Bool.not_eq_true', Bool.not_eq_false', Int.not_lt, Int.not_le] at hc157
                refine WP_cond_t rfl ?_
                refine WP_region0 (by kernel_rfl) (fun _ => ?_)
                refine st (ov_move (v := vv) rfl ?_)
                refine st (ov_move (v := .int .i64 ((((a + b) / 2 : Nat) : Int))) rfl ?_)
                refine st (ov_move (v := .int .i64 (((((a + b) / 2) + md) - i : Nat) : Int)) rfl ?_)
                refine st (ov_move (v := .int .i64 ((b : Nat) : Int)) rfl ?_)
                refine st (ov_move (v := .func (.func 39) #[] #[.pointer (some ⟨cb, 0, none⟩)]) rfl ?_)
                refine st (ov_call (f := 43) (vals := [vv, .int .i64 ((((a + b) / 2 : Nat) : Int)), .int .i64 (((((a + b) / 2) + md) - i : Nat) : Int), .int .i64 ((b : Nat) : Int), .func (.func 39) #[] #[.pointer (some ⟨cb, 0, none⟩)]]) (cap := []) (show _ = (.func (.func 43) #[] #[] : Value) from rfl) rfl Try.call43 (ih (a := (a + b) / 2) (md := (((a + b) / 2) + md) - i) (b := b) ho1 hcb1 (by omega) (by omega) (by first | omega | (simp only [symL_length, rotL_length]; omega)) (by omega) hne) ?_)
                rintro _ w24 ⟨rfl, ho159, hch158⟩
                have hch158s := hch158.size
                have h160 := hch158.keep hcb1 (fun e => hne e)
                refine st_nil ?_
                refine fin0 Try.results43 ?_
                try simp only [Bool.and_eq_true, Bool.and_eq_false_iff, decide_eq_true_eq, decide_eq_false_iff_not] at hc135 hc143 hc150 hc157
                refine ⟨rfl, ?_, (Chg.trans hx hch158)⟩
                have hS : symS less a md b l = i := by
                  unfold symS
                  first
                    | (simp only [if_pos (show (a + b) / 2 < md by omega)]; exact hbs.symm.trans (bsA_no (by omega)))
                    | (simp only [if_neg (show ¬ (a + b) / 2 < md by omega)]; exact hbs.symm.trans (bsA_no (by omega)))
                rw [symL, if_neg (by omega), if_neg (by omega)]
                dsimp only
                rw [hS]
                unfold symRot
                repeat (first | rw [if_pos (by omega)] | rw [if_neg (by omega)])
                first | exact ho159 | (exfalso; omega)
            · skip
              simp only [Bool.and_eq_true, Bool.or_eq_true, Bool.and_eq_false_iff, Bool.or_eq_false_iff, decide_eq_true_eq, decide_eq_false_iff_not, Bool.not_eq_true', Bool.not_eq_false', Int.not_lt, Int.not_le] at hc150
              refine WP_cond_t rfl ?_
              refine WP_region0 (by kernel_rfl) (fun _ => ?_)
              refine st (ov_move (v := vv) rfl ?_)
              refine st (ov_move (v := .int .i64 ((a : Nat) : Int)) rfl ?_)
              refine st (ov_move (v := .int .i64 ((i : Nat) : Int)) rfl ?_)
              refine st (ov_move (v := .int .i64 ((((a + b) / 2 : Nat) : Int))) rfl ?_)
              refine st (ov_move (v := .func (.func 39) #[] #[.pointer (some ⟨cb, 0, none⟩)]) rfl ?_)
              refine st (ov_call (f := 43) (vals := [vv, .int .i64 ((a : Nat) : Int), .int .i64 ((i : Nat) : Int), .int .i64 ((((a + b) / 2 : Nat) : Int)), .func (.func 39) #[] #[.pointer (some ⟨cb, 0, none⟩)]]) (cap := []) (show _ = (.func (.func 43) #[] #[] : Value) from rfl) rfl Try.call43 (ih (a := a) (md := i) (b := (a + b) / 2) ho1 hcb1 (by omega) (by omega) (by first | omega | (simp only [symL_length, rotL_length]; omega)) (by omega) hne) ?_)
              rintro _ w25 ⟨rfl, ho162, hch161⟩
              have hch161s := hch161.size
              have h163 := hch161.keep hcb1 (fun e => hne e)
              refine st_nil ?_
              refine WP_seq ?_
              refine WP_region (by kernel_rfl) ?_
              refine st (ov_move (v := .int .i64 ((((a + b) / 2 : Nat) : Int))) rfl ?_)
              refine st (ov_move (v := .int .i64 (((((a + b) / 2) + md) - i : Nat) : Int)) rfl ?_)
              refine st (ov_lss (k := .i64) (a := (((a + b) / 2 : Nat) : Int)) (b := (((((a + b) / 2) + md) - i : Nat) : Int)) rfl rfl ?_)
              refine st (ov_move (v := .bool (decide ((((a + b) / 2 : Nat) : Int) < (((((a + b) / 2) + md) - i : Nat) : Int)))) rfl ?_)
              refine stc (V := .int .i64 (((((a + b) / 2) + md) - i : Nat) : Int)) rfl rfl (fun hb164 => ?_) ?_
              · have hl165 : (decide ((((a + b) / 2 : Nat) : Int) < (((((a + b) / 2) + md) - i : Nat) : Int))) = true := hb164
                have hl165 := of_decide_eq_true hl165
                exact ov_move (v := .int .i64 (((((a + b) / 2) + md) - i : Nat) : Int)) rfl ⟨rfl, rfl⟩
              refine stc (V := .int .i64 ((b : Nat) : Int)) rfl rfl (fun hb166 => ?_) ?_
              · have hl167 : (decide ((((a + b) / 2 : Nat) : Int) < (((((a + b) / 2) + md) - i : Nat) : Int))) = true := hb166
                have hl167 := of_decide_eq_true hl167
                exact ov_move (v := .int .i64 ((b : Nat) : Int)) rfl ⟨rfl, rfl⟩
              refine stc (V := .bool (decide ((((((a + b) / 2) + md) - i : Nat) : Int) < ((b : Nat) : Int)))) rfl rfl (fun hb168 => ?_) ?_
              · have hl169 : (decide ((((a + b) / 2 : Nat) : Int) < (((((a + b) / 2) + md) - i : Nat) : Int))) = true := hb168
                have hl169 := of_decide_eq_true hl169
                exact ov_lss (k := .i64) (a := (((((a + b) / 2) + md) - i : Nat) : Int)) (b := ((b : Nat) : Int)) (show _ = (.int .i64 (((((a + b) / 2) + md) - i : Nat) : Int) : Value) from (if_pos hb168)) (show _ = (.int .i64 ((b : Nat) : Int) : Value) from (if_pos hb168)) ⟨rfl, rfl⟩
              refine st (ov_pick_and (b := decide ((((a + b) / 2 : Nat) : Int) < (((((a + b) / 2) + md) - i : Nat) : Int))) (b' := decide ((((((a + b) / 2) + md) - i : Nat) : Int) < ((b : Nat) : Int))) rfl (fun hbp => (show _ = (.bool (decide ((((((a + b) / 2) + md) - i : Nat) : Int) < ((b : Nat) : Int))) : Value) from (if_pos hbp))) ?_)
              refine st_nil ?_
              cases hc170 : (decide ((((a + b) / 2 : Nat) : Int) < (((((a + b) / 2) + md) - i : Nat) : Int))) && (decide ((((((a + b) / 2) + md) - i : Nat) : Int) < ((b : Nat) : Int)))
              · skip
                simp only [Bool.and_eq_true, Bool.or_eq_true, Bool.and_eq_false_iff, Bool.or_eq_false_iff, decide_eq_true_eq, decide_eq_false_iff_not, Bool.not_eq_true', Bool.not_eq_false', Int.not_lt, Int.not_le] at hc170
                refine WP_cond_f rfl ?_
                refine WP_skip ?_
                refine fin0 Try.results43 ?_
                try simp only [Bool.and_eq_true, Bool.and_eq_false_iff, decide_eq_true_eq, decide_eq_false_iff_not] at hc135 hc143 hc150 hc170
                refine ⟨rfl, ?_, (Chg.trans hx hch161)⟩
                have hS : symS less a md b l = i := by
                  unfold symS
                  first
                    | (simp only [if_pos (show (a + b) / 2 < md by omega)]; exact hbs.symm.trans (bsA_no (by omega)))
                    | (simp only [if_neg (show ¬ (a + b) / 2 < md by omega)]; exact hbs.symm.trans (bsA_no (by omega)))
                rw [symL, if_neg (by omega), if_neg (by omega)]
                dsimp only
                rw [hS]
                unfold symRot
                repeat (first | rw [if_pos (by omega)] | rw [if_neg (by omega)])
                first | exact ho162 | (exfalso; omega)
              · skip
                simp only [Bool.and_eq_true, Bool.or_eq_true, Bool.and_eq_false_iff, Bool.or_eq_false_iff, decide_eq_true_eq, decide_eq_false_iff_not, Bool.not_eq_true', Bool.not_eq_false', Int.not_lt, Int.not_le] at hc170
                refine WP_cond_t rfl ?_
                refine WP_region0 (by kernel_rfl) (fun _ => ?_)
                refine st (ov_move (v := vv) rfl ?_)
                refine st (ov_move (v := .int .i64 ((((a + b) / 2 : Nat) : Int))) rfl ?_)
                refine st (ov_move (v := .int .i64 (((((a + b) / 2) + md) - i : Nat) : Int)) rfl ?_)
                refine st (ov_move (v := .int .i64 ((b : Nat) : Int)) rfl ?_)
                refine st (ov_move (v := .func (.func 39) #[] #[.pointer (some ⟨cb, 0, none⟩)]) rfl ?_)
                refine st (ov_call (f := 43) (vals := [vv, .int .i64 ((((a + b) / 2 : Nat) : Int)), .int .i64 (((((a + b) / 2) + md) - i : Nat) : Int), .int .i64 ((b : Nat) : Int), .func (.func 39) #[] #[.pointer (some ⟨cb, 0, none⟩)]]) (cap := []) (show _ = (.func (.func 43) #[] #[] : Value) from rfl) rfl Try.call43 (ih (a := (a + b) / 2) (md := (((a + b) / 2) + md) - i) (b := b) ho162 h163 (by omega) (by omega) (by first | omega | (simp only [symL_length, rotL_length]; omega)) (by omega) hne) ?_)
                rintro _ w26 ⟨rfl, ho172, hch171⟩
                have hch171s := hch171.size
                have h173 := hch171.keep h163 (fun e => hne e)
                refine st_nil ?_
                refine fin0 Try.results43 ?_
                try simp only [Bool.and_eq_true, Bool.and_eq_false_iff, decide_eq_true_eq, decide_eq_false_iff_not] at hc135 hc143 hc150 hc170
                refine ⟨rfl, ?_, (Chg.trans (Chg.trans hx hch161) hch171)⟩
                have hS : symS less a md b l = i := by
                  unfold symS
                  first
                    | (simp only [if_pos (show (a + b) / 2 < md by omega)]; exact hbs.symm.trans (bsA_no (by omega)))
                    | (simp only [if_neg (show ¬ (a + b) / 2 < md by omega)]; exact hbs.symm.trans (bsA_no (by omega)))
                rw [symL, if_neg (by omega), if_neg (by omega)]
                dsimp only
                rw [hS]
                unfold symRot
                repeat (first | rw [if_pos (by omega)] | rw [if_neg (by omega)])
                first | exact ho172 | (exfalso; omega)
          · skip
            simp only [Bool.and_eq_true, Bool.or_eq_true, Bool.and_eq_false_iff, Bool.or_eq_false_iff, decide_eq_true_eq, decide_eq_false_iff_not, Bool.not_eq_true', Bool.not_eq_false', Int.not_lt, Int.not_le] at hc143
            refine WP_cond_t rfl ?_
            refine WP_region0 (by kernel_rfl) (fun _ => ?_)
            refine st (ov_move (v := vv) rfl ?_)
            refine st (ov_move (v := .int .i64 ((i : Nat) : Int)) rfl ?_)
            refine st (ov_move (v := .int .i64 ((md : Nat) : Int)) rfl ?_)
            refine st (ov_move (v := .int .i64 (((((a + b) / 2) + md) - i : Nat) : Int)) rfl ?_)
            refine st (ov_move (v := .func (.func 39) #[] #[.pointer (some ⟨cb, 0, none⟩)]) rfl ?_)
            refine st (ov_call (f := 44) (vals := [vv, .int .i64 ((i : Nat) : Int), .int .i64 ((md : Nat) : Int), .int .i64 (((((a + b) / 2) + md) - i : Nat) : Int), .func (.func 39) #[] #[.pointer (some ⟨cb, 0, none⟩)]]) (cap := []) (show _ = (.func (.func 44) #[] #[] : Value) from rfl) rfl Try.call44 (C_rot (a := i) (md := md) (b := (((a + b) / 2) + md) - i) ho1 hcb1 (by omega) (by omega) (by omega) hne) ?_)
            rintro _ w27 ⟨rfl, ho175, hch174⟩
            have hch174s := hch174.size
            have h176 := hch174.keep hcb1 (fun e => hne e)
            refine st_nil ?_
            refine WP_seq ?_
            refine WP_seq ?_
            refine WP_region (by kernel_rfl) ?_
            refine st (ov_move (v := .int .i64 ((a : Nat) : Int)) rfl ?_)
            refine st (ov_move (v := .int .i64 ((i : Nat) : Int)) rfl ?_)
            refine st (ov_lss (k := .i64) (a := ((a : Nat) : Int)) (b := ((i : Nat) : Int)) rfl rfl ?_)
            refine st (ov_move (v := .bool (decide (((a : Nat) : Int) < ((i : Nat) : Int)))) rfl ?_)
            refine stc (V := .int .i64 ((i : Nat) : Int)) rfl rfl (fun hb177 => ?_) ?_
            · have hl178 : (decide (((a : Nat) : Int) < ((i : Nat) : Int))) = true := hb177
              have hl178 := of_decide_eq_true hl178
              exact ov_move (v := .int .i64 ((i : Nat) : Int)) rfl ⟨rfl, rfl⟩
            refine stc (V := .int .i64 ((((a + b) / 2 : Nat) : Int))) rfl rfl (fun hb179 => ?_) ?_
            · have hl180 : (decide (((a : Nat) : Int) < ((i : Nat) : Int))) = true := hb179
              have hl180 := of_decide_eq_true hl180
              exact ov_move (v := .int .i64 ((((a + b) / 2 : Nat) : Int))) rfl ⟨rfl, rfl⟩
            refine stc (V := .bool (decide (((i : Nat) : Int) < (((a + b) / 2 : Nat) : Int)))) rfl rfl (fun hb181 => ?_) ?_
            · have hl182 : (decide (((a : Nat) : Int) < ((i : Nat) : Int))) = true := hb181
              have hl182 := of_decide_eq_true hl182
              exact ov_lss (k := .i64) (a := ((i : Nat) : Int)) (b := (((a + b) / 2 : Nat) : Int)) (show _ = (.int .i64 ((i : Nat) : Int) : Value) from (if_pos hb181)) (show _ = (.int .i64 ((((a + b) / 2 : Nat) : Int)) : Value) from (if_pos hb181)) ⟨rfl, rfl⟩
            refine st (ov_pick_and (b := decide (((a : Nat) : Int) < ((i : Nat) : Int))) (b' := decide (((i : Nat) : Int) < (((a + b) / 2 : Nat) : Int))) rfl (fun hbp => (show _ = (.bool (decide (((i : Nat) : Int) < (((a + b) / 2 : Nat) : Int))) : Value) from (if_pos hbp))) ?_)
            refine st_nil ?_
            cases hc183 : (decide (((a : Nat) : Int) < ((i : Nat) : Int))) && (decide (((i : Nat) : Int) < (((a + b) / 2 : Nat) : Int)))
            · skip
              simp only [Bool.and_eq_true, Bool.or_eq_true, Bool.and_eq_false_iff, Bool.or_eq_false_iff, decide_eq_true_eq, decide_eq_false_iff_not, Bool.not_eq_true', Bool.not_eq_false', Int.not_lt, Int.not_le] at hc183
              refine WP_cond_f rfl ?_
              refine WP_skip ?_
              refine WP_seq ?_
              refine WP_region (by kernel_rfl) ?_
              refine st (ov_move (v := .int .i64 ((((a + b) / 2 : Nat) : Int))) rfl ?_)
              refine st (ov_move (v := .int .i64 (((((a + b) / 2) + md) - i : Nat) : Int)) rfl ?_)
              refine st (ov_lss (k := .i64) (a := (((a + b) / 2 : Nat) : Int)) (b := (((((a + b) / 2) + md) - i : Nat) : Int)) rfl rfl ?_)
              refine st (ov_move (v := .bool (decide ((((a + b) / 2 : Nat) : Int) < (((((a + b) / 2) + md) - i : Nat) : Int)))) rfl ?_)
              refine stc (V := .int .i64 (((((a + b) / 2) + md) - i : Nat) : Int)) rfl rfl (fun hb184 => ?_) ?_
              · have hl185 : (decide ((((a + b) / 2 : Nat) : Int) < (((((a + b) / 2) + md) - i : Nat) : Int))) = true := hb184
                have hl185 := of_decide_eq_true hl185
                exact ov_move (v := .int .i64 (((((a + b) / 2) + md) - i : Nat) : Int)) rfl ⟨rfl, rfl⟩
              refine stc (V := .int .i64 ((b : Nat) : Int)) rfl rfl (fun hb186 => ?_) ?_
              · have hl187 : (decide ((((a + b) / 2 : Nat) : Int) < (((((a + b) / 2) + md) - i : Nat) : Int))) = true := hb186
                have hl187 := of_decide_eq_true hl187
                exact ov_move (v := .int .i64 ((b : Nat) : Int)) rfl ⟨rfl, rfl⟩
              refine stc (V := .bool (decide ((((((a + b) / 2) + md) - i : Nat) : Int) < ((b : Nat) : Int)))) rfl rfl (fun hb188 => ?_) ?_
              · have hl189 : (decide ((((a + b) / 2 : Nat) : Int) < (((((a + b) / 2) + md) - i : Nat) : Int))) = true := hb188
                have hl189 := of_decide_eq_true hl189
                exact ov_lss (k := .i64) (a := (((((a + b) / 2) + md) - i : Nat) : Int)) (b := ((b : Nat) : Int)) (show _ = (.int .i64 (((((a + b) / 2) + md) - i : Nat) : Int) : Value) from (if_pos hb188)) (show _ = (.int .i64 ((b : Nat) : Int) : Value) from (if_pos hb188)) ⟨rfl, rfl⟩
              refine st (ov_pick_and (b := decide ((((a + b) / 2 : Nat) : Int) < (((((a + b) / 2) + md) - i : Nat) : Int))) (b' := decide ((((((a + b) / 2) + md) - i : Nat) : Int) < ((b : Nat) : Int))) rfl (fun hbp => (show _ = (.bool (decide ((((((a + b) / 2) + md) - i : Nat) : Int) < ((b : Nat) : Int))) : Value) from (if_pos hbp))) ?_)
              refine st_nil ?_
              cases hc190 : (decide ((((a + b) / 2 : Nat) : Int) < (((((a + b) / 2) + md) - i : Nat) : Int))) && (decide ((((((a + b) / 2) + md) - i : Nat) : Int) < ((b : Nat) : Int)))
              · skip
                simp only [Bool.and_eq_true, Bool.or_eq_true, Bool.and_eq_false_iff, Bool.or_eq_false_iff, decide_eq_true_eq, decide_eq_false_iff_not, Bool.not_eq_true', Bool.not_eq_false', Int.not_lt, Int.not_le] at hc190
                refine WP_cond_f rfl ?_
                refine WP_skip ?_
                refine fin0 Try.results43 ?_
                try simp only [Bool.and_eq_true, Bool.and_eq_false_iff, decide_eq_true_eq, decide_eq_false_iff_not] at hc135 hc143 hc183 hc190
                refine ⟨rfl, ?_, (Chg.trans hx hch174)⟩
                have hS : symS less a md b l = i := by
                  unfold symS
                  first
                    | (simp only [if_pos (show (a + b) / 2 < md by omega)]; exact hbs.symm.trans (bsA_no (by omega)))
                    | (simp only [if_neg (show ¬ (a + b) / 2 < md by omega)]; exact hbs.symm.trans (bsA_no (by omega)))
                rw [symL, if_neg (by omega), if_neg (by omega)]
                dsimp only
                rw [hS]
                unfold symRot
                repeat (first | rw [if_pos (by omega)] | rw [if_neg (by omega)])
                first | exact ho175 | (exfalso; omega)
              · skip
                simp only [Bool.and_eq_true, Bool.or_eq_true, Bool.and_eq_false_iff, Bool.or_eq_false_iff, decide_eq_true_eq, decide_eq_false_iff_not, Bool.not_eq_true', Bool.not_eq_false', Int.not_lt, Int.not_le] at hc190
                refine WP_cond_t rfl ?_
                refine WP_region0 (by kernel_rfl) (fun _ => ?_)
                refine st (ov_move (v := vv) rfl ?_)
                refine st (ov_move (v := .int .i64 ((((a + b) / 2 : Nat) : Int))) rfl ?_)
                refine st (ov_move (v := .int .i64 (((((a + b) / 2) + md) - i : Nat) : Int)) rfl ?_)
                refine st (ov_move (v := .int .i64 ((b : Nat) : Int)) rfl ?_)
                refine st (ov_move (v := .func (.func 39) #[] #[.pointer (some ⟨cb, 0, none⟩)]) rfl ?_)
                refine st (ov_call (f := 43) (vals := [vv, .int .i64 ((((a + b) / 2 : Nat) : Int)), .int .i64 (((((a + b) / 2) + md) - i : Nat) : Int), .int .i64 ((b : Nat) : Int), .func (.func 39) #[] #[.pointer (some ⟨cb, 0, none⟩)]]) (cap := []) (show _ = (.func (.func 43) #[] #[] : Value) from rfl) rfl Try.call43 (ih (a := (a + b) / 2) (md := (((a + b) / 2) + md) - i) (b := b) ho175 h176 (by omega) (by omega) (by first | omega | (simp only [symL_length, rotL_length]; omega)) (by omega) hne) ?_)
                rintro _ w28 ⟨rfl, ho192, hch191⟩
                have hch191s := hch191.size
                have h193 := hch191.keep h176 (fun e => hne e)
                refine st_nil ?_
                refine fin0 Try.results43 ?_
                try simp only [Bool.and_eq_true, Bool.and_eq_false_iff, decide_eq_true_eq, decide_eq_false_iff_not] at hc135 hc143 hc183 hc190
                refine ⟨rfl, ?_, (Chg.trans (Chg.trans hx hch174) hch191)⟩
                have hS : symS less a md b l = i := by
                  unfold symS
                  first
                    | (simp only [if_pos (show (a + b) / 2 < md by omega)]; exact hbs.symm.trans (bsA_no (by omega)))
                    | (simp only [if_neg (show ¬ (a + b) / 2 < md by omega)]; exact hbs.symm.trans (bsA_no (by omega)))
                rw [symL, if_neg (by omega), if_neg (by omega)]
                dsimp only
                rw [hS]
                unfold symRot
                repeat (first | rw [if_pos (by omega)] | rw [if_neg (by omega)])
                first | exact ho192 | (exfalso; omega)
            · skip
              simp only [Bool.and_eq_true, Bool.or_eq_true, Bool.and_eq_false_iff, Bool.or_eq_false_iff, decide_eq_true_eq, decide_eq_false_iff_not, Bool.not_eq_true', Bool.not_eq_false', Int.not_lt, Int.not_le] at hc183
              refine WP_cond_t rfl ?_
              refine WP_region0 (by kernel_rfl) (fun _ => ?_)
              refine st (ov_move (v := vv) rfl ?_)
              refine st (ov_move (v := .int .i64 ((a : Nat) : Int)) rfl ?_)
              refine st (ov_move (v := .int .i64 ((i : Nat) : Int)) rfl ?_)
              refine st (ov_move (v := .int .i64 ((((a + b) / 2 : Nat) : Int))) rfl ?_)
              refine st (ov_move (v := .func (.func 39) #[] #[.pointer (some ⟨cb, 0, none⟩)]) rfl ?_)
              refine st (ov_call (f := 43) (vals := [vv, .int .i64 ((a : Nat) : Int), .int .i64 ((i : Nat) : Int), .int .i64 ((((a + b) / 2 : Nat) : Int)), .func (.func 39) #[] #[.pointer (some ⟨cb, 0, none⟩)]]) (cap := []) (show _ = (.func (.func 43) #[] #[] : Value) from rfl) rfl Try.call43 (ih (a := a) (md := i) (b := (a + b) / 2) ho175 h176 (by omega) (by omega) (by first | omega | (simp only [symL_length, rotL_length]; omega)) (by omega) hne) ?_)
              rintro _ w29 ⟨rfl, ho195, hch194⟩
              have hch194s := hch194.size
              have h196 := hch194.keep h176 (fun e => hne e)
              refine st_nil ?_
              refine WP_seq ?_
              refine WP_region (by kernel_rfl) ?_
              refine st (ov_move (v := .int .i64 ((((a + b) / 2 : Nat) : Int))) rfl ?_)
              refine st (ov_move (v := .int .i64 (((((a + b) / 2) + md) - i : Nat) : Int)) rfl ?_)
              refine st (ov_lss (k := .i64) (a := (((a + b) / 2 : Nat) : Int)) (b := (((((a + b) / 2) + md) - i : Nat) : Int)) rfl rfl ?_)
              refine st (ov_move (v := .bool (decide ((((a + b) / 2 : Nat) : Int) < (((((a + b) / 2) + md) - i : Nat) : Int)))) rfl ?_)
              refine stc (V := .int .i64 (((((a + b) / 2) + md) - i : Nat) : Int)) rfl rfl (fun hb197 => ?_) ?_
              · have hl198 : (decide ((((a + b) / 2 : Nat) : Int) < (((((a + b) / 2) + md) - i : Nat) : Int))) = true := hb197
                have hl198 := of_decide_eq_true hl198
                exact ov_move (v := .int .i64 (((((a + b) / 2) + md) - i : Nat) : Int)) rfl ⟨rfl, rfl⟩
              refine stc (V := .int .i64 ((b : Nat) : Int)) rfl rfl (fun hb199 => ?_) ?_
              · have hl200 : (decide ((((a + b) / 2 : Nat) : Int) < (((((a + b) / 2) + md) - i : Nat) : Int))) = true := hb199
                have hl200 := of_decide_eq_true hl200
                exact ov_move (v := .int .i64 ((b : Nat) : Int)) rfl ⟨rfl, rfl⟩
              refine stc (V := .bool (decide ((((((a + b) / 2) + md) - i : Nat) : Int) < ((b : Nat) : Int)))) rfl rfl (fun hb201 => ?_) ?_
              · have hl202 : (decide ((((a + b) / 2 : Nat) : Int) < (((((a + b) / 2) + md) - i : Nat) : Int))) = true := hb201
                have hl202 := of_decide_eq_true hl202
                exact ov_lss (k := .i64) (a := (((((a + b) / 2) + md) - i : Nat) : Int)) (b := ((b : Nat) : Int)) (show _ = (.int .i64 (((((a + b) / 2) + md) - i : Nat) : Int) : Value) from (if_pos hb201)) (show _ = (.int .i64 ((b : Nat) : Int) : Value) from (if_pos hb201)) ⟨rfl, rfl⟩
              refine st (ov_pick_and (b := decide ((((a + b) / 2 : Nat) : Int) < (((((a + b) / 2) + md) - i : Nat) : Int))) (b' := decide ((((((a + b) / 2) + md) - i : Nat) : Int) < ((b : Nat) : Int))) rfl (fun hbp => (show _ = (.bool (decide ((((((a + b) / 2) + md) - i : Nat) : Int) < ((b : Nat) : Int))) : Value) from (if_pos hbp))) ?_)
              refine st_nil ?_
              cases hc203 : (decide ((((a + b) / 2 : Nat) : Int) < (((((a + b) / 2) + md) - i : Nat) : Int))) && (decide ((((((a + b) / 2) + md) - i : Nat) : Int) < ((b : Nat) : Int)))
              · skip
                simp only [Bool.and_eq_true, Bool.or_eq_true, Bool.and_eq_false_iff, Bool.or_eq_false_iff, decide_eq_true_eq, decide_eq_false_iff_not, Bool.not_eq_true', Bool.not_eq_false', Int.not_lt, Int.not_le] at hc203
                refine WP_cond_f rfl ?_
                refine WP_skip ?_
                refine fin0 Try.results43 ?_
                try simp only [Bool.and_eq_true, Bool.and_eq_false_iff, decide_eq_true_eq, decide_eq_false_iff_not] at hc135 hc143 hc183 hc203
                refine ⟨rfl, ?_, (Chg.trans (Chg.trans hx hch174) hch194)⟩
                have hS : symS less a md b l = i := by
                  unfold symS
                  first
                    | (simp only [if_pos (show (a + b) / 2 < md by omega)]; exact hbs.symm.trans (bsA_no (by omega)))
                    | (simp only [if_neg (show ¬ (a + b) / 2 < md by omega)]; exact hbs.symm.trans (bsA_no (by omega)))
                rw [symL, if_neg (by omega), if_neg (by omega)]
                dsimp only
                rw [hS]
                unfold symRot
                repeat (first | rw [if_pos (by omega)] | rw [if_neg (by omega)])
                first | exact ho195 | (exfalso; omega)
              · skip
                simp only [Bool.and_eq_true, Bool.or_eq_true, Bool.and_eq_false_iff, Bool.or_eq_false_iff, decide_eq_true_eq, decide_eq_false_iff_not, Bool.not_eq_true', Bool.not_eq_false', Int.not_lt, Int.not_le] at hc203
                refine WP_cond_t rfl ?_
                refine WP_region0 (by kernel_rfl) (fun _ => ?_)
                refine st (ov_move (v := vv) rfl ?_)
                refine st (ov_move (v := .int .i64 ((((a + b) / 2 : Nat) : Int))) rfl ?_)
                refine st (ov_move (v := .int .i64 (((((a + b) / 2) + md) - i : Nat) : Int)) rfl ?_)
                refine st (ov_move (v := .int .i64 ((b : Nat) : Int)) rfl ?_)
                refine st (ov_move (v := .func (.func 39) #[] #[.pointer (some ⟨cb, 0, none⟩)]) rfl ?_)
                refine st (ov_call (f := 43) (vals := [vv, .int .i64 ((((a + b) / 2 : Nat) : Int)), .int .i64 (((((a + b) / 2) + md) - i : Nat) : Int), .int .i64 ((b : Nat) : Int), .func (.func 39) #[] #[.pointer (some ⟨cb, 0, none⟩)]]) (cap := []) (show _ = (.func (.func 43) #[] #[] : Value) from rfl) rfl Try.call43 (ih (a := (a + b) / 2) (md := (((a + b) / 2) + md) - i) (b := b) ho195 h196 (by omega) (by omega) (by first | omega | (simp only [symL_length, rotL_length]; omega)) (by omega) hne) ?_)
                rintro _ w30 ⟨rfl, ho205, hch204⟩
                have hch204s := hch204.size
                have h206 := hch204.keep h196 (fun e => hne e)
                refine st_nil ?_
                refine fin0 Try.results43 ?_
                try simp only [Bool.and_eq_true, Bool.and_eq_false_iff, decide_eq_true_eq, decide_eq_false_iff_not] at hc135 hc143 hc183 hc203
                refine ⟨rfl, ?_, (Chg.trans (Chg.trans (Chg.trans hx hch174) hch194) hch204)⟩
                have hS : symS less a md b l = i := by
                  unfold symS
                  first
                    | (simp only [if_pos (show (a + b) / 2 < md by omega)]; exact hbs.symm.trans (bsA_no (by omega)))
                    | (simp only [if_neg (show ¬ (a + b) / 2 < md by omega)]; exact hbs.symm.trans (bsA_no (by omega)))
                rw [symL, if_neg (by omega), if_neg (by omega)]
                dsimp only
                rw [hS]
                unfold symRot
                repeat (first | rw [if_pos (by omega)] | rw [if_neg (by omega)])
                first | exact ho205 | (exfalso; omega)
        · skip
          have hc135 := of_decide_eq_true hc135
          refine WP_cond_t rfl ?_
          refine WP_skip ?_
          refine WP_block ?_
          refine WP_seq ?_
          refine WP_region0 (by kernel_rfl) (fun _ => ?_)
          refine st (ov_move (v := .int .i64 ((i : Nat) : Int)) rfl ?_)
          refine st (ov_move (v := .int .i64 ((j : Nat) : Int)) rfl ?_)
          have hr207 : InR ((i + j : Nat) : Int) := by omega
          refine st (ov_add (r := ((i + j : Nat) : Int)) (k := .i64) (a := ((i : Nat) : Int)) (b := ((j : Nat) : Int)) rfl rfl (by rw [show (((i : Nat) : Int) + ((j : Nat) : Int) : Int) = ((i + j : Nat) : Int) by omega]; exact wrap_in hr207) ?_)
          refine st (ov_cvt (k := .i64) (k2 := .u64) (a := ((i + j : Nat) : Int)) (r := ((i + j : Nat) : Int)) (by rw [Try.underlying3]; rfl) Try.underlying58 rfl (wrapU_in ⟨by omega, by omega⟩) ?_)
          refine st (ov_shr (k := .u64) (yk := .u64) (a := ((i + j : Nat) : Int)) (b := 1) (r := (((i + j) / 2 : Nat) : Int)) rfl rfl (by decide) (by decide) (by show ((i + j : Nat) : Int) / (2 : Int) ^ (1 : Nat) = (((i + j) / 2 : Nat) : Int); omega) ?_)
          refine st (ov_cvt (k := .u64) (k2 := .i64) (a := (((i + j) / 2 : Nat) : Int)) (r := (((i + j) / 2 : Nat) : Int)) (by rw [Try.underlying58]; rfl) Try.underlying3 rfl (wrap_in (by omega)) ?_)
          refine st (ov_assign (v := .int .i64 ((((i + j) / 2 : Nat) : Int))) rfl ?_)
          refine st_nil ?_
          refine WP_seq ?_
          refine WP_draw Ext (AL [fun v w => v = (.func (.func 39) #[] #[.pointer (some ⟨cb, 0, none⟩)] : Value), fun v w => v = (vv : Value), fun v w => v = (.int .i64 (((((a + b) / 2) + md) - 1 : Nat) : Int) : Value), fun v w => v = (.int .i64 ((((i + j) / 2 : Nat) : Int)) : Value), fun v w => v = (.int .i64 ((((((a + b) / 2) + md) - 1) - ((i + j) / 2) : Nat) : Int) : Value), fun v w => v = (.pointer (some ⟨sb vv, so vv + (((((a + b) / 2) + md) - 1) - ((i + j) / 2)) * 10, none⟩) : Value), fun v w => v = (.agg ((l.getD (((((a + b) / 2) + md) - 1) - ((i + j) / 2)) default).cells (cellV w23 (sb vv) (so vv + (((((a + b) / 2) + md) - 1) - ((i + j) / 2)) * 10 + 3))).toArray : Value), fun v w => v = (vv : Value), fun v w => v = (.int .i64 ((((i + j) / 2 : Nat) : Int)) : Value), fun v w => v = (.pointer (some ⟨sb vv, so vv + ((i + j) / 2) * 10, none⟩) : Value), fun v w => v = (.agg ((l.getD ((i + j) / 2) default).cells (cellV w23 (sb vv) (so vv + ((i + j) / 2) * 10 + 3))).toArray : Value)]) [[], [], [], [], [2, 3], [1, 2, 3, 4], [1, 2, 3, 4, 5], [], [], [7, 8], [7, 8, 9], [0, 1, 2, 3, 4, 5, 6, 7, 8, 9, 10], [0, 1, 2, 3, 4, 5, 6, 7, 8, 9, 10, 11], [0, 1, 2, 3, 4, 5, 6, 7, 8, 9, 10, 11, 12]] 11 (by kernel_rfl) (by kernel_rfl) (by kernel_rfl) (fun w => Chg.refl _ w) (fun _ _ _ h1 h2 => h1.trans h2) (stabL ⟨fun _ _ _ _ h => h, fun _ _ _ _ h => h, fun _ _ _ _ h => h, fun _ _ _ _ h => h, fun _ _ _ _ h => h, fun _ _ _ _ h => h, fun _ _ _ _ h => h, fun _ _ _ _ h => h, fun _ _ _ _ h => h, fun _ _ _ _ h => h, fun _ _ _ _ h => h, trivial⟩) ?_
          intro w31 qh1 qh2 qh3 qh4
          have hx208 := ext_same qh1 qh2 qh3 qh4
          refine ⟨⟨?_, ?_, ?_, ?_, ?_, ?_, ?_, ?_, ?_, ?_, ?_, trivial⟩, ?_⟩
          · intro vals w32 hR209 hA
            have hs210 := hR209.size
            refine obl rfl ?_
            exact ov_move (v := .func (.func 39) #[] #[.pointer (some ⟨cb, 0, none⟩)]) rfl ⟨Chg.refl _ _, rfl⟩
          · intro vals w33 hR211 hA
            have hs212 := hR211.size
            refine obl rfl ?_
            exact ov_move (v := vv) rfl ⟨Chg.refl _ _, rfl⟩
          · intro vals w34 hR213 hA
            have hs214 := hR213.size
            refine obl rfl ?_
            exact ov_move (v := .int .i64 (((((a + b) / 2) + md) - 1 : Nat) : Int)) rfl ⟨Chg.refl _ _, rfl⟩
          · intro vals w35 hR215 hA
            have hs216 := hR215.size
            refine obl rfl ?_
            exact ov_move (v := .int .i64 ((((i + j) / 2 : Nat) : Int))) rfl ⟨Chg.refl _ _, rfl⟩
          · intro vals w36 hR217 hA
            have hs218 := hR217.size
            have e2 : (vals 2) = (.int .i64 (((((a + b) / 2) + md) - 1 : Nat) : Int) : Value) := hA 2 (by decide)
            have e3 : (vals 3) = (.int .i64 ((((i + j) / 2 : Nat) : Int)) : Value) := hA 3 (by decide)
            refine obl rfl ?_
            have hr219 : InR ((((((a + b) / 2) + md) - 1) - ((i + j) / 2) : Nat) : Int) := by omega
            exact ov_sub (r := ((((((a + b) / 2) + md) - 1) - ((i + j) / 2) : Nat) : Int)) (k := .i64) (a := (((((a + b) / 2) + md) - 1 : Nat) : Int)) (b := (((i + j) / 2 : Nat) : Int)) (show _ = (.int .i64 (((((a + b) / 2) + md) - 1 : Nat) : Int) : Value) from e2) (show _ = (.int .i64 ((((i + j) / 2 : Nat) : Int)) : Value) from e3) (by rw [show ((((((a + b) / 2) + md) - 1 : Nat) : Int) - (((i + j) / 2 : Nat) : Int) : Int) = ((((((a + b) / 2) + md) - 1) - ((i + j) / 2) : Nat) : Int) by omega]; exact wrap_in hr219) ⟨Chg.refl _ _, rfl⟩
          · intro vals w37 hR220 hA
            have hs221 := hR220.size
            have e1 : (vals 1) = (vv : Value) := hA 1 (by decide)
            have e4 : (vals 4) = (.int .i64 ((((((a + b) / 2) + md) - 1) - ((i + j) / 2) : Nat) : Int) : Value) := hA 4 (by decide)
            refine obl rfl ?_
            have hi222 : ((((a + b) / 2) + md) - 1) - ((i + j) / 2) < l.length := by omega
            have hi223 : ((((a + b) / 2) + md) - 1) - ((i + j) / 2) < l.length := by omega
            obtain ⟨hc223, hd223, hok223⟩ := ho1.ev hi223
            rw [← getD_at default hi223] at hc223 hd223 hok223
            exact ov_indexAddrN (k := 10) (i := ((((a + b) / 2) + md) - 1) - ((i + j) / 2)) Try.underlying22 Try.sizeOf29 (show _ = (vv : Value) from e1) ho1.isSl (show _ = (.int .i64 ((((((a + b) / 2) + md) - 1) - ((i + j) / 2) : Nat) : Int) : Value) from e4) hi222 ⟨Chg.refl _ _, rfl⟩
          · intro vals w38 hR224 hA
            have hs225 := hR224.size
            have e5 : (vals 5) = (.pointer (some ⟨sb vv, so vv + (((((a + b) / 2) + md) - 1) - ((i + j) / 2)) * 10, none⟩) : Value) := hA 5 (by decide)
            refine obl rfl ?_
            have hi226 : ((((a + b) / 2) + md) - 1) - ((i + j) / 2) < l.length := by omega
            obtain ⟨hc226, hd226, hok226⟩ := ho1.ev hi226
            rw [← getD_at default hi226] at hc226 hd226 hok226
            have h227 := hc226.mono (fun hb => (Chg.trans hx208 hR224).block _ hb (fun h => h))
            exact ov_loadk (k := 10) Try.isAgg29 Try.sizeOf29 rfl (show _ = (.pointer (some ⟨sb vv, so vv + (((((a + b) / 2) + md) - 1) - ((i + j) / 2)) * 10, none⟩) : Value) from e5) h227 ⟨Chg.refl _ _, rfl⟩
          · intro vals w39 hR228 hA
            have hs229 := hR228.size
            refine obl rfl ?_
            exact ov_move (v := vv) rfl ⟨Chg.refl _ _, rfl⟩
          · intro vals w40 hR230 hA
            have hs231 := hR230.size
            refine obl rfl ?_
            exact ov_move (v := .int .i64 ((((i + j) / 2 : Nat) : Int))) rfl ⟨Chg.refl _ _, rfl⟩
          · intro vals w41 hR232 hA
            have hs233 := hR232.size
            have e7 : (vals 7) = (vv : Value) := hA 7 (by decide)
            have e8 : (vals 8) = (.int .i64 ((((i + j) / 2 : Nat) : Int)) : Value) := hA 8 (by decide)
            refine obl rfl ?_
            have hi234 : (i + j) / 2 < l.length := by omega
            have hi235 : (i + j) / 2 < l.length := by omega
            obtain ⟨hc235, hd235, hok235⟩ := ho1.ev hi235
            rw [← getD_at default hi235] at hc235 hd235 hok235
            exact ov_indexAddrN (k := 10) (i := (i + j) / 2) Try.underlying22 Try.sizeOf29 (show _ = (vv : Value) from e7) ho1.isSl (show _ = (.int .i64 ((((i + j) / 2 : Nat) : Int)) : Value) from e8) hi234 ⟨Chg.refl _ _, rfl⟩
          · intro vals w42 hR236 hA
            have hs237 := hR236.size
            have e9 : (vals 9) = (.pointer (some ⟨sb vv, so vv + ((i + j) / 2) * 10, none⟩) : Value) := hA 9 (by decide)
            refine obl rfl ?_
            have hi238 : (i + j) / 2 < l.length := by omega
            obtain ⟨hc238, hd238, hok238⟩ := ho1.ev hi238
            rw [← getD_at default hi238] at hc238 hd238 hok238
            have h239 := hc238.mono (fun hb => (Chg.trans hx208 hR236).block _ hb (fun h => h))
            exact ov_loadk (k := 10) Try.isAgg29 Try.sizeOf29 rfl (show _ = (.pointer (some ⟨sb vv, so vv + ((i + j) / 2) * 10, none⟩) : Value) from e9) h239 ⟨Chg.refl _ _, rfl⟩
          intro vals w43 hR240 hA
          have hs241 := hR240.size
          have hs242 := hx208.size
          have e0 : (vals 0) = (.func (.func 39) #[] #[.pointer (some ⟨cb, 0, none⟩)] : Value) := hA 0 (by decide)
          have e6 : (vals 6) = (.agg ((l.getD (((((a + b) / 2) + md) - 1) - ((i + j) / 2)) default).cells (cellV w23 (sb vv) (so vv + (((((a + b) / 2) + md) - 1) - ((i + j) / 2)) * 10 + 3))).toArray : Value) := hA 6 (by decide)
          have e10 : (vals 10) = (.agg ((l.getD ((i + j) / 2) default).cells (cellV w23 (sb vv) (so vv + ((i + j) / 2) * 10 + 3))).toArray : Value) := hA 10 (by decide)
          refine st_env (kv := [(0, vv), (1, .int .i64 ((a : Nat) : Int)), (2, .int .i64 ((md : Nat) : Int)), (3, .int .i64 ((b : Nat) : Int)), (4, .func (.func 39) #[] #[.pointer (some ⟨cb, 0, none⟩)]), (18, .int .i64 ((((a + b) / 2 : Nat) : Int))), (19, .int .i64 ((((a + b) / 2) + md : Nat) : Int)), (22, .int .i64 (((((a + b) / 2) + md) - 1 : Nat) : Int)), (20, .int .i64 ((i : Nat) : Int)), (21, .int .i64 ((j : Nat) : Int)), (149, .int .i64 ((i : Nat) : Int)), (150, .int .i64 ((j : Nat) : Int)), (151, .bool true), (152, .int .i64 ((i : Nat) : Int)), (153, .int .i64 ((j : Nat) : Int)), (154, .int .i64 ((i + j : Nat) : Int)), (155, .int .u64 (((i + j : Nat) : Int))), (156, .int .u64 (((i + j) / 2 : Nat) : Int)), (157, .int .i64 ((((i + j) / 2 : Nat) : Int))), (23, .int .i64 ((((i + j) / 2 : Nat) : Int))), (158, .func (.func 39) #[] #[.pointer (some ⟨cb, 0, none⟩)]), (164, .agg ((l.getD (((((a + b) / 2) + md) - 1) - ((i + j) / 2)) default).cells (cellV w23 (sb vv) (so vv + (((((a + b) / 2) + md) - 1) - ((i + j) / 2)) * 10 + 3))).toArray), (168, .agg ((l.getD ((i + j) / 2) default).cells (cellV w23 (sb vv) (so vv + ((i + j) / 2) * 10 + 3))).toArray)]) ⟨rfl, rfl, rfl, rfl, rfl, rfl, rfl, rfl, rfl, rfl, rfl, rfl, rfl, rfl, rfl, rfl, rfl, rfl, rfl, rfl, e0, e6, e10, trivial⟩ (fun ρ43 => ?_)
          clear e0 e6 e10
          clear hA qh1 qh2 qh3 qh4
          have hi243 : ((((a + b) / 2) + md) - 1) - ((i + j) / 2) < l.length := by omega
          obtain ⟨hc243, hd243, hok243⟩ := ho1.ev hi243
          rw [← getD_at default hi243] at hc243 hd243 hok243
          have h244 := hd243.ext (Chg.trans hx208 hR240)
          have hi245 : (i + j) / 2 < l.length := by omega
          obtain ⟨hc245, hd245, hok245⟩ := ho1.ev hi245
          rw [← getD_at default hi245] at hc245 hd245 hok245
          have h246 := hd245.ext (Chg.trans hx208 hR240)
          have h247 := (Chg.trans hx208 hR240).keep hcb1 (fun h => h)
          refine st (ov_call (f := 39) (vals := [.agg ((l.getD (((((a + b) / 2) + md) - 1) - ((i + j) / 2)) default).cells (cellV w23 (sb vv) (so vv + (((((a + b) / 2) + md) - 1) - ((i + j) / 2)) * 10 + 3))).toArray, .agg ((l.getD ((i + j) / 2) default).cells (cellV w23 (sb vv) (so vv + ((i + j) / 2) * 10 + 3))).toArray]) (cap := [.pointer (some ⟨cb, 0, none⟩)]) (show _ = (.func (.func 39) #[] #[.pointer (some ⟨cb, 0, none⟩)] : Value) from rfl) rfl Try.call39 (C_by1 h244 hok243 h246 hok245 h247) ?_)
          rintro _ w44 ⟨rfl, hx248⟩
          have hx248s := hx248.size
          refine st (ov_lss (k := .i64) (a := cmpP (l.getD (((((a + b) / 2) + md) - 1) - ((i + j) / 2)) default) (l.getD ((i + j) / 2) default)) (b := 0) rfl rfl ?_)
          refine st (ov_not (a := decide ((cmpP (l.getD (((((a + b) / 2) + md) - 1) - ((i + j) / 2)) default) (l.getD ((i + j) / 2) default)) < 0)) rfl ?_)
          refine st_nil ?_
          cases hc249 : !(decide ((cmpP (l.getD (((((a + b) / 2) + md) - 1) - ((i + j) / 2)) default) (l.getD ((i + j) / 2) default)) < 0))
          · skip
            have hc249 := ndec_false hc249
            refine WP_cond_f rfl ?_
            refine WP_region0 (by kernel_rfl) (fun _ => ?_)
            refine st (ov_move (v := .int .i64 ((((i + j) / 2 : Nat) : Int))) rfl ?_)
            refine st (ov_assign (v := .int .i64 ((((i + j) / 2 : Nat) : Int))) rfl ?_)
            refine st_nil ?_
            have h250 := ho1.ext (Chg.trans (Chg.trans hx208 hR240) hx248)
            have h251 := hx248.keep h247 (fun h => h)
            exact ⟨_, by omega, i, (i + j) / 2, g - 1, _, rfl, setAll_self ⟨rfl, rfl, rfl, rfl, rfl, rfl, rfl, rfl, rfl, rfl, trivial⟩, (Chg.trans (Chg.trans (Chg.trans hx (Chg.ext _ hx208)) (Chg.ext _ hR240)) (Chg.ext _ hx248)), h250, h251, by omega, by omega, by omega, by omega, (by rw [← hbs]; first | exact (bsA_t (by omega) (by omega) (nless_f (by omega))).symm | exact (bsA_f (by omega) (by omega) (nless_t (by omega))).symm)⟩
          · skip
            have hc249 := ndec_true hc249
            refine WP_cond_t rfl ?_
            refine WP_region0 (by kernel_rfl) (fun _ => ?_)
            refine st (ov_move (v := .int .i64 ((((i + j) / 2 : Nat) : Int))) rfl ?_)
            have hr252 : InR (((i + j) / 2 + 1 : Nat) : Int) := by omega
            refine st (ov_add (r := (((i + j) / 2 + 1 : Nat) : Int)) (k := .i64) (a := (((i + j) / 2 : Nat) : Int)) (b := 1) rfl rfl (by rw [show ((((i + j) / 2 : Nat) : Int) + 1 : Int) = (((i + j) / 2 + 1 : Nat) : Int) by omega]; exact wrap_in hr252) ?_)
            refine st (ov_assign (v := .int .i64 (((i + j) / 2 + 1 : Nat) : Int)) rfl ?_)
            refine st_nil ?_
            have h253 := ho1.ext (Chg.trans (Chg.trans hx208 hR240) hx248)
            have h254 := hx248.keep h247 (fun h => h)
            exact ⟨_, by omega, (i + j) / 2 + 1, j, g - 1, _, rfl, setAll_self ⟨rfl, rfl, rfl, rfl, rfl, rfl, rfl, rfl, rfl, rfl, trivial⟩, (Chg.trans (Chg.trans (Chg.trans hx (Chg.ext _ hx208)) (Chg.ext _ hR240)) (Chg.ext _ hx248)), h253, h254, by omega, by omega, by omega, by omega, (by rw [← hbs]; first | exact (bsA_t (by omega) (by omega) (nless_f (by omega))).symm | exact (bsA_f (by omega) (by omega) (nless_t (by omega))).symm)⟩
    · skip
      have hc4 := of_decide_eq_true hc4
      refine WP_cond_t rfl ?_
      refine WP_seq ?_
      refine WP_region0 (by kernel_rfl) (fun _ => ?_)
      refine st (ov_move (v := .int .i64 ((a : Nat) : Int)) rfl ?_)
      refine st (ov_assign (v := .int .i64 ((a : Nat) : Int)) rfl ?_)
      refine st_nil ?_
      refine WP_seq ?_
      refine WP_region0 (by kernel_rfl) (fun _ => ?_)
      refine st (ov_move (v := .int .i64 ((md : Nat) : Int)) rfl ?_)
      refine st (ov_assign (v := .int .i64 ((md : Nat) : Int)) rfl ?_)
      refine st_nil ?_
      refine WP_seq ?_
      refine WP_block ?_
      refine WP_loop (fun m σ wq => ∃ (i : Nat) (j : Nat) (g : Nat) (ρ : Env), m = 2 * (j - i) ∧ σ = setAll ρ [(0, vv), (1, .int .i64 ((a : Nat) : Int)), (2, .int .i64 ((md : Nat) : Int)), (3, .int .i64 ((b : Nat) : Int)), (4, .func (.func 39) #[] #[.pointer (some ⟨cb, 0, none⟩)]), (14, .int .i64 ((i : Nat) : Int)), (15, .int .i64 ((j : Nat) : Int))] ∧ (Chg (fun i => vv.ownBlock = some i) w wq) ∧ (OwnS 29 lo wq F vv l) ∧ (wq.heap[cb]? = some (.cells #[.func (.func 28) #[] #[]] 49)) ∧ (a ≤ i) ∧ (i ≤ j) ∧ (j ≤ md) ∧ (j - i ≤ g) ∧ (bsA (fun h => !less (gd l md) (gd l h)) g i j = bsA (fun h => !less (gd l md) (gd l h)) (md - a) a md)) ⟨a, md, md - a, _, rfl, setAll_self ⟨rfl, rfl, rfl, rfl, rfl, rfl, rfl, trivial⟩, (Chg.refl _ _), ho, hcb, Nat.le_refl _, by omega, Nat.le_refl _, Nat.le_refl _, rfl⟩ ?_
      rintro m255 σ256 w45 ⟨i, j, g, ρ45, rfl, rfl, hx, ho1, hcb1, hi1, hi2, hj1, hg, hbs⟩
      have hxs := hx.size
      refine WP_seq ?_
      refine WP_seq ?_
      refine WP_region0 (by kernel_rfl) (fun _ => ?_)
      refine st (ov_move (v := .int .i64 ((i : Nat) : Int)) rfl ?_)
      refine st (ov_move (v := .int .i64 ((j : Nat) : Int)) rfl ?_)
      refine st (ov_lss (k := .i64) (a := ((i : Nat) : Int)) (b := ((j : Nat) : Int)) rfl rfl ?_)
      refine st_nil ?_
      cases hc257 : decide (((i : Nat) : Int) < ((j : Nat) : Int))
      · skip
        have hc257 := of_decide_eq_false hc257
        refine WP_cond_f rfl ?_
        refine WP_exit ?_
        refine blk_exit ?_
        refine WP_seq ?_
        refine WP_seq ?_
        refine WP_region0 (by kernel_rfl) (fun _ => ?_)
        refine st (ov_move (v := .int .i64 ((md : Nat) : Int)) rfl ?_)
        refine st (ov_assign (v := .int .i64 ((md : Nat) : Int)) rfl ?_)
        refine st_nil ?_
        refine WP_block ?_
        refine WP_loop (fun m σ wq => ∃ (k : Nat) (L : List Ev) (ρ : Env), m = 2 * k ∧ σ = setAll ρ [(0, vv), (1, .int .i64 ((a : Nat) : Int)), (2, .int .i64 ((md : Nat) : Int)), (3, .int .i64 ((b : Nat) : Int)), (4, .func (.func 39) #[] #[.pointer (some ⟨cb, 0, none⟩)]), (14, .int .i64 ((i : Nat) : Int)), (17, .int .i64 ((k : Nat) : Int))] ∧ (Chg (fun i => vv.ownBlock = some i) w45 wq) ∧ (OwnS 29 lo wq F vv L) ∧ (i ≤ k) ∧ (k ≤ md) ∧ (L.length = l.length) ∧ (chainDn (k - i) k L = chainDn (md - i) md l)) ⟨md, l, _, rfl, setAll_self ⟨rfl, rfl, rfl, rfl, rfl, rfl, rfl, trivial⟩, (Chg.refl _ _), ho1, by omega, by omega, rfl, rfl⟩ ?_
        rintro m258 σ259 w46 ⟨k, L, ρ46, rfl, rfl, hx2, ho2, hk1, hk2, hl2, hin⟩
        have hxs2 := hx2.size
        have hsm2 : L.length * 96 ≤ 140737488355328 := ho2.small
        refine WP_seq ?_
        refine WP_seq ?_
        refine WP_region0 (by kernel_rfl) (fun _ => ?_)
        refine st (ov_move (v := .int .i64 ((k : Nat) : Int)) rfl ?_)
        refine st (ov_move (v := .int .i64 ((i : Nat) : Int)) rfl ?_)
        refine st (ov_gtr (k := .i64) (a := ((k : Nat) : Int)) (b := ((i : Nat) : Int)) rfl rfl ?_)
        refine st_nil ?_
        cases hc260 : decide (((i : Nat) : Int) < ((k : Nat) : Int))
        · skip
          have hc260 := of_decide_eq_false hc260
          refine WP_cond_f rfl ?_
          refine WP_exit ?_
          refine blk_exit ?_
          refine WP_ret ?_
          refine fin0r Try.results43 ?_
          refine ⟨rfl, ?_, (Chg.trans hx hx2)⟩
          rw [symL, if_neg (by omega), if_pos (by omega), ← hbs, bsA_no (by omega), ← hin, show k - i = 0 by omega]
          exact ho2
        · skip
          have hc260 := of_decide_eq_true hc260
          refine WP_cond_t rfl ?_
          refine WP_skip ?_
          refine WP_seq ?_
          refine WP_block ?_
          refine WP_draw2 (WL [fun wq => Ext w46 wq, fun wq => OwnS 29 lo wq F vv (L.set k (L.getD (k - 1) default)) ∧ Chg (fun i => vv.ownBlock = some i) w46 wq, fun wq => OwnS 29 lo wq F vv ((L.set k (L.getD (k - 1) default)).set (k - 1) (L.getD k default)) ∧ Chg (fun i => vv.ownBlock = some i) w46 wq]) (AV [fun v => v = (vv : Value), fun v => v = (.int .i64 ((k : Nat) : Int) : Value), fun v => v = (vv : Value), fun v => v = (.int .i64 ((k : Nat) : Int) : Value), fun v => v = (.int .i64 ((k - 1 : Nat) : Int) : Value), fun v => v = (vv : Value), fun v => v = (.int .i64 ((k : Nat) : Int) : Value), fun v => v = (.int .i64 ((k - 1 : Nat) : Int) : Value), fun v => v = (.pointer (some ⟨sb vv, so vv + (k - 1) * 10, none⟩) : Value), fun v => v = (.agg ((L.getD (k - 1) default).cells (cellV w46 (sb vv) (so vv + (k - 1) * 10 + 3))).toArray : Value), fun v => v = (vv : Value), fun v => v = (.int .i64 ((k : Nat) : Int) : Value), fun v => v = (.pointer (some ⟨sb vv, so vv + k * 10, none⟩) : Value), fun v => v = (.agg ((L.getD k default).cells (cellV w46 (sb vv) (so vv + k * 10 + 3))).toArray : Value), fun v => v = (.pointer (some ⟨sb vv, so vv + k * 10, none⟩) : Value), fun v => True, fun v => v = (.pointer (some ⟨sb vv, so vv + (k - 1) * 10, none⟩) : Value), fun v => True]) [[], [], [], [], [3], [], [], [6], [5, 6, 7], [5, 6, 7, 8], [], [], [10, 11], [10, 11, 12], [0, 1, 5, 6, 7, 8, 9, 10, 11, 12, 13], [0, 1, 5, 6, 7, 8, 9, 10, 11, 12, 13, 14], [0, 1, 2, 3, 4, 5, 6, 7, 8, 9, 10, 11, 12, 13, 14, 15], [0, 1, 2, 3, 4, 5, 6, 7, 8, 9, 10, 11, 12, 13, 14, 15, 16]] [15, 17] [some (0, 0), some (0, 0), none, none, none, some (0, 0), some (0, 0), some (0, 0), some (0, 0), some (0, 0), some (0, 0), some (0, 0), some (0, 0), some (0, 0), some (0, 0), some (0, 1), none, some (1, 2)] (by kernel_rfl) (by kernel_rfl) (by kernel_rfl) rfl (by kernel_rfl) (by kernel_rfl) (fun _ h1 h2 h3 h4 => ext_same h1 h2 h3 h4) ⟨?_, ?_, ?_, ?_, ?_, ?_, ?_, ?_, ?_, ?_, ?_, ?_, ?_, ?_, ?_, ?_, ?_, ?_, trivial⟩ ?_
          · intro vals w47 hW261 hA
            have hW261 : Ext w46 w47 := hW261
            have hs262 := hW261.size
            refine obl rfl ?_
            exact ov_move (v := vv) rfl ⟨hW261, rfl⟩
          · intro vals w48 hW263 hA
            have hW263 : Ext w46 w48 := hW263
            have hs264 := hW263.size
            refine obl rfl ?_
            exact ov_move (v := .int .i64 ((k : Nat) : Int)) rfl ⟨hW263, rfl⟩
          · intro vals w49 hW265 hA
            refine obl rfl ?_
            exact ov_move (v := vv) rfl ⟨rfl, rfl⟩
          · intro vals w50 hW266 hA
            refine obl rfl ?_
            exact ov_move (v := .int .i64 ((k : Nat) : Int)) rfl ⟨rfl, rfl⟩
          · intro vals w51 hW267 hA
            have e3 : (vals 3) = (.int .i64 ((k : Nat) : Int) : Value) := hA 3 (by decide)
            refine obl rfl ?_
            have hr268 : InR ((k - 1 : Nat) : Int) := by omega
            exact ov_sub (r := ((k - 1 : Nat) : Int)) (k := .i64) (a := ((k : Nat) : Int)) (b := 1) (show _ = (.int .i64 ((k : Nat) : Int) : Value) from e3) rfl (by rw [show (((k : Nat) : Int) - 1 : Int) = ((k - 1 : Nat) : Int) by omega]; exact wrap_in hr268) ⟨rfl, rfl⟩
          · intro vals w52 hW269 hA
            have hW269 : Ext w46 w52 := hW269
            have hs270 := hW269.size
            refine obl rfl ?_
            exact ov_move (v := vv) rfl ⟨hW269, rfl⟩
          · intro vals w53 hW271 hA
            have hW271 : Ext w46 w53 := hW271
            have hs272 := hW271.size
            refine obl rfl ?_
            exact ov_move (v := .int .i64 ((k : Nat) : Int)) rfl ⟨hW271, rfl⟩
          · intro vals w54 hW273 hA
            have hW273 : Ext w46 w54 := hW273
            have hs274 := hW273.size
            have e6 : (vals 6) = (.int .i64 ((k : Nat) : Int) : Value) := hA 6 (by decide)
            refine obl rfl ?_
            have hr275 : InR ((k - 1 : Nat) : Int) := by omega
            exact ov_sub (r := ((k - 1 : Nat) : Int)) (k := .i64) (a := ((k : Nat) : Int)) (b := 1) (show _ = (.int .i64 ((k : Nat) : Int) : Value) from e6) rfl (by rw [show (((k : Nat) : Int) - 1 : Int) = ((k - 1 : Nat) : Int) by omega]; exact wrap_in hr275) ⟨hW273, rfl⟩
          · intro vals w55 hW276 hA
            have hW276 : Ext w46 w55 := hW276
            have hs277 := hW276.size
            have e5 : (vals 5) = (vv : Value) := hA 5 (by decide)
            have e7 : (vals 7) = (.int .i64 ((k - 1 : Nat) : Int) : Value) := hA 7 (by decide)
            refine obl rfl ?_
            have hi278 : k - 1 < L.length := by omega
            have hi279 : k - 1 < L.length := by omega
            obtain ⟨hc279, hd279, hok279⟩ := ho2.ev hi279
            rw [← getD_at default hi279] at hc279 hd279 hok279
            exact ov_indexAddrN (k := 10) (i := k - 1) Try.underlying22 Try.sizeOf29 (show _ = (vv : Value) from e5) ho2.isSl (show _ = (.int .i64 ((k - 1 : Nat) : Int) : Value) from e7) hi278 ⟨hW276, rfl⟩
          · intro vals w56 hW280 hA
            have hW280 : Ext w46 w56 := hW280
            have hs281 := hW280.size
            have e8 : (vals 8) = (.pointer (some ⟨sb vv, so vv + (k - 1) * 10, none⟩) : Value) := hA 8 (by decide)
            refine obl rfl ?_
            have hi282 : k - 1 < L.length := by omega
            obtain ⟨hc282, hd282, hok282⟩ := ho2.ev hi282
            rw [← getD_at default hi282] at hc282 hd282 hok282
            have h283 := hc282.mono (fun hb => hW280.block _ hb (fun h => h))
            exact ov_loadk (k := 10) Try.isAgg29 Try.sizeOf29 rfl (show _ = (.pointer (some ⟨sb vv, so vv + (k - 1) * 10, none⟩) : Value) from e8) h283 ⟨hW280, rfl⟩
          · intro vals w57 hW284 hA
            have hW284 : Ext w46 w57 := hW284
            have hs285 := hW284.size
            refine obl rfl ?_
            exact ov_move (v := vv) rfl ⟨hW284, rfl⟩
          · intro vals w58 hW286 hA
            have hW286 : Ext w46 w58 := hW286
            have hs287 := hW286.size
            refine obl rfl ?_
            exact ov_move (v := .int .i64 ((k : Nat) : Int)) rfl ⟨hW286, rfl⟩
          · intro vals w59 hW288 hA
            have hW288 : Ext w46 w59 := hW288
            have hs289 := hW288.size
            have e10 : (vals 10) = (vv : Value) := hA 10 (by decide)
            have e11 : (vals 11) = (.int .i64 ((k : Nat) : Int) : Value) := hA 11 (by decide)
            refine obl rfl ?_
            have hi290 : k < L.length := by omega
            have hi291 : k < L.length := by omega
            obtain ⟨hc291, hd291, hok291⟩ := ho2.ev hi291
            rw [← getD_at default hi291] at hc291 hd291 hok291
            exact ov_indexAddrN (k := 10) (i := k) Try.underlying22 Try.sizeOf29 (show _ = (vv : Value) from e10) ho2.isSl (show _ = (.int .i64 ((k : Nat) : Int) : Value) from e11) hi290 ⟨hW288, rfl⟩
          · intro vals w60 hW292 hA
            have hW292 : Ext w46 w60 := hW292
            have hs293 := hW292.size
            have e12 : (vals 12) = (.pointer (some ⟨sb vv, so vv + k * 10, none⟩) : Value) := hA 12 (by decide)
            refine obl rfl ?_
            have hi294 : k < L.length := by omega
            obtain ⟨hc294, hd294, hok294⟩ := ho2.ev hi294
            rw [← getD_at default hi294] at hc294 hd294 hok294
            have h295 := hc294.mono (fun hb => hW292.block _ hb (fun h => h))
            exact ov_loadk (k := 10) Try.isAgg29 Try.sizeOf29 rfl (show _ = (.pointer (some ⟨sb vv, so vv + k * 10, none⟩) : Value) from e12) h295 ⟨hW292, rfl⟩
          · intro vals w61 hW296 hA
            have hW296 : Ext w46 w61 := hW296
            have hs297 := hW296.size
            have e0 : (vals 0) = (vv : Value) := hA 0 (by decide)
            have e1 : (vals 1) = (.int .i64 ((k : Nat) : Int) : Value) := hA 1 (by decide)
            refine obl rfl ?_
            have hi298 : k < L.length := by omega
            exact ov_indexAddrN (k := 10) (i := k) Try.underlying22 Try.sizeOf29 (show _ = (vv : Value) from e0) ho2.isSl (show _ = (.int .i64 ((k : Nat) : Int) : Value) from e1) hi298 ⟨hW296, rfl⟩
          · intro vals w62 hW299 hA
            have hW299 : Ext w46 w62 := hW299
            have hs300 := hW299.size
            have e9 : (vals 9) = (.agg ((L.getD (k - 1) default).cells (cellV w46 (sb vv) (so vv + (k - 1) * 10 + 3))).toArray : Value) := hA 9 (by decide)
            have e14 : (vals 14) = (.pointer (some ⟨sb vv, so vv + k * 10, none⟩) : Value) := hA 14 (by decide)
            refine obl rfl ?_
            have hi301 : k - 1 < L.length := by omega
            obtain ⟨hc301, hd301, hok301⟩ := ho2.ev hi301
            rw [← getD_at default hi301] at hc301 hd301 hok301
            have h302 := ho2.ext hW299
            have h303 := hd301.ext hW299
            exact ov_storeOwn (i := k) (u := .agg ((L.getD (k - 1) default).cells (cellV w46 (sb vv) (so vv + (k - 1) * 10 + 3))).toArray) Try.sizeOf29 h302 (by first | omega | (simp only [List.length_set]; omega)) (show _ = (.pointer (some ⟨sb vv, so vv + k * 10, none⟩) : Value) from e14) (show _ = (.agg ((L.getD (k - 1) default).cells (cellV w46 (sb vv) (so vv + (k - 1) * 10 + 3))).toArray : Value) from e9) rfl (show Rep.rd _ _ _ (L.getD (k - 1) default) from ⟨_, rfl, h303, hok301⟩) (fun _ ho hch => ⟨⟨ho, (Chg.trans (Chg.ext _ hW299) hch)⟩, trivial⟩)
          · intro vals w63 hW304 hA
            have e2 : (vals 2) = (vv : Value) := hA 2 (by decide)
            have e4 : (vals 4) = (.int .i64 ((k - 1 : Nat) : Int) : Value) := hA 4 (by decide)
            refine obl rfl ?_
            have hi305 : k - 1 < L.length := by omega
            exact ov_indexAddrN (k := 10) (i := k - 1) Try.underlying22 Try.sizeOf29 (show _ = (vv : Value) from e2) ho2.isSl (show _ = (.int .i64 ((k - 1 : Nat) : Int) : Value) from e4) hi305 ⟨rfl, rfl⟩
          · intro vals w64 hW306 hA
            have hW306 : OwnS 29 lo w64 F vv (L.set k (L.getD (k - 1) default)) ∧ Chg (fun i => vv.ownBlock = some i) w46 w64 := hW306
            have e13 : (vals 13) = (.agg ((L.getD k default).cells (cellV w46 (sb vv) (so vv + k * 10 + 3))).toArray : Value) := hA 13 (by decide)
            have e16 : (vals 16) = (.pointer (some ⟨sb vv, so vv + (k - 1) * 10, none⟩) : Value) := hA 16 (by decide)
            refine obl rfl ?_
            have hi307 : k < L.length := by omega
            obtain ⟨hc307, hd307, hok307⟩ := ho2.ev hi307
            rw [← getD_at default hi307] at hc307 hd307 hok307
            have h308 := hd307.own ho2 hW306.2
            exact ov_storeOwn (i := (k - 1)) (u := .agg ((L.getD k default).cells (cellV w46 (sb vv) (so vv + k * 10 + 3))).toArray) Try.sizeOf29 hW306.1 (by first | omega | (simp only [List.length_set]; omega)) (show _ = (.pointer (some ⟨sb vv, so vv + (k - 1) * 10, none⟩) : Value) from e16) (show _ = (.agg ((L.getD k default).cells (cellV w46 (sb vv) (so vv + k * 10 + 3))).toArray : Value) from e13) rfl (show Rep.rd _ _ _ (L.getD k default) from ⟨_, rfl, h308, hok307⟩) (fun _ ho hch => ⟨⟨ho, (Chg.trans hW306.2 hch)⟩, trivial⟩)
          intro vals w65 hW309 hA
          have hW309 : OwnS 29 lo w65 F vv ((L.set k (L.getD (k - 1) default)).set (k - 1) (L.getD k default)) ∧ Chg (fun i => vv.ownBlock = some i) w46 w65 := hW309
          have hs310 := hW309.2.size
          refine st_env (kv := [(0, vv), (1, .int .i64 ((a : Nat) : Int)), (2, .int .i64 ((md : Nat) : Int)), (3, .int .i64 ((b : Nat) : Int)), (4, .func (.func 39) #[] #[.pointer (some ⟨cb, 0, none⟩)]), (14, .int .i64 ((i : Nat) : Int)), (17, .int .i64 ((k : Nat) : Int)), (108, .int .i64 ((k : Nat) : Int)), (109, .int .i64 ((i : Nat) : Int)), (110, .bool true)]) ⟨rfl, rfl, rfl, rfl, rfl, rfl, rfl, rfl, rfl, rfl, trivial⟩ (fun ρ65 => ?_)
          clear hA 
          refine st_nil ?_
          refine WP_region0 (by kernel_rfl) (fun _ => ?_)
          refine st (ov_move (v := .int .i64 ((k : Nat) : Int)) rfl ?_)
          have hr311 : InR ((k - 1 : Nat) : Int) := by omega
          refine st (ov_sub (r := ((k - 1 : Nat) : Int)) (k := .i64) (a := ((k : Nat) : Int)) (b := 1) rfl rfl (by rw [show (((k : Nat) : Int) - 1 : Int) = ((k - 1 : Nat) : Int) by omega]; exact wrap_in hr311) ?_)
          refine st (ov_assign (v := .int .i64 ((k - 1 : Nat) : Int)) rfl ?_)
          refine st_nil ?_
          exact ⟨_, by omega, k - 1, (L.set k (L.getD (k - 1) default)).set (k - 1) (L.getD k default), _, rfl, setAll_self ⟨rfl, rfl, rfl, rfl, rfl, rfl, rfl, trivial⟩, (Chg.trans hx2 hW309.2), hW309.1, by omega, by omega, by simp only [List.length_set]; exact hl2, (by rw [← hin, show k - i = (k - 1 - i) + 1 by omega, chainDn]; rfl)⟩
      · skip
        have hc257 := of_decide_eq_true hc257
        refine WP_cond_t rfl ?_
        refine WP_skip ?_
        refine WP_block ?_
        refine WP_seq ?_
        refine WP_region0 (by kernel_rfl) (fun _ => ?_)
        refine st (ov_move (v := .int .i64 ((i : Nat) : Int)) rfl ?_)
        refine st (ov_move (v := .int .i64 ((j : Nat) : Int)) rfl ?_)
        have hr312 : InR ((i + j : Nat) : Int) := by omega
        refine st (ov_add (r := ((i + j : Nat) : Int)) (k := .i64) (a := ((i : Nat) : Int)) (b := ((j : Nat) : Int)) rfl rfl (by rw [show (((i : Nat) : Int) + ((j : Nat) : Int) : Int) = ((i + j : Nat) : Int) by omega]; exact wrap_in hr312) ?_)
        refine st (ov_cvt (k := .i64) (k2 := .u64) (a := ((i + j : Nat) : Int)) (r := ((i + j : Nat) : Int)) (by rw [Try.underlying3]; rfl) Try.underlying58 rfl (wrapU_in ⟨by omega, by omega⟩) ?_)
        refine st (ov_shr (k := .u64) (yk := .u64) (a := ((i + j : Nat) : Int)) (b := 1) (r := (((i + j) / 2 : Nat) : Int)) rfl rfl (by decide) (by decide) (by show ((i + j : Nat) : Int) / (2 : Int) ^ (1 : Nat) = (((i + j) / 2 : Nat) : Int); omega) ?_)
        refine st (ov_cvt (k := .u64) (k2 := .i64) (a := (((i + j) / 2 : Nat) : Int)) (r := (((i + j) / 2 : Nat) : Int)) (by rw [Try.underlying58]; rfl) Try.underlying3 rfl (wrap_in (by omega)) ?_)
        refine st (ov_assign (v := .int .i64 ((((i + j) / 2 : Nat) : Int))) rfl ?_)
        refine st_nil ?_
        refine WP_seq ?_
        refine WP_draw Ext (AL [fun v w => v = (.func (.func 39) #[] #[.pointer (some ⟨cb, 0, none⟩)] : Value), fun v w => v = (vv : Value), fun v w => v = (.int .i64 ((md : Nat) : Int) : Value), fun v w => v = (.pointer (some ⟨sb vv, so vv + md * 10, none⟩) : Value), fun v w => v = (.agg ((l.getD md default).cells (cellV w45 (sb vv) (so vv + md * 10 + 3))).toArray : Value), fun v w => v = (vv : Value), fun v w => v = (.int .i64 ((((i + j) / 2 : Nat) : Int)) : Value), fun v w => v = (.pointer (some ⟨sb vv, so vv + ((i + j) / 2) * 10, none⟩) : Value), fun v w => v = (.agg ((l.getD ((i + j) / 2) default).cells (cellV w45 (sb vv) (so vv + ((i + j) / 2) * 10 + 3))).toArray : Value)]) [[], [], [], [1, 2], [1, 2, 3], [], [], [5, 6], [5, 6, 7], [0, 1, 2, 3, 4, 5, 6, 7, 8], [0, 1, 2, 3, 4, 5, 6, 7, 8, 9], [0, 1, 2, 3, 4, 5, 6, 7, 8, 9, 10]] 9 (by kernel_rfl) (by kernel_rfl) (by kernel_rfl) (fun w => Chg.refl _ w) (fun _ _ _ h1 h2 => h1.trans h2) (stabL ⟨fun _ _ _ _ h => h, fun _ _ _ _ h => h, fun _ _ _ _ h => h, fun _ _ _ _ h => h, fun _ _ _ _ h => h, fun _ _ _ _ h => h, fun _ _ _ _ h => h, fun _ _ _ _ h => h, fun _ _ _ _ h => h, trivial⟩) ?_
        intro w66 qh1 qh2 qh3 qh4
        have hx313 := ext_same qh1 qh2 qh3 qh4
        refine ⟨⟨?_, ?_, ?_, ?_, ?_, ?_, ?_, ?_, ?_, trivial⟩, ?_⟩
        · intro vals w67 hR314 hA
          have hs315 := hR314.size
          refine obl rfl ?_
          exact ov_move (v := .func (.func 39) #[] #[.pointer (some ⟨cb, 0, none⟩)]) rfl ⟨Chg.refl _ _, rfl⟩
        · intro vals w68 hR316 hA
          have hs317 := hR316.size
          refine obl rfl ?_
          exact ov_move (v := vv) rfl ⟨Chg.refl _ _, rfl⟩
        · intro vals w69 hR318 hA
          have hs319 := hR318.size
          refine obl rfl ?_
          exact ov_move (v := .int .i64 ((md : Nat) : Int)) rfl ⟨Chg.refl _ _, rfl⟩
        · intro vals w70 hR320 hA
          have hs321 := hR320.size
          have e1 : (vals 1) = (vv : Value) := hA 1 (by decide)
          have e2 : (vals 2) = (.int .i64 ((md : Nat) : Int) : Value) := hA 2 (by decide)
          refine obl rfl ?_
          have hi322 : md < l.length := by omega
          have hi323 : md < l.length := by omega
          obtain ⟨hc323, hd323, hok323⟩ := ho1.ev hi323
          rw [← getD_at default hi323] at hc323 hd323 hok323
          exact ov_indexAddrN (k := 10) (i := md) Try.underlying22 Try.sizeOf29 (show _ = (vv : Value) from e1) ho1.isSl (show _ = (.int .i64 ((md : Nat) : Int) : Value) from e2) hi322 ⟨Chg.refl _ _, rfl⟩
        · intro vals w71 hR324 hA
          have hs325 := hR324.size
          have e3 : (vals 3) = (.pointer (some ⟨sb vv, so vv + md * 10, none⟩) : Value) := hA 3 (by decide)
          refine obl rfl ?_
          have hi326 : md < l.length := by omega
          obtain ⟨hc326, hd326, hok326⟩ := ho1.ev hi326
          rw [← getD_at default hi326] at hc326 hd326 hok326
          have h327 := hc326.mono (fun hb => (Chg.trans hx313 hR324).block _ hb (fun h => h))
          exact ov_loadk (k := 10) Try.isAgg29 Try.sizeOf29 rfl (show _ = (.pointer (some ⟨sb vv, so vv + md * 10, none⟩) : Value) from e3) h327 ⟨Chg.refl _ _, rfl⟩
        · intro vals w72 hR328 hA
          have hs329 := hR328.size
          refine obl rfl ?_
          exact ov_move (v := vv) rfl ⟨Chg.refl _ _, rfl⟩
        · intro vals w73 hR330 hA
          have hs331 := hR330.size
          refine obl rfl ?_
          exact ov_move (v := .int .i64 ((((i + j) / 2 : Nat) : Int))) rfl ⟨Chg.refl _ _, rfl⟩
        · intro vals w74 hR332 hA
          have hs333 := hR332.size
          have e5 : (vals 5) = (vv : Value) := hA 5 (by decide)
          have e6 : (vals 6) = (.int .i64 ((((i + j) / 2 : Nat) : Int)) : Value) := hA 6 (by decide)
          refine obl rfl ?_
          have hi334 : (i + j) / 2 < l.length := by omega
          have hi335 : (i + j) / 2 < l.length := by omega
          obtain ⟨hc335, hd335, hok335⟩ := ho1.ev hi335
          rw [← getD_at default hi335] at hc335 hd335 hok335
          exact ov_indexAddrN (k := 10) (i := (i + j) / 2) Try.underlying22 Try.sizeOf29 (show _ = (vv : Value) from e5) ho1.isSl (show _ = (.int .i64 ((((i + j) / 2 : Nat) : Int)) : Value) from e6) hi334 ⟨Chg.refl _ _, rfl⟩
        · intro vals w75 hR336 hA
          have hs337 := hR336.size
          have e7 : (vals 7) = (.pointer (some ⟨sb vv, so vv + ((i + j) / 2) * 10, none⟩) : Value) := hA 7 (by decide)
          refine obl rfl ?_
          have hi338 : (i + j) / 2 < l.length := by omega
          obtain ⟨hc338, hd338, hok338⟩ := ho1.ev hi338
          rw [← getD_at default hi338] at hc338 hd338 hok338
          have h339 := hc338.mono (fun hb => (Chg.trans hx313 hR336).block _ hb (fun h => h))
          exact ov_loadk (k := 10) Try.isAgg29 Try.sizeOf29 rfl (show _ = (.pointer (some ⟨sb vv, so vv + ((i + j) / 2) * 10, none⟩) : Value) from e7) h339 ⟨Chg.refl _ _, rfl⟩
        intro vals w76 hR340 hA
        have hs341 := hR340.size
        have hs342 := hx313.size
        have e0 : (vals 0) = (.func (.func 39) #[] #[.pointer (some ⟨cb, 0, none⟩)] : Value) := hA 0 (by decide)
        have e4 : (vals 4) = (.agg ((l.getD md default).cells (cellV w45 (sb vv) (so vv + md * 10 + 3))).toArray : Value) := hA 4 (by decide)
        have e8 : (vals 8) = (.agg ((l.getD ((i + j) / 2) default).cells (cellV w45 (sb vv) (so vv + ((i + j) / 2) * 10 + 3))).toArray : Value) := hA 8 (by decide)
        refine st_env (kv := [(0, vv), (1, .int .i64 ((a : Nat) : Int)), (2, .int .i64 ((md : Nat) : Int)), (3, .int .i64 ((b : Nat) : Int)), (4, .func (.func 39) #[] #[.pointer (some ⟨cb, 0, none⟩)]), (14, .int .i64 ((i : Nat) : Int)), (15, .int .i64 ((j : Nat) : Int)), (83, .int .i64 ((i : Nat) : Int)), (84, .int .i64 ((j : Nat) : Int)), (85, .bool true), (86, .int .i64 ((i : Nat) : Int)), (87, .int .i64 ((j : Nat) : Int)), (88, .int .i64 ((i + j : Nat) : Int)), (89, .int .u64 (((i + j : Nat) : Int))), (90, .int .u64 (((i + j) / 2 : Nat) : Int)), (91, .int .i64 ((((i + j) / 2 : Nat) : Int))), (16, .int .i64 ((((i + j) / 2 : Nat) : Int))), (92, .func (.func 39) #[] #[.pointer (some ⟨cb, 0, none⟩)]), (96, .agg ((l.getD md default).cells (cellV w45 (sb vv) (so vv + md * 10 + 3))).toArray), (100, .agg ((l.getD ((i + j) / 2) default).cells (cellV w45 (sb vv) (so vv + ((i + j) / 2) * 10 + 3))).toArray)]) ⟨rfl, rfl, rfl, rfl, rfl, rfl, rfl, rfl, rfl, rfl, rfl, rfl, rfl, rfl, rfl, rfl, rfl, e0, e4, e8, trivial⟩ (fun ρ76 => ?_)
        clear e0 e4 e8
        clear hA qh1 qh2 qh3 qh4
        have hi343 : md < l.length := by omega
        obtain ⟨hc343, hd343, hok343⟩ := ho1.ev hi343
        rw [← getD_at default hi343] at hc343 hd343 hok343
        have h344 := hd343.ext (Chg.trans hx313 hR340)
        have hi345 : (i + j) / 2 < l.length := by omega
        obtain ⟨hc345, hd345, hok345⟩ := ho1.ev hi345
        rw [← getD_at default hi345] at hc345 hd345 hok345
        have h346 := hd345.ext (Chg.trans hx313 hR340)
        have h347 := (Chg.trans hx313 hR340).keep hcb1 (fun h => h)
        refine st (ov_call (f := 39) (vals := [.agg ((l.getD md default).cells (cellV w45 (sb vv) (so vv + md * 10 + 3))).toArray, .agg ((l.getD ((i + j) / 2) default).cells (cellV w45 (sb vv) (so vv + ((i + j) / 2) * 10 + 3))).toArray]) (cap := [.pointer (some ⟨cb, 0, none⟩)]) (show _ = (.func (.func 39) #[] #[.pointer (some ⟨cb, 0, none⟩)] : Value) from rfl) rfl Try.call39 (C_by1 h344 hok343 h346 hok345 h347) ?_)
        rintro _ w77 ⟨rfl, hx348⟩
        have hx348s := hx348.size
        refine st (ov_lss (k := .i64) (a := cmpP (l.getD md default) (l.getD ((i + j) / 2) default)) (b := 0) rfl rfl ?_)
        refine st (ov_not (a := decide ((cmpP (l.getD md default) (l.getD ((i + j) / 2) default)) < 0)) rfl ?_)
        refine st_nil ?_
        cases hc349 : !(decide ((cmpP (l.getD md default) (l.getD ((i + j) / 2) default)) < 0))
        · skip
          have hc349 := ndec_false hc349
          refine WP_cond_f rfl ?_
          refine WP_region0 (by kernel_rfl) (fun _ => ?_)
          refine st (ov_move (v := .int .i64 ((((i + j) / 2 : Nat) : Int))) rfl ?_)
          refine st (ov_assign (v := .int .i64 ((((i + j) / 2 : Nat) : Int))) rfl ?_)
          refine st_nil ?_
          have h350 := ho1.ext (Chg.trans (Chg.trans hx313 hR340) hx348)
          have h351 := hx348.keep h347 (fun h => h)
          exact ⟨_, by omega, i, (i + j) / 2, g - 1, _, rfl, setAll_self ⟨rfl, rfl, rfl, rfl, rfl, rfl, rfl, trivial⟩, (Chg.trans (Chg.trans (Chg.trans hx (Chg.ext _ hx313)) (Chg.ext _ hR340)) (Chg.ext _ hx348)), h350, h351, by omega, by omega, by omega, by omega, (by rw [← hbs]; first | exact (bsA_t (by omega) (by omega) (nless_f (by omega))).symm | exact (bsA_f (by omega) (by omega) (nless_t (by omega))).symm)⟩
        · skip
          have hc349 := ndec_true hc349
          refine WP_cond_t rfl ?_
          refine WP_region0 (by kernel_rfl) (fun _ => ?_)
          refine st (ov_move (v := .int .i64 ((((i + j) / 2 : Nat) : Int))) rfl ?_)
          have hr352 : InR (((i + j) / 2 + 1 : Nat) : Int) := by omega
          refine st (ov_add (r := (((i + j) / 2 + 1 : Nat) : Int)) (k := .i64) (a := (((i + j) / 2 : Nat) : Int)) (b := 1) rfl rfl (by rw [show ((((i + j) / 2 : Nat) : Int) + 1 : Int) = (((i + j) / 2 + 1 : Nat) : Int) by omega]; exact wrap_in hr352) ?_)
          refine st (ov_assign (v := .int .i64 (((i + j) / 2 + 1 : Nat) : Int)) rfl ?_)
          refine st_nil ?_
          have h353 := ho1.ext (Chg.trans (Chg.trans hx313 hR340) hx348)
          have h354 := hx348.keep h347 (fun h => h)
          exact ⟨_, by omega, (i + j) / 2 + 1, j, g - 1, _, rfl, setAll_self ⟨rfl, rfl, rfl, rfl, rfl, rfl, rfl, trivial⟩, (Chg.trans (Chg.trans (Chg.trans hx (Chg.ext _ hx313)) (Chg.ext _ hR340)) (Chg.ext _ hx348)), h353, h354, by omega, by omega, by omega, by omega, (by rw [← hbs]; first | exact (bsA_t (by omega) (by omega) (nless_f (by omega))).symm | exact (bsA_f (by omega) (by omega) (nless_t (by omega))).symm)⟩
  · skip
    have hc2 := of_decide_eq_true hc2
    refine WP_cond_t rfl ?_
    refine WP_seq ?_
    refine WP_region0 (by kernel_rfl) (fun _ => ?_)
    refine st (ov_move (v := .int .i64 ((md : Nat) : Int)) rfl ?_)
    refine st (ov_assign (v := .int .i64 ((md : Nat) : Int)) rfl ?_)
    refine st_nil ?_
    refine WP_seq ?_
    refine WP_region0 (by kernel_rfl) (fun _ => ?_)
    refine st (ov_move (v := .int .i64 ((b : Nat) : Int)) rfl ?_)
    refine st (ov_assign (v := .int .i64 ((b : Nat) : Int)) rfl ?_)
    refine st_nil ?_
    refine WP_seq ?_
    refine WP_block ?_
    refine WP_loop (fun m σ wq => ∃ (i : Nat) (j : Nat) (g : Nat) (ρ : Env), m = 2 * (j - i) ∧ σ = setAll ρ [(0, vv), (1, .int .i64 ((a : Nat) : Int)), (2, .int .i64 ((md : Nat) : Int)), (3, .int .i64 ((b : Nat) : Int)), (4, .func (.func 39) #[] #[.pointer (some ⟨cb, 0, none⟩)]), (10, .int .i64 ((i : Nat) : Int)), (11, .int .i64 ((j : Nat) : Int))] ∧ (Chg (fun i => vv.ownBlock = some i) w wq) ∧ (OwnS 29 lo wq F vv l) ∧ (wq.heap[cb]? = some (.cells #[.func (.func 28) #[] #[]] 49)) ∧ (md ≤ i) ∧ (i ≤ j) ∧ (j ≤ b) ∧ (j - i ≤ g) ∧ (bsA (fun h => less (gd l h) (gd l a)) g i j = bsA (fun h => less (gd l h) (gd l a)) (b - md) md b)) ⟨md, b, b - md, _, rfl, setAll_self ⟨rfl, rfl, rfl, rfl, rfl, rfl, rfl, trivial⟩, (Chg.refl _ _), ho, hcb, Nat.le_refl _, by omega, Nat.le_refl _, Nat.le_refl _, rfl⟩ ?_
    rintro m355 σ356 w78 ⟨i, j, g, ρ78, rfl, rfl, hx, ho1, hcb1, hi1, hi2, hj1, hg, hbs⟩
    have hxs := hx.size
    refine WP_seq ?_
    refine WP_seq ?_
    refine WP_region0 (by kernel_rfl) (fun _ => ?_)
    refine st (ov_move (v := .int .i64 ((i : Nat) : Int)) rfl ?_)
    refine st (ov_move (v := .int .i64 ((j : Nat) : Int)) rfl ?_)
    refine st (ov_lss (k := .i64) (a := ((i : Nat) : Int)) (b := ((j : Nat) : Int)) rfl rfl ?_)
    refine st_nil ?_
    cases hc357 : decide (((i : Nat) : Int) < ((j : Nat) : Int))
    · skip
      have hc357 := of_decide_eq_false hc357
      refine WP_cond_f rfl ?_
      refine WP_exit ?_
      refine blk_exit ?_
      refine WP_seq ?_
      refine WP_seq ?_
      refine WP_region0 (by kernel_rfl) (fun _ => ?_)
      refine st (ov_move (v := .int .i64 ((a : Nat) : Int)) rfl ?_)
      refine st (ov_assign (v := .int .i64 ((a : Nat) : Int)) rfl ?_)
      refine st_nil ?_
      refine WP_block ?_
      refine WP_loop (fun m σ wq => ∃ (k : Nat) (L : List Ev) (ρ : Env), m = 2 * (i - 1 - k) ∧ σ = setAll ρ [(0, vv), (1, .int .i64 ((a : Nat) : Int)), (2, .int .i64 ((md : Nat) : Int)), (3, .int .i64 ((b : Nat) : Int)), (4, .func (.func 39) #[] #[.pointer (some ⟨cb, 0, none⟩)]), (10, .int .i64 ((i : Nat) : Int)), (13, .int .i64 ((k : Nat) : Int))] ∧ (Chg (fun i => vv.ownBlock = some i) w78 wq) ∧ (OwnS 29 lo wq F vv L) ∧ (a ≤ k) ∧ (k ≤ i - 1) ∧ (L.length = l.length) ∧ (chainUp (i - 1 - k) k L = chainUp (i - 1 - a) a l)) ⟨a, l, _, rfl, setAll_self ⟨rfl, rfl, rfl, rfl, rfl, rfl, rfl, trivial⟩, (Chg.refl _ _), ho1, by omega, by omega, rfl, rfl⟩ ?_
      rintro m358 σ359 w79 ⟨k, L, ρ79, rfl, rfl, hx2, ho2, hk1, hk2, hl2, hin⟩
      have hxs2 := hx2.size
      have hsm2 : L.length * 96 ≤ 140737488355328 := ho2.small
      refine WP_seq ?_
      refine WP_seq ?_
      refine WP_region0 (by kernel_rfl) (fun _ => ?_)
      refine st (ov_move (v := .int .i64 ((k : Nat) : Int)) rfl ?_)
      refine st (ov_move (v := .int .i64 ((i : Nat) : Int)) rfl ?_)
      have hr360 : InR ((i - 1 : Nat) : Int) := by omega
      refine st (ov_sub (r := ((i - 1 : Nat) : Int)) (k := .i64) (a := ((i : Nat) : Int)) (b := 1) rfl rfl (by rw [show (((i : Nat) : Int) - 1 : Int) = ((i - 1 : Nat) : Int) by omega]; exact wrap_in hr360) ?_)
      refine st (ov_lss (k := .i64) (a := ((k : Nat) : Int)) (b := ((i - 1 : Nat) : Int)) rfl rfl ?_)
      refine st_nil ?_
      cases hc361 : decide (((k : Nat) : Int) < ((i - 1 : Nat) : Int))
      · skip
        have hc361 := of_decide_eq_false hc361
        refine WP_cond_f rfl ?_
        refine WP_exit ?_
        refine blk_exit ?_
        refine WP_ret ?_
        refine fin0r Try.results43 ?_
        refine ⟨rfl, ?_, (Chg.trans hx hx2)⟩
        rw [symL, if_pos (by omega), ← hbs, bsA_no (by omega), ← hin, show i - 1 - k = 0 by omega]
        exact ho2
      · skip
        have hc361 := of_decide_eq_true hc361
        refine WP_cond_t rfl ?_
        refine WP_skip ?_
        refine WP_seq ?_
        refine WP_block ?_
        refine WP_draw2 (WL [fun wq => Ext w79 wq, fun wq => OwnS 29 lo wq F vv (L.set k (L.getD (k + 1) default)) ∧ Chg (fun i => vv.ownBlock = some i) w79 wq, fun wq => OwnS 29 lo wq F vv ((L.set k (L.getD (k + 1) default)).set (k + 1) (L.getD k default)) ∧ Chg (fun i => vv.ownBlock = some i) w79 wq]) (AV [fun v => v = (vv : Value), fun v => v = (.int .i64 ((k : Nat) : Int) : Value), fun v => v = (vv : Value), fun v => v = (.int .i64 ((k : Nat) : Int) : Value), fun v => v = (.int .i64 ((k + 1 : Nat) : Int) : Value), fun v => v = (vv : Value), fun v => v = (.int .i64 ((k : Nat) : Int) : Value), fun v => v = (.int .i64 ((k + 1 : Nat) : Int) : Value), fun v => v = (.pointer (some ⟨sb vv, so vv + (k + 1) * 10, none⟩) : Value), fun v => v = (.agg ((L.getD (k + 1) default).cells (cellV w79 (sb vv) (so vv + (k + 1) * 10 + 3))).toArray : Value), fun v => v = (vv : Value), fun v => v = (.int .i64 ((k : Nat) : Int) : Value), fun v => v = (.pointer (some ⟨sb vv, so vv + k * 10, none⟩) : Value), fun v => v = (.agg ((L.getD k default).cells (cellV w79 (sb vv) (so vv + k * 10 + 3))).toArray : Value), fun v => v = (.pointer (some ⟨sb vv, so vv + k * 10, none⟩) : Value), fun v => True, fun v => v = (.pointer (some ⟨sb vv, so vv + (k + 1) * 10, none⟩) : Value), fun v => True]) [[], [], [], [], [3], [], [], [6], [5, 6, 7], [5, 6, 7, 8], [], [], [10, 11], [10, 11, 12], [0, 1, 5, 6, 7, 8, 9, 10, 11, 12, 13], [0, 1, 5, 6, 7, 8, 9, 10, 11, 12, 13, 14], [0, 1, 2, 3, 4, 5, 6, 7, 8, 9, 10, 11, 12, 13, 14, 15], [0, 1, 2, 3, 4, 5, 6, 7, 8, 9, 10, 11, 12, 13, 14, 15, 16]] [15, 17] [some (0, 0), some (0, 0), none, none, none, some (0, 0), some (0, 0), some (0, 0), some (0, 0), some (0, 0), some (0, 0), some (0, 0), some (0, 0), some (0, 0), some (0, 0), some (0, 1), none, some (1, 2)] (by kernel_rfl) (by kernel_rfl) (by kernel_rfl) rfl (by kernel_rfl) (by kernel_rfl) (fun _ h1 h2 h3 h4 => ext_same h1 h2 h3 h4) ⟨?_, ?_, ?_, ?_, ?_, ?_, ?_, ?_, ?_, ?_, ?_, ?_, ?_, ?_, ?_, ?_, ?_, ?_, trivial⟩ ?_
        · intro vals w80 hW362 hA
          have hW362 : Ext w79 w80 := hW362
          have hs363 := hW362.size
          refine obl rfl ?_
          exact ov_move (v := vv) rfl ⟨hW362, rfl⟩
        · intro vals w81 hW364 hA
          have hW364 : Ext w79 w81 := hW364
          have hs365 := hW364.size
          refine obl rfl ?_
          exact ov_move (v := .int .i64 ((k : Nat) : Int)) rfl ⟨hW364, rfl⟩
        · intro vals w82 hW366 hA
          refine obl rfl ?_
          exact ov_move (v := vv) rfl ⟨rfl, rfl⟩
        · intro vals w83 hW367 hA
          refine obl rfl ?_
          exact ov_move (v := .int .i64 ((k : Nat) : Int)) rfl ⟨rfl, rfl⟩
        · intro vals w84 hW368 hA
          have e3 : (vals 3) = (.int .i64 ((k : Nat) : Int) : Value) := hA 3 (by decide)
          refine obl rfl ?_
          have hr369 : InR ((k + 1 : Nat) : Int) := by omega
          exact ov_add (r := ((k + 1 : Nat) : Int)) (k := .i64) (a := ((k : Nat) : Int)) (b := 1) (show _ = (.int .i64 ((k : Nat) : Int) : Value) from e3) rfl (by rw [show (((k : Nat) : Int) + 1 : Int) = ((k + 1 : Nat) : Int) by omega]; exact wrap_in hr369) ⟨rfl, rfl⟩
        · intro vals w85 hW370 hA
          have hW370 : Ext w79 w85 := hW370
          have hs371 := hW370.size
          refine obl rfl ?_
          exact ov_move (v := vv) rfl ⟨hW370, rfl⟩
        · intro vals w86 hW372 hA
          have hW372 : Ext w79 w86 := hW372
          have hs373 := hW372.size
          refine obl rfl ?_
          exact ov_move (v := .int .i64 ((k : Nat) : Int)) rfl ⟨hW372, rfl⟩
        · intro vals w87 hW374 hA
          have hW374 : Ext w79 w87 := hW374
          have hs375 := hW374.size
          have e6 : (vals 6) = (.int .i64 ((k : Nat) : Int) : Value) := hA 6 (by decide)
          refine obl rfl ?_
          have hr376 : InR ((k + 1 : Nat) : Int) := by omega
          exact ov_add (r := ((k + 1 : Nat) : Int)) (k := .i64) (a := ((k : Nat) : Int)) (b := 1) (show _ = (.int .i64 ((k : Nat) : Int) : Value) from e6) rfl (by rw [show (((k : Nat) : Int) + 1 : Int) = ((k + 1 : Nat) : Int) by omega]; exact wrap_in hr376) ⟨hW374, rfl⟩
        · intro vals w88 hW377 hA
          have hW377 : Ext w79 w88 := hW377
          have hs378 := hW377.size
          have e5 : (vals 5) = (vv : Value) := hA 5 (by decide)
          have e7 : (vals 7) = (.int .i64 ((k + 1 : Nat) : Int) : Value) := hA 7 (by decide)
          refine obl rfl ?_
          have hi379 : k + 1 < L.length := by omega
          have hi380 : k + 1 < L.length := by omega
          obtain ⟨hc380, hd380, hok380⟩ := ho2.ev hi380
          rw [← getD_at default hi380] at hc380 hd380 hok380
          exact ov_indexAddrN (k := 10) (i := k + 1) Try.underlying22 Try.sizeOf29 (show _ = (vv : Value) from e5) ho2.isSl (show _ = (.int .i64 ((k + 1 : Nat) : Int) : Value) from e7) hi379 ⟨hW377, rfl⟩
        · intro vals w89 hW381 hA
          have hW381 : Ext w79 w89 := hW381
          have hs382 := hW381.size
          have e8 : (vals 8) = (.pointer (some ⟨sb vv, so vv + (k + 1) * 10, none⟩) : Value) := hA 8 (by decide)
          refine obl rfl ?_
          have hi383 : k + 1 < L.length := by omega
          obtain ⟨hc383, hd383, hok383⟩ := ho2.ev hi383
          rw [← getD_at default hi383] at hc383 hd383 hok383
          have h384 := hc383.mono (fun hb => hW381.block _ hb (fun h => h))
          exact ov_loadk (k := 10) Try.isAgg29 Try.sizeOf29 rfl (show _ = (.pointer (some ⟨sb vv, so vv + (k + 1) * 10, none⟩) : Value) from e8) h384 ⟨hW381, rfl⟩
        · intro vals w90 hW385 hA
          have hW385 : Ext w79 w90 := hW385
          have hs386 := hW385.size
          refine obl rfl ?_
          exact ov_move (v := vv) rfl ⟨hW385, rfl⟩
        · intro vals w91 hW387 hA
          have hW387 : Ext w79 w91 := hW387
          have hs388 := hW387.size
          refine obl rfl ?_
          exact ov_move (v := .int .i64 ((k : Nat) : Int)) rfl ⟨hW387, rfl⟩
        · intro vals w92 hW389 hA
          have hW389 : Ext w79 w92 := hW389
          have hs390 := hW389.size
          have e10 : (vals 10) = (vv : Value) := hA 10 (by decide)
          have e11 : (vals 11) = (.int .i64 ((k : Nat) : Int) : Value) := hA 11 (by decide)
          refine obl rfl ?_
          have hi391 : k < L.length := by omega
          have hi392 : k < L.length := by omega
          obtain ⟨hc392, hd392, hok392⟩ := ho2.ev hi392
          rw [← getD_at default hi392] at hc392 hd392 hok392
          exact ov_indexAddrN (k := 10) (i := k) Try.underlying22 Try.sizeOf29 (show _ = (vv : Value) from e10) ho2.isSl (show _ = (.int .i64 ((k : Nat) : Int) : Value) from e11) hi391 ⟨hW389, rfl⟩
        · intro vals w93 hW393 hA
          have hW393 : Ext w79 w93 := hW393
          have hs394 := hW393.size
          have e12 : (vals 12) = (.pointer (some ⟨sb vv, so vv + k * 10, none⟩) : Value) := hA 12 (by decide)
          refine obl rfl ?_
          have hi395 : k < L.length := by omega
          obtain ⟨hc395, hd395, hok395⟩ := ho2.ev hi395
          rw [← getD_at default hi395] at hc395 hd395 hok395
          have h396 := hc395.mono (fun hb => hW393.block _ hb (fun h => h))
          exact ov_loadk (k := 10) Try.isAgg29 Try.sizeOf29 rfl (show _ = (.pointer (some ⟨sb vv, so vv + k * 10, none⟩) : Value) from e12) h396 ⟨hW393, rfl⟩
        · intro vals w94 hW397 hA
          have hW397 : Ext w79 w94 := hW397
          have hs398 := hW397.size
          have e0 : (vals 0) = (vv : Value) := hA 0 (by decide)
          have e1 : (vals 1) = (.int .i64 ((k : Nat) : Int) : Value) := hA 1 (by decide)
          refine obl rfl ?_
          have hi399 : k < L.length := by omega
          exact ov_indexAddrN (k := 10) (i := k) Try.underlying22 Try.sizeOf29 (show _ = (vv : Value) from e0) ho2.isSl (show _ = (.int .i64 ((k : Nat) : Int) : Value) from e1) hi399 ⟨hW397, rfl⟩
        · intro vals w95 hW400 hA
          have hW400 : Ext w79 w95 := hW400
          have hs401 := hW400.size
          have e9 : (vals 9) = (.agg ((L.getD (k + 1) default).cells (cellV w79 (sb vv) (so vv + (k + 1) * 10 + 3))).toArray : Value) := hA 9 (by decide)
          have e14 : (vals 14) = (.pointer (some ⟨sb vv, so vv + k * 10, none⟩) : Value) := hA 14 (by decide)
          refine obl rfl ?_
          have hi402 : k + 1 < L.length := by omega
          obtain ⟨hc402, hd402, hok402⟩ := ho2.ev hi402
          rw [← getD_at default hi402] at hc402 hd402 hok402
          have h403 := ho2.ext hW400
          have h404 := hd402.ext hW400
          exact ov_storeOwn (i := k) (u := .agg ((L.getD (k + 1) default).cells (cellV w79 (sb vv) (so vv + (k + 1) * 10 + 3))).toArray) Try.sizeOf29 h403 (by first | omega | (simp only [List.length_set]; omega)) (show _ = (.pointer (some ⟨sb vv, so vv + k * 10, none⟩) : Value) from e14) (show _ = (.agg ((L.getD (k + 1) default).cells (cellV w79 (sb vv) (so vv + (k + 1) * 10 + 3))).toArray : Value) from e9) rfl (show Rep.rd _ _ _ (L.getD (k + 1) default) from ⟨_, rfl, h404, hok402⟩) (fun _ ho hch => ⟨⟨ho, (Chg.trans (Chg.ext _ hW400) hch)⟩, trivial⟩)
        · intro vals w96 hW405 hA
          have e2 : (vals 2) = (vv : Value) := hA 2 (by decide)
          have e4 : (vals 4) = (.int .i64 ((k + 1 : Nat) : Int) : Value) := hA 4 (by decide)
          refine obl rfl ?_
          have hi406 : k + 1 < L.length := by omega
          exact ov_indexAddrN (k := 10) (i := k + 1) Try.underlying22 Try.sizeOf29 (show _ = (vv : Value) from e2) ho2.isSl (show _ = (.int .i64 ((k + 1 : Nat) : Int) : Value) from e4) hi406 ⟨rfl, rfl⟩
        · intro vals w97 hW407 hA
          have hW407 : OwnS 29 lo w97 F vv (L.set k (L.getD (k + 1) default)) ∧ Chg (fun i => vv.ownBlock = some i) w79 w97 := hW407
          have e13 : (vals 13) = (.agg ((L.getD k default).cells (cellV w79 (sb vv) (so vv + k * 10 + 3))).toArray : Value) := hA 13 (by decide)
          have e16 : (vals 16) = (.pointer (some ⟨sb vv, so vv + (k + 1) * 10, none⟩) : Value) := hA 16 (by decide)
          refine obl rfl ?_
          have hi408 : k < L.length := by omega
          obtain ⟨hc408, hd408, hok408⟩ := ho2.ev hi408
          rw [← getD_at default hi408] at hc408 hd408 hok408
          have h409 := hd408.own ho2 hW407.2
          exact ov_storeOwn (i := (k + 1)) (u := .agg ((L.getD k default).cells (cellV w79 (sb vv) (so vv + k * 10 + 3))).toArray) Try.sizeOf29 hW407.1 (by first | omega | (simp only [List.length_set]; omega)) (show _ = (.pointer (some ⟨sb vv, so vv + (k + 1) * 10, none⟩) : Value) from e16) (show _ = (.agg ((L.getD k default).cells (cellV w79 (sb vv) (so vv + k * 10 + 3))).toArray : Value) from e13) rfl (show Rep.rd _ _ _ (L.getD k default) from ⟨_, rfl, h409, hok408⟩) (fun _ ho hch => ⟨⟨ho, (Chg.trans hW407.2 hch)⟩, trivial⟩)
        intro vals w98 hW410 hA
        have hW410 : OwnS 29 lo w98 F vv ((L.set k (L.getD (k + 1) default)).set (k + 1) (L.getD k default)) ∧ Chg (fun i => vv.ownBlock = some i) w79 w98 := hW410
        have hs411 := hW410.2.size
        refine st_env (kv := [(0, vv), (1, .int .i64 ((a : Nat) : Int)), (2, .int .i64 ((md : Nat) : Int)), (3, .int .i64 ((b : Nat) : Int)), (4, .func (.func 39) #[] #[.pointer (some ⟨cb, 0, none⟩)]), (10, .int .i64 ((i : Nat) : Int)), (13, .int .i64 ((k : Nat) : Int)), (55, .int .i64 ((k : Nat) : Int)), (56, .int .i64 ((i : Nat) : Int)), (57, .int .i64 ((i - 1 : Nat) : Int)), (58, .bool true)]) ⟨rfl, rfl, rfl, rfl, rfl, rfl, rfl, rfl, rfl, rfl, rfl, trivial⟩ (fun ρ98 => ?_)
        clear hA 
        refine st_nil ?_
        refine WP_region0 (by kernel_rfl) (fun _ => ?_)
        refine st (ov_move (v := .int .i64 ((k : Nat) : Int)) rfl ?_)
        have hr412 : InR ((k + 1 : Nat) : Int) := by omega
        refine st (ov_add (r := ((k + 1 : Nat) : Int)) (k := .i64) (a := ((k : Nat) : Int)) (b := 1) rfl rfl (by rw [show (((k : Nat) : Int) + 1 : Int) = ((k + 1 : Nat) : Int) by omega]; exact wrap_in hr412) ?_)
        refine st (ov_assign (v := .int .i64 ((k + 1 : Nat) : Int)) rfl ?_)
        refine st_nil ?_
        exact ⟨_, by omega, k + 1, (L.set k (L.getD (k + 1) default)).set (k + 1) (L.getD k default), _, rfl, setAll_self ⟨rfl, rfl, rfl, rfl, rfl, rfl, rfl, trivial⟩, (Chg.trans hx2 hW410.2), hW410.1, by omega, by omega, by simp only [List.length_set]; exact hl2, (by rw [← hin, show i - 1 - k = (i - 1 - (k + 1)) + 1 by omega, chainUp]; rfl)⟩
    · skip
      have hc357 := of_decide_eq_true hc357
      refine WP_cond_t rfl ?_
      refine WP_skip ?_
      refine WP_block ?_
      refine WP_seq ?_
      refine WP_region0 (by kernel_rfl) (fun _ => ?_)
      refine st (ov_move (v := .int .i64 ((i : Nat) : Int)) rfl ?_)
      refine st (ov_move (v := .int .i64 ((j : Nat) : Int)) rfl ?_)
      have hr413 : InR ((i + j : Nat) : Int) := by omega
      refine st (ov_add (r := ((i + j : Nat) : Int)) (k := .i64) (a := ((i : Nat) : Int)) (b := ((j : Nat) : Int)) rfl rfl (by rw [show (((i : Nat) : Int) + ((j : Nat) : Int) : Int) = ((i + j : Nat) : Int) by omega]; exact wrap_in hr413) ?_)
      refine st (ov_cvt (k := .i64) (k2 := .u64) (a := ((i + j : Nat) : Int)) (r := ((i + j : Nat) : Int)) (by rw [Try.underlying3]; rfl) Try.underlying58 rfl (wrapU_in ⟨by omega, by omega⟩) ?_)
      refine st (ov_shr (k := .u64) (yk := .u64) (a := ((i + j : Nat) : Int)) (b := 1) (r := (((i + j) / 2 : Nat) : Int)) rfl rfl (by decide) (by decide) (by show ((i + j : Nat) : Int) / (2 : Int) ^ (1 : Nat) = (((i + j) / 2 : Nat) : Int); omega) ?_)
      refine st (ov_cvt (k := .u64) (k2 := .i64) (a := (((i + j) / 2 : Nat) : Int)) (r := (((i + j) / 2 : Nat) : Int)) (by rw [Try.underlying58]; rfl) Try.underlying3 rfl (wrap_in (by omega)) ?_)
      refine st (ov_assign (v := .int .i64 ((((i + j) / 2 : Nat) : Int))) rfl ?_)
      refine st_nil ?_
      refine WP_seq ?_
      refine WP_draw Ext (AL [fun v w => v = (.func (.func 39) #[] #[.pointer (some ⟨cb, 0, none⟩)] : Value), fun v w => v = (vv : Value), fun v w => v = (.int .i64 ((((i + j) / 2 : Nat) : Int)) : Value), fun v w => v = (.pointer (some ⟨sb vv, so vv + ((i + j) / 2) * 10, none⟩) : Value), fun v w => v = (.agg ((l.getD ((i + j) / 2) default).cells (cellV w78 (sb vv) (so vv + ((i + j) / 2) * 10 + 3))).toArray : Value), fun v w => v = (vv : Value), fun v w => v = (.int .i64 ((a : Nat) : Int) : Value), fun v w => v = (.pointer (some ⟨sb vv, so vv + a * 10, none⟩) : Value), fun v w => v = (.agg ((l.getD a default).cells (cellV w78 (sb vv) (so vv + a * 10 + 3))).toArray : Value)]) [[], [], [], [1, 2], [1, 2, 3], [], [], [5, 6], [5, 6, 7], [0, 1, 2, 3, 4, 5, 6, 7, 8], [0, 1, 2, 3, 4, 5, 6, 7, 8, 9]] 9 (by kernel_rfl) (by kernel_rfl) (by kernel_rfl) (fun w => Chg.refl _ w) (fun _ _ _ h1 h2 => h1.trans h2) (stabL ⟨fun _ _ _ _ h => h, fun _ _ _ _ h => h, fun _ _ _ _ h => h, fun _ _ _ _ h => h, fun _ _ _ _ h => h, fun _ _ _ _ h => h, fun _ _ _ _ h => h, fun _ _ _ _ h => h, fun _ _ _ _ h => h, trivial⟩) ?_
      intro w99 qh1 qh2 qh3 qh4
      have hx414 := ext_same qh1 qh2 qh3 qh4
      refine ⟨⟨?_, ?_, ?_, ?_, ?_, ?_, ?_, ?_, ?_, trivial⟩, ?_⟩
      · intro vals w100 hR415 hA
        have hs416 := hR415.size
        refine obl rfl ?_
        exact ov_move (v := .func (.func 39) #[] #[.pointer (some ⟨cb, 0, none⟩)]) rfl ⟨Chg.refl _ _, rfl⟩
      · intro vals w101 hR417 hA
        have hs418 := hR417.size
        refine obl rfl ?_
        exact ov_move (v := vv) rfl ⟨Chg.refl _ _, rfl⟩
      · intro vals w102 hR419 hA
        have hs420 := hR419.size
        refine obl rfl ?_
        exact ov_move (v := .int .i64 ((((i + j) / 2 : Nat) : Int))) rfl ⟨Chg.refl _ _, rfl⟩
      · intro vals w103 hR421 hA
        have hs422 := hR421.size
        have e1 : (vals 1) = (vv : Value) := hA 1 (by decide)
        have e2 : (vals 2) = (.int .i64 ((((i + j) / 2 : Nat) : Int)) : Value) := hA 2 (by decide)
        refine obl rfl ?_
        have hi423 : (i + j) / 2 < l.length := by omega
        have hi424 : (i + j) / 2 < l.length := by omega
        obtain ⟨hc424, hd424, hok424⟩ := ho1.ev hi424
        rw [← getD_at default hi424] at hc424 hd424 hok424
        exact ov_indexAddrN (k := 10) (i := (i + j) / 2) Try.underlying22 Try.sizeOf29 (show _ = (vv : Value) from e1) ho1.isSl (show _ = (.int .i64 ((((i + j) / 2 : Nat) : Int)) : Value) from e2) hi423 ⟨Chg.refl _ _, rfl⟩
      · intro vals w104 hR425 hA
        have hs426 := hR425.size
        have e3 : (vals 3) = (.pointer (some ⟨sb vv, so vv + ((i + j) / 2) * 10, none⟩) : Value) := hA 3 (by decide)
        refine obl rfl ?_
        have hi427 : (i + j) / 2 < l.length := by omega
        obtain ⟨hc427, hd427, hok427⟩ := ho1.ev hi427
        rw [← getD_at default hi427] at hc427 hd427 hok427
        have h428 := hc427.mono (fun hb => (Chg.trans hx414 hR425).block _ hb (fun h => h))
        exact ov_loadk (k := 10) Try.isAgg29 Try.sizeOf29 rfl (show _ = (.pointer (some ⟨sb vv, so vv + ((i + j) / 2) * 10, none⟩) : Value) from e3) h428 ⟨Chg.refl _ _, rfl⟩
      · intro vals w105 hR429 hA
        have hs430 := hR429.size
        refine obl rfl ?_
        exact ov_move (v := vv) rfl ⟨Chg.refl _ _, rfl⟩
      · intro vals w106 hR431 hA
        have hs432 := hR431.size
        refine obl rfl ?_
        exact ov_move (v := .int .i64 ((a : Nat) : Int)) rfl ⟨Chg.refl _ _, rfl⟩
      · intro vals w107 hR433 hA
        have hs434 := hR433.size
        have e5 : (vals 5) = (vv : Value) := hA 5 (by decide)
        have e6 : (vals 6) = (.int .i64 ((a : Nat) : Int) : Value) := hA 6 (by decide)
        refine obl rfl ?_
        have hi435 : a < l.length := by omega
        have hi436 : a < l.length := by omega
        obtain ⟨hc436, hd436, hok436⟩ := ho1.ev hi436
        rw [← getD_at default hi436] at hc436 hd436 hok436
        exact ov_indexAddrN (k := 10) (i := a) Try.underlying22 Try.sizeOf29 (show _ = (vv : Value) from e5) ho1.isSl (show _ = (.int .i64 ((a : Nat) : Int) : Value) from e6) hi435 ⟨Chg.refl _ _, rfl⟩
      · intro vals w108 hR437 hA
        have hs438 := hR437.size
        have e7 : (vals 7) = (.pointer (some ⟨sb vv, so vv + a * 10, none⟩) : Value) := hA 7 (by decide)
        refine obl rfl ?_
        have hi439 : a < l.length := by omega
        obtain ⟨hc439, hd439, hok439⟩ := ho1.ev hi439
        rw [← getD_at default hi439] at hc439 hd439 hok439
        have h440 := hc439.mono (fun hb => (Chg.trans hx414 hR437).block _ hb (fun h => h))
        exact ov_loadk (k := 10) Try.isAgg29 Try.sizeOf29 rfl (show _ = (.pointer (some ⟨sb vv, so vv + a * 10, none⟩) : Value) from e7) h440 ⟨Chg.refl _ _, rfl⟩
      intro vals w109 hR441 hA
      have hs442 := hR441.size
      have hs443 := hx414.size
      have e0 : (vals 0) = (.func (.func 39) #[] #[.pointer (some ⟨cb, 0, none⟩)] : Value) := hA 0 (by decide)
      have e4 : (vals 4) = (.agg ((l.getD ((i + j) / 2) default).cells (cellV w78 (sb vv) (so vv + ((i + j) / 2) * 10 + 3))).toArray : Value) := hA 4 (by decide)
      have e8 : (vals 8) = (.agg ((l.getD a default).cells (cellV w78 (sb vv) (so vv + a * 10 + 3))).toArray : Value) := hA 8 (by decide)
      refine st_env (kv := [(0, vv), (1, .int .i64 ((a : Nat) : Int)), (2, .int .i64 ((md : Nat) : Int)), (3, .int .i64 ((b : Nat) : Int)), (4, .func (.func 39) #[] #[.pointer (some ⟨cb, 0, none⟩)]), (10, .int .i64 ((i : Nat) : Int)), (11, .int .i64 ((j : Nat) : Int)), (31, .int .i64 ((i : Nat) : Int)), (32, .int .i64 ((j : Nat) : Int)), (33, .bool true), (34, .int .i64 ((i : Nat) : Int)), (35, .int .i64 ((j : Nat) : Int)), (36, .int .i64 ((i + j : Nat) : Int)), (37, .int .u64 (((i + j : Nat) : Int))), (38, .int .u64 (((i + j) / 2 : Nat) : Int)), (39, .int .i64 ((((i + j) / 2 : Nat) : Int))), (12, .int .i64 ((((i + j) / 2 : Nat) : Int))), (40, .func (.func 39) #[] #[.pointer (some ⟨cb, 0, none⟩)]), (44, .agg ((l.getD ((i + j) / 2) default).cells (cellV w78 (sb vv) (so vv + ((i + j) / 2) * 10 + 3))).toArray), (48, .agg ((l.getD a default).cells (cellV w78 (sb vv) (so vv + a * 10 + 3))).toArray)]) ⟨rfl, rfl, rfl, rfl, rfl, rfl, rfl, rfl, rfl, rfl, rfl, rfl, rfl, rfl, rfl, rfl, rfl, e0, e4, e8, trivial⟩ (fun ρ109 => ?_)
      clear e0 e4 e8
      clear hA qh1 qh2 qh3 qh4
      have hi444 : (i + j) / 2 < l.length := by omega
      obtain ⟨hc444, hd444, hok444⟩ := ho1.ev hi444
      rw [← getD_at default hi444] at hc444 hd444 hok444
      have h445 := hd444.ext (Chg.trans hx414 hR441)
      have hi446 : a < l.length := by omega
      obtain ⟨hc446, hd446, hok446⟩ := ho1.ev hi446
      rw [← getD_at default hi446] at hc446 hd446 hok446
      have h447 := hd446.ext (Chg.trans hx414 hR441)
      have h448 := (Chg.trans hx414 hR441).keep hcb1 (fun h => h)
      refine st (ov_call (f := 39) (vals := [.agg ((l.getD ((i + j) / 2) default).cells (cellV w78 (sb vv) (so vv + ((i + j) / 2) * 10 + 3))).toArray, .agg ((l.getD a default).cells (cellV w78 (sb vv) (so vv + a * 10 + 3))).toArray]) (cap := [.pointer (some ⟨cb, 0, none⟩)]) (show _ = (.func (.func 39) #[] #[.pointer (some ⟨cb, 0, none⟩)] : Value) from rfl) rfl Try.call39 (C_by1 h445 hok444 h447 hok446 h448) ?_)
      rintro _ w110 ⟨rfl, hx449⟩
      have hx449s := hx449.size
      refine st (ov_lss (k := .i64) (a := cmpP (l.getD ((i + j) / 2) default) (l.getD a default)) (b := 0) rfl rfl ?_)
      refine st_nil ?_
      cases hc450 : decide ((cmpP (l.getD ((i + j) / 2) default) (l.getD a default)) < 0)
      · skip
        have hc450 := of_decide_eq_false hc450
        refine WP_cond_f rfl ?_
        refine WP_region0 (by kernel_rfl) (fun _ => ?_)
        refine st (ov_move (v := .int .i64 ((((i + j) / 2 : Nat) : Int))) rfl ?_)
        refine st (ov_assign (v := .int .i64 ((((i + j) / 2 : Nat) : Int))) rfl ?_)
        refine st_nil ?_
        have h451 := ho1.ext (Chg.trans (Chg.trans hx414 hR441) hx449)
        have h452 := hx449.keep h448 (fun h => h)
        exact ⟨_, by omega, i, (i + j) / 2, g - 1, _, rfl, setAll_self ⟨rfl, rfl, rfl, rfl, rfl, rfl, rfl, trivial⟩, (Chg.trans (Chg.trans (Chg.trans hx (Chg.ext _ hx414)) (Chg.ext _ hR441)) (Chg.ext _ hx449)), h451, h452, by omega, by omega, by omega, by omega, (by rw [← hbs]; first | exact (bsA_t (by omega) (by omega) (less_t (by omega))).symm | exact (bsA_f (by omega) (by omega) (less_f (by omega))).symm)⟩
      · skip
        have hc450 := of_decide_eq_true hc450
        refine WP_cond_t rfl ?_
        refine WP_region0 (by kernel_rfl) (fun _ => ?_)
        refine st (ov_move (v := .int .i64 ((((i + j) / 2 : Nat) : Int))) rfl ?_)
        have hr453 : InR (((i + j) / 2 + 1 : Nat) : Int) := by omega
        refine st (ov_add (r := (((i + j) / 2 + 1 : Nat) : Int)) (k := .i64) (a := (((i + j) / 2 : Nat) : Int)) (b := 1) rfl rfl (by rw [show ((((i + j) / 2 : Nat) : Int) + 1 : Int) = (((i + j) / 2 + 1 : Nat) : Int) by omega]; exact wrap_in hr453) ?_)
        refine st (ov_assign (v := .int .i64 (((i + j) / 2 + 1 : Nat) : Int)) rfl ?_)
        refine st_nil ?_
        have h454 := ho1.ext (Chg.trans (Chg.trans hx414 hR441) hx449)
        have h455 := hx449.keep h448 (fun h => h)
        exact ⟨_, by omega, (i + j) / 2 + 1, j, g - 1, _, rfl, setAll_self ⟨rfl, rfl, rfl, rfl, rfl, rfl, rfl, trivial⟩, (Chg.trans (Chg.trans (Chg.trans hx (Chg.ext _ hx414)) (Chg.ext _ hR441)) (Chg.ext _ hx449)), h454, h455, by omega, by omega, by omega, by omega, (by rw [← hbs]; first | exact (bsA_t (by omega) (by omega) (less_t (by omega))).symm | exact (bsA_f (by omega) (by omega) (less_f (by omega))).symm)⟩

end Go.Proofs.Ytbbhpddgjiifmaa
