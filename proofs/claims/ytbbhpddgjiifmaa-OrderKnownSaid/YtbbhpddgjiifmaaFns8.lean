/- Steps of the proofs of this seat: part Fns8. -/
import Derived.Test.YtbbhpddgjiifmaaFns7
set_option linter.unusedSimpArgs false
set_option linter.unusedVariables false
namespace Go.Proofs.Ytbbhpddgjiifmaa
open Go.Proofs Go.RowKit

theorem sift_yes {l : List Ev} {a j : Nat} (h1 : a < j) (h2 : cmpP (l.getD j default) (l.getD (j - 1) default) < 0) : sift l a j = sift (swapL l j (j - 1)) a (j - 1) := by
  obtain ⟨k, rfl⟩ : ∃ k, j = k + 1 := ⟨j - 1, by omega⟩
  rw [Nat.add_sub_cancel] at h2 ⊢
  rw [sift, if_pos ⟨h1, by unfold less; exact decide_eq_true h2⟩]
theorem sift_no {l : List Ev} {a j : Nat} (h : j ≤ a ∨ 0 ≤ cmpP (l.getD j default) (l.getD (j - 1) default)) : sift l a j = l := by
  cases j with
  | zero => rfl
  | succ k =>
    rw [Nat.add_sub_cancel] at h
    rw [sift, if_neg]
    rintro ⟨h1, h2⟩
    have := of_decide_eq_true h2
    omega

theorem C_ins {w : World} {lo : Nat} {F : Nat → Prop} {vv : Value} {l : List Ev} (ho : OwnS 29 lo w F vv l) {a : Nat} {b : Nat} {cb : Nat} (hcb : w.heap[cb]? = some (.cells #[.func (.func 28) #[] #[]] 49)) (hab : a ≤ b) (hbl : b ≤ l.length) (hne : vv.ownBlock ≠ some cb) : Ret Try.prog 42 [vv, .int .i64 ((a : Nat) : Int), .int .i64 ((b : Nat) : Int), .func (.func 39) #[] #[.pointer (some ⟨cb, 0, none⟩)]] w (fun r w' => r = .tuple #[] ∧ OwnS 29 lo w' F vv (insFrom a (b - (a + 1)) (a + 1) l) ∧ Chg (fun i => vv.ownBlock = some i) w w') := by
  have hsm0 : l.length * 96 ≤ 140737488355328 := ho.small
  refine Calls_of_WP (args := [vv, .int .i64 ((a : Nat) : Int), .int .i64 ((b : Nat) : Int), .func (.func 39) #[] #[.pointer (some ⟨cb, 0, none⟩)]]) Try.func42 rfl rfl ?_
  refine WP_seq ?_
  refine WP_region0 (by kernel_rfl) (fun _ => ?_)
  refine st (ov_move (v := .int .i64 ((a : Nat) : Int)) rfl ?_)
  have hr1 : InR ((a + 1 : Nat) : Int) := by omega
  refine st (ov_add (r := ((a + 1 : Nat) : Int)) (k := .i64) (a := ((a : Nat) : Int)) (b := 1) rfl rfl (by rw [show (((a : Nat) : Int) + 1 : Int) = ((a + 1 : Nat) : Int) by omega]; exact wrap_in hr1) ?_)
  refine st (ov_assign (v := .int .i64 ((a + 1 : Nat) : Int)) rfl ?_)
  refine st_nil ?_
  refine WP_block ?_
  refine WP_loop (fun m σ wq => ∃ (i : Nat) (L : List Ev) (ρ : Env), m = b - i ∧ σ = setAll ρ [(0, vv), (1, .int .i64 ((a : Nat) : Int)), (2, .int .i64 ((b : Nat) : Int)), (3, .func (.func 39) #[] #[.pointer (some ⟨cb, 0, none⟩)]), (8, .int .i64 ((i : Nat) : Int))] ∧ (Chg (fun i => vv.ownBlock = some i) w wq) ∧ (OwnS 29 lo wq F vv L) ∧ (wq.heap[cb]? = some (.cells #[.func (.func 28) #[] #[]] 49)) ∧ (a + 1 ≤ i) ∧ (i ≤ max b (a + 1)) ∧ (L.length = l.length) ∧ (insFrom a (b - i) i L = insFrom a (b - (a + 1)) (a + 1) l)) ⟨a + 1, l, _, rfl, setAll_self ⟨rfl, rfl, rfl, rfl, rfl, trivial⟩, (Chg.refl _ _), ho, hcb, Nat.le_refl _, by omega, rfl, rfl⟩ ?_
  rintro m2 σ3 w1 ⟨i, L, ρ1, rfl, rfl, hx, ho1, hcb1, hi1, hi2, hl1, hin⟩
  have hxs := hx.size
  have hsm : L.length * 96 ≤ 140737488355328 := ho1.small
  refine WP_seq ?_
  refine WP_seq ?_
  refine WP_region0 (by kernel_rfl) (fun _ => ?_)
  refine st (ov_move (v := .int .i64 ((i : Nat) : Int)) rfl ?_)
  refine st (ov_move (v := .int .i64 ((b : Nat) : Int)) rfl ?_)
  refine st (ov_lss (k := .i64) (a := ((i : Nat) : Int)) (b := ((b : Nat) : Int)) rfl rfl ?_)
  refine st_nil ?_
  cases hc4 : decide (((i : Nat) : Int) < ((b : Nat) : Int))
  · skip
    have hc4 := of_decide_eq_false hc4
    refine WP_cond_f rfl ?_
    refine WP_exit ?_
    refine blk_exit ?_
    refine fin0 Try.results42 ?_
    refine ⟨rfl, ?_, hx⟩
    rw [← hin, show b - i = 0 by omega]
    exact ho1
  · skip
    have hc4 := of_decide_eq_true hc4
    refine WP_cond_t rfl ?_
    refine WP_skip ?_
    refine WP_seq ?_
    refine WP_block ?_
    refine WP_seq ?_
    refine WP_region0 (by kernel_rfl) (fun _ => ?_)
    refine st (ov_move (v := .int .i64 ((i : Nat) : Int)) rfl ?_)
    refine st (ov_assign (v := .int .i64 ((i : Nat) : Int)) rfl ?_)
    refine st_nil ?_
    refine WP_block ?_
    refine WP_loop (fun m σ wq => ∃ (j : Nat) (L2 : List Ev) (ρ : Env), m = 2 * j ∧ σ = setAll ρ [(0, vv), (1, .int .i64 ((a : Nat) : Int)), (2, .int .i64 ((b : Nat) : Int)), (3, .func (.func 39) #[] #[.pointer (some ⟨cb, 0, none⟩)]), (8, .int .i64 ((i : Nat) : Int)), (9, .int .i64 ((j : Nat) : Int))] ∧ (Chg (fun i => vv.ownBlock = some i) w1 wq) ∧ (OwnS 29 lo wq F vv L2) ∧ (wq.heap[cb]? = some (.cells #[.func (.func 28) #[] #[]] 49)) ∧ (j ≤ i) ∧ (L2.length = L.length) ∧ (sift L2 a j = sift L a i)) ⟨i, L, _, rfl, setAll_self ⟨rfl, rfl, rfl, rfl, rfl, rfl, trivial⟩, (Chg.refl _ _), ho1, hcb1, Nat.le_refl _, rfl, rfl⟩ ?_
    rintro m5 σ6 w2 ⟨j, L2, ρ2, rfl, rfl, hx2, ho2, hcb2, hj, hl2, hs2⟩
    have hxs2 := hx2.size
    have hsm2 : L2.length * 96 ≤ 140737488355328 := ho2.small
    refine WP_seq ?_
    refine WP_seq ?_
    refine WP_draw Ext (AL [fun v w => v = (.int .i64 ((j : Nat) : Int) : Value), fun v w => v = (.int .i64 ((a : Nat) : Int) : Value), fun v w => v = (.bool (decide (((a : Nat) : Int) < ((j : Nat) : Int))) : Value), fun v w => v = (.bool (decide (((a : Nat) : Int) < ((j : Nat) : Int))) : Value), fun v w => v = (if (decide (((a : Nat) : Int) < ((j : Nat) : Int))) = true then (.func (.func 39) #[] #[.pointer (some ⟨cb, 0, none⟩)] : Value) else undef), fun v w => v = (if (decide (((a : Nat) : Int) < ((j : Nat) : Int))) = true then (vv : Value) else undef), fun v w => v = (if (decide (((a : Nat) : Int) < ((j : Nat) : Int))) = true then (.int .i64 ((j : Nat) : Int) : Value) else undef), fun v w => v = (if (decide (((a : Nat) : Int) < ((j : Nat) : Int))) = true then (.pointer (some ⟨sb vv, so vv + j * 10, none⟩) : Value) else undef), fun v w => v = (if (decide (((a : Nat) : Int) < ((j : Nat) : Int))) = true then (.agg ((L2.getD j default).cells (cellV w2 (sb vv) (so vv + j * 10 + 3))).toArray : Value) else undef), fun v w => v = (if (decide (((a : Nat) : Int) < ((j : Nat) : Int))) = true then (vv : Value) else undef), fun v w => v = (if (decide (((a : Nat) : Int) < ((j : Nat) : Int))) = true then (.int .i64 ((j : Nat) : Int) : Value) else undef), fun v w => v = (if (decide (((a : Nat) : Int) < ((j : Nat) : Int))) = true then (.int .i64 (((j - 1) : Nat) : Int) : Value) else undef), fun v w => v = (if (decide (((a : Nat) : Int) < ((j : Nat) : Int))) = true then (.pointer (some ⟨sb vv, so vv + (j - 1) * 10, none⟩) : Value) else undef), fun v w => v = (if (decide (((a : Nat) : Int) < ((j : Nat) : Int))) = true then (.agg ((L2.getD (j - 1) default).cells (cellV w2 (sb vv) (so vv + (j - 1) * 10 + 3))).toArray : Value) else undef), fun v w => v = (if (decide (((a : Nat) : Int) < ((j : Nat) : Int))) = true then (.int .i64 (cmpP (L2.getD j default) (L2.getD (j - 1) default)) : Value) else undef), fun v w => v = (if (decide (((a : Nat) : Int) < ((j : Nat) : Int))) = true then (.bool (decide ((cmpP (L2.getD j default) (L2.getD (j - 1) default)) < 0)) : Value) else undef), fun v w => v = (.bool ((decide (((a : Nat) : Int) < ((j : Nat) : Int))) && (decide ((cmpP (L2.getD j default) (L2.getD (j - 1) default)) < 0))) : Value)]) [[], [], [0, 1], [0, 1, 2], [0, 1, 2, 3], [0, 1, 2, 3], [0, 1, 2, 3], [0, 1, 2, 3, 5, 6], [0, 1, 2, 3, 5, 6, 7], [0, 1, 2, 3], [0, 1, 2, 3], [0, 1, 2, 3, 10], [0, 1, 2, 3, 9, 10, 11], [0, 1, 2, 3, 9, 10, 11, 12], [0, 1, 2, 3, 4, 5, 6, 7, 8, 9, 10, 11, 12, 13], [0, 1, 2, 3, 4, 5, 6, 7, 8, 9, 10, 11, 12, 13, 14], [0, 1, 2, 3, 4, 5, 6, 7, 8, 9, 10, 11, 12, 13, 14, 15]] 17 (by kernel_rfl) (by kernel_rfl) (by kernel_rfl) (fun w => Chg.refl _ w) (fun _ _ _ h1 h2 => h1.trans h2) (stabL ⟨fun _ _ _ _ h => h, fun _ _ _ _ h => h, fun _ _ _ _ h => h, fun _ _ _ _ h => h, fun _ _ _ _ h => h, fun _ _ _ _ h => h, fun _ _ _ _ h => h, fun _ _ _ _ h => h, fun _ _ _ _ h => h, fun _ _ _ _ h => h, fun _ _ _ _ h => h, fun _ _ _ _ h => h, fun _ _ _ _ h => h, fun _ _ _ _ h => h, fun _ _ _ _ h => h, fun _ _ _ _ h => h, fun _ _ _ _ h => h, trivial⟩) ?_
    intro w3 qh1 qh2 qh3 qh4
    have hx7 := ext_same qh1 qh2 qh3 qh4
    refine ⟨⟨?_, ?_, ?_, ?_, ?_, ?_, ?_, ?_, ?_, ?_, ?_, ?_, ?_, ?_, ?_, ?_, ?_, trivial⟩, ?_⟩
    · intro vals w4 hR8 hA
      have hs9 := hR8.size
      refine obl rfl ?_
      exact ov_move (v := .int .i64 ((j : Nat) : Int)) rfl ⟨Chg.refl _ _, rfl⟩
    · intro vals w5 hR10 hA
      have hs11 := hR10.size
      refine obl rfl ?_
      exact ov_move (v := .int .i64 ((a : Nat) : Int)) rfl ⟨Chg.refl _ _, rfl⟩
    · intro vals w6 hR12 hA
      have hs13 := hR12.size
      have e0 : (vals 0) = (.int .i64 ((j : Nat) : Int) : Value) := hA 0 (by decide)
      have e1 : (vals 1) = (.int .i64 ((a : Nat) : Int) : Value) := hA 1 (by decide)
      refine obl rfl ?_
      exact ov_gtr (k := .i64) (a := ((j : Nat) : Int)) (b := ((a : Nat) : Int)) (show _ = (.int .i64 ((j : Nat) : Int) : Value) from e0) (show _ = (.int .i64 ((a : Nat) : Int) : Value) from e1) ⟨Chg.refl _ _, rfl⟩
    · intro vals w7 hR14 hA
      have hs15 := hR14.size
      have e2 : (vals 2) = (.bool (decide (((a : Nat) : Int) < ((j : Nat) : Int))) : Value) := hA 2 (by decide)
      refine obl rfl ?_
      exact ov_move (v := .bool (decide (((a : Nat) : Int) < ((j : Nat) : Int)))) (show _ = (.bool (decide (((a : Nat) : Int) < ((j : Nat) : Int))) : Value) from e2) ⟨Chg.refl _ _, rfl⟩
    · intro vals w8 hR16 hA
      have hs17 := hR16.size
      have e3 : (vals 3) = (.bool (decide (((a : Nat) : Int) < ((j : Nat) : Int))) : Value) := hA 3 (by decide)
      refine oblc rfl rfl (show _ = (.bool (decide (((a : Nat) : Int) < ((j : Nat) : Int))) : Value) from e3) (fun hb18 => ?_) (fun hb18 => (if_neg hb18).symm)
      have hl19 : (decide (((a : Nat) : Int) < ((j : Nat) : Int))) = true := hb18
      have hl19 := of_decide_eq_true hl19
      exact ov_move (v := .func (.func 39) #[] #[.pointer (some ⟨cb, 0, none⟩)]) rfl ⟨Chg.refl _ _, (if_pos hb18).symm⟩
    · intro vals w9 hR20 hA
      have hs21 := hR20.size
      have e3 : (vals 3) = (.bool (decide (((a : Nat) : Int) < ((j : Nat) : Int))) : Value) := hA 3 (by decide)
      refine oblc rfl rfl (show _ = (.bool (decide (((a : Nat) : Int) < ((j : Nat) : Int))) : Value) from e3) (fun hb22 => ?_) (fun hb22 => (if_neg hb22).symm)
      have hl23 : (decide (((a : Nat) : Int) < ((j : Nat) : Int))) = true := hb22
      have hl23 := of_decide_eq_true hl23
      exact ov_move (v := vv) rfl ⟨Chg.refl _ _, (if_pos hb22).symm⟩
    · intro vals w10 hR24 hA
      have hs25 := hR24.size
      have e3 : (vals 3) = (.bool (decide (((a : Nat) : Int) < ((j : Nat) : Int))) : Value) := hA 3 (by decide)
      refine oblc rfl rfl (show _ = (.bool (decide (((a : Nat) : Int) < ((j : Nat) : Int))) : Value) from e3) (fun hb26 => ?_) (fun hb26 => (if_neg hb26).symm)
      have hl27 : (decide (((a : Nat) : Int) < ((j : Nat) : Int))) = true := hb26
      have hl27 := of_decide_eq_true hl27
      exact ov_move (v := .int .i64 ((j : Nat) : Int)) rfl ⟨Chg.refl _ _, (if_pos hb26).symm⟩
    · intro vals w11 hR28 hA
      have hs29 := hR28.size
      have e3 : (vals 3) = (.bool (decide (((a : Nat) : Int) < ((j : Nat) : Int))) : Value) := hA 3 (by decide)
      have e5 : (vals 5) = (if (decide (((a : Nat) : Int) < ((j : Nat) : Int))) = true then (vv : Value) else undef) := hA 5 (by decide)
      have e6 : (vals 6) = (if (decide (((a : Nat) : Int) < ((j : Nat) : Int))) = true then (.int .i64 ((j : Nat) : Int) : Value) else undef) := hA 6 (by decide)
      refine oblc rfl rfl (show _ = (.bool (decide (((a : Nat) : Int) < ((j : Nat) : Int))) : Value) from e3) (fun hb30 => ?_) (fun hb30 => (if_neg hb30).symm)
      have hl31 : (decide (((a : Nat) : Int) < ((j : Nat) : Int))) = true := hb30
      have hl31 := of_decide_eq_true hl31
      have hi32 : j < L2.length := by omega
      have hi33 : j < L2.length := by omega
      obtain ⟨hc33, hd33, hok33⟩ := ho2.ev hi33
      rw [← getD_at default hi33] at hc33 hd33 hok33
      exact ov_indexAddrN (k := 10) (i := j) Try.underlying22 Try.sizeOf29 (show _ = (vv : Value) from (Eq.trans e5 (if_pos hb30))) ho2.isSl (show _ = (.int .i64 ((j : Nat) : Int) : Value) from (Eq.trans e6 (if_pos hb30))) hi32 ⟨Chg.refl _ _, (if_pos hb30).symm⟩
    · intro vals w12 hR34 hA
      have hs35 := hR34.size
      have e3 : (vals 3) = (.bool (decide (((a : Nat) : Int) < ((j : Nat) : Int))) : Value) := hA 3 (by decide)
      have e7 : (vals 7) = (if (decide (((a : Nat) : Int) < ((j : Nat) : Int))) = true then (.pointer (some ⟨sb vv, so vv + j * 10, none⟩) : Value) else undef) := hA 7 (by decide)
      refine oblc rfl rfl (show _ = (.bool (decide (((a : Nat) : Int) < ((j : Nat) : Int))) : Value) from e3) (fun hb36 => ?_) (fun hb36 => (if_neg hb36).symm)
      have hl37 : (decide (((a : Nat) : Int) < ((j : Nat) : Int))) = true := hb36
      have hl37 := of_decide_eq_true hl37
      have hi38 : j < L2.length := by omega
      obtain ⟨hc38, hd38, hok38⟩ := ho2.ev hi38
      rw [← getD_at default hi38] at hc38 hd38 hok38
      have h39 := hc38.mono (fun hb => (Chg.trans hx7 hR34).block _ hb (fun h => h))
      exact ov_loadk (k := 10) Try.isAgg29 Try.sizeOf29 rfl (show _ = (.pointer (some ⟨sb vv, so vv + j * 10, none⟩) : Value) from (Eq.trans e7 (if_pos hb36))) h39 ⟨Chg.refl _ _, (if_pos hb36).symm⟩
    · intro vals w13 hR40 hA
      have hs41 := hR40.size
      have e3 : (vals 3) = (.bool (decide (((a : Nat) : Int) < ((j : Nat) : Int))) : Value) := hA 3 (by decide)
      refine oblc rfl rfl (show _ = (.bool (decide (((a : Nat) : Int) < ((j : Nat) : Int))) : Value) from e3) (fun hb42 => ?_) (fun hb42 => (if_neg hb42).symm)
      have hl43 : (decide (((a : Nat) : Int) < ((j : Nat) : Int))) = true := hb42
      have hl43 := of_decide_eq_true hl43
      exact ov_move (v := vv) rfl ⟨Chg.refl _ _, (if_pos hb42).symm⟩
    · intro vals w14 hR44 hA
      have hs45 := hR44.size
      have e3 : (vals 3) = (.bool (decide (((a : Nat) : Int) < ((j : Nat) : Int))) : Value) := hA 3 (by decide)
      refine oblc rfl rfl (show _ = (.bool (decide (((a : Nat) : Int) < ((j : Nat) : Int))) : Value) from e3) (fun hb46 => ?_) (fun hb46 => (if_neg hb46).symm)
      have hl47 : (decide (((a : Nat) : Int) < ((j : Nat) : Int))) = true := hb46
      have hl47 := of_decide_eq_true hl47
      exact ov_move (v := .int .i64 ((j : Nat) : Int)) rfl ⟨Chg.refl _ _, (if_pos hb46).symm⟩
    · intro vals w15 hR48 hA
      have hs49 := hR48.size
      have e3 : (vals 3) = (.bool (decide (((a : Nat) : Int) < ((j : Nat) : Int))) : Value) := hA 3 (by decide)
      have e10 : (vals 10) = (if (decide (((a : Nat) : Int) < ((j : Nat) : Int))) = true then (.int .i64 ((j : Nat) : Int) : Value) else undef) := hA 10 (by decide)
      refine oblc rfl rfl (show _ = (.bool (decide (((a : Nat) : Int) < ((j : Nat) : Int))) : Value) from e3) (fun hb50 => ?_) (fun hb50 => (if_neg hb50).symm)
      have hl51 : (decide (((a : Nat) : Int) < ((j : Nat) : Int))) = true := hb50
      have hl51 := of_decide_eq_true hl51
      have hr52 : InR (((j - 1 : Nat) : Int)) := by omega
      exact ov_sub (r := ((j - 1 : Nat) : Int)) (k := .i64) (a := ((j : Nat) : Int)) (b := 1) (show _ = (.int .i64 ((j : Nat) : Int) : Value) from (Eq.trans e10 (if_pos hb50))) rfl (by rw [show (((j : Nat) : Int) - 1 : Int) = ((j - 1 : Nat) : Int) from by omega]; exact wrap_in hr52) ⟨Chg.refl _ _, (if_pos hb50).symm⟩
    · intro vals w16 hR53 hA
      have hs54 := hR53.size
      have e3 : (vals 3) = (.bool (decide (((a : Nat) : Int) < ((j : Nat) : Int))) : Value) := hA 3 (by decide)
      have e9 : (vals 9) = (if (decide (((a : Nat) : Int) < ((j : Nat) : Int))) = true then (vv : Value) else undef) := hA 9 (by decide)
      have e11 : (vals 11) = (if (decide (((a : Nat) : Int) < ((j : Nat) : Int))) = true then (.int .i64 (((j - 1) : Nat) : Int) : Value) else undef) := hA 11 (by decide)
      refine oblc rfl rfl (show _ = (.bool (decide (((a : Nat) : Int) < ((j : Nat) : Int))) : Value) from e3) (fun hb55 => ?_) (fun hb55 => (if_neg hb55).symm)
      have hl56 : (decide (((a : Nat) : Int) < ((j : Nat) : Int))) = true := hb55
      have hl56 := of_decide_eq_true hl56
      have hi57 : (j - 1) < L2.length := by omega
      have hi58 : (j - 1) < L2.length := by omega
      obtain ⟨hc58, hd58, hok58⟩ := ho2.ev hi58
      rw [← getD_at default hi58] at hc58 hd58 hok58
      exact ov_indexAddrN (k := 10) (i := (j - 1)) Try.underlying22 Try.sizeOf29 (show _ = (vv : Value) from (Eq.trans e9 (if_pos hb55))) ho2.isSl (show _ = (.int .i64 (((j - 1) : Nat) : Int) : Value) from (Eq.trans e11 (if_pos hb55))) hi57 ⟨Chg.refl _ _, (if_pos hb55).symm⟩
    · intro vals w17 hR59 hA
      have hs60 := hR59.size
      have e3 : (vals 3) = (.bool (decide (((a : Nat) : Int) < ((j : Nat) : Int))) : Value) := hA 3 (by decide)
      have e12 : (vals 12) = (if (decide (((a : Nat) : Int) < ((j : Nat) : Int))) = true then (.pointer (some ⟨sb vv, so vv + (j - 1) * 10, none⟩) : Value) else undef) := hA 12 (by decide)
      refine oblc rfl rfl (show _ = (.bool (decide (((a : Nat) : Int) < ((j : Nat) : Int))) : Value) from e3) (fun hb61 => ?_) (fun hb61 => (if_neg hb61).symm)
      have hl62 : (decide (((a : Nat) : Int) < ((j : Nat) : Int))) = true := hb61
      have hl62 := of_decide_eq_true hl62
      have hi63 : (j - 1) < L2.length := by omega
      obtain ⟨hc63, hd63, hok63⟩ := ho2.ev hi63
      rw [← getD_at default hi63] at hc63 hd63 hok63
      have h64 := hc63.mono (fun hb => (Chg.trans hx7 hR59).block _ hb (fun h => h))
      exact ov_loadk (k := 10) Try.isAgg29 Try.sizeOf29 rfl (show _ = (.pointer (some ⟨sb vv, so vv + (j - 1) * 10, none⟩) : Value) from (Eq.trans e12 (if_pos hb61))) h64 ⟨Chg.refl _ _, (if_pos hb61).symm⟩
    · intro vals w18 hR65 hA
      have hs66 := hR65.size
      have e3 : (vals 3) = (.bool (decide (((a : Nat) : Int) < ((j : Nat) : Int))) : Value) := hA 3 (by decide)
      have e4 : (vals 4) = (if (decide (((a : Nat) : Int) < ((j : Nat) : Int))) = true then (.func (.func 39) #[] #[.pointer (some ⟨cb, 0, none⟩)] : Value) else undef) := hA 4 (by decide)
      have e8 : (vals 8) = (if (decide (((a : Nat) : Int) < ((j : Nat) : Int))) = true then (.agg ((L2.getD j default).cells (cellV w2 (sb vv) (so vv + j * 10 + 3))).toArray : Value) else undef) := hA 8 (by decide)
      have e13 : (vals 13) = (if (decide (((a : Nat) : Int) < ((j : Nat) : Int))) = true then (.agg ((L2.getD (j - 1) default).cells (cellV w2 (sb vv) (so vv + (j - 1) * 10 + 3))).toArray : Value) else undef) := hA 13 (by decide)
      refine oblc rfl rfl (show _ = (.bool (decide (((a : Nat) : Int) < ((j : Nat) : Int))) : Value) from e3) (fun hb67 => ?_) (fun hb67 => (if_neg hb67).symm)
      have hl68 : (decide (((a : Nat) : Int) < ((j : Nat) : Int))) = true := hb67
      have hl68 := of_decide_eq_true hl68
      have hi69 : j < L2.length := by omega
      obtain ⟨hc69, hd69, hok69⟩ := ho2.ev hi69
      rw [← getD_at default hi69] at hc69 hd69 hok69
      have h70 := hd69.ext (Chg.trans hx7 hR65)
      have hi71 : (j - 1) < L2.length := by omega
      obtain ⟨hc71, hd71, hok71⟩ := ho2.ev hi71
      rw [← getD_at default hi71] at hc71 hd71 hok71
      have h72 := hd71.ext (Chg.trans hx7 hR65)
      have h73 := (Chg.trans hx7 hR65).keep hcb2 (fun h => h)
      exact ov_call (f := 39) (vals := [.agg ((L2.getD j default).cells (cellV w2 (sb vv) (so vv + j * 10 + 3))).toArray, .agg ((L2.getD (j - 1) default).cells (cellV w2 (sb vv) (so vv + (j - 1) * 10 + 3))).toArray]) (cap := [.pointer (some ⟨cb, 0, none⟩)]) (show _ = (.func (.func 39) #[] #[.pointer (some ⟨cb, 0, none⟩)] : Value) from (Eq.trans e4 (if_pos hb67))) (mapL ⟨(show _ = (.agg ((L2.getD j default).cells (cellV w2 (sb vv) (so vv + j * 10 + 3))).toArray : Value) from (Eq.trans e8 (if_pos hb67))), (show _ = (.agg ((L2.getD (j - 1) default).cells (cellV w2 (sb vv) (so vv + (j - 1) * 10 + 3))).toArray : Value) from (Eq.trans e13 (if_pos hb67))), trivial⟩) Try.call39 (C_by1 h70 hok69 h72 hok71 h73) (fun _ _ h => ⟨h.2, h.1.trans (if_pos hb67).symm⟩)
    · intro vals w19 hR74 hA
      have hs75 := hR74.size
      have e3 : (vals 3) = (.bool (decide (((a : Nat) : Int) < ((j : Nat) : Int))) : Value) := hA 3 (by decide)
      have e14 : (vals 14) = (if (decide (((a : Nat) : Int) < ((j : Nat) : Int))) = true then (.int .i64 (cmpP (L2.getD j default) (L2.getD (j - 1) default)) : Value) else undef) := hA 14 (by decide)
      refine oblc rfl rfl (show _ = (.bool (decide (((a : Nat) : Int) < ((j : Nat) : Int))) : Value) from e3) (fun hb76 => ?_) (fun hb76 => (if_neg hb76).symm)
      have hl77 : (decide (((a : Nat) : Int) < ((j : Nat) : Int))) = true := hb76
      have hl77 := of_decide_eq_true hl77
      exact ov_lss (k := .i64) (a := cmpP (L2.getD j default) (L2.getD (j - 1) default)) (b := 0) (show _ = (.int .i64 (cmpP (L2.getD j default) (L2.getD (j - 1) default)) : Value) from (Eq.trans e14 (if_pos hb76))) rfl ⟨Chg.refl _ _, (if_pos hb76).symm⟩
    · intro vals w20 hR78 hA
      have hs79 := hR78.size
      have e3 : (vals 3) = (.bool (decide (((a : Nat) : Int) < ((j : Nat) : Int))) : Value) := hA 3 (by decide)
      have e15 : (vals 15) = (if (decide (((a : Nat) : Int) < ((j : Nat) : Int))) = true then (.bool (decide ((cmpP (L2.getD j default) (L2.getD (j - 1) default)) < 0)) : Value) else undef) := hA 15 (by decide)
      refine obl rfl ?_
      exact ov_pick_and (b := decide (((a : Nat) : Int) < ((j : Nat) : Int))) (b' := decide ((cmpP (L2.getD j default) (L2.getD (j - 1) default)) < 0)) (show _ = (.bool (decide (((a : Nat) : Int) < ((j : Nat) : Int))) : Value) from e3) (fun hbp => (show _ = (.bool (decide ((cmpP (L2.getD j default) (L2.getD (j - 1) default)) < 0)) : Value) from (Eq.trans e15 (if_pos hbp)))) ⟨Chg.refl _ _, rfl⟩
    intro vals w21 hR80 hA
    have hs81 := hR80.size
    have hs82 := hx7.size
    have e16 : (vals 16) = (.bool ((decide (((a : Nat) : Int) < ((j : Nat) : Int))) && (decide ((cmpP (L2.getD j default) (L2.getD (j - 1) default)) < 0))) : Value) := hA 16 (by decide)
    refine st_env (kv := [(0, vv), (1, .int .i64 ((a : Nat) : Int)), (2, .int .i64 ((b : Nat) : Int)), (3, .func (.func 39) #[] #[.pointer (some ⟨cb, 0, none⟩)]), (8, .int .i64 ((i : Nat) : Int)), (9, .int .i64 ((j : Nat) : Int)), (34, .bool ((decide (((a : Nat) : Int) < ((j : Nat) : Int))) && (decide ((cmpP (L2.getD j default) (L2.getD (j - 1) default)) < 0))))]) ⟨rfl, rfl, rfl, rfl, rfl, rfl, e16, trivial⟩ (fun ρ21 => ?_)
    clear e16
    clear hA qh1 qh2 qh3 qh4
    refine st_nil ?_
    cases hc83 : (decide (((a : Nat) : Int) < ((j : Nat) : Int))) && (decide ((cmpP (L2.getD j default) (L2.getD (j - 1) default)) < 0))
    · skip
      simp only [Bool.and_eq_true, Bool.or_eq_true, Bool.and_eq_false_iff, Bool.or_eq_false_iff, decide_eq_true_eq, decide_eq_false_iff_not, Bool.not_eq_true', Bool.not_eq_false', Int.not_lt, Int.not_le] at hc83
      refine WP_cond_f rfl ?_
      refine WP_exit ?_
      refine blk_exit ?_
      refine WP_region0 (by kernel_rfl) (fun _ => ?_)
      refine st (ov_move (v := .int .i64 ((i : Nat) : Int)) rfl ?_)
      have hr84 : InR ((i + 1 : Nat) : Int) := by omega
      refine st (ov_add (r := ((i + 1 : Nat) : Int)) (k := .i64) (a := ((i : Nat) : Int)) (b := 1) rfl rfl (by rw [show (((i : Nat) : Int) + 1 : Int) = ((i + 1 : Nat) : Int) by omega]; exact wrap_in hr84) ?_)
      refine st (ov_assign (v := .int .i64 ((i + 1 : Nat) : Int)) rfl ?_)
      refine st_nil ?_
      have h85 := ho2.ext (Chg.trans hx7 hR80)
      have h86 := (Chg.trans hx7 hR80).keep hcb2 (fun h => h)
      exact ⟨_, by omega, i + 1, L2, _, rfl, setAll_self ⟨rfl, rfl, rfl, rfl, rfl, trivial⟩, (Chg.trans (Chg.trans (Chg.trans hx hx2) (Chg.ext _ hx7)) (Chg.ext _ hR80)), h85, h86, by omega, by omega, by rw [hl2]; exact hl1, (by rw [← hin, show b - i = (b - (i + 1)) + 1 by omega, insFrom, ← hs2, sift_no (l := L2) (j := j) (by omega)])⟩
    · skip
      simp only [Bool.and_eq_true, Bool.or_eq_true, Bool.and_eq_false_iff, Bool.or_eq_false_iff, decide_eq_true_eq, decide_eq_false_iff_not, Bool.not_eq_true', Bool.not_eq_false', Int.not_lt, Int.not_le] at hc83
      refine WP_cond_t rfl ?_
      refine WP_skip ?_
      refine WP_seq ?_
      refine WP_block ?_
      refine WP_draw2 (WL [fun wq => Ext w21 wq, fun wq => OwnS 29 lo wq F vv (L2.set j (L2.getD (j - 1) default)) ∧ Chg (fun i => vv.ownBlock = some i) w21 wq, fun wq => OwnS 29 lo wq F vv ((L2.set j (L2.getD (j - 1) default)).set (j - 1) (L2.getD j default)) ∧ Chg (fun i => vv.ownBlock = some i) w21 wq]) (AV [fun v => v = (vv : Value), fun v => v = (.int .i64 ((j : Nat) : Int) : Value), fun v => v = (vv : Value), fun v => v = (.int .i64 ((j : Nat) : Int) : Value), fun v => v = (.int .i64 (((j - 1) : Nat) : Int) : Value), fun v => v = (vv : Value), fun v => v = (.int .i64 ((j : Nat) : Int) : Value), fun v => v = (.int .i64 (((j - 1) : Nat) : Int) : Value), fun v => v = (.pointer (some ⟨sb vv, so vv + (j - 1) * 10, none⟩) : Value), fun v => v = (.agg ((L2.getD (j - 1) default).cells (cellV w2 (sb vv) (so vv + (j - 1) * 10 + 3))).toArray : Value), fun v => v = (vv : Value), fun v => v = (.int .i64 ((j : Nat) : Int) : Value), fun v => v = (.pointer (some ⟨sb vv, so vv + j * 10, none⟩) : Value), fun v => v = (.agg ((L2.getD j default).cells (cellV w2 (sb vv) (so vv + j * 10 + 3))).toArray : Value), fun v => v = (.pointer (some ⟨sb vv, so vv + j * 10, none⟩) : Value), fun v => True, fun v => v = (.pointer (some ⟨sb vv, so vv + (j - 1) * 10, none⟩) : Value), fun v => True]) [[], [], [], [], [3], [], [], [6], [5, 6, 7], [5, 6, 7, 8], [], [], [10, 11], [10, 11, 12], [0, 1, 5, 6, 7, 8, 9, 10, 11, 12, 13], [0, 1, 5, 6, 7, 8, 9, 10, 11, 12, 13, 14], [0, 1, 2, 3, 4, 5, 6, 7, 8, 9, 10, 11, 12, 13, 14, 15], [0, 1, 2, 3, 4, 5, 6, 7, 8, 9, 10, 11, 12, 13, 14, 15, 16]] [15, 17] [some (0, 0), some (0, 0), none, none, none, some (0, 0), some (0, 0), some (0, 0), some (0, 0), some (0, 0), some (0, 0), some (0, 0), some (0, 0), some (0, 0), some (0, 0), some (0, 1), none, some (1, 2)] (by kernel_rfl) (by kernel_rfl) (by kernel_rfl) rfl (by kernel_rfl) (by kernel_rfl) (fun _ h1 h2 h3 h4 => ext_same h1 h2 h3 h4) ⟨?_, ?_, ?_, ?_, ?_, ?_, ?_, ?_, ?_, ?_, ?_, ?_, ?_, ?_, ?_, ?_, ?_, ?_, trivial⟩ ?_
      · intro vals w22 hW87 hA
        have hW87 : Ext w21 w22 := hW87
        have hs88 := hW87.size
        refine obl rfl ?_
        exact ov_move (v := vv) rfl ⟨hW87, rfl⟩
      · intro vals w23 hW89 hA
        have hW89 : Ext w21 w23 := hW89
        have hs90 := hW89.size
        refine obl rfl ?_
        exact ov_move (v := .int .i64 ((j : Nat) : Int)) rfl ⟨hW89, rfl⟩
      · intro vals w24 hW91 hA
        refine obl rfl ?_
        exact ov_move (v := vv) rfl ⟨rfl, rfl⟩
      · intro vals w25 hW92 hA
        refine obl rfl ?_
        exact ov_move (v := .int .i64 ((j : Nat) : Int)) rfl ⟨rfl, rfl⟩
      · intro vals w26 hW93 hA
        have e3 : (vals 3) = (.int .i64 ((j : Nat) : Int) : Value) := hA 3 (by decide)
        refine obl rfl ?_
        have hr94 : InR (((j - 1 : Nat) : Int)) := by omega
        exact ov_sub (r := ((j - 1 : Nat) : Int)) (k := .i64) (a := ((j : Nat) : Int)) (b := 1) (show _ = (.int .i64 ((j : Nat) : Int) : Value) from e3) rfl (by rw [show (((j : Nat) : Int) - 1 : Int) = ((j - 1 : Nat) : Int) from by omega]; exact wrap_in hr94) ⟨rfl, rfl⟩
      · intro vals w27 hW95 hA
        have hW95 : Ext w21 w27 := hW95
        have hs96 := hW95.size
        refine obl rfl ?_
        exact ov_move (v := vv) rfl ⟨hW95, rfl⟩
      · intro vals w28 hW97 hA
        have hW97 : Ext w21 w28 := hW97
        have hs98 := hW97.size
        refine obl rfl ?_
        exact ov_move (v := .int .i64 ((j : Nat) : Int)) rfl ⟨hW97, rfl⟩
      · intro vals w29 hW99 hA
        have hW99 : Ext w21 w29 := hW99
        have hs100 := hW99.size
        have e6 : (vals 6) = (.int .i64 ((j : Nat) : Int) : Value) := hA 6 (by decide)
        refine obl rfl ?_
        have hr101 : InR (((j - 1 : Nat) : Int)) := by omega
        exact ov_sub (r := ((j - 1 : Nat) : Int)) (k := .i64) (a := ((j : Nat) : Int)) (b := 1) (show _ = (.int .i64 ((j : Nat) : Int) : Value) from e6) rfl (by rw [show (((j : Nat) : Int) - 1 : Int) = ((j - 1 : Nat) : Int) from by omega]; exact wrap_in hr101) ⟨hW99, rfl⟩
      · intro vals w30 hW102 hA
        have hW102 : Ext w21 w30 := hW102
        have hs103 := hW102.size
        have e5 : (vals 5) = (vv : Value) := hA 5 (by decide)
        have e7 : (vals 7) = (.int .i64 (((j - 1) : Nat) : Int) : Value) := hA 7 (by decide)
        refine obl rfl ?_
        have hi104 : (j - 1) < L2.length := by omega
        exact ov_indexAddrN (k := 10) (i := (j - 1)) Try.underlying22 Try.sizeOf29 (show _ = (vv : Value) from e5) ho2.isSl (show _ = (.int .i64 (((j - 1) : Nat) : Int) : Value) from e7) hi104 ⟨hW102, rfl⟩
      · intro vals w31 hW105 hA
        have hW105 : Ext w21 w31 := hW105
        have hs106 := hW105.size
        have e8 : (vals 8) = (.pointer (some ⟨sb vv, so vv + (j - 1) * 10, none⟩) : Value) := hA 8 (by decide)
        refine obl rfl ?_
        have hi107 : (j - 1) < L2.length := by omega
        obtain ⟨hc107, hd107, hok107⟩ := ho2.ev hi107
        rw [← getD_at default hi107] at hc107 hd107 hok107
        have h108 := hc107.mono (fun hb => (Chg.trans (Chg.trans hx7 hR80) hW105).block _ hb (fun h => h))
        exact ov_loadk (k := 10) Try.isAgg29 Try.sizeOf29 rfl (show _ = (.pointer (some ⟨sb vv, so vv + (j - 1) * 10, none⟩) : Value) from e8) h108 ⟨hW105, rfl⟩
      · intro vals w32 hW109 hA
        have hW109 : Ext w21 w32 := hW109
        have hs110 := hW109.size
        refine obl rfl ?_
        exact ov_move (v := vv) rfl ⟨hW109, rfl⟩
      · intro vals w33 hW111 hA
        have hW111 : Ext w21 w33 := hW111
        have hs112 := hW111.size
        refine obl rfl ?_
        exact ov_move (v := .int .i64 ((j : Nat) : Int)) rfl ⟨hW111, rfl⟩
      · intro vals w34 hW113 hA
        have hW113 : Ext w21 w34 := hW113
        have hs114 := hW113.size
        have e10 : (vals 10) = (vv : Value) := hA 10 (by decide)
        have e11 : (vals 11) = (.int .i64 ((j : Nat) : Int) : Value) := hA 11 (by decide)
        refine obl rfl ?_
        have hi115 : j < L2.length := by omega
        exact ov_indexAddrN (k := 10) (i := j) Try.underlying22 Try.sizeOf29 (show _ = (vv : Value) from e10) ho2.isSl (show _ = (.int .i64 ((j : Nat) : Int) : Value) from e11) hi115 ⟨hW113, rfl⟩
      · intro vals w35 hW116 hA
        have hW116 : Ext w21 w35 := hW116
        have hs117 := hW116.size
        have e12 : (vals 12) = (.pointer (some ⟨sb vv, so vv + j * 10, none⟩) : Value) := hA 12 (by decide)
        refine obl rfl ?_
        have hi118 : j < L2.length := by omega
        obtain ⟨hc118, hd118, hok118⟩ := ho2.ev hi118
        rw [← getD_at default hi118] at hc118 hd118 hok118
        have h119 := hc118.mono (fun hb => (Chg.trans (Chg.trans hx7 hR80) hW116).block _ hb (fun h => h))
        exact ov_loadk (k := 10) Try.isAgg29 Try.sizeOf29 rfl (show _ = (.pointer (some ⟨sb vv, so vv + j * 10, none⟩) : Value) from e12) h119 ⟨hW116, rfl⟩
      · intro vals w36 hW120 hA
        have hW120 : Ext w21 w36 := hW120
        have hs121 := hW120.size
        have e0 : (vals 0) = (vv : Value) := hA 0 (by decide)
        have e1 : (vals 1) = (.int .i64 ((j : Nat) : Int) : Value) := hA 1 (by decide)
        refine obl rfl ?_
        have hi122 : j < L2.length := by omega
        exact ov_indexAddrN (k := 10) (i := j) Try.underlying22 Try.sizeOf29 (show _ = (vv : Value) from e0) ho2.isSl (show _ = (.int .i64 ((j : Nat) : Int) : Value) from e1) hi122 ⟨hW120, rfl⟩
      · intro vals w37 hW123 hA
        have hW123 : Ext w21 w37 := hW123
        have hs124 := hW123.size
        have e9 : (vals 9) = (.agg ((L2.getD (j - 1) default).cells (cellV w2 (sb vv) (so vv + (j - 1) * 10 + 3))).toArray : Value) := hA 9 (by decide)
        have e14 : (vals 14) = (.pointer (some ⟨sb vv, so vv + j * 10, none⟩) : Value) := hA 14 (by decide)
        refine obl rfl ?_
        have hi125 : (j - 1) < L2.length := by omega
        obtain ⟨hc125, hd125, hok125⟩ := ho2.ev hi125
        rw [← getD_at default hi125] at hc125 hd125 hok125
        have h126 := ho2.ext (Chg.trans (Chg.trans hx7 hR80) hW123)
        have h127 := hd125.ext (Chg.trans (Chg.trans hx7 hR80) hW123)
        exact ov_storeOwn (i := j) (u := .agg ((L2.getD (j - 1) default).cells (cellV w2 (sb vv) (so vv + (j - 1) * 10 + 3))).toArray) Try.sizeOf29 h126 (by first | omega | (simp only [List.length_set]; omega)) (show _ = (.pointer (some ⟨sb vv, so vv + j * 10, none⟩) : Value) from e14) (show _ = (.agg ((L2.getD (j - 1) default).cells (cellV w2 (sb vv) (so vv + (j - 1) * 10 + 3))).toArray : Value) from e9) rfl (show Rep.rd _ _ _ (L2.getD (j - 1) default) from ⟨_, rfl, h127, hok125⟩) (fun _ ho hch => ⟨⟨ho, (Chg.trans (Chg.ext _ hW123) hch)⟩, trivial⟩)
      · intro vals w38 hW128 hA
        have e2 : (vals 2) = (vv : Value) := hA 2 (by decide)
        have e4 : (vals 4) = (.int .i64 (((j - 1) : Nat) : Int) : Value) := hA 4 (by decide)
        refine obl rfl ?_
        have hi129 : (j - 1) < L2.length := by omega
        exact ov_indexAddrN (k := 10) (i := (j - 1)) Try.underlying22 Try.sizeOf29 (show _ = (vv : Value) from e2) ho2.isSl (show _ = (.int .i64 (((j - 1) : Nat) : Int) : Value) from e4) hi129 ⟨rfl, rfl⟩
      · intro vals w39 hW130 hA
        have hW130 : OwnS 29 lo w39 F vv (L2.set j (L2.getD (j - 1) default)) ∧ Chg (fun i => vv.ownBlock = some i) w21 w39 := hW130
        have e13 : (vals 13) = (.agg ((L2.getD j default).cells (cellV w2 (sb vv) (so vv + j * 10 + 3))).toArray : Value) := hA 13 (by decide)
        have e16 : (vals 16) = (.pointer (some ⟨sb vv, so vv + (j - 1) * 10, none⟩) : Value) := hA 16 (by decide)
        refine obl rfl ?_
        have h131 := ho2.ext (Chg.trans hx7 hR80)
        have hi132 : j < L2.length := by omega
        obtain ⟨hc132, hd132, hok132⟩ := ho2.ev hi132
        rw [← getD_at default hi132] at hc132 hd132 hok132
        have h133 := hd132.ext (Chg.trans hx7 hR80)
        have h134 := h133.own h131 hW130.2
        exact ov_storeOwn (i := (j - 1)) (u := .agg ((L2.getD j default).cells (cellV w2 (sb vv) (so vv + j * 10 + 3))).toArray) Try.sizeOf29 hW130.1 (by first | omega | (simp only [List.length_set]; omega)) (show _ = (.pointer (some ⟨sb vv, so vv + (j - 1) * 10, none⟩) : Value) from e16) (show _ = (.agg ((L2.getD j default).cells (cellV w2 (sb vv) (so vv + j * 10 + 3))).toArray : Value) from e13) rfl (show Rep.rd _ _ _ (L2.getD j default) from ⟨_, rfl, h134, hok132⟩) (fun _ ho hch => ⟨⟨ho, (Chg.trans hW130.2 hch)⟩, trivial⟩)
      intro vals w40 hW135 hA
      have hW135 : OwnS 29 lo w40 F vv ((L2.set j (L2.getD (j - 1) default)).set (j - 1) (L2.getD j default)) ∧ Chg (fun i => vv.ownBlock = some i) w21 w40 := hW135
      have hs136 := hW135.2.size
      refine st_env (kv := [(0, vv), (1, .int .i64 ((a : Nat) : Int)), (2, .int .i64 ((b : Nat) : Int)), (3, .func (.func 39) #[] #[.pointer (some ⟨cb, 0, none⟩)]), (8, .int .i64 ((i : Nat) : Int)), (9, .int .i64 ((j : Nat) : Int)), (34, .bool true)]) ⟨rfl, rfl, rfl, rfl, rfl, rfl, rfl, trivial⟩ (fun ρ40 => ?_)
      clear hA 
      have h137 := (Chg.trans hx7 hR80).keep hcb2 (fun h => h)
      have h138 := hW135.2.keep h137 (fun e => hne e)
      refine st_nil ?_
      refine WP_region0 (by kernel_rfl) (fun _ => ?_)
      refine st (ov_move (v := .int .i64 ((j : Nat) : Int)) rfl ?_)
      have hr139 : InR (((j - 1 : Nat) : Int)) := by omega
      refine st (ov_sub (r := ((j - 1 : Nat) : Int)) (k := .i64) (a := ((j : Nat) : Int)) (b := 1) rfl rfl (by rw [show (((j : Nat) : Int) - 1 : Int) = ((j - 1 : Nat) : Int) from by omega]; exact wrap_in hr139) ?_)
      refine st (ov_assign (v := .int .i64 (((j - 1) : Nat) : Int)) rfl ?_)
      refine st_nil ?_
      exact ⟨_, by omega, j - 1, (L2.set j (L2.getD (j - 1) default)).set (j - 1) (L2.getD j default), _, rfl, setAll_self ⟨rfl, rfl, rfl, rfl, rfl, rfl, trivial⟩, (Chg.trans (Chg.trans (Chg.trans hx2 (Chg.ext _ hx7)) (Chg.ext _ hR80)) hW135.2), hW135.1, h138, by omega, by simp only [List.length_set]; exact hl2, (by rw [← hs2, sift_yes (l := L2) (j := j) (by omega) (by omega)]; rfl)⟩

end Go.Proofs.Ytbbhpddgjiifmaa
