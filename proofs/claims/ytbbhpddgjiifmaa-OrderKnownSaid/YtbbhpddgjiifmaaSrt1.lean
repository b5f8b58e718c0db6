/- Steps of the proofs of this seat: part Srt1. -/
import Derived.Test.YtbbhpddgjiifmaaFns9
import Derived.Test.YtbbhpddgjiifmaaSort2
set_option linter.unusedSimpArgs false
set_option linter.unusedVariables false
namespace Go.Proofs.Ytbbhpddgjiifmaa
open Go.Proofs Go.RowKit

theorem C_swapR {w : World} {lo : Nat} {F : Nat → Prop} {vv : Value} {l : List Ev} (ho : OwnS 29 lo w F vv l) {a : Nat} {b : Nat} {n : Nat} {cb : Nat} (hcb : w.heap[cb]? = some (.cells #[.func (.func 28) #[] #[]] 49)) (h1 : a + n ≤ l.length) (h2 : b + n ≤ l.length) (hne : vv.ownBlock ≠ some cb) : Ret Try.prog 45 [vv, .int .i64 ((a : Nat) : Int), .int .i64 ((b : Nat) : Int), .int .i64 ((n : Nat) : Int), .func (.func 39) #[] #[.pointer (some ⟨cb, 0, none⟩)]] w (fun r w' => r = .tuple #[] ∧ OwnS 29 lo w' F vv (swapR a b n 0 l) ∧ Chg (fun i => vv.ownBlock = some i) w w') := by
  have hsm0 : l.length * 96 ≤ 140737488355328 := ho.small
  refine Calls_of_WP (args := [vv, .int .i64 ((a : Nat) : Int), .int .i64 ((b : Nat) : Int), .int .i64 ((n : Nat) : Int), .func (.func 39) #[] #[.pointer (some ⟨cb, 0, none⟩)]]) Try.func45 rfl rfl ?_
  refine WP_seq ?_
  refine WP_region0 (by kernel_rfl) (fun _ => ?_)
  refine st (ov_assign (v := .int .i64 (0)) rfl ?_)
  refine st_nil ?_
  refine WP_block ?_
  refine WP_loop (fun m σ wq => ∃ (i : Nat) (L : List Ev) (ρ : Env), m = n - i ∧ σ = setAll ρ [(0, vv), (1, .int .i64 ((a : Nat) : Int)), (2, .int .i64 ((b : Nat) : Int)), (3, .int .i64 ((n : Nat) : Int)), (4, .func (.func 39) #[] #[.pointer (some ⟨cb, 0, none⟩)]), (10, .int .i64 ((i : Nat) : Int))] ∧ (Chg (fun i => vv.ownBlock = some i) w wq) ∧ (OwnS 29 lo wq F vv L) ∧ (i ≤ n) ∧ (L.length = l.length) ∧ (swapR a b (n - i) i L = swapR a b n 0 l)) ⟨0, l, _, rfl, setAll_self ⟨rfl, rfl, rfl, rfl, rfl, rfl, trivial⟩, (Chg.refl _ _), ho, Nat.zero_le _, rfl, rfl⟩ ?_
  rintro m1 σ2 w1 ⟨i, L, ρ1, rfl, rfl, hx, ho1, hi1, hl1, hin⟩
  have hxs := hx.size
  have hsm : L.length * 96 ≤ 140737488355328 := ho1.small
  refine WP_seq ?_
  refine WP_seq ?_
  refine WP_region0 (by kernel_rfl) (fun _ => ?_)
  refine st (ov_move (v := .int .i64 ((i : Nat) : Int)) rfl ?_)
  refine st (ov_move (v := .int .i64 ((n : Nat) : Int)) rfl ?_)
  refine st (ov_lss (k := .i64) (a := ((i : Nat) : Int)) (b := ((n : Nat) : Int)) rfl rfl ?_)
  refine st_nil ?_
  cases hc3 : decide (((i : Nat) : Int) < ((n : Nat) : Int))
  · skip
    have hc3 := of_decide_eq_false hc3
    refine WP_cond_f rfl ?_
    refine WP_exit ?_
    refine blk_exit ?_
    refine fin0 Try.results45 ?_
    refine ⟨rfl, ?_, hx⟩
    rw [← hin, show n - i = 0 by omega]
    exact ho1
  · skip
    have hc3 := of_decide_eq_true hc3
    refine WP_cond_t rfl ?_
    refine WP_skip ?_
    refine WP_seq ?_
    refine WP_block ?_
    refine WP_draw2 (WL [fun wq => Ext w1 wq, fun wq => OwnS 29 lo wq F vv (L.set (a + i) (L.getD (b + i) default)) ∧ Chg (fun i => vv.ownBlock = some i) w1 wq, fun wq => OwnS 29 lo wq F vv ((L.set (a + i) (L.getD (b + i) default)).set (b + i) (L.getD (a + i) default)) ∧ Chg (fun i => vv.ownBlock = some i) w1 wq]) (AV [fun v => v = (vv : Value), fun v => v = (.int .i64 ((a : Nat) : Int) : Value), fun v => v = (.int .i64 ((i : Nat) : Int) : Value), fun v => v = (.int .i64 ((a + i : Nat) : Int) : Value), fun v => v = (vv : Value), fun v => v = (.int .i64 ((b : Nat) : Int) : Value), fun v => v = (.int .i64 ((i : Nat) : Int) : Value), fun v => v = (.int .i64 ((b + i : Nat) : Int) : Value), fun v => v = (vv : Value), fun v => v = (.int .i64 ((b : Nat) : Int) : Value), fun v => v = (.int .i64 ((i : Nat) : Int) : Value), fun v => v = (.int .i64 ((b + i : Nat) : Int) : Value), fun v => v = (.pointer (some ⟨sb vv, so vv + (b + i) * 10, none⟩) : Value), fun v => v = (.agg ((L.getD (b + i) default).cells (cellV w1 (sb vv) (so vv + (b + i) * 10 + 3))).toArray : Value), fun v => v = (vv : Value), fun v => v = (.int .i64 ((a : Nat) : Int) : Value), fun v => v = (.int .i64 ((i : Nat) : Int) : Value), fun v => v = (.int .i64 ((a + i : Nat) : Int) : Value), fun v => v = (.pointer (some ⟨sb vv, so vv + (a + i) * 10, none⟩) : Value), fun v => v = (.agg ((L.getD (a + i) default).cells (cellV w1 (sb vv) (so vv + (a + i) * 10 + 3))).toArray : Value), fun v => v = (.pointer (some ⟨sb vv, so vv + (a + i) * 10, none⟩) : Value), fun v => True, fun v => v = (.pointer (some ⟨sb vv, so vv + (b + i) * 10, none⟩) : Value), fun v => True]) [[], [], [], [1, 2], [], [], [], [5, 6], [], [], [], [9, 10], [8, 9, 10, 11], [8, 9, 10, 11, 12], [], [], [], [15, 16], [14, 15, 16, 17], [14, 15, 16, 17, 18], [0, 1, 2, 3, 8, 9, 10, 11, 12, 13, 14, 15, 16, 17, 18, 19], [0, 1, 2, 3, 8, 9, 10, 11, 12, 13, 14, 15, 16, 17, 18, 19, 20], [0, 1, 2, 3, 4, 5, 6, 7, 8, 9, 10, 11, 12, 13, 14, 15, 16, 17, 18, 19, 20, 21], [0, 1, 2, 3, 4, 5, 6, 7, 8, 9, 10, 11, 12, 13, 14, 15, 16, 17, 18, 19, 20, 21, 22]] [21, 23] [some (0, 0), some (0, 0), some (0, 0), some (0, 0), none, none, none, none, some (0, 0), some (0, 0), some (0, 0), some (0, 0), some (0, 0), some (0, 0), some (0, 0), some (0, 0), some (0, 0), some (0, 0), some (0, 0), some (0, 0), some (0, 0), some (0, 1), none, some (1, 2)] (by kernel_rfl) (by kernel_rfl) (by kernel_rfl) rfl (by kernel_rfl) (by kernel_rfl) (fun _ h1 h2 h3 h4 => ext_same h1 h2 h3 h4) ⟨?_, ?_, ?_, ?_, ?_, ?_, ?_, ?_, ?_, ?_, ?_, ?_, ?_, ?_, ?_, ?_, ?_, ?_, ?_, ?_, ?_, ?_, ?_, ?_, trivial⟩ ?_
    · intro vals w2 hW4 hA
      have hW4 : Ext w1 w2 := hW4
      have hs5 := hW4.size
      refine obl rfl ?_
      exact ov_move (v := vv) rfl ⟨hW4, rfl⟩
    · intro vals w3 hW6 hA
      have hW6 : Ext w1 w3 := hW6
      have hs7 := hW6.size
      refine obl rfl ?_
      exact ov_move (v := .int .i64 ((a : Nat) : Int)) rfl ⟨hW6, rfl⟩
    · intro vals w4 hW8 hA
      have hW8 : Ext w1 w4 := hW8
      have hs9 := hW8.size
      refine obl rfl ?_
      exact ov_move (v := .int .i64 ((i : Nat) : Int)) rfl ⟨hW8, rfl⟩
    · intro vals w5 hW10 hA
      have hW10 : Ext w1 w5 := hW10
      have hs11 := hW10.size
      have e1 : (vals 1) = (.int .i64 ((a : Nat) : Int) : Value) := hA 1 (by decide)
      have e2 : (vals 2) = (.int .i64 ((i : Nat) : Int) : Value) := hA 2 (by decide)
      refine obl rfl ?_
      have hr12 : InR ((a + i : Nat) : Int) := by omega
      exact ov_add (r := ((a + i : Nat) : Int)) (k := .i64) (a := ((a : Nat) : Int)) (b := ((i : Nat) : Int)) (show _ = (.int .i64 ((a : Nat) : Int) : Value) from e1) (show _ = (.int .i64 ((i : Nat) : Int) : Value) from e2) (by rw [show (((a : Nat) : Int) + ((i : Nat) : Int) : Int) = ((a + i : Nat) : Int) by omega]; exact wrap_in hr12) ⟨hW10, rfl⟩
    · intro vals w6 hW13 hA
      refine obl rfl ?_
      exact ov_move (v := vv) rfl ⟨rfl, rfl⟩
    · intro vals w7 hW14 hA
      refine obl rfl ?_
      exact ov_move (v := .int .i64 ((b : Nat) : Int)) rfl ⟨rfl, rfl⟩
    · intro vals w8 hW15 hA
      refine obl rfl ?_
      exact ov_move (v := .int .i64 ((i : Nat) : Int)) rfl ⟨rfl, rfl⟩
    · intro vals w9 hW16 hA
      have e5 : (vals 5) = (.int .i64 ((b : Nat) : Int) : Value) := hA 5 (by decide)
      have e6 : (vals 6) = (.int .i64 ((i : Nat) : Int) : Value) := hA 6 (by decide)
      refine obl rfl ?_
      have hr17 : InR ((b + i : Nat) : Int) := by omega
      exact ov_add (r := ((b + i : Nat) : Int)) (k := .i64) (a := ((b : Nat) : Int)) (b := ((i : Nat) : Int)) (show _ = (.int .i64 ((b : Nat) : Int) : Value) from e5) (show _ = (.int .i64 ((i : Nat) : Int) : Value) from e6) (by rw [show (((b : Nat) : Int) + ((i : Nat) : Int) : Int) = ((b + i : Nat) : Int) by omega]; exact wrap_in hr17) ⟨rfl, rfl⟩
    · intro vals w10 hW18 hA
      have hW18 : Ext w1 w10 := hW18
      have hs19 := hW18.size
      refine obl rfl ?_
      exact ov_move (v := vv) rfl ⟨hW18, rfl⟩
    · intro vals w11 hW20 hA
      have hW20 : Ext w1 w11 := hW20
      have hs21 := hW20.size
      refine obl rfl ?_
      exact ov_move (v := .int .i64 ((b : Nat) : Int)) rfl ⟨hW20, rfl⟩
    · intro vals w12 hW22 hA
      have hW22 : Ext w1 w12 := hW22
      have hs23 := hW22.size
      refine obl rfl ?_
      exact ov_move (v := .int .i64 ((i : Nat) : Int)) rfl ⟨hW22, rfl⟩
    · intro vals w13 hW24 hA
      have hW24 : Ext w1 w13 := hW24
      have hs25 := hW24.size
      have e9 : (vals 9) = (.int .i64 ((b : Nat) : Int) : Value) := hA 9 (by decide)
      have e10 : (vals 10) = (.int .i64 ((i : Nat) : Int) : Value) := hA 10 (by decide)
      refine obl rfl ?_
      have hr26 : InR ((b + i : Nat) : Int) := by omega
      exact ov_add (r := ((b + i : Nat) : Int)) (k := .i64) (a := ((b : Nat) : Int)) (b := ((i : Nat) : Int)) (show _ = (.int .i64 ((b : Nat) : Int) : Value) from e9) (show _ = (.int .i64 ((i : Nat) : Int) : Value) from e10) (by rw [show (((b : Nat) : Int) + ((i : Nat) : Int) : Int) = ((b + i : Nat) : Int) by omega]; exact wrap_in hr26) ⟨hW24, rfl⟩
    · intro vals w14 hW27 hA
      have hW27 : Ext w1 w14 := hW27
      have hs28 := hW27.size
      have e8 : (vals 8) = (vv : Value) := hA 8 (by decide)
      have e11 : (vals 11) = (.int .i64 ((b + i : Nat) : Int) : Value) := hA 11 (by decide)
      refine obl rfl ?_
      have hi29 : b + i < L.length := by omega
      have hi30 : b + i < L.length := by omega
      obtain ⟨hc30, hd30, hok30⟩ := ho1.ev hi30
      rw [← getD_at default hi30] at hc30 hd30 hok30
      exact ov_indexAddrN (k := 10) (i := b + i) Try.underlying22 Try.sizeOf29 (show _ = (vv : Value) from e8) ho1.isSl (show _ = (.int .i64 ((b + i : Nat) : Int) : Value) from e11) hi29 ⟨hW27, rfl⟩
    · intro vals w15 hW31 hA
      have hW31 : Ext w1 w15 := hW31
      have hs32 := hW31.size
      have e12 : (vals 12) = (.pointer (some ⟨sb vv, so vv + (b + i) * 10, none⟩) : Value) := hA 12 (by decide)
      refine obl rfl ?_
      have hi33 : b + i < L.length := by omega
      obtain ⟨hc33, hd33, hok33⟩ := ho1.ev hi33
      rw [← getD_at default hi33] at hc33 hd33 hok33
      have h34 := hc33.mono (fun hb => hW31.block _ hb (fun h => h))
      exact ov_loadk (k := 10) Try.isAgg29 Try.sizeOf29 rfl (show _ = (.pointer (some ⟨sb vv, so vv + (b + i) * 10, none⟩) : Value) from e12) h34 ⟨hW31, rfl⟩
    · intro vals w16 hW35 hA
      have hW35 : Ext w1 w16 := hW35
      have hs36 := hW35.size
      refine obl rfl ?_
      exact ov_move (v := vv) rfl ⟨hW35, rfl⟩
    · intro vals w17 hW37 hA
      have hW37 : Ext w1 w17 := hW37
      have hs38 := hW37.size
      refine obl rfl ?_
      exact ov_move (v := .int .i64 ((a : Nat) : Int)) rfl ⟨hW37, rfl⟩
    · intro vals w18 hW39 hA
      have hW39 : Ext w1 w18 := hW39
      have hs40 := hW39.size
      refine obl rfl ?_
      exact ov_move (v := .int .i64 ((i : Nat) : Int)) rfl ⟨hW39, rfl⟩
    · intro vals w19 hW41 hA
      have hW41 : Ext w1 w19 := hW41
      have hs42 := hW41.size
      have e15 : (vals 15) = (.int .i64 ((a : Nat) : Int) : Value) := hA 15 (by decide)
      have e16 : (vals 16) = (.int .i64 ((i : Nat) : Int) : Value) := hA 16 (by decide)
      refine obl rfl ?_
      have hr43 : InR ((a + i : Nat) : Int) := by omega
      exact ov_add (r := ((a + i : Nat) : Int)) (k := .i64) (a := ((a : Nat) : Int)) (b := ((i : Nat) : Int)) (show _ = (.int .i64 ((a : Nat) : Int) : Value) from e15) (show _ = (.int .i64 ((i : Nat) : Int) : Value) from e16) (by rw [show (((a : Nat) : Int) + ((i : Nat) : Int) : Int) = ((a + i : Nat) : Int) by omega]; exact wrap_in hr43) ⟨hW41, rfl⟩
    · intro vals w20 hW44 hA
      have hW44 : Ext w1 w20 := hW44
      have hs45 := hW44.size
      have e14 : (vals 14) = (vv : Value) := hA 14 (by decide)
      have e17 : (vals 17) = (.int .i64 ((a + i : Nat) : Int) : Value) := hA 17 (by decide)
      refine obl rfl ?_
      have hi46 : a + i < L.length := by omega
      have hi47 : a + i < L.length := by omega
      obtain ⟨hc47, hd47, hok47⟩ := ho1.ev hi47
      rw [← getD_at default hi47] at hc47 hd47 hok47
      exact ov_indexAddrN (k := 10) (i := a + i) Try.underlying22 Try.sizeOf29 (show _ = (vv : Value) from e14) ho1.isSl (show _ = (.int .i64 ((a + i : Nat) : Int) : Value) from e17) hi46 ⟨hW44, rfl⟩
    · intro vals w21 hW48 hA
      have hW48 : Ext w1 w21 := hW48
      have hs49 := hW48.size
      have e18 : (vals 18) = (.pointer (some ⟨sb vv, so vv + (a + i) * 10, none⟩) : Value) := hA 18 (by decide)
      refine obl rfl ?_
      have hi50 : a + i < L.length := by omega
      obtain ⟨hc50, hd50, hok50⟩ := ho1.ev hi50
      rw [← getD_at default hi50] at hc50 hd50 hok50
      have h51 := hc50.mono (fun hb => hW48.block _ hb (fun h => h))
      exact ov_loadk (k := 10) Try.isAgg29 Try.sizeOf29 rfl (show _ = (.pointer (some ⟨sb vv, so vv + (a + i) * 10, none⟩) : Value) from e18) h51 ⟨hW48, rfl⟩
    · intro vals w22 hW52 hA
      have hW52 : Ext w1 w22 := hW52
      have hs53 := hW52.size
      have e0 : (vals 0) = (vv : Value) := hA 0 (by decide)
      have e3 : (vals 3) = (.int .i64 ((a + i : Nat) : Int) : Value) := hA 3 (by decide)
      refine obl rfl ?_
      have hi54 : a + i < L.length := by omega
      exact ov_indexAddrN (k := 10) (i := a + i) Try.underlying22 Try.sizeOf29 (show _ = (vv : Value) from e0) ho1.isSl (show _ = (.int .i64 ((a + i : Nat) : Int) : Value) from e3) hi54 ⟨hW52, rfl⟩
    · intro vals w23 hW55 hA
      have hW55 : Ext w1 w23 := hW55
      have hs56 := hW55.size
      have e13 : (vals 13) = (.agg ((L.getD (b + i) default).cells (cellV w1 (sb vv) (so vv + (b + i) * 10 + 3))).toArray : Value) := hA 13 (by decide)
      have e20 : (vals 20) = (.pointer (some ⟨sb vv, so vv + (a + i) * 10, none⟩) : Value) := hA 20 (by decide)
      refine obl rfl ?_
      have hi57 : b + i < L.length := by omega
      obtain ⟨hc57, hd57, hok57⟩ := ho1.ev hi57
      rw [← getD_at default hi57] at hc57 hd57 hok57
      have h58 := ho1.ext hW55
      have h59 := hd57.ext hW55
      exact ov_storeOwn (i := (a + i)) (u := .agg ((L.getD (b + i) default).cells (cellV w1 (sb vv) (so vv + (b + i) * 10 + 3))).toArray) Try.sizeOf29 h58 (by first | omega | (simp only [List.length_set]; omega)) (show _ = (.pointer (some ⟨sb vv, so vv + (a + i) * 10, none⟩) : Value) from e20) (show _ = (.agg ((L.getD (b + i) default).cells (cellV w1 (sb vv) (so vv + (b + i) * 10 + 3))).toArray : Value) from e13) rfl (show Rep.rd _ _ _ (L.getD (b + i) default) from ⟨_, rfl, h59, hok57⟩) (fun _ ho hch => ⟨⟨ho, (Chg.trans (Chg.ext _ hW55) hch)⟩, trivial⟩)
    · intro vals w24 hW60 hA
      have e4 : (vals 4) = (vv : Value) := hA 4 (by decide)
      have e7 : (vals 7) = (.int .i64 ((b + i : Nat) : Int) : Value) := hA 7 (by decide)
      refine obl rfl ?_
      have hi61 : b + i < L.length := by omega
      exact ov_indexAddrN (k := 10) (i := b + i) Try.underlying22 Try.sizeOf29 (show _ = (vv : Value) from e4) ho1.isSl (show _ = (.int .i64 ((b + i : Nat) : Int) : Value) from e7) hi61 ⟨rfl, rfl⟩
    · intro vals w25 hW62 hA
      have hW62 : OwnS 29 lo w25 F vv (L.set (a + i) (L.getD (b + i) default)) ∧ Chg (fun i => vv.ownBlock = some i) w1 w25 := hW62
      have e19 : (vals 19) = (.agg ((L.getD (a + i) default).cells (cellV w1 (sb vv) (so vv + (a + i) * 10 + 3))).toArray : Value) := hA 19 (by decide)
      have e22 : (vals 22) = (.pointer (some ⟨sb vv, so vv + (b + i) * 10, none⟩) : Value) := hA 22 (by decide)
      refine obl rfl ?_
      have hi63 : a + i < L.length := by omega
      obtain ⟨hc63, hd63, hok63⟩ := ho1.ev hi63
      rw [← getD_at default hi63] at hc63 hd63 hok63
      have h64 := hd63.own ho1 hW62.2
      exact ov_storeOwn (i := (b + i)) (u := .agg ((L.getD (a + i) default).cells (cellV w1 (sb vv) (so vv + (a + i) * 10 + 3))).toArray) Try.sizeOf29 hW62.1 (by first | omega | (simp only [List.length_set]; omega)) (show _ = (.pointer (some ⟨sb vv, so vv + (b + i) * 10, none⟩) : Value) from e22) (show _ = (.agg ((L.getD (a + i) default).cells (cellV w1 (sb vv) (so vv + (a + i) * 10 + 3))).toArray : Value) from e19) rfl (show Rep.rd _ _ _ (L.getD (a + i) default) from ⟨_, rfl, h64, hok63⟩) (fun _ ho hch => ⟨⟨ho, (Chg.trans hW62.2 hch)⟩, trivial⟩)
    intro vals w26 hW65 hA
    have hW65 : OwnS 29 lo w26 F vv ((L.set (a + i) (L.getD (b + i) default)).set (b + i) (L.getD (a + i) default)) ∧ Chg (fun i => vv.ownBlock = some i) w1 w26 := hW65
    have hs66 := hW65.2.size
    refine st_env (kv := [(0, vv), (1, .int .i64 ((a : Nat) : Int)), (2, .int .i64 ((b : Nat) : Int)), (3, .int .i64 ((n : Nat) : Int)), (4, .func (.func 39) #[] #[.pointer (some ⟨cb, 0, none⟩)]), (10, .int .i64 ((i : Nat) : Int)), (11, .int .i64 ((i : Nat) : Int)), (12, .int .i64 ((n : Nat) : Int)), (13, .bool true)]) ⟨rfl, rfl, rfl, rfl, rfl, rfl, rfl, rfl, rfl, trivial⟩ (fun ρ26 => ?_)
    clear hA 
    refine st_nil ?_
    refine WP_region0 (by kernel_rfl) (fun _ => ?_)
    refine st (ov_move (v := .int .i64 ((i : Nat) : Int)) rfl ?_)
    have hr67 : InR ((i + 1 : Nat) : Int) := by omega
    refine st (ov_add (r := ((i + 1 : Nat) : Int)) (k := .i64) (a := ((i : Nat) : Int)) (b := 1) rfl rfl (by rw [show (((i : Nat) : Int) + 1 : Int) = ((i + 1 : Nat) : Int) by omega]; exact wrap_in hr67) ?_)
    refine st (ov_assign (v := .int .i64 ((i + 1 : Nat) : Int)) rfl ?_)
    refine st_nil ?_
    exact ⟨_, by omega, i + 1, (L.set (a + i) (L.getD (b + i) default)).set (b + i) (L.getD (a + i) default), _, rfl, setAll_self ⟨rfl, rfl, rfl, rfl, rfl, rfl, trivial⟩, (Chg.trans hx hW65.2), hW65.1, by omega, by simp only [List.length_set]; exact hl1, (by rw [← hin, show n - i = (n - (i + 1)) + 1 by omega, swapR]; rfl)⟩

theorem C_rot {w : World} {lo : Nat} {F : Nat → Prop} {vv : Value} {l : List Ev} (ho : OwnS 29 lo w F vv l) {a : Nat} {md : Nat} {b : Nat} {cb : Nat} (hcb : w.heap[cb]? = some (.cells #[.func (.func 28) #[] #[]] 49)) (h1 : a < md) (h2 : md < b) (h3 : b ≤ l.length) (hne : vv.ownBlock ≠ some cb) : Ret Try.prog 44 [vv, .int .i64 ((a : Nat) : Int), .int .i64 ((md : Nat) : Int), .int .i64 ((b : Nat) : Int), .func (.func 39) #[] #[.pointer (some ⟨cb, 0, none⟩)]] w (fun r w' => r = .tuple #[] ∧ OwnS 29 lo w' F vv (rotL md (b - a) (md - a) (b - md) l) ∧ Chg (fun i => vv.ownBlock = some i) w w') := by
  have hsm0 : l.length * 96 ≤ 140737488355328 := ho.small
  refine Calls_of_WP (args := [vv, .int .i64 ((a : Nat) : Int), .int .i64 ((md : Nat) : Int), .int .i64 ((b : Nat) : Int), .func (.func 39) #[] #[.pointer (some ⟨cb, 0, none⟩)]]) Try.func44 rfl rfl ?_
  refine WP_seq ?_
  refine WP_region0 (by kernel_rfl) (fun _ => ?_)
  refine st (ov_move (v := .int .i64 ((md : Nat) : Int)) rfl ?_)
  refine st (ov_move (v := .int .i64 ((a : Nat) : Int)) rfl ?_)
  have hr1 : InR ((md - a : Nat) : Int) := by omega
  refine st (ov_sub (r := ((md - a : Nat) : Int)) (k := .i64) (a := ((md : Nat) : Int)) (b := ((a : Nat) : Int)) rfl rfl (by rw [show (((md : Nat) : Int) - ((a : Nat) : Int) : Int) = ((md - a : Nat) : Int) by omega]; exact wrap_in hr1) ?_)
  refine st (ov_assign (v := .int .i64 ((md - a : Nat) : Int)) rfl ?_)
  refine st_nil ?_
  refine WP_seq ?_
  refine WP_region0 (by kernel_rfl) (fun _ => ?_)
  refine st (ov_move (v := .int .i64 ((b : Nat) : Int)) rfl ?_)
  refine st (ov_move (v := .int .i64 ((md : Nat) : Int)) rfl ?_)
  have hr2 : InR ((b - md : Nat) : Int) := by omega
  refine st (ov_sub (r := ((b - md : Nat) : Int)) (k := .i64) (a := ((b : Nat) : Int)) (b := ((md : Nat) : Int)) rfl rfl (by rw [show (((b : Nat) : Int) - ((md : Nat) : Int) : Int) = ((b - md : Nat) : Int) by omega]; exact wrap_in hr2) ?_)
  refine st (ov_assign (v := .int .i64 ((b - md : Nat) : Int)) rfl ?_)
  refine st_nil ?_
  refine WP_seq ?_
  refine WP_block ?_
  refine WP_loop (fun m σ wq => ∃ (i : Nat) (j : Nat) (g : Nat) (L : List Ev) (ρ : Env), m = i + j ∧ σ = setAll ρ [(0, vv), (1, .int .i64 ((a : Nat) : Int)), (2, .int .i64 ((md : Nat) : Int)), (3, .int .i64 ((b : Nat) : Int)), (4, .func (.func 39) #[] #[.pointer (some ⟨cb, 0, none⟩)]), (10, .int .i64 ((i : Nat) : Int)), (11, .int .i64 ((j : Nat) : Int))] ∧ (Chg (fun i => vv.ownBlock = some i) w wq) ∧ (OwnS 29 lo wq F vv L) ∧ (wq.heap[cb]? = some (.cells #[.func (.func 28) #[] #[]] 49)) ∧ (1 ≤ i) ∧ (i ≤ md) ∧ (1 ≤ j) ∧ (md + j ≤ l.length) ∧ (i + j ≤ g) ∧ (L.length = l.length) ∧ (rotL md g i j L = rotL md (b - a) (md - a) (b - md) l)) ⟨md - a, b - md, b - a, l, _, rfl, setAll_self ⟨rfl, rfl, rfl, rfl, rfl, rfl, rfl, trivial⟩, (Chg.refl _ _), ho, hcb, by omega, by omega, by omega, by omega, by omega, rfl, rfl⟩ ?_
  rintro m3 σ4 w1 ⟨i, j, g, L, ρ1, rfl, rfl, hx, ho1, hcb1, hi1, hi2, hj1, hj2, hg, hl1, hin⟩
  have hxs := hx.size
  have hsm : L.length * 96 ≤ 140737488355328 := ho1.small
  refine WP_seq ?_
  refine WP_seq ?_
  refine WP_region0 (by kernel_rfl) (fun _ => ?_)
  refine st (ov_move (v := .int .i64 ((i : Nat) : Int)) rfl ?_)
  refine st (ov_move (v := .int .i64 ((j : Nat) : Int)) rfl ?_)
  refine st (ov_neq (k := .i64) (a := ((i : Nat) : Int)) (b := ((j : Nat) : Int)) rfl rfl ?_)
  refine st_nil ?_
  cases hc5 : !decide (((i : Nat) : Int) = ((j : Nat) : Int))
  · skip
    have hc5 := ndec_false hc5
    refine WP_cond_f rfl ?_
    refine WP_exit ?_
    refine blk_exit ?_
    refine WP_region0 (by kernel_rfl) (fun _ => ?_)
    refine st (ov_move (v := vv) rfl ?_)
    refine st (ov_move (v := .int .i64 ((md : Nat) : Int)) rfl ?_)
    refine st (ov_move (v := .int .i64 ((i : Nat) : Int)) rfl ?_)
    have hr6 : InR ((md - i : Nat) : Int) := by omega
    refine st (ov_sub (r := ((md - i : Nat) : Int)) (k := .i64) (a := ((md : Nat) : Int)) (b := ((i : Nat) : Int)) rfl rfl (by rw [show (((md : Nat) : Int) - ((i : Nat) : Int) : Int) = ((md - i : Nat) : Int) by omega]; exact wrap_in hr6) ?_)
    refine st (ov_move (v := .int .i64 ((md : Nat) : Int)) rfl ?_)
    refine st (ov_move (v := .int .i64 ((i : Nat) : Int)) rfl ?_)
    refine st (ov_move (v := .func (.func 39) #[] #[.pointer (some ⟨cb, 0, none⟩)]) rfl ?_)
    refine st (ov_call (f := 45) (vals := [vv, .int .i64 ((md - i : Nat) : Int), .int .i64 ((md : Nat) : Int), .int .i64 ((i : Nat) : Int), .func (.func 39) #[] #[.pointer (some ⟨cb, 0, none⟩)]]) (cap := []) (show _ = (.func (.func 45) #[] #[] : Value) from rfl) rfl Try.call45 (C_swapR (a := md - i) (b := md) (n := i) ho1 hcb1 (by omega) (by omega) hne) ?_)
    rintro _ w2 ⟨rfl, ho8, hch7⟩
    have hch7s := hch7.size
    have h9 := hch7.keep hcb1 (fun e => hne e)
    refine st_nil ?_
    refine fin0 Try.results44 ?_
    refine ⟨rfl, ?_, (Chg.trans hx hch7)⟩
    rw [← hin, rotL_eq (by omega)]
    exact ho8
  · skip
    have hc5 := ndec_true hc5
    refine WP_cond_t rfl ?_
    refine WP_skip ?_
    refine WP_block ?_
    refine WP_seq ?_
    refine WP_region0 (by kernel_rfl) (fun _ => ?_)
    refine st (ov_move (v := .int .i64 ((i : Nat) : Int)) rfl ?_)
    refine st (ov_move (v := .int .i64 ((j : Nat) : Int)) rfl ?_)
    refine st (ov_gtr (k := .i64) (a := ((i : Nat) : Int)) (b := ((j : Nat) : Int)) rfl rfl ?_)
    refine st_nil ?_
    cases hc10 : decide (((j : Nat) : Int) < ((i : Nat) : Int))
    · skip
      have hc10 := of_decide_eq_false hc10
      refine WP_cond_f rfl ?_
      refine WP_seq ?_
      refine WP_region0 (by kernel_rfl) (fun _ => ?_)
      refine st (ov_move (v := vv) rfl ?_)
      refine st (ov_move (v := .int .i64 ((md : Nat) : Int)) rfl ?_)
      refine st (ov_move (v := .int .i64 ((i : Nat) : Int)) rfl ?_)
      have hr11 : InR ((md - i : Nat) : Int) := by omega
      refine st (ov_sub (r := ((md - i : Nat) : Int)) (k := .i64) (a := ((md : Nat) : Int)) (b := ((i : Nat) : Int)) rfl rfl (by rw [show (((md : Nat) : Int) - ((i : Nat) : Int) : Int) = ((md - i : Nat) : Int) by omega]; exact wrap_in hr11) ?_)
      refine st (ov_move (v := .int .i64 ((md : Nat) : Int)) rfl ?_)
      refine st (ov_move (v := .int .i64 ((j : Nat) : Int)) rfl ?_)
      have hr12 : InR ((md + j : Nat) : Int) := by omega
      refine st (ov_add (r := ((md + j : Nat) : Int)) (k := .i64) (a := ((md : Nat) : Int)) (b := ((j : Nat) : Int)) rfl rfl (by rw [show (((md : Nat) : Int) + ((j : Nat) : Int) : Int) = ((md + j : Nat) : Int) by omega]; exact wrap_in hr12) ?_)
      refine st (ov_move (v := .int .i64 ((i : Nat) : Int)) rfl ?_)
      have hr13 : InR (((md + j) - i : Nat) : Int) := by omega
      refine st (ov_sub (r := (((md + j) - i : Nat) : Int)) (k := .i64) (a := ((md + j : Nat) : Int)) (b := ((i : Nat) : Int)) rfl rfl (by rw [show (((md + j : Nat) : Int) - ((i : Nat) : Int) : Int) = (((md + j) - i : Nat) : Int) by omega]; exact wrap_in hr13) ?_)
      refine st (ov_move (v := .int .i64 ((i : Nat) : Int)) rfl ?_)
      refine st (ov_move (v := .func (.func 39) #[] #[.pointer (some ⟨cb, 0, none⟩)]) rfl ?_)
      refine st (ov_call (f := 45) (vals := [vv, .int .i64 ((md - i : Nat) : Int), .int .i64 (((md + j) - i : Nat) : Int), .int .i64 ((i : Nat) : Int), .func (.func 39) #[] #[.pointer (some ⟨cb, 0, none⟩)]]) (cap := []) (show _ = (.func (.func 45) #[] #[] : Value) from rfl) rfl Try.call45 (C_swapR (a := md - i) (b := (md + j) - i) (n := i) ho1 hcb1 (by omega) (by omega) hne) ?_)
      rintro _ w3 ⟨rfl, ho15, hch14⟩
      have hch14s := hch14.size
      have h16 := hch14.keep hcb1 (fun e => hne e)
      refine st_nil ?_
      refine WP_region0 (by kernel_rfl) (fun _ => ?_)
      refine st (ov_move (v := .int .i64 ((j : Nat) : Int)) rfl ?_)
      refine st (ov_move (v := .int .i64 ((i : Nat) : Int)) rfl ?_)
      have hr17 : InR ((j - i : Nat) : Int) := by omega
      refine st (ov_sub (r := ((j - i : Nat) : Int)) (k := .i64) (a := ((j : Nat) : Int)) (b := ((i : Nat) : Int)) rfl rfl (by rw [show (((j : Nat) : Int) - ((i : Nat) : Int) : Int) = ((j - i : Nat) : Int) by omega]; exact wrap_in hr17) ?_)
      refine st (ov_assign (v := .int .i64 ((j - i : Nat) : Int)) rfl ?_)
      refine st_nil ?_
      exact ⟨_, by omega, i, j - i, g - 1, swapR (md - i) ((md + j) - i) (i) 0 (L), _, rfl, setAll_self ⟨rfl, rfl, rfl, rfl, rfl, rfl, rfl, trivial⟩, (Chg.trans hx hch14), ho15, h16, by omega, by omega, by omega, by omega, by omega, by rw [swapR_length]; exact hl1, (by rw [← hin]; first | exact (rotL_gt (by omega) (by omega)).symm | exact (rotL_lt (by omega) (by omega)).symm)⟩
    · skip
      have hc10 := of_decide_eq_true hc10
      refine WP_cond_t rfl ?_
      refine WP_seq ?_
      refine WP_region0 (by kernel_rfl) (fun _ => ?_)
      refine st (ov_move (v := vv) rfl ?_)
      refine st (ov_move (v := .int .i64 ((md : Nat) : Int)) rfl ?_)
      refine st (ov_move (v := .int .i64 ((i : Nat) : Int)) rfl ?_)
      have hr18 : InR ((md - i : Nat) : Int) := by omega
      refine st (ov_sub (r := ((md - i : Nat) : Int)) (k := .i64) (a := ((md : Nat) : Int)) (b := ((i : Nat) : Int)) rfl rfl (by rw [show (((md : Nat) : Int) - ((i : Nat) : Int) : Int) = ((md - i : Nat) : Int) by omega]; exact wrap_in hr18) ?_)
      refine st (ov_move (v := .int .i64 ((md : Nat) : Int)) rfl ?_)
      refine st (ov_move (v := .int .i64 ((j : Nat) : Int)) rfl ?_)
      refine st (ov_move (v := .func (.func 39) #[] #[.pointer (some ⟨cb, 0, none⟩)]) rfl ?_)
      refine st (ov_call (f := 45) (vals := [vv, .int .i64 ((md - i : Nat) : Int), .int .i64 ((md : Nat) : Int), .int .i64 ((j : Nat) : Int), .func (.func 39) #[] #[.pointer (some ⟨cb, 0, none⟩)]]) (cap := []) (show _ = (.func (.func 45) #[] #[] : Value) from rfl) rfl Try.call45 (C_swapR (a := md - i) (b := md) (n := j) ho1 hcb1 (by omega) (by omega) hne) ?_)
      rintro _ w4 ⟨rfl, ho20, hch19⟩
      have hch19s := hch19.size
      have h21 := hch19.keep hcb1 (fun e => hne e)
      refine st_nil ?_
      refine WP_region0 (by kernel_rfl) (fun _ => ?_)
      refine st (ov_move (v := .int .i64 ((i : Nat) : Int)) rfl ?_)
      refine st (ov_move (v := .int .i64 ((j : Nat) : Int)) rfl ?_)
      have hr22 : InR ((i - j : Nat) : Int) := by omega
      refine st (ov_sub (r := ((i - j : Nat) : Int)) (k := .i64) (a := ((i : Nat) : Int)) (b := ((j : Nat) : Int)) rfl rfl (by rw [show (((i : Nat) : Int) - ((j : Nat) : Int) : Int) = ((i - j : Nat) : Int) by omega]; exact wrap_in hr22) ?_)
      refine st (ov_assign (v := .int .i64 ((i - j : Nat) : Int)) rfl ?_)
      refine st_nil ?_
      exact ⟨_, by omega, i - j, j, g - 1, swapR (md - i) (md) (j) 0 (L), _, rfl, setAll_self ⟨rfl, rfl, rfl, rfl, rfl, rfl, rfl, trivial⟩, (Chg.trans hx hch19), ho20, h21, by omega, by omega, by omega, by omega, by omega, by rw [swapR_length]; exact hl1, (by rw [← hin]; first | exact (rotL_gt (by omega) (by omega)).symm | exact (rotL_lt (by omega) (by omega)).symm)⟩

end Go.Proofs.Ytbbhpddgjiifmaa
