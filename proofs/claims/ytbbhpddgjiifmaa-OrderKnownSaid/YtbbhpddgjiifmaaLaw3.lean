/- Steps of the proofs of this seat: part Law3. -/
import Derived.Test.YtbbhpddgjiifmaaKit3
set_option linter.unusedSimpArgs false
set_option linter.unusedVariables false
namespace Go.Proofs.Ytbbhpddgjiifmaa
open Go.Proofs Go.RowKit

set_option maxHeartbeats 4000000 in
theorem C_OrderTells {w : World} {Fl : Nat → Prop} {vl : Value} {l : List Ev} (hl : RdS w Fl vl l) : Ret Try.prog 3 [vl] w (fun r w' => r = .bool true ∧ Ext w w') := by
  have hls : l.length * 96 ≤ 140737488355328 := hl.small
  refine Calls_of_WP (args := [vl]) Try.func3 rfl rfl ?_
  refine WP_seq ?_
  refine WP_region0 (by kernel_rfl) (fun _ => ?_)
  refine st (ov_assign (v := .bool false) rfl ?_)
  refine st_nil ?_
  refine WP_seq ?_
  refine WP_seq ?_
  refine WP_region0 (by kernel_rfl) (fun _ => ?_)
  refine st (ov_move (v := vl) rfl ?_)
  refine st (ov_call (f := 9) (vals := [vl]) (cap := []) (show _ = (.func (.func 9) #[] #[] : Value) from rfl) rfl Try.call9 (C_Long hl) ?_)
  rintro _ w1 ⟨bb1, rfl, hx2⟩
  have hx2s := hx2.size
  refine st_nil ?_
  cases hc3 : bb1
  · skip
    refine WP_cond_f rfl ?_
    refine WP_skip ?_
    refine WP_seq ?_
    refine WP_seq ?_
    refine WP_region0 (by kernel_rfl) (fun _ => ?_)
    refine st (ov_assign (v := .int .i64 (0)) rfl ?_)
    refine st_nil ?_
    refine WP_block ?_
    refine WP_loop (fun m σ wq => ∃ (i : Nat) (ρ : Env), m = l.length - i ∧ σ = setAll ρ [(0, vl), (3, .int .i64 ((i : Nat) : Int))] ∧ (Ext w1 wq) ∧ (i ≤ l.length)) ⟨0, _, rfl, setAll_self ⟨rfl, rfl, trivial⟩, (Chg.refl _ _), Nat.zero_le _⟩ ?_
    rintro m6 σ7 w2 ⟨i, ρ2, rfl, rfl, hx4, hk5⟩
    have hx4s := hx4.size
    refine WP_seq ?_
    refine WP_seq ?_
    refine WP_region (by kernel_rfl) ?_
    refine st (ov_move (v := .int .i64 ((i : Nat) : Int)) rfl ?_)
    refine st (ov_move (v := vl) rfl ?_)
    refine st (ov_len (n := l.length) Try.underlying22 rfl hl.sl ?_)
    refine st (ov_lss (k := .i64) (a := ((i : Nat) : Int)) (b := ((l.length : Nat) : Int)) rfl rfl ?_)
    refine st (ov_move (v := .bool (decide (((i : Nat) : Int) < ((l.length : Nat) : Int)))) rfl ?_)
    refine stc (V := .int .i64 ((i : Nat) : Int)) rfl rfl (fun hb8 => ?_) ?_
    · have hl9 : (decide (((i : Nat) : Int) < ((l.length : Nat) : Int))) = true := hb8
      have hl9 := of_decide_eq_true hl9
      exact ov_move (v := .int .i64 ((i : Nat) : Int)) rfl ⟨rfl, rfl⟩
    refine stc (V := .bool (decide (((i : Nat) : Int) < 12))) rfl rfl (fun hb10 => ?_) ?_
    · have hl11 : (decide (((i : Nat) : Int) < ((l.length : Nat) : Int))) = true := hb10
      have hl11 := of_decide_eq_true hl11
      exact ov_lss (k := .i64) (a := ((i : Nat) : Int)) (b := 12) (show _ = (.int .i64 ((i : Nat) : Int) : Value) from (if_pos hb10)) rfl ⟨rfl, rfl⟩
    refine st (ov_pick_and (b := decide (((i : Nat) : Int) < ((l.length : Nat) : Int))) (b' := decide (((i : Nat) : Int) < 12)) rfl (fun hbp => (show _ = (.bool (decide (((i : Nat) : Int) < 12)) : Value) from (if_pos hbp))) ?_)
    refine st_nil ?_
    cases hc12 : (decide (((i : Nat) : Int) < ((l.length : Nat) : Int))) && (decide (((i : Nat) : Int) < 12))
    · skip
      simp only [Bool.and_eq_true, Bool.or_eq_true, Bool.and_eq_false_iff, Bool.or_eq_false_iff, decide_eq_true_eq, decide_eq_false_iff_not, Bool.not_eq_true', Bool.not_eq_false', Int.not_lt, Int.not_le] at hc12
      refine WP_cond_f rfl ?_
      refine WP_exit ?_
      refine blk_exit ?_
      refine WP_seq ?_
      refine WP_region0 (by kernel_rfl) (fun _ => ?_)
      refine st (ov_move (v := vl) rfl ?_)
      have h13 := hl.ext (Chg.trans hx2 hx4)
      refine st (ov_call (f := 17) (vals := [vl]) (cap := []) (show _ = (.func (.func 17) #[] #[] : Value) from rfl) rfl Try.call17 (C_CopyEvents h13) ?_)
      rintro v16 w3 ⟨hx14, hf15⟩
      have hx14s := hx14.size
      have hf15r := hf15.rd
      refine st (ov_assign (v := v16) rfl ?_)
      refine st_nil ?_
      refine WP_seq ?_
      refine WP_region0 (by kernel_rfl) (fun _ => ?_)
      refine st (ov_move (v := v16) rfl ?_)
      refine st (ov_call (f := 18) (vals := [v16]) (cap := []) (show _ = (.func (.func 18) #[] #[] : Value) from rfl) rfl Try.call18 (C_SortS hf15r) ?_)
      rintro v19 w4 ⟨hx17, hf18⟩
      have hx17s := hx17.size
      have hf18r := hf18.rd
      refine st (ov_assign (v := v19) rfl ?_)
      refine st_nil ?_
      refine WP_seq ?_
      refine WP_seq ?_
      refine WP_region (by kernel_rfl) ?_
      refine st (ov_move (v := v19) rfl ?_)
      refine st (ov_move (v := vl) rfl ?_)
      have h20 := h13.ext (Chg.trans hx14 hx17)
      refine st (ov_call (f := 20) (vals := [vl]) (cap := []) (show _ = (.func (.func 20) #[] #[] : Value) from rfl) rfl Try.call20 (C_refSort h20) ?_)
      rintro v23 w5 ⟨hx21, hf22⟩
      have hx21s := hx21.size
      have hf22r := hf22.rd
      have h24 := hf18r.ext hx21
      refine st (ov_call (f := 19) (vals := [v19, v23]) (cap := []) (show _ = (.func (.func 19) #[] #[] : Value) from rfl) rfl Try.call19 (C_SameEvents h24 hf22r) ?_)
      rintro _ w6 ⟨rfl, hx25⟩
      have hx25s := hx25.size
      refine st (ov_not (a := decide ((srt l) = (srt l))) rfl ?_)
      refine st (ov_move (v := .bool (!(decide ((srt l) = (srt l))))) rfl ?_)
      refine stc (V := v16) rfl rfl (fun hb26 => ?_) ?_
      · have hl27 : (!(decide ((srt l) = (srt l)))) = false := hb26
        have hl27 := ndec_false hl27
        exact ov_move (v := v16) rfl ⟨rfl, rfl⟩
      refine stc (V := vl) rfl rfl (fun hb28 => ?_) ?_
      · have hl29 : (!(decide ((srt l) = (srt l)))) = false := hb28
        have hl29 := ndec_false hl29
        exact ov_move (v := vl) rfl ⟨rfl, rfl⟩
      refine stcw (V := .bool (decide (l = l))) Ext (Chg.refl _ _) rfl rfl (fun hb30 => ?_) (fun w7 hx34 => ?_)
      · have hl31 : (!(decide ((srt l) = (srt l)))) = false := hb30
        have hl31 := ndec_false hl31
        have h32 := hf15r.ext (Chg.trans (Chg.trans hx17 hx21) hx25)
        have h33 := h20.ext (Chg.trans hx21 hx25)
        exact ov_call (f := 19) (vals := [v16, vl]) (cap := []) (show _ = (.func (.func 19) #[] #[] : Value) from rfl) (mapL ⟨(show _ = (v16 : Value) from (if_pos hb30)), (show _ = (vl : Value) from (if_pos hb30)), trivial⟩) Try.call19 (C_SameEvents h32 h33) (fun _ _ h => h)
      have hs35 := hx34.size
      refine stc (V := .bool (!(decide (l = l)))) rfl rfl (fun hb36 => ?_) ?_
      · have hl37 : (!(decide ((srt l) = (srt l)))) = false := hb36
        have hl37 := ndec_false hl37
        exact ov_not (a := decide (l = l)) (show _ = (.bool (decide (l = l)) : Value) from (if_pos hb36)) ⟨rfl, rfl⟩
      refine st (ov_pick_or (b := !(decide ((srt l) = (srt l)))) (b' := !(decide (l = l))) rfl (fun hbp => (show _ = (.bool (!(decide (l = l))) : Value) from (if_pos hbp))) ?_)
      refine st_nil ?_
      cases hc38 : (!(decide ((srt l) = (srt l)))) || (!(decide (l = l)))
      · skip
        simp only [Bool.and_eq_true, Bool.or_eq_true, Bool.and_eq_false_iff, Bool.or_eq_false_iff, decide_eq_true_eq, decide_eq_false_iff_not, Bool.not_eq_true', Bool.not_eq_false', Int.not_lt, Int.not_le] at hc38
        refine WP_cond_f rfl ?_
        refine WP_skip ?_
        refine WP_seq ?_
        refine WP_region0 (by kernel_rfl) (fun _ => ?_)
        refine st (ov_move (v := v19) rfl ?_)
        have h39 := hf18.ext (Chg.trans (Chg.trans hx21 hx25) hx34)
        refine st (ov_call (f := 21) (vals := [v19]) (cap := []) (show _ = (.func (.func 21) #[] #[] : Value) from rfl) rfl Try.call21 (C_SpoilEvents h39.rd (fun b hb => (Chg.trans (Chg.trans (Chg.trans hx17 hx21) hx25) hx34).soft b (fun hlt => by have hb : w3.heap.size ≤ b := hb; omega))) ?_)
        rintro _ w8 ⟨rfl, hM40⟩
        have hM40s := hM40.chg.size
        refine st_nil ?_
        refine WP_seq ?_
        refine WP_region (by kernel_rfl) ?_
        refine st (ov_move (v := v16) rfl ?_)
        refine st (ov_move (v := vl) rfl ?_)
        have h41 := hf15r.ext (Chg.new (Chg.trans (Chg.trans (Chg.trans hx17 hx21) hx25) hx34) hM40.chg (fun i hi hO => by have hO : w3.heap.size ≤ i := hO; omega))
        have h42 := h13.ext (Chg.new (Chg.trans (Chg.trans (Chg.trans (Chg.trans hx14 hx17) hx21) hx25) hx34) hM40.chg (fun i hi hO => by have hO : w3.heap.size ≤ i := hO; omega))
        refine st (ov_call (f := 19) (vals := [v16, vl]) (cap := []) (show _ = (.func (.func 19) #[] #[] : Value) from rfl) rfl Try.call19 (C_SameEvents h41 h42) ?_)
        rintro _ w9 ⟨rfl, hx43⟩
        have hx43s := hx43.size
        refine st (ov_move (v := .bool (decide (l = l))) rfl ?_)
        refine stcw (V := .bool true) Ext (Chg.refl _ _) rfl rfl (fun hb44 => ?_) (fun w10 hx46 => ?_)
        · have hl45 : (decide (l = l)) = true := hb44
          have hl45 := of_decide_eq_true hl45
          exact ov_call (f := 10) (vals := []) (cap := []) (show _ = (.func (.func 10) #[] #[] : Value) from rfl) rfl Try.call10 (C_works ) (fun _ _ h => h)
        have hs47 := hx46.size
        refine st (ov_pick_and (b := decide (l = l)) (b' := true) rfl (fun hbp => (show _ = (.bool true : Value) from (if_pos hbp))) ?_)
        refine st (ov_assign (v := .bool ((decide (l = l)) && true)) rfl ?_)
        refine st_nil ?_
        refine WP_ret ?_
        refine fin1 Try.results3 (show _ = (.bool ((decide (l = l)) && true) : Value) from rfl) ?_
        refine ⟨?_, (Chg.trans (Chg.trans (Chg.new (Chg.trans (Chg.trans (Chg.trans (Chg.trans (Chg.trans (Chg.trans hx2 hx4) hx14) hx17) hx21) hx25) hx34) hM40.chg (fun i hi hO => by have hO : w3.heap.size ≤ i := hO; omega)) hx43) hx46)⟩
        first | rfl | simp
      · skip
        simp only [Bool.and_eq_true, Bool.or_eq_true, Bool.and_eq_false_iff, Bool.or_eq_false_iff, decide_eq_true_eq, decide_eq_false_iff_not, Bool.not_eq_true', Bool.not_eq_false', Int.not_lt, Int.not_le] at hc38
        refine WP_cond_t rfl ?_
        refine WP_seq ?_
        refine WP_region0 (by kernel_rfl) (fun _ => ?_)
        refine st (ov_assign (v := .bool false) rfl ?_)
        refine st_nil ?_
        refine WP_ret ?_
        refine fin1 Try.results3 (show _ = (.bool false : Value) from rfl) ?_
        exfalso
        simp at hc38
    · skip
      simp only [Bool.and_eq_true, Bool.or_eq_true, Bool.and_eq_false_iff, Bool.or_eq_false_iff, decide_eq_true_eq, decide_eq_false_iff_not, Bool.not_eq_true', Bool.not_eq_false', Int.not_lt, Int.not_le] at hc12
      refine WP_cond_t rfl ?_
      refine WP_skip ?_
      refine WP_seq ?_
      refine WP_block ?_
      refine WP_seq ?_
      refine WP_region0 (by kernel_rfl) (fun _ => ?_)
      refine st (ov_assign (v := .int .i64 (0)) rfl ?_)
      refine st_nil ?_
      refine WP_block ?_
      refine WP_loop (fun m σ wq => ∃ (k : Nat) (ρ : Env), m = l.length - k ∧ σ = setAll ρ [(0, vl), (3, .int .i64 ((i : Nat) : Int)), (4, .int .i64 ((k : Nat) : Int))] ∧ (Ext w2 wq) ∧ (k ≤ l.length)) ⟨0, _, rfl, setAll_self ⟨rfl, rfl, rfl, trivial⟩, (Chg.refl _ _), Nat.zero_le _⟩ ?_
      rintro m50 σ51 w11 ⟨k, ρ11, rfl, rfl, hx48, hk49⟩
      have hx48s := hx48.size
      refine WP_seq ?_
      refine WP_seq ?_
      refine WP_region (by kernel_rfl) ?_
      refine st (ov_move (v := .int .i64 ((k : Nat) : Int)) rfl ?_)
      refine st (ov_move (v := vl) rfl ?_)
      refine st (ov_len (n := l.length) Try.underlying22 rfl hl.sl ?_)
      refine st (ov_lss (k := .i64) (a := ((k : Nat) : Int)) (b := ((l.length : Nat) : Int)) rfl rfl ?_)
      refine st (ov_move (v := .bool (decide (((k : Nat) : Int) < ((l.length : Nat) : Int)))) rfl ?_)
      refine stc (V := .int .i64 ((k : Nat) : Int)) rfl rfl (fun hb52 => ?_) ?_
      · have hl53 : (decide (((k : Nat) : Int) < ((l.length : Nat) : Int))) = true := hb52
        have hl53 := of_decide_eq_true hl53
        exact ov_move (v := .int .i64 ((k : Nat) : Int)) rfl ⟨rfl, rfl⟩
      refine stc (V := .bool (decide (((k : Nat) : Int) < 12))) rfl rfl (fun hb54 => ?_) ?_
      · have hl55 : (decide (((k : Nat) : Int) < ((l.length : Nat) : Int))) = true := hb54
        have hl55 := of_decide_eq_true hl55
        exact ov_lss (k := .i64) (a := ((k : Nat) : Int)) (b := 12) (show _ = (.int .i64 ((k : Nat) : Int) : Value) from (if_pos hb54)) rfl ⟨rfl, rfl⟩
      refine st (ov_pick_and (b := decide (((k : Nat) : Int) < ((l.length : Nat) : Int))) (b' := decide (((k : Nat) : Int) < 12)) rfl (fun hbp => (show _ = (.bool (decide (((k : Nat) : Int) < 12)) : Value) from (if_pos hbp))) ?_)
      refine st_nil ?_
      cases hc56 : (decide (((k : Nat) : Int) < ((l.length : Nat) : Int))) && (decide (((k : Nat) : Int) < 12))
      · skip
        simp only [Bool.and_eq_true, Bool.or_eq_true, Bool.and_eq_false_iff, Bool.or_eq_false_iff, decide_eq_true_eq, decide_eq_false_iff_not, Bool.not_eq_true', Bool.not_eq_false', Int.not_lt, Int.not_le] at hc56
        refine WP_cond_f rfl ?_
        refine WP_exit ?_
        refine blk_exit ?_
        refine WP_region0 (by kernel_rfl) (fun _ => ?_)
        refine st (ov_move (v := .int .i64 ((i : Nat) : Int)) rfl ?_)
        have hr57 : InR ((i + 1 : Nat) : Int) := by omega
        refine st (ov_add (r := ((i + 1 : Nat) : Int)) (k := .i64) (a := ((i : Nat) : Int)) (b := 1) rfl rfl (by rw [show (((i : Nat) : Int) + 1 : Int) = ((i + 1 : Nat) : Int) by omega]; exact wrap_in hr57) ?_)
        refine st (ov_assign (v := .int .i64 ((i + 1 : Nat) : Int)) rfl ?_)
        refine st_nil ?_
        exact ⟨_, by omega, i + 1, _, rfl, setAll_self ⟨rfl, rfl, trivial⟩, (Chg.trans hx4 hx48), by omega⟩
      · skip
        simp only [Bool.and_eq_true, Bool.or_eq_true, Bool.and_eq_false_iff, Bool.or_eq_false_iff, decide_eq_true_eq, decide_eq_false_iff_not, Bool.not_eq_true', Bool.not_eq_false', Int.not_lt, Int.not_le] at hc56
        refine WP_cond_t rfl ?_
        refine WP_skip ?_
        refine WP_seq ?_
        refine WP_block ?_
        refine WP_seq ?_
        refine WP_region0 (by kernel_rfl) (fun _ => ?_)
        refine st (ov_move (v := vl) rfl ?_)
        refine st (ov_move (v := .int .i64 ((i : Nat) : Int)) rfl ?_)
        have hi58 : i < l.length := by omega
        have h60 := hl.ext (Chg.trans (Chg.trans hx2 hx4) hx48)
        have hi59 : i < l.length := by omega
        obtain ⟨hc59, hd59, hok59⟩ := h60.ev hi59
        refine st (ov_indexAddrN (k := 10) (i := i) Try.underlying22 Try.sizeOf29 rfl hl.sl rfl hi58 ?_)
        refine st (ov_loadk (k := 10) Try.isAgg29 Try.sizeOf29 rfl rfl hc59 ?_)
        refine st (ov_alloc Try.zeroValue29 (fun w12 b62 hn61 => ?_))
        have hb63 : w12.heap[b62]? = some (.cells #[.int .i64 (0), .int .i64 (0), .int .i64 (0), (.slice none 0 0), .int .i64 (0), .int .i64 (0), .int .i64 (0), .int .i64 (0), .int .i64 (0), .int .i64 (0)] 29) := hn61.at_
        have hs64 := hn61.size; have hs64e := hn61.eq
        refine stn (ov_store (v := .agg ((l[i]).cells (cellV w11 (sb vl) (so vl + i * 10 + 3))).toArray) (c' := ((l[i]).cells (cellV w11 (sb vl) (so vl + i * 10 + 3))).toArray) Try.sizeOf29 rfl rfl hb63 (all1 ⟨rfl, rfl, rfl, hd59.sl.one, rfl, rfl, rfl, rfl, rfl, rfl, trivial⟩) (Nat.le_of_ble_eq_true rfl) rfl (fun w13 hp65 => ?_))
        have hs66 := hp65.size
        refine st_nil ?_
        refine WP_seq ?_
        refine WP_region0 (by kernel_rfl) (fun _ => ?_)
        refine st (ov_move (v := vl) rfl ?_)
        refine st (ov_move (v := .int .i64 ((k : Nat) : Int)) rfl ?_)
        have hi67 : k < l.length := by omega
        have h69 := h60.ext (Chg.new hn61.ext hp65.chg (fun i hi hO => by subst hO; omega))
        have hi68 : k < l.length := by omega
        obtain ⟨hc68, hd68, hok68⟩ := h69.ev hi68
        refine st (ov_indexAddrN (k := 10) (i := k) Try.underlying22 Try.sizeOf29 rfl h60.sl rfl hi67 ?_)
        refine st (ov_loadk (k := 10) Try.isAgg29 Try.sizeOf29 rfl rfl hc68 ?_)
        refine st (ov_alloc Try.zeroValue29 (fun w14 b71 hn70 => ?_))
        have hb72 : w14.heap[b71]? = some (.cells #[.int .i64 (0), .int .i64 (0), .int .i64 (0), (.slice none 0 0), .int .i64 (0), .int .i64 (0), .int .i64 (0), .int .i64 (0), .int .i64 (0), .int .i64 (0)] 29) := hn70.at_
        have hs73 := hn70.size; have hs73e := hn70.eq
        refine stn (ov_store (v := .agg ((l[k]).cells (cellV w13 (sb vl) (so vl + k * 10 + 3))).toArray) (c' := ((l[k]).cells (cellV w13 (sb vl) (so vl + k * 10 + 3))).toArray) Try.sizeOf29 rfl rfl hb72 (all1 ⟨rfl, rfl, rfl, hd68.sl.one, rfl, rfl, rfl, rfl, rfl, rfl, trivial⟩) (Nat.le_of_ble_eq_true rfl) rfl (fun w15 hp74 => ?_))
        have hs75 := hp74.size
        refine st_nil ?_
        refine WP_seq ?_
        refine WP_draw Ext (AL [fun v w => v = (.agg ((l[i]).cells (cellV w11 (sb vl) (so vl + i * 10 + 3))).toArray : Value), fun v w => v = (.agg ((l[k]).cells (cellV w13 (sb vl) (so vl + k * 10 + 3))).toArray : Value), fun v w => v = (.bool (before (l[i]) (l[k])) : Value), fun v w => v = (.agg ((l[i]).cells (cellV w11 (sb vl) (so vl + i * 10 + 3))).toArray : Value), fun v w => v = (.agg ((l[k]).cells (cellV w13 (sb vl) (so vl + k * 10 + 3))).toArray : Value), fun v w => v = (.bool (before (l[i]) (l[k])) : Value), fun v w => v = (.bool (!((before (l[i]) (l[k])) == (before (l[i]) (l[k])))) : Value), fun v w => v = (.bool (!((before (l[i]) (l[k])) == (before (l[i]) (l[k])))) : Value), fun v w => v = (if (!((before (l[i]) (l[k])) == (before (l[i]) (l[k])))) = false then (.agg ((l[i]).cells (cellV w11 (sb vl) (so vl + i * 10 + 3))).toArray : Value) else undef), fun v w => v = (if (!((before (l[i]) (l[k])) == (before (l[i]) (l[k])))) = false then (.agg ((l[k]).cells (cellV w13 (sb vl) (so vl + k * 10 + 3))).toArray : Value) else undef), fun v w => v = (if (!((before (l[i]) (l[k])) == (before (l[i]) (l[k])))) = false then (.bool (apart (l[i]) (l[k])) : Value) else undef), fun v w => v = (if (!((before (l[i]) (l[k])) == (before (l[i]) (l[k])))) = false then (.agg ((l[i]).cells (cellV w11 (sb vl) (so vl + i * 10 + 3))).toArray : Value) else undef), fun v w => v = (if (!((before (l[i]) (l[k])) == (before (l[i]) (l[k])))) = false then (.agg ((l[k]).cells (cellV w13 (sb vl) (so vl + k * 10 + 3))).toArray : Value) else undef), fun v w => v = (if (!((before (l[i]) (l[k])) == (before (l[i]) (l[k])))) = false then (.bool (apart (l[i]) (l[k])) : Value) else undef), fun v w => v = (if (!((before (l[i]) (l[k])) == (before (l[i]) (l[k])))) = false then (.bool (!((apart (l[i]) (l[k])) == (apart (l[i]) (l[k])))) : Value) else undef), fun v w => v = (.bool ((!((before (l[i]) (l[k])) == (before (l[i]) (l[k])))) || (!((apart (l[i]) (l[k])) == (apart (l[i]) (l[k]))))) : Value), fun v w => v = (.bool ((!((before (l[i]) (l[k])) == (before (l[i]) (l[k])))) || (!((apart (l[i]) (l[k])) == (apart (l[i]) (l[k]))))) : Value), fun v w => v = (if ((!((before (l[i]) (l[k])) == (before (l[i]) (l[k])))) || (!((apart (l[i]) (l[k])) == (apart (l[i]) (l[k]))))) = false then (.agg ((l[i]).cells (cellV w11 (sb vl) (so vl + i * 10 + 3))).toArray : Value) else undef), fun v w => v = (if ((!((before (l[i]) (l[k])) == (before (l[i]) (l[k])))) || (!((apart (l[i]) (l[k])) == (apart (l[i]) (l[k]))))) = false then (.agg ((l[k]).cells (cellV w13 (sb vl) (so vl + k * 10 + 3))).toArray : Value) else undef), fun v w => v = (if ((!((before (l[i]) (l[k])) == (before (l[i]) (l[k])))) || (!((apart (l[i]) (l[k])) == (apart (l[i]) (l[k]))))) = false then (.bool (less (l[i]) (l[k])) : Value) else undef), fun v w => v = (if ((!((before (l[i]) (l[k])) == (before (l[i]) (l[k])))) || (!((apart (l[i]) (l[k])) == (apart (l[i]) (l[k]))))) = false then (.agg ((l[i]).cells (cellV w11 (sb vl) (so vl + i * 10 + 3))).toArray : Value) else undef), fun v w => v = (if ((!((before (l[i]) (l[k])) == (before (l[i]) (l[k])))) || (!((apart (l[i]) (l[k])) == (apart (l[i]) (l[k]))))) = false then (.agg ((l[k]).cells (cellV w13 (sb vl) (so vl + k * 10 + 3))).toArray : Value) else undef), fun v w => v = (if ((!((before (l[i]) (l[k])) == (before (l[i]) (l[k])))) || (!((apart (l[i]) (l[k])) == (apart (l[i]) (l[k]))))) = false then (.bool (less (l[i]) (l[k])) : Value) else undef), fun v w => v = (if ((!((before (l[i]) (l[k])) == (before (l[i]) (l[k])))) || (!((apart (l[i]) (l[k])) == (apart (l[i]) (l[k]))))) = false then (.bool (!((less (l[i]) (l[k])) == (less (l[i]) (l[k])))) : Value) else undef), fun v w => v = (.bool (((!((before (l[i]) (l[k])) == (before (l[i]) (l[k])))) || (!((apart (l[i]) (l[k])) == (apart (l[i]) (l[k]))))) || (!((less (l[i]) (l[k])) == (less (l[i]) (l[k]))))) : Value)]) [[], [], [0, 1], [], [], [0, 1, 2, 3, 4], [0, 1, 2, 3, 4, 5], [0, 1, 2, 3, 4, 5, 6], [0, 1, 2, 3, 4, 5, 6, 7], [0, 1, 2, 3, 4, 5, 6, 7], [0, 1, 2, 3, 4, 5, 6, 7, 8, 9], [0, 1, 2, 3, 4, 5, 6, 7], [0, 1, 2, 3, 4, 5, 6, 7], [0, 1, 2, 3, 4, 5, 6, 7, 8, 9, 10, 11, 12], [0, 1, 2, 3, 4, 5, 6, 7, 8, 9, 10, 11, 12, 13], [0, 1, 2, 3, 4, 5, 6, 7, 8, 9, 10, 11, 12, 13, 14], [0, 1, 2, 3, 4, 5, 6, 7, 8, 9, 10, 11, 12, 13, 14, 15], [0, 1, 2, 3, 4, 5, 6, 7, 8, 9, 10, 11, 12, 13, 14, 15, 16], [0, 1, 2, 3, 4, 5, 6, 7, 8, 9, 10, 11, 12, 13, 14, 15, 16], [0, 1, 2, 3, 4, 5, 6, 7, 8, 9, 10, 11, 12, 13, 14, 15, 16, 17, 18], [0, 1, 2, 3, 4, 5, 6, 7, 8, 9, 10, 11, 12, 13, 14, 15, 16], [0, 1, 2, 3, 4, 5, 6, 7, 8, 9, 10, 11, 12, 13, 14, 15, 16], [0, 1, 2, 3, 4, 5, 6, 7, 8, 9, 10, 11, 12, 13, 14, 15, 16, 17, 18, 19, 20, 21], [0, 1, 2, 3, 4, 5, 6, 7, 8, 9, 10, 11, 12, 13, 14, 15, 16, 17, 18, 19, 20, 21, 22], [0, 1, 2, 3, 4, 5, 6, 7, 8, 9, 10, 11, 12, 13, 14, 15, 16, 17, 18, 19, 20, 21, 22, 23]] 25 (by kernel_rfl) (by kernel_rfl) (by kernel_rfl) (fun w => Chg.refl _ w) (fun _ _ _ h1 h2 => h1.trans h2) (stabL ⟨fun _ _ _ _ h => h, fun _ _ _ _ h => h, fun _ _ _ _ h => h, fun _ _ _ _ h => h, fun _ _ _ _ h => h, fun _ _ _ _ h => h, fun _ _ _ _ h => h, fun _ _ _ _ h => h, fun _ _ _ _ h => h, fun _ _ _ _ h => h, fun _ _ _ _ h => h, fun _ _ _ _ h => h, fun _ _ _ _ h => h, fun _ _ _ _ h => h, fun _ _ _ _ h => h, fun _ _ _ _ h => h, fun _ _ _ _ h => h, fun _ _ _ _ h => h, fun _ _ _ _ h => h, fun _ _ _ _ h => h, fun _ _ _ _ h => h, fun _ _ _ _ h => h, fun _ _ _ _ h => h, fun _ _ _ _ h => h, fun _ _ _ _ h => h, trivial⟩) ?_
        intro w16 qh1 qh2 qh3 qh4
        have hx76 := ext_same qh1 qh2 qh3 qh4
        refine ⟨⟨?_, ?_, ?_, ?_, ?_, ?_, ?_, ?_, ?_, ?_, ?_, ?_, ?_, ?_, ?_, ?_, ?_, ?_, ?_, ?_, ?_, ?_, ?_, ?_, ?_, trivial⟩, ?_⟩
        · intro vals w17 hR77 hA
          have hs78 := hR77.size
          refine obl rfl ?_
          have h79 := (Chg.trans (Chg.trans (Chg.new hn70.ext hp74.chg (fun i hi hO => by subst hO; omega)) hx76) hR77).keep hp65.at_ (fun h => h)
          exact ov_loadk (k := 10) Try.isAgg29 Try.sizeOf29 rfl rfl (CellsAt.all h79) ⟨Chg.refl _ _, rfl⟩
        · intro vals w18 hR80 hA
          have hs81 := hR80.size
          refine obl rfl ?_
          have h82 := (Chg.trans hx76 hR80).keep hp74.at_ (fun h => h)
          exact ov_loadk (k := 10) Try.isAgg29 Try.sizeOf29 rfl rfl (CellsAt.all h82) ⟨Chg.refl _ _, rfl⟩
        · intro vals w19 hR83 hA
          have hs84 := hR83.size
          have e0 : (vals 0) = (.agg ((l[i]).cells (cellV w11 (sb vl) (so vl + i * 10 + 3))).toArray : Value) := hA 0 (by decide)
          have e1 : (vals 1) = (.agg ((l[k]).cells (cellV w13 (sb vl) (so vl + k * 10 + 3))).toArray : Value) := hA 1 (by decide)
          refine obl rfl ?_
          have h85 := hd59.ext (Chg.trans (Chg.trans (Chg.new (Chg.trans (Chg.new hn61.ext hp65.chg (fun i hi hO => by subst hO; omega)) hn70.ext) hp74.chg (fun i hi hO => by subst hO; omega)) hx76) hR83)
          have h86 := hd68.ext (Chg.trans (Chg.trans (Chg.new hn70.ext hp74.chg (fun i hi hO => by subst hO; omega)) hx76) hR83)
          exact ov_call (f := 11) (vals := [.agg ((l[i]).cells (cellV w11 (sb vl) (so vl + i * 10 + 3))).toArray, .agg ((l[k]).cells (cellV w13 (sb vl) (so vl + k * 10 + 3))).toArray]) (cap := []) (show _ = (.func (.func 11) #[] #[] : Value) from rfl) (mapL ⟨(show _ = (.agg ((l[i]).cells (cellV w11 (sb vl) (so vl + i * 10 + 3))).toArray : Value) from e0), (show _ = (.agg ((l[k]).cells (cellV w13 (sb vl) (so vl + k * 10 + 3))).toArray : Value) from e1), trivial⟩) Try.call11 (C_Before h85 hok59 h86 hok68) (fun _ _ h => ⟨h.2, h.1⟩)
        · intro vals w20 hR87 hA
          have hs88 := hR87.size
          refine obl rfl ?_
          have h89 := (Chg.trans (Chg.trans (Chg.new hn70.ext hp74.chg (fun i hi hO => by subst hO; omega)) hx76) hR87).keep hp65.at_ (fun h => h)
          exact ov_loadk (k := 10) Try.isAgg29 Try.sizeOf29 rfl rfl (CellsAt.all h89) ⟨Chg.refl _ _, rfl⟩
        · intro vals w21 hR90 hA
          have hs91 := hR90.size
          refine obl rfl ?_
          have h92 := (Chg.trans hx76 hR90).keep hp74.at_ (fun h => h)
          exact ov_loadk (k := 10) Try.isAgg29 Try.sizeOf29 rfl rfl (CellsAt.all h92) ⟨Chg.refl _ _, rfl⟩
        · intro vals w22 hR93 hA
          have hs94 := hR93.size
          have e3 : (vals 3) = (.agg ((l[i]).cells (cellV w11 (sb vl) (so vl + i * 10 + 3))).toArray : Value) := hA 3 (by decide)
          have e4 : (vals 4) = (.agg ((l[k]).cells (cellV w13 (sb vl) (so vl + k * 10 + 3))).toArray : Value) := hA 4 (by decide)
          refine obl rfl ?_
          have h95 := hd59.ext (Chg.trans (Chg.trans (Chg.new (Chg.trans (Chg.new hn61.ext hp65.chg (fun i hi hO => by subst hO; omega)) hn70.ext) hp74.chg (fun i hi hO => by subst hO; omega)) hx76) hR93)
          have h96 := hd68.ext (Chg.trans (Chg.trans (Chg.new hn70.ext hp74.chg (fun i hi hO => by subst hO; omega)) hx76) hR93)
          exact ov_call (f := 12) (vals := [.agg ((l[i]).cells (cellV w11 (sb vl) (so vl + i * 10 + 3))).toArray, .agg ((l[k]).cells (cellV w13 (sb vl) (so vl + k * 10 + 3))).toArray]) (cap := []) (show _ = (.func (.func 12) #[] #[] : Value) from rfl) (mapL ⟨(show _ = (.agg ((l[i]).cells (cellV w11 (sb vl) (so vl + i * 10 + 3))).toArray : Value) from e3), (show _ = (.agg ((l[k]).cells (cellV w13 (sb vl) (so vl + k * 10 + 3))).toArray : Value) from e4), trivial⟩) Try.call12 (C_refBefore h95 hok59 h96 hok68) (fun _ _ h => ⟨h.2, h.1⟩)
        · intro vals w23 hR97 hA
          have hs98 := hR97.size
          have e2 : (vals 2) = (.bool (before (l[i]) (l[k])) : Value) := hA 2 (by decide)
          have e5 : (vals 5) = (.bool (before (l[i]) (l[k])) : Value) := hA 5 (by decide)
          refine obl rfl ?_
          exact ov_neqb (a := before (l[i]) (l[k])) (b := before (l[i]) (l[k])) Try.underlying4 (show _ = (.bool (before (l[i]) (l[k])) : Value) from e2) (show _ = (.bool (before (l[i]) (l[k])) : Value) from e5) ⟨Chg.refl _ _, rfl⟩
        · intro vals w24 hR99 hA
          have hs100 := hR99.size
          have e6 : (vals 6) = (.bool (!((before (l[i]) (l[k])) == (before (l[i]) (l[k])))) : Value) := hA 6 (by decide)
          refine obl rfl ?_
          exact ov_move (v := .bool (!((before (l[i]) (l[k])) == (before (l[i]) (l[k]))))) (show _ = (.bool (!((before (l[i]) (l[k])) == (before (l[i]) (l[k])))) : Value) from e6) ⟨Chg.refl _ _, rfl⟩
        · intro vals w25 hR101 hA
          have hs102 := hR101.size
          have e7 : (vals 7) = (.bool (!((before (l[i]) (l[k])) == (before (l[i]) (l[k])))) : Value) := hA 7 (by decide)
          refine oblc rfl rfl (show _ = (.bool (!((before (l[i]) (l[k])) == (before (l[i]) (l[k])))) : Value) from e7) (fun hb103 => ?_) (fun hb103 => (if_neg hb103).symm)
          have hl104 : (!((before (l[i]) (l[k])) == (before (l[i]) (l[k])))) = false := hb103
          simp only [Bool.and_eq_true, Bool.or_eq_true, Bool.and_eq_false_iff, Bool.or_eq_false_iff, decide_eq_true_eq, decide_eq_false_iff_not, Bool.not_eq_true', Bool.not_eq_false', Int.not_lt, Int.not_le] at hl104
          have h105 := (Chg.trans (Chg.trans (Chg.new hn70.ext hp74.chg (fun i hi hO => by subst hO; omega)) hx76) hR101).keep hp65.at_ (fun h => h)
          exact ov_loadk (k := 10) Try.isAgg29 Try.sizeOf29 rfl rfl (CellsAt.all h105) ⟨Chg.refl _ _, (if_pos hb103).symm⟩
        · intro vals w26 hR106 hA
          have hs107 := hR106.size
          have e7 : (vals 7) = (.bool (!((before (l[i]) (l[k])) == (before (l[i]) (l[k])))) : Value) := hA 7 (by decide)
          refine oblc rfl rfl (show _ = (.bool (!((before (l[i]) (l[k])) == (before (l[i]) (l[k])))) : Value) from e7) (fun hb108 => ?_) (fun hb108 => (if_neg hb108).symm)
          have hl109 : (!((before (l[i]) (l[k])) == (before (l[i]) (l[k])))) = false := hb108
          simp only [Bool.and_eq_true, Bool.or_eq_true, Bool.and_eq_false_iff, Bool.or_eq_false_iff, decide_eq_true_eq, decide_eq_false_iff_not, Bool.not_eq_true', Bool.not_eq_false', Int.not_lt, Int.not_le] at hl109
          have h110 := (Chg.trans hx76 hR106).keep hp74.at_ (fun h => h)
          exact ov_loadk (k := 10) Try.isAgg29 Try.sizeOf29 rfl rfl (CellsAt.all h110) ⟨Chg.refl _ _, (if_pos hb108).symm⟩
        · intro vals w27 hR111 hA
          have hs112 := hR111.size
          have e7 : (vals 7) = (.bool (!((before (l[i]) (l[k])) == (before (l[i]) (l[k])))) : Value) := hA 7 (by decide)
          have e8 : (vals 8) = (if (!((before (l[i]) (l[k])) == (before (l[i]) (l[k])))) = false then (.agg ((l[i]).cells (cellV w11 (sb vl) (so vl + i * 10 + 3))).toArray : Value) else undef) := hA 8 (by decide)
          have e9 : (vals 9) = (if (!((before (l[i]) (l[k])) == (before (l[i]) (l[k])))) = false then (.agg ((l[k]).cells (cellV w13 (sb vl) (so vl + k * 10 + 3))).toArray : Value) else undef) := hA 9 (by decide)
          refine oblc rfl rfl (show _ = (.bool (!((before (l[i]) (l[k])) == (before (l[i]) (l[k])))) : Value) from e7) (fun hb113 => ?_) (fun hb113 => (if_neg hb113).symm)
          have hl114 : (!((before (l[i]) (l[k])) == (before (l[i]) (l[k])))) = false := hb113
          simp only [Bool.and_eq_true, Bool.or_eq_true, Bool.and_eq_false_iff, Bool.or_eq_false_iff, decide_eq_true_eq, decide_eq_false_iff_not, Bool.not_eq_true', Bool.not_eq_false', Int.not_lt, Int.not_le] at hl114
          have h115 := hd59.ext (Chg.trans (Chg.trans (Chg.new (Chg.trans (Chg.new hn61.ext hp65.chg (fun i hi hO => by subst hO; omega)) hn70.ext) hp74.chg (fun i hi hO => by subst hO; omega)) hx76) hR111)
          have h116 := hd68.ext (Chg.trans (Chg.trans (Chg.new hn70.ext hp74.chg (fun i hi hO => by subst hO; omega)) hx76) hR111)
          exact ov_call (f := 13) (vals := [.agg ((l[i]).cells (cellV w11 (sb vl) (so vl + i * 10 + 3))).toArray, .agg ((l[k]).cells (cellV w13 (sb vl) (so vl + k * 10 + 3))).toArray]) (cap := []) (show _ = (.func (.func 13) #[] #[] : Value) from rfl) (mapL ⟨(show _ = (.agg ((l[i]).cells (cellV w11 (sb vl) (so vl + i * 10 + 3))).toArray : Value) from (Eq.trans e8 (if_pos hb113))), (show _ = (.agg ((l[k]).cells (cellV w13 (sb vl) (so vl + k * 10 + 3))).toArray : Value) from (Eq.trans e9 (if_pos hb113))), trivial⟩) Try.call13 (C_Apart h115 hok59 h116 hok68) (fun _ _ h => ⟨h.2, h.1.trans (if_pos hb113).symm⟩)
        · intro vals w28 hR117 hA
          have hs118 := hR117.size
          have e7 : (vals 7) = (.bool (!((before (l[i]) (l[k])) == (before (l[i]) (l[k])))) : Value) := hA 7 (by decide)
          refine oblc rfl rfl (show _ = (.bool (!((before (l[i]) (l[k])) == (before (l[i]) (l[k])))) : Value) from e7) (fun hb119 => ?_) (fun hb119 => (if_neg hb119).symm)
          have hl120 : (!((before (l[i]) (l[k])) == (before (l[i]) (l[k])))) = false := hb119
          simp only [Bool.and_eq_true, Bool.or_eq_true, Bool.and_eq_false_iff, Bool.or_eq_false_iff, decide_eq_true_eq, decide_eq_false_iff_not, Bool.not_eq_true', Bool.not_eq_false', Int.not_lt, Int.not_le] at hl120
          have h121 := (Chg.trans (Chg.trans (Chg.new hn70.ext hp74.chg (fun i hi hO => by subst hO; omega)) hx76) hR117).keep hp65.at_ (fun h => h)
          exact ov_loadk (k := 10) Try.isAgg29 Try.sizeOf29 rfl rfl (CellsAt.all h121) ⟨Chg.refl _ _, (if_pos hb119).symm⟩
        · intro vals w29 hR122 hA
          have hs123 := hR122.size
          have e7 : (vals 7) = (.bool (!((before (l[i]) (l[k])) == (before (l[i]) (l[k])))) : Value) := hA 7 (by decide)
          refine oblc rfl rfl (show _ = (.bool (!((before (l[i]) (l[k])) == (before (l[i]) (l[k])))) : Value) from e7) (fun hb124 => ?_) (fun hb124 => (if_neg hb124).symm)
          have hl125 : (!((before (l[i]) (l[k])) == (before (l[i]) (l[k])))) = false := hb124
          simp only [Bool.and_eq_true, Bool.or_eq_true, Bool.and_eq_false_iff, Bool.or_eq_false_iff, decide_eq_true_eq, decide_eq_false_iff_not, Bool.not_eq_true', Bool.not_eq_false', Int.not_lt, Int.not_le] at hl125
          have h126 := (Chg.trans hx76 hR122).keep hp74.at_ (fun h => h)
          exact ov_loadk (k := 10) Try.isAgg29 Try.sizeOf29 rfl rfl (CellsAt.all h126) ⟨Chg.refl _ _, (if_pos hb124).symm⟩
        · intro vals w30 hR127 hA
          have hs128 := hR127.size
          have e7 : (vals 7) = (.bool (!((before (l[i]) (l[k])) == (before (l[i]) (l[k])))) : Value) := hA 7 (by decide)
          have e11 : (vals 11) = (if (!((before (l[i]) (l[k])) == (before (l[i]) (l[k])))) = false then (.agg ((l[i]).cells (cellV w11 (sb vl) (so vl + i * 10 + 3))).toArray : Value) else undef) := hA 11 (by decide)
          have e12 : (vals 12) = (if (!((before (l[i]) (l[k])) == (before (l[i]) (l[k])))) = false then (.agg ((l[k]).cells (cellV w13 (sb vl) (so vl + k * 10 + 3))).toArray : Value) else undef) := hA 12 (by decide)
          refine oblc rfl rfl (show _ = (.bool (!((before (l[i]) (l[k])) == (before (l[i]) (l[k])))) : Value) from e7) (fun hb129 => ?_) (fun hb129 => (if_neg hb129).symm)
          have hl130 : (!((before (l[i]) (l[k])) == (before (l[i]) (l[k])))) = false := hb129
          simp only [Bool.and_eq_true, Bool.or_eq_true, Bool.and_eq_false_iff, Bool.or_eq_false_iff, decide_eq_true_eq, decide_eq_false_iff_not, Bool.not_eq_true', Bool.not_eq_false', Int.not_lt, Int.not_le] at hl130
          have h131 := hd59.ext (Chg.trans (Chg.trans (Chg.new (Chg.trans (Chg.new hn61.ext hp65.chg (fun i hi hO => by subst hO; omega)) hn70.ext) hp74.chg (fun i hi hO => by subst hO; omega)) hx76) hR127)
          have h132 := hd68.ext (Chg.trans (Chg.trans (Chg.new hn70.ext hp74.chg (fun i hi hO => by subst hO; omega)) hx76) hR127)
          exact ov_call (f := 14) (vals := [.agg ((l[i]).cells (cellV w11 (sb vl) (so vl + i * 10 + 3))).toArray, .agg ((l[k]).cells (cellV w13 (sb vl) (so vl + k * 10 + 3))).toArray]) (cap := []) (show _ = (.func (.func 14) #[] #[] : Value) from rfl) (mapL ⟨(show _ = (.agg ((l[i]).cells (cellV w11 (sb vl) (so vl + i * 10 + 3))).toArray : Value) from (Eq.trans e11 (if_pos hb129))), (show _ = (.agg ((l[k]).cells (cellV w13 (sb vl) (so vl + k * 10 + 3))).toArray : Value) from (Eq.trans e12 (if_pos hb129))), trivial⟩) Try.call14 (C_refApart h131 hok59 h132 hok68) (fun _ _ h => ⟨h.2, h.1.trans (if_pos hb129).symm⟩)
        · intro vals w31 hR133 hA
          have hs134 := hR133.size
          have e7 : (vals 7) = (.bool (!((before (l[i]) (l[k])) == (before (l[i]) (l[k])))) : Value) := hA 7 (by decide)
          have e10 : (vals 10) = (if (!((before (l[i]) (l[k])) == (before (l[i]) (l[k])))) = false then (.bool (apart (l[i]) (l[k])) : Value) else undef) := hA 10 (by decide)
          have e13 : (vals 13) = (if (!((before (l[i]) (l[k])) == (before (l[i]) (l[k])))) = false then (.bool (apart (l[i]) (l[k])) : Value) else undef) := hA 13 (by decide)
          refine oblc rfl rfl (show _ = (.bool (!((before (l[i]) (l[k])) == (before (l[i]) (l[k])))) : Value) from e7) (fun hb135 => ?_) (fun hb135 => (if_neg hb135).symm)
          have hl136 : (!((before (l[i]) (l[k])) == (before (l[i]) (l[k])))) = false := hb135
          simp only [Bool.and_eq_true, Bool.or_eq_true, Bool.and_eq_false_iff, Bool.or_eq_false_iff, decide_eq_true_eq, decide_eq_false_iff_not, Bool.not_eq_true', Bool.not_eq_false', Int.not_lt, Int.not_le] at hl136
          exact ov_neqb (a := apart (l[i]) (l[k])) (b := apart (l[i]) (l[k])) Try.underlying4 (show _ = (.bool (apart (l[i]) (l[k])) : Value) from (Eq.trans e10 (if_pos hb135))) (show _ = (.bool (apart (l[i]) (l[k])) : Value) from (Eq.trans e13 (if_pos hb135))) ⟨Chg.refl _ _, (if_pos hb135).symm⟩
        · intro vals w32 hR137 hA
          have hs138 := hR137.size
          have e7 : (vals 7) = (.bool (!((before (l[i]) (l[k])) == (before (l[i]) (l[k])))) : Value) := hA 7 (by decide)
          have e14 : (vals 14) = (if (!((before (l[i]) (l[k])) == (before (l[i]) (l[k])))) = false then (.bool (!((apart (l[i]) (l[k])) == (apart (l[i]) (l[k])))) : Value) else undef) := hA 14 (by decide)
          refine obl rfl ?_
          exact ov_pick_or (b := !((before (l[i]) (l[k])) == (before (l[i]) (l[k])))) (b' := !((apart (l[i]) (l[k])) == (apart (l[i]) (l[k])))) (show _ = (.bool (!((before (l[i]) (l[k])) == (before (l[i]) (l[k])))) : Value) from e7) (fun hbp => (show _ = (.bool (!((apart (l[i]) (l[k])) == (apart (l[i]) (l[k])))) : Value) from (Eq.trans e14 (if_pos hbp)))) ⟨Chg.refl _ _, rfl⟩
        · intro vals w33 hR139 hA
          have hs140 := hR139.size
          have e15 : (vals 15) = (.bool ((!((before (l[i]) (l[k])) == (before (l[i]) (l[k])))) || (!((apart (l[i]) (l[k])) == (apart (l[i]) (l[k]))))) : Value) := hA 15 (by decide)
          refine obl rfl ?_
          exact ov_move (v := .bool ((!((before (l[i]) (l[k])) == (before (l[i]) (l[k])))) || (!((apart (l[i]) (l[k])) == (apart (l[i]) (l[k])))))) (show _ = (.bool ((!((before (l[i]) (l[k])) == (before (l[i]) (l[k])))) || (!((apart (l[i]) (l[k])) == (apart (l[i]) (l[k]))))) : Value) from e15) ⟨Chg.refl _ _, rfl⟩
        · intro vals w34 hR141 hA
          have hs142 := hR141.size
          have e16 : (vals 16) = (.bool ((!((before (l[i]) (l[k])) == (before (l[i]) (l[k])))) || (!((apart (l[i]) (l[k])) == (apart (l[i]) (l[k]))))) : Value) := hA 16 (by decide)
          refine oblc rfl rfl (show _ = (.bool ((!((before (l[i]) (l[k])) == (before (l[i]) (l[k])))) || (!((apart (l[i]) (l[k])) == (apart (l[i]) (l[k]))))) : Value) from e16) (fun hb143 => ?_) (fun hb143 => (if_neg hb143).symm)
          have hl144 : ((!((before (l[i]) (l[k])) == (before (l[i]) (l[k])))) || (!((apart (l[i]) (l[k])) == (apart (l[i]) (l[k]))))) = false := hb143
          simp only [Bool.and_eq_true, Bool.or_eq_true, Bool.and_eq_false_iff, Bool.or_eq_false_iff, decide_eq_true_eq, decide_eq_false_iff_not, Bool.not_eq_true', Bool.not_eq_false', Int.not_lt, Int.not_le] at hl144
          have h145 := (Chg.trans (Chg.trans (Chg.new hn70.ext hp74.chg (fun i hi hO => by subst hO; omega)) hx76) hR141).keep hp65.at_ (fun h => h)
          exact ov_loadk (k := 10) Try.isAgg29 Try.sizeOf29 rfl rfl (CellsAt.all h145) ⟨Chg.refl _ _, (if_pos hb143).symm⟩
        · intro vals w35 hR146 hA
          have hs147 := hR146.size
          have e16 : (vals 16) = (.bool ((!((before (l[i]) (l[k])) == (before (l[i]) (l[k])))) || (!((apart (l[i]) (l[k])) == (apart (l[i]) (l[k]))))) : Value) := hA 16 (by decide)
          refine oblc rfl rfl (show _ = (.bool ((!((before (l[i]) (l[k])) == (before (l[i]) (l[k])))) || (!((apart (l[i]) (l[k])) == (apart (l[i]) (l[k]))))) : Value) from e16) (fun hb148 => ?_) (fun hb148 => (if_neg hb148).symm)
          have hl149 : ((!((before (l[i]) (l[k])) == (before (l[i]) (l[k])))) || (!((apart (l[i]) (l[k])) == (apart (l[i]) (l[k]))))) = false := hb148
          simp only [Bool.and_eq_true, Bool.or_eq_true, Bool.and_eq_false_iff, Bool.or_eq_false_iff, decide_eq_true_eq, decide_eq_false_iff_not, Bool.not_eq_true', Bool.not_eq_false', Int.not_lt, Int.not_le] at hl149
          have h150 := (Chg.trans hx76 hR146).keep hp74.at_ (fun h => h)
          exact ov_loadk (k := 10) Try.isAgg29 Try.sizeOf29 rfl rfl (CellsAt.all h150) ⟨Chg.refl _ _, (if_pos hb148).symm⟩
        · intro vals w36 hR151 hA
          have hs152 := hR151.size
          have e16 : (vals 16) = (.bool ((!((before (l[i]) (l[k])) == (before (l[i]) (l[k])))) || (!((apart (l[i]) (l[k])) == (apart (l[i]) (l[k]))))) : Value) := hA 16 (by decide)
          have e17 : (vals 17) = (if ((!((before (l[i]) (l[k])) == (before (l[i]) (l[k])))) || (!((apart (l[i]) (l[k])) == (apart (l[i]) (l[k]))))) = false then (.agg ((l[i]).cells (cellV w11 (sb vl) (so vl + i * 10 + 3))).toArray : Value) else undef) := hA 17 (by decide)
          have e18 : (vals 18) = (if ((!((before (l[i]) (l[k])) == (before (l[i]) (l[k])))) || (!((apart (l[i]) (l[k])) == (apart (l[i]) (l[k]))))) = false then (.agg ((l[k]).cells (cellV w13 (sb vl) (so vl + k * 10 + 3))).toArray : Value) else undef) := hA 18 (by decide)
          refine oblc rfl rfl (show _ = (.bool ((!((before (l[i]) (l[k])) == (before (l[i]) (l[k])))) || (!((apart (l[i]) (l[k])) == (apart (l[i]) (l[k]))))) : Value) from e16) (fun hb153 => ?_) (fun hb153 => (if_neg hb153).symm)
          have hl154 : ((!((before (l[i]) (l[k])) == (before (l[i]) (l[k])))) || (!((apart (l[i]) (l[k])) == (apart (l[i]) (l[k]))))) = false := hb153
          simp only [Bool.and_eq_true, Bool.or_eq_true, Bool.and_eq_false_iff, Bool.or_eq_false_iff, decide_eq_true_eq, decide_eq_false_iff_not, Bool.not_eq_true', Bool.not_eq_false', Int.not_lt, Int.not_le] at hl154
          have h155 := hd59.ext (Chg.trans (Chg.trans (Chg.new (Chg.trans (Chg.new hn61.ext hp65.chg (fun i hi hO => by subst hO; omega)) hn70.ext) hp74.chg (fun i hi hO => by subst hO; omega)) hx76) hR151)
          have h156 := hd68.ext (Chg.trans (Chg.trans (Chg.new hn70.ext hp74.chg (fun i hi hO => by subst hO; omega)) hx76) hR151)
          exact ov_call (f := 15) (vals := [.agg ((l[i]).cells (cellV w11 (sb vl) (so vl + i * 10 + 3))).toArray, .agg ((l[k]).cells (cellV w13 (sb vl) (so vl + k * 10 + 3))).toArray]) (cap := []) (show _ = (.func (.func 15) #[] #[] : Value) from rfl) (mapL ⟨(show _ = (.agg ((l[i]).cells (cellV w11 (sb vl) (so vl + i * 10 + 3))).toArray : Value) from (Eq.trans e17 (if_pos hb153))), (show _ = (.agg ((l[k]).cells (cellV w13 (sb vl) (so vl + k * 10 + 3))).toArray : Value) from (Eq.trans e18 (if_pos hb153))), trivial⟩) Try.call15 (C_Less h155 hok59 h156 hok68) (fun _ _ h => ⟨h.2, h.1.trans (if_pos hb153).symm⟩)
        · intro vals w37 hR157 hA
          have hs158 := hR157.size
          have e16 : (vals 16) = (.bool ((!((before (l[i]) (l[k])) == (before (l[i]) (l[k])))) || (!((apart (l[i]) (l[k])) == (apart (l[i]) (l[k]))))) : Value) := hA 16 (by decide)
          refine oblc rfl rfl (show _ = (.bool ((!((before (l[i]) (l[k])) == (before (l[i]) (l[k])))) || (!((apart (l[i]) (l[k])) == (apart (l[i]) (l[k]))))) : Value) from e16) (fun hb159 => ?_) (fun hb159 => (if_neg hb159).symm)
          have hl160 : ((!((before (l[i]) (l[k])) == (before (l[i]) (l[k])))) || (!((apart (l[i]) (l[k])) == (apart (l[i]) (l[k]))))) = false := hb159
          simp only [Bool.and_eq_true, Bool.or_eq_true, Bool.and_eq_false_iff, Bool.or_eq_false_iff, decide_eq_true_eq, decide_eq_false_iff_not, Bool.not_eq_true', Bool.not_eq_false', Int.not_lt, Int.not_le] at hl160
          have h161 := (Chg.trans (Chg.trans (Chg.new hn70.ext hp74.chg (fun i hi hO => by subst hO; omega)) hx76) hR157).keep hp65.at_ (fun h => h)
          exact ov_loadk (k := 10) Try.isAgg29 Try.sizeOf29 rfl rfl (CellsAt.all h161) ⟨Chg.refl _ _, (if_pos hb159).symm⟩
        · intro vals w38 hR162 hA
          have hs163 := hR162.size
          have e16 : (vals 16) = (.bool ((!((before (l[i]) (l[k])) == (before (l[i]) (l[k])))) || (!((apart (l[i]) (l[k])) == (apart (l[i]) (l[k]))))) : Value) := hA 16 (by decide)
          refine oblc rfl rfl (show _ = (.bool ((!((before (l[i]) (l[k])) == (before (l[i]) (l[k])))) || (!((apart (l[i]) (l[k])) == (apart (l[i]) (l[k]))))) : Value) from e16) (fun hb164 => ?_) (fun hb164 => (if_neg hb164).symm)
          have hl165 : ((!((before (l[i]) (l[k])) == (before (l[i]) (l[k])))) || (!((apart (l[i]) (l[k])) == (apart (l[i]) (l[k]))))) = false := hb164
          simp only [Bool.and_eq_true, Bool.or_eq_true, Bool.and_eq_false_iff, Bool.or_eq_false_iff, decide_eq_true_eq, decide_eq_false_iff_not, Bool.not_eq_true', Bool.not_eq_false', Int.not_lt, Int.not_le] at hl165
          have h166 := (Chg.trans hx76 hR162).keep hp74.at_ (fun h => h)
          exact ov_loadk (k := 10) Try.isAgg29 Try.sizeOf29 rfl rfl (CellsAt.all h166) ⟨Chg.refl _ _, (if_pos hb164).symm⟩
        · intro vals w39 hR167 hA
          have hs168 := hR167.size
          have e16 : (vals 16) = (.bool ((!((before (l[i]) (l[k])) == (before (l[i]) (l[k])))) || (!((apart (l[i]) (l[k])) == (apart (l[i]) (l[k]))))) : Value) := hA 16 (by decide)
          have e20 : (vals 20) = (if ((!((before (l[i]) (l[k])) == (before (l[i]) (l[k])))) || (!((apart (l[i]) (l[k])) == (apart (l[i]) (l[k]))))) = false then (.agg ((l[i]).cells (cellV w11 (sb vl) (so vl + i * 10 + 3))).toArray : Value) else undef) := hA 20 (by decide)
          have e21 : (vals 21) = (if ((!((before (l[i]) (l[k])) == (before (l[i]) (l[k])))) || (!((apart (l[i]) (l[k])) == (apart (l[i]) (l[k]))))) = false then (.agg ((l[k]).cells (cellV w13 (sb vl) (so vl + k * 10 + 3))).toArray : Value) else undef) := hA 21 (by decide)
          refine oblc rfl rfl (show _ = (.bool ((!((before (l[i]) (l[k])) == (before (l[i]) (l[k])))) || (!((apart (l[i]) (l[k])) == (apart (l[i]) (l[k]))))) : Value) from e16) (fun hb169 => ?_) (fun hb169 => (if_neg hb169).symm)
          have hl170 : ((!((before (l[i]) (l[k])) == (before (l[i]) (l[k])))) || (!((apart (l[i]) (l[k])) == (apart (l[i]) (l[k]))))) = false := hb169
          simp only [Bool.and_eq_true, Bool.or_eq_true, Bool.and_eq_false_iff, Bool.or_eq_false_iff, decide_eq_true_eq, decide_eq_false_iff_not, Bool.not_eq_true', Bool.not_eq_false', Int.not_lt, Int.not_le] at hl170
          have h171 := hd59.ext (Chg.trans (Chg.trans (Chg.new (Chg.trans (Chg.new hn61.ext hp65.chg (fun i hi hO => by subst hO; omega)) hn70.ext) hp74.chg (fun i hi hO => by subst hO; omega)) hx76) hR167)
          have h172 := hd68.ext (Chg.trans (Chg.trans (Chg.new hn70.ext hp74.chg (fun i hi hO => by subst hO; omega)) hx76) hR167)
          exact ov_call (f := 16) (vals := [.agg ((l[i]).cells (cellV w11 (sb vl) (so vl + i * 10 + 3))).toArray, .agg ((l[k]).cells (cellV w13 (sb vl) (so vl + k * 10 + 3))).toArray]) (cap := []) (show _ = (.func (.func 16) #[] #[] : Value) from rfl) (mapL ⟨(show _ = (.agg ((l[i]).cells (cellV w11 (sb vl) (so vl + i * 10 + 3))).toArray : Value) from (Eq.trans e20 (if_pos hb169))), (show _ = (.agg ((l[k]).cells (cellV w13 (sb vl) (so vl + k * 10 + 3))).toArray : Value) from (Eq.trans e21 (if_pos hb169))), trivial⟩) Try.call16 (C_refLessS h171 hok59 h172 hok68) (fun _ _ h => ⟨h.2, h.1.trans (if_pos hb169).symm⟩)
        · intro vals w40 hR173 hA
          have hs174 := hR173.size
          have e16 : (vals 16) = (.bool ((!((before (l[i]) (l[k])) == (before (l[i]) (l[k])))) || (!((apart (l[i]) (l[k])) == (apart (l[i]) (l[k]))))) : Value) := hA 16 (by decide)
          have e19 : (vals 19) = (if ((!((before (l[i]) (l[k])) == (before (l[i]) (l[k])))) || (!((apart (l[i]) (l[k])) == (apart (l[i]) (l[k]))))) = false then (.bool (less (l[i]) (l[k])) : Value) else undef) := hA 19 (by decide)
          have e22 : (vals 22) = (if ((!((before (l[i]) (l[k])) == (before (l[i]) (l[k])))) || (!((apart (l[i]) (l[k])) == (apart (l[i]) (l[k]))))) = false then (.bool (less (l[i]) (l[k])) : Value) else undef) := hA 22 (by decide)
          refine oblc rfl rfl (show _ = (.bool ((!((before (l[i]) (l[k])) == (before (l[i]) (l[k])))) || (!((apart (l[i]) (l[k])) == (apart (l[i]) (l[k]))))) : Value) from e16) (fun hb175 => ?_) (fun hb175 => (if_neg hb175).symm)
          have hl176 : ((!((before (l[i]) (l[k])) == (before (l[i]) (l[k])))) || (!((apart (l[i]) (l[k])) == (apart (l[i]) (l[k]))))) = false := hb175
          simp only [Bool.and_eq_true, Bool.or_eq_true, Bool.and_eq_false_iff, Bool.or_eq_false_iff, decide_eq_true_eq, decide_eq_false_iff_not, Bool.not_eq_true', Bool.not_eq_false', Int.not_lt, Int.not_le] at hl176
          exact ov_neqb (a := less (l[i]) (l[k])) (b := less (l[i]) (l[k])) Try.underlying4 (show _ = (.bool (less (l[i]) (l[k])) : Value) from (Eq.trans e19 (if_pos hb175))) (show _ = (.bool (less (l[i]) (l[k])) : Value) from (Eq.trans e22 (if_pos hb175))) ⟨Chg.refl _ _, (if_pos hb175).symm⟩
        · intro vals w41 hR177 hA
          have hs178 := hR177.size
          have e16 : (vals 16) = (.bool ((!((before (l[i]) (l[k])) == (before (l[i]) (l[k])))) || (!((apart (l[i]) (l[k])) == (apart (l[i]) (l[k]))))) : Value) := hA 16 (by decide)
          have e23 : (vals 23) = (if ((!((before (l[i]) (l[k])) == (before (l[i]) (l[k])))) || (!((apart (l[i]) (l[k])) == (apart (l[i]) (l[k]))))) = false then (.bool (!((less (l[i]) (l[k])) == (less (l[i]) (l[k])))) : Value) else undef) := hA 23 (by decide)
          refine obl rfl ?_
          exact ov_pick_or (b := (!((before (l[i]) (l[k])) == (before (l[i]) (l[k])))) || (!((apart (l[i]) (l[k])) == (apart (l[i]) (l[k]))))) (b' := !((less (l[i]) (l[k])) == (less (l[i]) (l[k])))) (show _ = (.bool ((!((before (l[i]) (l[k])) == (before (l[i]) (l[k])))) || (!((apart (l[i]) (l[k])) == (apart (l[i]) (l[k]))))) : Value) from e16) (fun hbp => (show _ = (.bool (!((less (l[i]) (l[k])) == (less (l[i]) (l[k])))) : Value) from (Eq.trans e23 (if_pos hbp)))) ⟨Chg.refl _ _, rfl⟩
        intro vals w42 hR179 hA
        have hs180 := hR179.size
        have hs181 := hx76.size
        have e24 : (vals 24) = (.bool (((!((before (l[i]) (l[k])) == (before (l[i]) (l[k])))) || (!((apart (l[i]) (l[k])) == (apart (l[i]) (l[k]))))) || (!((less (l[i]) (l[k])) == (less (l[i]) (l[k]))))) : Value) := hA 24 (by decide)
        refine st_env (kv := [(0, vl), (3, .int .i64 ((i : Nat) : Int)), (4, .int .i64 ((k : Nat) : Int)), (22, .int .i64 ((k : Nat) : Int)), (23, vl), (24, .int .i64 ((l.length : Nat) : Int)), (25, .bool (decide (((k : Nat) : Int) < ((l.length : Nat) : Int)))), (26, .bool (decide (((k : Nat) : Int) < ((l.length : Nat) : Int)))), (29, .bool true), (32, vl), (33, .int .i64 ((i : Nat) : Int)), (34, .pointer (some ⟨sb vl, so vl + i * 10, none⟩)), (35, .agg ((l[i]).cells (cellV w11 (sb vl) (so vl + i * 10 + 3))).toArray), (5, .pointer (some ⟨b62, 0, none⟩)), (36, vl), (37, .int .i64 ((k : Nat) : Int)), (38, .pointer (some ⟨sb vl, so vl + k * 10, none⟩)), (39, .agg ((l[k]).cells (cellV w13 (sb vl) (so vl + k * 10 + 3))).toArray), (6, .pointer (some ⟨b71, 0, none⟩)), (64, .bool (((!((before (l[i]) (l[k])) == (before (l[i]) (l[k])))) || (!((apart (l[i]) (l[k])) == (apart (l[i]) (l[k]))))) || (!((less (l[i]) (l[k])) == (less (l[i]) (l[k]))))))]) ⟨rfl, rfl, rfl, rfl, rfl, rfl, rfl, rfl, rfl, rfl, rfl, rfl, rfl, rfl, rfl, rfl, rfl, rfl, rfl, e24, trivial⟩ (fun ρ42 => ?_)
        clear e24
        clear hA qh1 qh2 qh3 qh4
        refine st_nil ?_
        cases hc182 : ((!((before (l[i]) (l[k])) == (before (l[i]) (l[k])))) || (!((apart (l[i]) (l[k])) == (apart (l[i]) (l[k]))))) || (!((less (l[i]) (l[k])) == (less (l[i]) (l[k]))))
        · skip
          simp only [Bool.and_eq_true, Bool.or_eq_true, Bool.and_eq_false_iff, Bool.or_eq_false_iff, decide_eq_true_eq, decide_eq_false_iff_not, Bool.not_eq_true', Bool.not_eq_false', Int.not_lt, Int.not_le] at hc182
          refine WP_cond_f rfl ?_
          refine WP_skip ?_
          refine WP_region0 (by kernel_rfl) (fun _ => ?_)
          refine st (ov_move (v := .int .i64 ((k : Nat) : Int)) rfl ?_)
          have hr183 : InR ((k + 1 : Nat) : Int) := by omega
          refine st (ov_add (r := ((k + 1 : Nat) : Int)) (k := .i64) (a := ((k : Nat) : Int)) (b := 1) rfl rfl (by rw [show (((k : Nat) : Int) + 1 : Int) = ((k + 1 : Nat) : Int) by omega]; exact wrap_in hr183) ?_)
          refine st (ov_assign (v := .int .i64 ((k + 1 : Nat) : Int)) rfl ?_)
          refine st_nil ?_
          exact ⟨_, by omega, k + 1, _, rfl, setAll_self ⟨rfl, rfl, rfl, trivial⟩, (Chg.trans (Chg.trans (Chg.new (Chg.trans (Chg.new (Chg.trans hx48 hn61.ext) hp65.chg (fun i hi hO => by subst hO; omega)) hn70.ext) hp74.chg (fun i hi hO => by subst hO; omega)) hx76) hR179), by omega⟩
        · skip
          simp only [Bool.and_eq_true, Bool.or_eq_true, Bool.and_eq_false_iff, Bool.or_eq_false_iff, decide_eq_true_eq, decide_eq_false_iff_not, Bool.not_eq_true', Bool.not_eq_false', Int.not_lt, Int.not_le] at hc182
          refine WP_cond_t rfl ?_
          refine WP_seq ?_
          refine WP_region0 (by kernel_rfl) (fun _ => ?_)
          refine st (ov_assign (v := .bool false) rfl ?_)
          refine st_nil ?_
          refine WP_ret ?_
          refine fin1 Try.results3 (show _ = (.bool false : Value) from rfl) ?_
          exfalso
          simp at hc182
  · skip
    refine WP_cond_t rfl ?_
    refine WP_seq ?_
    refine WP_region0 (by kernel_rfl) (fun _ => ?_)
    refine st (ov_call (f := 10) (vals := []) (cap := []) (show _ = (.func (.func 10) #[] #[] : Value) from rfl) rfl Try.call10 (C_works ) ?_)
    rintro _ w43 ⟨rfl, hx184⟩
    have hx184s := hx184.size
    refine st (ov_assign (v := .bool true) rfl ?_)
    refine st_nil ?_
    refine WP_ret ?_
    refine fin1 Try.results3 (show _ = (.bool true : Value) from rfl) ?_
    refine ⟨?_, (Chg.trans hx2 hx184)⟩
    first | rfl | simp

end Go.Proofs.Ytbbhpddgjiifmaa
