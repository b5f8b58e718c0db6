/- Steps of the proofs of this seat: part Law4. -/
import Derived.Test.YtbbhpddgjiifmaaKit3
set_option linter.unusedSimpArgs false
set_option linter.unusedVariables false
namespace Go.Proofs.Ytbbhpddgjiifmaa
open Go.Proofs Go.RowKit

set_option maxHeartbeats 4000000 in
theorem C_OrderExtends {w : World} {Fl : Nat → Prop} {vl : Value} {l : List Ev} (hl : RdS w Fl vl l) : Ret Try.prog 8 [vl] w (fun r w' => r = .bool true ∧ Ext w w') := by
  have hls : l.length * 96 ≤ 140737488355328 := hl.small
  refine Calls_of_WP (args := [vl]) Try.func8 rfl rfl ?_
  refine WP_seq ?_
  refine WP_region0 (by kernel_rfl) (fun _ => ?_)
  refine st (ov_assign (v := .bool false) rfl ?_)
  refine st_nil ?_
  refine WP_seq ?_
  refine WP_seq ?_
  refine WP_region0 (by kernel_rfl) (fun _ => ?_)
  refine st (ov_move (v := vl) rfl ?_)
  refine st (ov_call (f := 9) (vals := [vl]) (cap := []) (show _ = (.func (.func 9) #[] #[] : Value) from rfl) rfl Try.call9 (C_Long hl) ?_)
  rintro _ w1 ⟨bb1, rfl, hx2⟩
  have hx2s := hx2.size
  refine st_nil ?_
  cases hc3 : bb1
  · skip
    refine WP_cond_f rfl ?_
    refine WP_skip ?_
    refine WP_seq ?_
    refine WP_seq ?_
    refine WP_region0 (by kernel_rfl) (fun _ => ?_)
    refine st (ov_assign (v := .int .i64 (0)) rfl ?_)
    refine st_nil ?_
    refine WP_block ?_
    refine WP_loop (fun m σ wq => ∃ (i : Nat) (ρ : Env), m = l.length - i ∧ σ = setAll ρ [(0, vl), (3, .int .i64 ((i : Nat) : Int))] ∧ (Ext w1 wq) ∧ (i ≤ l.length) ∧ (∀ x y, x < i → y < l.length → x ≠ y → before (l.getD x default) (l.getD y default) = true → (l.getD x default).lam < (l.getD y default).lam)) ⟨0, _, rfl, setAll_self ⟨rfl, rfl, trivial⟩, (Chg.refl _ _), Nat.zero_le _, (fun x y h => absurd h (Nat.not_lt_zero x))⟩ ?_
    rintro m7 σ8 w2 ⟨i, ρ2, rfl, rfl, hx4, hk5, hv6⟩
    have hx4s := hx4.size
    refine WP_seq ?_
    refine WP_seq ?_
    refine WP_region0 (by kernel_rfl) (fun _ => ?_)
    refine st (ov_move (v := .int .i64 ((i : Nat) : Int)) rfl ?_)
    refine st (ov_move (v := vl) rfl ?_)
    refine st (ov_len (n := l.length) Try.underlying22 rfl hl.sl ?_)
    refine st (ov_lss (k := .i64) (a := ((i : Nat) : Int)) (b := ((l.length : Nat) : Int)) rfl rfl ?_)
    refine st_nil ?_
    cases hc9 : decide (((i : Nat) : Int) < ((l.length : Nat) : Int))
    · skip
      have hc9 := of_decide_eq_false hc9
      refine WP_cond_f rfl ?_
      refine WP_exit ?_
      refine blk_exit ?_
      refine WP_seq ?_
      refine WP_region0 (by kernel_rfl) (fun _ => ?_)
      refine st (ov_move (v := vl) rfl ?_)
      have h10 := hl.ext (Chg.trans hx2 hx4)
      refine st (ov_call (f := 18) (vals := [vl]) (cap := []) (show _ = (.func (.func 18) #[] #[] : Value) from rfl) rfl Try.call18 (C_SortS h10) ?_)
      rintro v13 w3 ⟨hx11, hf12⟩
      have hx11s := hx11.size
      have hf12r := hf12.rd
      refine st (ov_assign (v := v13) rfl ?_)
      refine st_nil ?_
      refine WP_seq ?_
      refine WP_seq ?_
      refine WP_region0 (by kernel_rfl) (fun _ => ?_)
      refine st (ov_move (v := v13) rfl ?_)
      refine st (ov_len (n := (srt l).length) Try.underlying22 rfl hf12r.sl ?_)
      refine st (ov_move (v := vl) rfl ?_)
      refine st (ov_len (n := l.length) Try.underlying22 rfl h10.sl ?_)
      refine st (ov_neq (k := .i64) (a := (((srt l).length : Nat) : Int)) (b := ((l.length : Nat) : Int)) rfl rfl ?_)
      refine st_nil ?_
      cases hc14 : !decide ((((srt l).length : Nat) : Int) = ((l.length : Nat) : Int))
      · skip
        have hc14 := ndec_false hc14
        refine WP_cond_f rfl ?_
        refine WP_skip ?_
        refine WP_seq ?_
        refine WP_seq ?_
        refine WP_region0 (by kernel_rfl) (fun _ => ?_)
        refine st (ov_assign (v := .int .i64 (0)) rfl ?_)
        refine st_nil ?_
        refine WP_block ?_
        refine WP_loop (fun m σ wq => ∃ (i2 : Nat) (ρ : Env), m = (srt l).length - i2 ∧ σ = setAll ρ [(0, vl), (5, v13), (6, .int .i64 ((i2 : Nat) : Int))] ∧ (Ext w3 wq) ∧ (i2 ≤ (srt l).length)) ⟨0, _, rfl, setAll_self ⟨rfl, rfl, rfl, trivial⟩, (Chg.refl _ _), Nat.zero_le _⟩ ?_
        rintro m17 σ18 w4 ⟨i2, ρ4, rfl, rfl, hx15, hk16⟩
        have hx15s := hx15.size
        refine WP_seq ?_
        refine WP_seq ?_
        refine WP_region0 (by kernel_rfl) (fun _ => ?_)
        refine st (ov_move (v := .int .i64 ((i2 : Nat) : Int)) rfl ?_)
        refine st (ov_move (v := v13) rfl ?_)
        refine st (ov_len (n := (srt l).length) Try.underlying22 rfl hf12r.sl ?_)
        refine st (ov_lss (k := .i64) (a := ((i2 : Nat) : Int)) (b := (((srt l).length : Nat) : Int)) rfl rfl ?_)
        refine st_nil ?_
        cases hc19 : decide (((i2 : Nat) : Int) < (((srt l).length : Nat) : Int))
        · skip
          have hc19 := of_decide_eq_false hc19
          refine WP_cond_f rfl ?_
          refine WP_exit ?_
          refine blk_exit ?_
          refine WP_seq ?_
          refine WP_region0 (by kernel_rfl) (fun _ => ?_)
          refine st (ov_call (f := 10) (vals := []) (cap := []) (show _ = (.func (.func 10) #[] #[] : Value) from rfl) rfl Try.call10 (C_works ) ?_)
          rintro _ w5 ⟨rfl, hx20⟩
          have hx20s := hx20.size
          refine st (ov_assign (v := .bool true) rfl ?_)
          refine st_nil ?_
          refine WP_ret ?_
          refine fin1 Try.results8 (show _ = (.bool true : Value) from rfl) ?_
          exact ⟨rfl, (Chg.trans (Chg.trans (Chg.trans (Chg.trans hx2 hx4) hx11) hx15) hx20)⟩
        · skip
          have hc19 := of_decide_eq_true hc19
          refine WP_cond_t rfl ?_
          refine WP_skip ?_
          refine WP_seq ?_
          refine WP_block ?_
          refine WP_seq ?_
          refine WP_region0 (by kernel_rfl) (fun _ => ?_)
          refine st (ov_assign (v := .int .i64 (0)) rfl ?_)
          refine st_nil ?_
          refine WP_block ?_
          refine WP_loop (fun m σ wq => ∃ (k2 : Nat) (ρ : Env), m = i2 - k2 ∧ σ = setAll ρ [(0, vl), (5, v13), (6, .int .i64 ((i2 : Nat) : Int)), (7, .int .i64 ((k2 : Nat) : Int))] ∧ (Ext w4 wq) ∧ (k2 ≤ i2)) ⟨0, _, rfl, setAll_self ⟨rfl, rfl, rfl, rfl, trivial⟩, (Chg.refl _ _), Nat.zero_le _⟩ ?_
          rintro m23 σ24 w6 ⟨k2, ρ6, rfl, rfl, hx21, hk22⟩
          have hx21s := hx21.size
          refine WP_seq ?_
          refine WP_seq ?_
          refine WP_region0 (by kernel_rfl) (fun _ => ?_)
          refine st (ov_move (v := .int .i64 ((k2 : Nat) : Int)) rfl ?_)
          refine st (ov_move (v := .int .i64 ((i2 : Nat) : Int)) rfl ?_)
          refine st (ov_lss (k := .i64) (a := ((k2 : Nat) : Int)) (b := ((i2 : Nat) : Int)) rfl rfl ?_)
          refine st_nil ?_
          cases hc25 : decide (((k2 : Nat) : Int) < ((i2 : Nat) : Int))
          · skip
            have hc25 := of_decide_eq_false hc25
            refine WP_cond_f rfl ?_
            refine WP_exit ?_
            refine blk_exit ?_
            refine WP_region0 (by kernel_rfl) (fun _ => ?_)
            refine st (ov_move (v := .int .i64 ((i2 : Nat) : Int)) rfl ?_)
            have hr26 : InR ((i2 + 1 : Nat) : Int) := by omega
            refine st (ov_add (r := ((i2 + 1 : Nat) : Int)) (k := .i64) (a := ((i2 : Nat) : Int)) (b := 1) rfl rfl (by rw [show (((i2 : Nat) : Int) + 1 : Int) = ((i2 + 1 : Nat) : Int) by omega]; exact wrap_in hr26) ?_)
            refine st (ov_assign (v := .int .i64 ((i2 + 1 : Nat) : Int)) rfl ?_)
            refine st_nil ?_
            exact ⟨_, by omega, i2 + 1, _, rfl, setAll_self ⟨rfl, rfl, rfl, trivial⟩, (Chg.trans hx15 hx21), by omega⟩
          · skip
            have hc25 := of_decide_eq_true hc25
            refine WP_cond_t rfl ?_
            refine WP_skip ?_
            refine WP_seq ?_
            refine WP_block ?_
            refine WP_seq ?_
            refine WP_draw Ext (AL [fun v w => v = (v13 : Value), fun v w => v = (.int .i64 ((i2 : Nat) : Int) : Value), fun v w => v = (.pointer (some ⟨sb v13, so v13 + i2 * 10, none⟩) : Value), fun v w => v = (.agg (((srt l).getD i2 default).cells (cellV w6 (sb v13) (so v13 + i2 * 10 + 3))).toArray : Value), fun v w => v = (v13 : Value), fun v w => v = (.int .i64 ((k2 : Nat) : Int) : Value), fun v w => v = (.pointer (some ⟨sb v13, so v13 + k2 * 10, none⟩) : Value), fun v w => v = (.agg (((srt l).getD k2 default).cells (cellV w6 (sb v13) (so v13 + k2 * 10 + 3))).toArray : Value)]) [[], [], [0, 1], [0, 1, 2], [], [], [4, 5], [4, 5, 6], [0, 1, 2, 3, 4, 5, 6, 7]] 8 (by kernel_rfl) (by kernel_rfl) (by kernel_rfl) (fun w => Chg.refl _ w) (fun _ _ _ h1 h2 => h1.trans h2) (stabL ⟨fun _ _ _ _ h => h, fun _ _ _ _ h => h, fun _ _ _ _ h => h, fun _ _ _ _ h => h, fun _ _ _ _ h => h, fun _ _ _ _ h => h, fun _ _ _ _ h => h, fun _ _ _ _ h => h, trivial⟩) ?_
            intro w7 qh1 qh2 qh3 qh4
            have hx27 := ext_same qh1 qh2 qh3 qh4
            refine ⟨⟨?_, ?_, ?_, ?_, ?_, ?_, ?_, ?_, trivial⟩, ?_⟩
            · intro vals w8 hR28 hA
              have hs29 := hR28.size
              refine obl rfl ?_
              exact ov_move (v := v13) rfl ⟨Chg.refl _ _, rfl⟩
            · intro vals w9 hR30 hA
              have hs31 := hR30.size
              refine obl rfl ?_
              exact ov_move (v := .int .i64 ((i2 : Nat) : Int)) rfl ⟨Chg.refl _ _, rfl⟩
            · intro vals w10 hR32 hA
              have hs33 := hR32.size
              have e0 : (vals 0) = (v13 : Value) := hA 0 (by decide)
              have e1 : (vals 1) = (.int .i64 ((i2 : Nat) : Int) : Value) := hA 1 (by decide)
              refine obl rfl ?_
              have hi34 : i2 < (srt l).length := by omega
              have h36 := hf12r.ext (Chg.trans hx15 hx21)
              have hi35 : i2 < (srt l).length := by omega
              obtain ⟨hc35, hd35, hok35⟩ := h36.ev hi35
              rw [← getD_at default hi35] at hc35 hd35 hok35
              exact ov_indexAddrN (k := 10) (i := i2) Try.underlying22 Try.sizeOf29 (show _ = (v13 : Value) from e0) hf12r.sl (show _ = (.int .i64 ((i2 : Nat) : Int) : Value) from e1) hi34 ⟨Chg.refl _ _, rfl⟩
            · intro vals w11 hR37 hA
              have hs38 := hR37.size
              have e2 : (vals 2) = (.pointer (some ⟨sb v13, so v13 + i2 * 10, none⟩) : Value) := hA 2 (by decide)
              refine obl rfl ?_
              have h40 := hf12r.ext (Chg.trans hx15 hx21)
              have hi39 : i2 < (srt l).length := by omega
              obtain ⟨hc39, hd39, hok39⟩ := h40.ev hi39
              rw [← getD_at default hi39] at hc39 hd39 hok39
              have h41 := hc39.mono (fun hb => (Chg.trans hx27 hR37).block _ hb (fun h => h))
              exact ov_loadk (k := 10) Try.isAgg29 Try.sizeOf29 rfl (show _ = (.pointer (some ⟨sb v13, so v13 + i2 * 10, none⟩) : Value) from e2) h41 ⟨Chg.refl _ _, rfl⟩
            · intro vals w12 hR42 hA
              have hs43 := hR42.size
              refine obl rfl ?_
              exact ov_move (v := v13) rfl ⟨Chg.refl _ _, rfl⟩
            · intro vals w13 hR44 hA
              have hs45 := hR44.size
              refine obl rfl ?_
              exact ov_move (v := .int .i64 ((k2 : Nat) : Int)) rfl ⟨Chg.refl _ _, rfl⟩
            · intro vals w14 hR46 hA
              have hs47 := hR46.size
              have e4 : (vals 4) = (v13 : Value) := hA 4 (by decide)
              have e5 : (vals 5) = (.int .i64 ((k2 : Nat) : Int) : Value) := hA 5 (by decide)
              refine obl rfl ?_
              have hi48 : k2 < (srt l).length := by omega
              have h50 := hf12r.ext (Chg.trans hx15 hx21)
              have hi49 : k2 < (srt l).length := by omega
              obtain ⟨hc49, hd49, hok49⟩ := h50.ev hi49
              rw [← getD_at default hi49] at hc49 hd49 hok49
              exact ov_indexAddrN (k := 10) (i := k2) Try.underlying22 Try.sizeOf29 (show _ = (v13 : Value) from e4) hf12r.sl (show _ = (.int .i64 ((k2 : Nat) : Int) : Value) from e5) hi48 ⟨Chg.refl _ _, rfl⟩
            · intro vals w15 hR51 hA
              have hs52 := hR51.size
              have e6 : (vals 6) = (.pointer (some ⟨sb v13, so v13 + k2 * 10, none⟩) : Value) := hA 6 (by decide)
              refine obl rfl ?_
              have h54 := hf12r.ext (Chg.trans hx15 hx21)
              have hi53 : k2 < (srt l).length := by omega
              obtain ⟨hc53, hd53, hok53⟩ := h54.ev hi53
              rw [← getD_at default hi53] at hc53 hd53 hok53
              have h55 := hc53.mono (fun hb => (Chg.trans hx27 hR51).block _ hb (fun h => h))
              exact ov_loadk (k := 10) Try.isAgg29 Try.sizeOf29 rfl (show _ = (.pointer (some ⟨sb v13, so v13 + k2 * 10, none⟩) : Value) from e6) h55 ⟨Chg.refl _ _, rfl⟩
            intro vals w16 hR56 hA
            have hs57 := hR56.size
            have hs58 := hx27.size
            have e3 : (vals 3) = (.agg (((srt l).getD i2 default).cells (cellV w6 (sb v13) (so v13 + i2 * 10 + 3))).toArray : Value) := hA 3 (by decide)
            have e7 : (vals 7) = (.agg (((srt l).getD k2 default).cells (cellV w6 (sb v13) (so v13 + k2 * 10 + 3))).toArray : Value) := hA 7 (by decide)
            refine st_env (kv := [(0, vl), (5, v13), (6, .int .i64 ((i2 : Nat) : Int)), (7, .int .i64 ((k2 : Nat) : Int)), (64, .int .i64 ((k2 : Nat) : Int)), (65, .int .i64 ((i2 : Nat) : Int)), (66, .bool true), (72, .agg (((srt l).getD i2 default).cells (cellV w6 (sb v13) (so v13 + i2 * 10 + 3))).toArray), (76, .agg (((srt l).getD k2 default).cells (cellV w6 (sb v13) (so v13 + k2 * 10 + 3))).toArray)]) ⟨rfl, rfl, rfl, rfl, rfl, rfl, rfl, e3, e7, trivial⟩ (fun ρ16 => ?_)
            clear e3 e7
            clear hA qh1 qh2 qh3 qh4
            have h60 := hf12r.ext (Chg.trans hx15 hx21)
            have hi59 : i2 < (srt l).length := by omega
            obtain ⟨hc59, hd59, hok59⟩ := h60.ev hi59
            rw [← getD_at default hi59] at hc59 hd59 hok59
            have h61 := hd59.ext (Chg.trans hx27 hR56)
            have h63 := hf12r.ext (Chg.trans hx15 hx21)
            have hi62 : k2 < (srt l).length := by omega
            obtain ⟨hc62, hd62, hok62⟩ := h63.ev hi62
            rw [← getD_at default hi62] at hc62 hd62 hok62
            have h64 := hd62.ext (Chg.trans hx27 hR56)
            refine st (ov_call (f := 11) (vals := [.agg (((srt l).getD i2 default).cells (cellV w6 (sb v13) (so v13 + i2 * 10 + 3))).toArray, .agg (((srt l).getD k2 default).cells (cellV w6 (sb v13) (so v13 + k2 * 10 + 3))).toArray]) (cap := []) (show _ = (.func (.func 11) #[] #[] : Value) from rfl) rfl Try.call11 (C_Before h61 hok59 h64 hok62) ?_)
            rintro _ w17 ⟨rfl, hx65⟩
            have hx65s := hx65.size
            refine st_nil ?_
            cases hc66 : before ((srt l).getD i2 default) ((srt l).getD k2 default)
            · skip
              refine WP_cond_f rfl ?_
              refine WP_skip ?_
              refine WP_region0 (by kernel_rfl) (fun _ => ?_)
              refine st (ov_move (v := .int .i64 ((k2 : Nat) : Int)) rfl ?_)
              have hr67 : InR ((k2 + 1 : Nat) : Int) := by omega
              refine st (ov_add (r := ((k2 + 1 : Nat) : Int)) (k := .i64) (a := ((k2 : Nat) : Int)) (b := 1) rfl rfl (by rw [show (((k2 : Nat) : Int) + 1 : Int) = ((k2 + 1 : Nat) : Int) by omega]; exact wrap_in hr67) ?_)
              refine st (ov_assign (v := .int .i64 ((k2 + 1 : Nat) : Int)) rfl ?_)
              refine st_nil ?_
              exact ⟨_, by omega, k2 + 1, _, rfl, setAll_self ⟨rfl, rfl, rfl, rfl, trivial⟩, (Chg.trans (Chg.trans (Chg.trans hx21 hx27) hR56) hx65), by omega⟩
            · skip
              refine WP_cond_t rfl ?_
              refine WP_seq ?_
              refine WP_region0 (by kernel_rfl) (fun _ => ?_)
              refine st (ov_assign (v := .bool false) rfl ?_)
              refine st_nil ?_
              refine WP_ret ?_
              refine fin1 Try.results8 (show _ = (.bool false : Value) from rfl) ?_
              exfalso
              first | (have := srt_length l; omega) | (have hb := extends_ok (l := l) (fun x y hx hy hne hb => hv6 x y (by omega) hy hne hb) (i := i2) (k := k2) (by omega) (by omega); rw [hb] at hc66; cases hc66)
      · skip
        have hc14 := ndec_true hc14
        refine WP_cond_t rfl ?_
        refine WP_seq ?_
        refine WP_region0 (by kernel_rfl) (fun _ => ?_)
        refine st (ov_assign (v := .bool false) rfl ?_)
        refine st_nil ?_
        refine WP_ret ?_
        refine fin1 Try.results8 (show _ = (.bool false : Value) from rfl) ?_
        exfalso
        first | (have := srt_length l; omega) | (have hb := extends_ok (l := l) (fun x y hx hy hne hb => hv6 x y (by omega) hy hne hb) (i := i2) (k := k2) (by omega) (by omega); rw [hb] at hc14; cases hc14)
    · skip
      have hc9 := of_decide_eq_true hc9
      refine WP_cond_t rfl ?_
      refine WP_skip ?_
      refine WP_seq ?_
      refine WP_block ?_
      refine WP_seq ?_
      refine WP_region0 (by kernel_rfl) (fun _ => ?_)
      refine st (ov_assign (v := .int .i64 (0)) rfl ?_)
      refine st_nil ?_
      refine WP_block ?_
      refine WP_loop (fun m σ wq => ∃ (k : Nat) (ρ : Env), m = l.length - k ∧ σ = setAll ρ [(0, vl), (3, .int .i64 ((i : Nat) : Int)), (4, .int .i64 ((k : Nat) : Int))] ∧ (Ext w2 wq) ∧ (k ≤ l.length) ∧ (∀ y, y < k → i ≠ y → before (l.getD i default) (l.getD y default) = true → (l.getD i default).lam < (l.getD y default).lam)) ⟨0, _, rfl, setAll_self ⟨rfl, rfl, rfl, trivial⟩, (Chg.refl _ _), Nat.zero_le _, (fun y h => absurd h (Nat.not_lt_zero y))⟩ ?_
      rintro m71 σ72 w18 ⟨k, ρ18, rfl, rfl, hx68, hk69, hv70⟩
      have hx68s := hx68.size
      refine WP_seq ?_
      refine WP_seq ?_
      refine WP_region0 (by kernel_rfl) (fun _ => ?_)
      refine st (ov_move (v := .int .i64 ((k : Nat) : Int)) rfl ?_)
      refine st (ov_move (v := vl) rfl ?_)
      refine st (ov_len (n := l.length) Try.underlying22 rfl hl.sl ?_)
      refine st (ov_lss (k := .i64) (a := ((k : Nat) : Int)) (b := ((l.length : Nat) : Int)) rfl rfl ?_)
      refine st_nil ?_
      cases hc73 : decide (((k : Nat) : Int) < ((l.length : Nat) : Int))
      · skip
        have hc73 := of_decide_eq_false hc73
        refine WP_cond_f rfl ?_
        refine WP_exit ?_
        refine blk_exit ?_
        refine WP_region0 (by kernel_rfl) (fun _ => ?_)
        refine st (ov_move (v := .int .i64 ((i : Nat) : Int)) rfl ?_)
        have hr74 : InR ((i + 1 : Nat) : Int) := by omega
        refine st (ov_add (r := ((i + 1 : Nat) : Int)) (k := .i64) (a := ((i : Nat) : Int)) (b := 1) rfl rfl (by rw [show (((i : Nat) : Int) + 1 : Int) = ((i + 1 : Nat) : Int) by omega]; exact wrap_in hr74) ?_)
        refine st (ov_assign (v := .int .i64 ((i + 1 : Nat) : Int)) rfl ?_)
        refine st_nil ?_
        exact ⟨_, by omega, i + 1, _, rfl, setAll_self ⟨rfl, rfl, trivial⟩, (Chg.trans hx4 hx68), by omega, (fun x y hx hy => by rcases Nat.lt_or_eq_of_le (Nat.le_of_lt_succ hx) with h | h; exact hv6 x y h hy; subst h; exact hv70 y (by omega))⟩
      · skip
        have hc73 := of_decide_eq_true hc73
        refine WP_cond_t rfl ?_
        refine WP_skip ?_
        refine WP_seq ?_
        refine WP_block ?_
        refine WP_seq ?_
        refine WP_draw Ext (AL [fun v w => v = (.int .i64 ((i : Nat) : Int) : Value), fun v w => v = (.int .i64 ((k : Nat) : Int) : Value), fun v w => v = (.bool (!decide (((i : Nat) : Int) = ((k : Nat) : Int))) : Value), fun v w => v = (.bool (!decide (((i : Nat) : Int) = ((k : Nat) : Int))) : Value), fun v w => v = (if (!decide (((i : Nat) : Int) = ((k : Nat) : Int))) = true then (vl : Value) else undef), fun v w => v = (if (!decide (((i : Nat) : Int) = ((k : Nat) : Int))) = true then (.int .i64 ((i : Nat) : Int) : Value) else undef), fun v w => v = (if (!decide (((i : Nat) : Int) = ((k : Nat) : Int))) = true then (.pointer (some ⟨sb vl, so vl + i * 10, none⟩) : Value) else undef), fun v w => v = (if (!decide (((i : Nat) : Int) = ((k : Nat) : Int))) = true then (.agg ((l.getD i default).cells (cellV w18 (sb vl) (so vl + i * 10 + 3))).toArray : Value) else undef), fun v w => v = (if (!decide (((i : Nat) : Int) = ((k : Nat) : Int))) = true then (vl : Value) else undef), fun v w => v = (if (!decide (((i : Nat) : Int) = ((k : Nat) : Int))) = true then (.int .i64 ((k : Nat) : Int) : Value) else undef), fun v w => v = (if (!decide (((i : Nat) : Int) = ((k : Nat) : Int))) = true then (.pointer (some ⟨sb vl, so vl + k * 10, none⟩) : Value) else undef), fun v w => v = (if (!decide (((i : Nat) : Int) = ((k : Nat) : Int))) = true then (.agg ((l.getD k default).cells (cellV w18 (sb vl) (so vl + k * 10 + 3))).toArray : Value) else undef), fun v w => v = (if (!decide (((i : Nat) : Int) = ((k : Nat) : Int))) = true then (.bool (before (l.getD i default) (l.getD k default)) : Value) else undef), fun v w => v = (.bool ((!decide (((i : Nat) : Int) = ((k : Nat) : Int))) && (before (l.getD i default) (l.getD k default))) : Value), fun v w => v = (.bool ((!decide (((i : Nat) : Int) = ((k : Nat) : Int))) && (before (l.getD i default) (l.getD k default))) : Value), fun v w => v = (if ((!decide (((i : Nat) : Int) = ((k : Nat) : Int))) && (before (l.getD i default) (l.getD k default))) = true then (vl : Value) else undef), fun v w => v = (if ((!decide (((i : Nat) : Int) = ((k : Nat) : Int))) && (before (l.getD i default) (l.getD k default))) = true then (.int .i64 ((k : Nat) : Int) : Value) else undef), fun v w => v = (if ((!decide (((i : Nat) : Int) = ((k : Nat) : Int))) && (before (l.getD i default) (l.getD k default))) = true then (.pointer (some ⟨sb vl, so vl + k * 10, none⟩) : Value) else undef), fun v w => v = (if ((!decide (((i : Nat) : Int) = ((k : Nat) : Int))) && (before (l.getD i default) (l.getD k default))) = true then (.pointer (some ⟨sb vl, so vl + k * 10 + 2, none⟩) : Value) else undef), fun v w => v = (if ((!decide (((i : Nat) : Int) = ((k : Nat) : Int))) && (before (l.getD i default) (l.getD k default))) = true then (.int .i64 ((l.getD k default).lam) : Value) else undef), fun v w => v = (if ((!decide (((i : Nat) : Int) = ((k : Nat) : Int))) && (before (l.getD i default) (l.getD k default))) = true then (vl : Value) else undef), fun v w => v = (if ((!decide (((i : Nat) : Int) = ((k : Nat) : Int))) && (before (l.getD i default) (l.getD k default))) = true then (.int .i64 ((i : Nat) : Int) : Value) else undef), fun v w => v = (if ((!decide (((i : Nat) : Int) = ((k : Nat) : Int))) && (before (l.getD i default) (l.getD k default))) = true then (.pointer (some ⟨sb vl, so vl + i * 10, none⟩) : Value) else undef), fun v w => v = (if ((!decide (((i : Nat) : Int) = ((k : Nat) : Int))) && (before (l.getD i default) (l.getD k default))) = true then (.pointer (some ⟨sb vl, so vl + i * 10 + 2, none⟩) : Value) else undef), fun v w => v = (if ((!decide (((i : Nat) : Int) = ((k : Nat) : Int))) && (before (l.getD i default) (l.getD k default))) = true then (.int .i64 ((l.getD i default).lam) : Value) else undef), fun v w => v = (if ((!decide (((i : Nat) : Int) = ((k : Nat) : Int))) && (before (l.getD i default) (l.getD k default))) = true then (.bool (decide (((l.getD k default).lam) ≤ ((l.getD i default).lam))) : Value) else undef), fun v w => v = (.bool (((!decide (((i : Nat) : Int) = ((k : Nat) : Int))) && (before (l.getD i default) (l.getD k default))) && (decide (((l.getD k default).lam) ≤ ((l.getD i default).lam)))) : Value)]) [[], [], [0, 1], [0, 1, 2], [0, 1, 2, 3], [0, 1, 2, 3], [0, 1, 2, 3, 4, 5], [0, 1, 2, 3, 4, 5, 6], [0, 1, 2, 3], [0, 1, 2, 3], [0, 1, 2, 3, 8, 9], [0, 1, 2, 3, 8, 9, 10], [0, 1, 2, 3, 4, 5, 6, 7, 8, 9, 10, 11], [0, 1, 2, 3, 4, 5, 6, 7, 8, 9, 10, 11, 12], [0, 1, 2, 3, 4, 5, 6, 7, 8, 9, 10, 11, 12, 13], [0, 1, 2, 3, 4, 5, 6, 7, 8, 9, 10, 11, 12, 13, 14], [0, 1, 2, 3, 4, 5, 6, 7, 8, 9, 10, 11, 12, 13, 14], [0, 1, 2, 3, 4, 5, 6, 7, 8, 9, 10, 11, 12, 13, 14, 15, 16], [0, 1, 2, 3, 4, 5, 6, 7, 8, 9, 10, 11, 12, 13, 14, 15, 16, 17], [0, 1, 2, 3, 4, 5, 6, 7, 8, 9, 10, 11, 12, 13, 14, 15, 16, 17, 18], [0, 1, 2, 3, 4, 5, 6, 7, 8, 9, 10, 11, 12, 13, 14], [0, 1, 2, 3, 4, 5, 6, 7, 8, 9, 10, 11, 12, 13, 14], [0, 1, 2, 3, 4, 5, 6, 7, 8, 9, 10, 11, 12, 13, 14, 20, 21], [0, 1, 2, 3, 4, 5, 6, 7, 8, 9, 10, 11, 12, 13, 14, 20, 21, 22], [0, 1, 2, 3, 4, 5, 6, 7, 8, 9, 10, 11, 12, 13, 14, 20, 21, 22, 23], [0, 1, 2, 3, 4, 5, 6, 7, 8, 9, 10, 11, 12, 13, 14, 15, 16, 17, 18, 19, 20, 21, 22, 23, 24], [0, 1, 2, 3, 4, 5, 6, 7, 8, 9, 10, 11, 12, 13, 14, 15, 16, 17, 18, 19, 20, 21, 22, 23, 24, 25]] 27 (by kernel_rfl) (by kernel_rfl) (by kernel_rfl) (fun w => Chg.refl _ w) (fun _ _ _ h1 h2 => h1.trans h2) (stabL ⟨fun _ _ _ _ h => h, fun _ _ _ _ h => h, fun _ _ _ _ h => h, fun _ _ _ _ h => h, fun _ _ _ _ h => h, fun _ _ _ _ h => h, fun _ _ _ _ h => h, fun _ _ _ _ h => h, fun _ _ _ _ h => h, fun _ _ _ _ h => h, fun _ _ _ _ h => h, fun _ _ _ _ h => h, fun _ _ _ _ h => h, fun _ _ _ _ h => h, fun _ _ _ _ h => h, fun _ _ _ _ h => h, fun _ _ _ _ h => h, fun _ _ _ _ h => h, fun _ _ _ _ h => h, fun _ _ _ _ h => h, fun _ _ _ _ h => h, fun _ _ _ _ h => h, fun _ _ _ _ h => h, fun _ _ _ _ h => h, fun _ _ _ _ h => h, fun _ _ _ _ h => h, fun _ _ _ _ h => h, trivial⟩) ?_
        intro w19 qh1 qh2 qh3 qh4
        have hx75 := ext_same qh1 qh2 qh3 qh4
        refine ⟨⟨?_, ?_, ?_, ?_, ?_, ?_, ?_, ?_, ?_, ?_, ?_, ?_, ?_, ?_, ?_, ?_, ?_, ?_, ?_, ?_, ?_, ?_, ?_, ?_, ?_, ?_, ?_, trivial⟩, ?_⟩
        · intro vals w20 hR76 hA
          have hs77 := hR76.size
          refine obl rfl ?_
          exact ov_move (v := .int .i64 ((i : Nat) : Int)) rfl ⟨Chg.refl _ _, rfl⟩
        · intro vals w21 hR78 hA
          have hs79 := hR78.size
          refine obl rfl ?_
          exact ov_move (v := .int .i64 ((k : Nat) : Int)) rfl ⟨Chg.refl _ _, rfl⟩
        · intro vals w22 hR80 hA
          have hs81 := hR80.size
          have e0 : (vals 0) = (.int .i64 ((i : Nat) : Int) : Value) := hA 0 (by decide)
          have e1 : (vals 1) = (.int .i64 ((k : Nat) : Int) : Value) := hA 1 (by decide)
          refine obl rfl ?_
          exact ov_neq (k := .i64) (a := ((i : Nat) : Int)) (b := ((k : Nat) : Int)) (show _ = (.int .i64 ((i : Nat) : Int) : Value) from e0) (show _ = (.int .i64 ((k : Nat) : Int) : Value) from e1) ⟨Chg.refl _ _, rfl⟩
        · intro vals w23 hR82 hA
          have hs83 := hR82.size
          have e2 : (vals 2) = (.bool (!decide (((i : Nat) : Int) = ((k : Nat) : Int))) : Value) := hA 2 (by decide)
          refine obl rfl ?_
          exact ov_move (v := .bool (!decide (((i : Nat) : Int) = ((k : Nat) : Int)))) (show _ = (.bool (!decide (((i : Nat) : Int) = ((k : Nat) : Int))) : Value) from e2) ⟨Chg.refl _ _, rfl⟩
        · intro vals w24 hR84 hA
          have hs85 := hR84.size
          have e3 : (vals 3) = (.bool (!decide (((i : Nat) : Int) = ((k : Nat) : Int))) : Value) := hA 3 (by decide)
          refine oblc rfl rfl (show _ = (.bool (!decide (((i : Nat) : Int) = ((k : Nat) : Int))) : Value) from e3) (fun hb86 => ?_) (fun hb86 => (if_neg hb86).symm)
          have hl87 : (!decide (((i : Nat) : Int) = ((k : Nat) : Int))) = true := hb86
          have hl87 := ndec_true hl87
          exact ov_move (v := vl) rfl ⟨Chg.refl _ _, (if_pos hb86).symm⟩
        · intro vals w25 hR88 hA
          have hs89 := hR88.size
          have e3 : (vals 3) = (.bool (!decide (((i : Nat) : Int) = ((k : Nat) : Int))) : Value) := hA 3 (by decide)
          refine oblc rfl rfl (show _ = (.bool (!decide (((i : Nat) : Int) = ((k : Nat) : Int))) : Value) from e3) (fun hb90 => ?_) (fun hb90 => (if_neg hb90).symm)
          have hl91 : (!decide (((i : Nat) : Int) = ((k : Nat) : Int))) = true := hb90
          have hl91 := ndec_true hl91
          exact ov_move (v := .int .i64 ((i : Nat) : Int)) rfl ⟨Chg.refl _ _, (if_pos hb90).symm⟩
        · intro vals w26 hR92 hA
          have hs93 := hR92.size
          have e3 : (vals 3) = (.bool (!decide (((i : Nat) : Int) = ((k : Nat) : Int))) : Value) := hA 3 (by decide)
          have e4 : (vals 4) = (if (!decide (((i : Nat) : Int) = ((k : Nat) : Int))) = true then (vl : Value) else undef) := hA 4 (by decide)
          have e5 : (vals 5) = (if (!decide (((i : Nat) : Int) = ((k : Nat) : Int))) = true then (.int .i64 ((i : Nat) : Int) : Value) else undef) := hA 5 (by decide)
          refine oblc rfl rfl (show _ = (.bool (!decide (((i : Nat) : Int) = ((k : Nat) : Int))) : Value) from e3) (fun hb94 => ?_) (fun hb94 => (if_neg hb94).symm)
          have hl95 : (!decide (((i : Nat) : Int) = ((k : Nat) : Int))) = true := hb94
          have hl95 := ndec_true hl95
          have hi96 : i < l.length := by omega
          have h98 := hl.ext (Chg.trans (Chg.trans hx2 hx4) hx68)
          have hi97 : i < l.length := by omega
          obtain ⟨hc97, hd97, hok97⟩ := h98.ev hi97
          rw [← getD_at default hi97] at hc97 hd97 hok97
          exact ov_indexAddrN (k := 10) (i := i) Try.underlying22 Try.sizeOf29 (show _ = (vl : Value) from (Eq.trans e4 (if_pos hb94))) hl.sl (show _ = (.int .i64 ((i : Nat) : Int) : Value) from (Eq.trans e5 (if_pos hb94))) hi96 ⟨Chg.refl _ _, (if_pos hb94).symm⟩
        · intro vals w27 hR99 hA
          have hs100 := hR99.size
          have e3 : (vals 3) = (.bool (!decide (((i : Nat) : Int) = ((k : Nat) : Int))) : Value) := hA 3 (by decide)
          have e6 : (vals 6) = (if (!decide (((i : Nat) : Int) = ((k : Nat) : Int))) = true then (.pointer (some ⟨sb vl, so vl + i * 10, none⟩) : Value) else undef) := hA 6 (by decide)
          refine oblc rfl rfl (show _ = (.bool (!decide (((i : Nat) : Int) = ((k : Nat) : Int))) : Value) from e3) (fun hb101 => ?_) (fun hb101 => (if_neg hb101).symm)
          have hl102 : (!decide (((i : Nat) : Int) = ((k : Nat) : Int))) = true := hb101
          have hl102 := ndec_true hl102
          have h104 := hl.ext (Chg.trans (Chg.trans hx2 hx4) hx68)
          have hi103 : i < l.length := by omega
          obtain ⟨hc103, hd103, hok103⟩ := h104.ev hi103
          rw [← getD_at default hi103] at hc103 hd103 hok103
          have h105 := hc103.mono (fun hb => (Chg.trans hx75 hR99).block _ hb (fun h => h))
          exact ov_loadk (k := 10) Try.isAgg29 Try.sizeOf29 rfl (show _ = (.pointer (some ⟨sb vl, so vl + i * 10, none⟩) : Value) from (Eq.trans e6 (if_pos hb101))) h105 ⟨Chg.refl _ _, (if_pos hb101).symm⟩
        · intro vals w28 hR106 hA
          have hs107 := hR106.size
          have e3 : (vals 3) = (.bool (!decide (((i : Nat) : Int) = ((k : Nat) : Int))) : Value) := hA 3 (by decide)
          refine oblc rfl rfl (show _ = (.bool (!decide (((i : Nat) : Int) = ((k : Nat) : Int))) : Value) from e3) (fun hb108 => ?_) (fun hb108 => (if_neg hb108).symm)
          have hl109 : (!decide (((i : Nat) : Int) = ((k : Nat) : Int))) = true := hb108
          have hl109 := ndec_true hl109
          exact ov_move (v := vl) rfl ⟨Chg.refl _ _, (if_pos hb108).symm⟩
        · intro vals w29 hR110 hA
          have hs111 := hR110.size
          have e3 : (vals 3) = (.bool (!decide (((i : Nat) : Int) = ((k : Nat) : Int))) : Value) := hA 3 (by decide)
          refine oblc rfl rfl (show _ = (.bool (!decide (((i : Nat) : Int) = ((k : Nat) : Int))) : Value) from e3) (fun hb112 => ?_) (fun hb112 => (if_neg hb112).symm)
          have hl113 : (!decide (((i : Nat) : Int) = ((k : Nat) : Int))) = true := hb112
          have hl113 := ndec_true hl113
          exact ov_move (v := .int .i64 ((k : Nat) : Int)) rfl ⟨Chg.refl _ _, (if_pos hb112).symm⟩
        · intro vals w30 hR114 hA
          have hs115 := hR114.size
          have e3 : (vals 3) = (.bool (!decide (((i : Nat) : Int) = ((k : Nat) : Int))) : Value) := hA 3 (by decide)
          have e8 : (vals 8) = (if (!decide (((i : Nat) : Int) = ((k : Nat) : Int))) = true then (vl : Value) else undef) := hA 8 (by decide)
          have e9 : (vals 9) = (if (!decide (((i : Nat) : Int) = ((k : Nat) : Int))) = true then (.int .i64 ((k : Nat) : Int) : Value) else undef) := hA 9 (by decide)
          refine oblc rfl rfl (show _ = (.bool (!decide (((i : Nat) : Int) = ((k : Nat) : Int))) : Value) from e3) (fun hb116 => ?_) (fun hb116 => (if_neg hb116).symm)
          have hl117 : (!decide (((i : Nat) : Int) = ((k : Nat) : Int))) = true := hb116
          have hl117 := ndec_true hl117
          have hi118 : k < l.length := by omega
          have h120 := hl.ext (Chg.trans (Chg.trans hx2 hx4) hx68)
          have hi119 : k < l.length := by omega
          obtain ⟨hc119, hd119, hok119⟩ := h120.ev hi119
          rw [← getD_at default hi119] at hc119 hd119 hok119
          exact ov_indexAddrN (k := 10) (i := k) Try.underlying22 Try.sizeOf29 (show _ = (vl : Value) from (Eq.trans e8 (if_pos hb116))) hl.sl (show _ = (.int .i64 ((k : Nat) : Int) : Value) from (Eq.trans e9 (if_pos hb116))) hi118 ⟨Chg.refl _ _, (if_pos hb116).symm⟩
        · intro vals w31 hR121 hA
          have hs122 := hR121.size
          have e3 : (vals 3) = (.bool (!decide (((i : Nat) : Int) = ((k : Nat) : Int))) : Value) := hA 3 (by decide)
          have e10 : (vals 10) = (if (!decide (((i : Nat) : Int) = ((k : Nat) : Int))) = true then (.pointer (some ⟨sb vl, so vl + k * 10, none⟩) : Value) else undef) := hA 10 (by decide)
          refine oblc rfl rfl (show _ = (.bool (!decide (((i : Nat) : Int) = ((k : Nat) : Int))) : Value) from e3) (fun hb123 => ?_) (fun hb123 => (if_neg hb123).symm)
          have hl124 : (!decide (((i : Nat) : Int) = ((k : Nat) : Int))) = true := hb123
          have hl124 := ndec_true hl124
          have h126 := hl.ext (Chg.trans (Chg.trans hx2 hx4) hx68)
          have hi125 : k < l.length := by omega
          obtain ⟨hc125, hd125, hok125⟩ := h126.ev hi125
          rw [← getD_at default hi125] at hc125 hd125 hok125
          have h127 := hc125.mono (fun hb => (Chg.trans hx75 hR121).block _ hb (fun h => h))
          exact ov_loadk (k := 10) Try.isAgg29 Try.sizeOf29 rfl (show _ = (.pointer (some ⟨sb vl, so vl + k * 10, none⟩) : Value) from (Eq.trans e10 (if_pos hb123))) h127 ⟨Chg.refl _ _, (if_pos hb123).symm⟩
        · intro vals w32 hR128 hA
          have hs129 := hR128.size
          have e3 : (vals 3) = (.bool (!decide (((i : Nat) : Int) = ((k : Nat) : Int))) : Value) := hA 3 (by decide)
          have e7 : (vals 7) = (if (!decide (((i : Nat) : Int) = ((k : Nat) : Int))) = true then (.agg ((l.getD i default).cells (cellV w18 (sb vl) (so vl + i * 10 + 3))).toArray : Value) else undef) := hA 7 (by decide)
          have e11 : (vals 11) = (if (!decide (((i : Nat) : Int) = ((k : Nat) : Int))) = true then (.agg ((l.getD k default).cells (cellV w18 (sb vl) (so vl + k * 10 + 3))).toArray : Value) else undef) := hA 11 (by decide)
          refine oblc rfl rfl (show _ = (.bool (!decide (((i : Nat) : Int) = ((k : Nat) : Int))) : Value) from e3) (fun hb130 => ?_) (fun hb130 => (if_neg hb130).symm)
          have hl131 : (!decide (((i : Nat) : Int) = ((k : Nat) : Int))) = true := hb130
          have hl131 := ndec_true hl131
          have h133 := hl.ext (Chg.trans (Chg.trans hx2 hx4) hx68)
          have hi132 : i < l.length := by omega
          obtain ⟨hc132, hd132, hok132⟩ := h133.ev hi132
          rw [← getD_at default hi132] at hc132 hd132 hok132
          have h134 := hd132.ext (Chg.trans hx75 hR128)
          have h136 := hl.ext (Chg.trans (Chg.trans hx2 hx4) hx68)
          have hi135 : k < l.length := by omega
          obtain ⟨hc135, hd135, hok135⟩ := h136.ev hi135
          rw [← getD_at default hi135] at hc135 hd135 hok135
          have h137 := hd135.ext (Chg.trans hx75 hR128)
          exact ov_call (f := 11) (vals := [.agg ((l.getD i default).cells (cellV w18 (sb vl) (so vl + i * 10 + 3))).toArray, .agg ((l.getD k default).cells (cellV w18 (sb vl) (so vl + k * 10 + 3))).toArray]) (cap := []) (show _ = (.func (.func 11) #[] #[] : Value) from rfl) (mapL ⟨(show _ = (.agg ((l.getD i default).cells (cellV w18 (sb vl) (so vl + i * 10 + 3))).toArray : Value) from (Eq.trans e7 (if_pos hb130))), (show _ = (.agg ((l.getD k default).cells (cellV w18 (sb vl) (so vl + k * 10 + 3))).toArray : Value) from (Eq.trans e11 (if_pos hb130))), trivial⟩) Try.call11 (C_Before h134 hok132 h137 hok135) (fun _ _ h => ⟨h.2, h.1.trans (if_pos hb130).symm⟩)
        · intro vals w33 hR138 hA
          have hs139 := hR138.size
          have e3 : (vals 3) = (.bool (!decide (((i : Nat) : Int) = ((k : Nat) : Int))) : Value) := hA 3 (by decide)
          have e12 : (vals 12) = (if (!decide (((i : Nat) : Int) = ((k : Nat) : Int))) = true then (.bool (before (l.getD i default) (l.getD k default)) : Value) else undef) := hA 12 (by decide)
          refine obl rfl ?_
          exact ov_pick_and (b := !decide (((i : Nat) : Int) = ((k : Nat) : Int))) (b' := before (l.getD i default) (l.getD k default)) (show _ = (.bool (!decide (((i : Nat) : Int) = ((k : Nat) : Int))) : Value) from e3) (fun hbp => (show _ = (.bool (before (l.getD i default) (l.getD k default)) : Value) from (Eq.trans e12 (if_pos hbp)))) ⟨Chg.refl _ _, rfl⟩
        · intro vals w34 hR140 hA
          have hs141 := hR140.size
          have e13 : (vals 13) = (.bool ((!decide (((i : Nat) : Int) = ((k : Nat) : Int))) && (before (l.getD i default) (l.getD k default))) : Value) := hA 13 (by decide)
          refine obl rfl ?_
          exact ov_move (v := .bool ((!decide (((i : Nat) : Int) = ((k : Nat) : Int))) && (before (l.getD i default) (l.getD k default)))) (show _ = (.bool ((!decide (((i : Nat) : Int) = ((k : Nat) : Int))) && (before (l.getD i default) (l.getD k default))) : Value) from e13) ⟨Chg.refl _ _, rfl⟩
        · intro vals w35 hR142 hA
          have hs143 := hR142.size
          have e14 : (vals 14) = (.bool ((!decide (((i : Nat) : Int) = ((k : Nat) : Int))) && (before (l.getD i default) (l.getD k default))) : Value) := hA 14 (by decide)
          refine oblc rfl rfl (show _ = (.bool ((!decide (((i : Nat) : Int) = ((k : Nat) : Int))) && (before (l.getD i default) (l.getD k default))) : Value) from e14) (fun hb144 => ?_) (fun hb144 => (if_neg hb144).symm)
          have hl145 : ((!decide (((i : Nat) : Int) = ((k : Nat) : Int))) && (before (l.getD i default) (l.getD k default))) = true := hb144
          simp only [Bool.and_eq_true, Bool.or_eq_true, Bool.and_eq_false_iff, Bool.or_eq_false_iff, decide_eq_true_eq, decide_eq_false_iff_not, Bool.not_eq_true', Bool.not_eq_false', Int.not_lt, Int.not_le] at hl145
          exact ov_move (v := vl) rfl ⟨Chg.refl _ _, (if_pos hb144).symm⟩
        · intro vals w36 hR146 hA
          have hs147 := hR146.size
          have e14 : (vals 14) = (.bool ((!decide (((i : Nat) : Int) = ((k : Nat) : Int))) && (before (l.getD i default) (l.getD k default))) : Value) := hA 14 (by decide)
          refine oblc rfl rfl (show _ = (.bool ((!decide (((i : Nat) : Int) = ((k : Nat) : Int))) && (before (l.getD i default) (l.getD k default))) : Value) from e14) (fun hb148 => ?_) (fun hb148 => (if_neg hb148).symm)
          have hl149 : ((!decide (((i : Nat) : Int) = ((k : Nat) : Int))) && (before (l.getD i default) (l.getD k default))) = true := hb148
          simp only [Bool.and_eq_true, Bool.or_eq_true, Bool.and_eq_false_iff, Bool.or_eq_false_iff, decide_eq_true_eq, decide_eq_false_iff_not, Bool.not_eq_true', Bool.not_eq_false', Int.not_lt, Int.not_le] at hl149
          exact ov_move (v := .int .i64 ((k : Nat) : Int)) rfl ⟨Chg.refl _ _, (if_pos hb148).symm⟩
        · intro vals w37 hR150 hA
          have hs151 := hR150.size
          have e14 : (vals 14) = (.bool ((!decide (((i : Nat) : Int) = ((k : Nat) : Int))) && (before (l.getD i default) (l.getD k default))) : Value) := hA 14 (by decide)
          have e15 : (vals 15) = (if ((!decide (((i : Nat) : Int) = ((k : Nat) : Int))) && (before (l.getD i default) (l.getD k default))) = true then (vl : Value) else undef) := hA 15 (by decide)
          have e16 : (vals 16) = (if ((!decide (((i : Nat) : Int) = ((k : Nat) : Int))) && (before (l.getD i default) (l.getD k default))) = true then (.int .i64 ((k : Nat) : Int) : Value) else undef) := hA 16 (by decide)
          refine oblc rfl rfl (show _ = (.bool ((!decide (((i : Nat) : Int) = ((k : Nat) : Int))) && (before (l.getD i default) (l.getD k default))) : Value) from e14) (fun hb152 => ?_) (fun hb152 => (if_neg hb152).symm)
          have hl153 : ((!decide (((i : Nat) : Int) = ((k : Nat) : Int))) && (before (l.getD i default) (l.getD k default))) = true := hb152
          simp only [Bool.and_eq_true, Bool.or_eq_true, Bool.and_eq_false_iff, Bool.or_eq_false_iff, decide_eq_true_eq, decide_eq_false_iff_not, Bool.not_eq_true', Bool.not_eq_false', Int.not_lt, Int.not_le] at hl153
          have hi154 : k < l.length := by omega
          exact ov_indexAddrN (k := 10) (i := k) Try.underlying22 Try.sizeOf29 (show _ = (vl : Value) from (Eq.trans e15 (if_pos hb152))) hl.sl (show _ = (.int .i64 ((k : Nat) : Int) : Value) from (Eq.trans e16 (if_pos hb152))) hi154 ⟨Chg.refl _ _, (if_pos hb152).symm⟩
        · intro vals w38 hR155 hA
          have hs156 := hR155.size
          have e14 : (vals 14) = (.bool ((!decide (((i : Nat) : Int) = ((k : Nat) : Int))) && (before (l.getD i default) (l.getD k default))) : Value) := hA 14 (by decide)
          have e17 : (vals 17) = (if ((!decide (((i : Nat) : Int) = ((k : Nat) : Int))) && (before (l.getD i default) (l.getD k default))) = true then (.pointer (some ⟨sb vl, so vl + k * 10, none⟩) : Value) else undef) := hA 17 (by decide)
          refine oblc rfl rfl (show _ = (.bool ((!decide (((i : Nat) : Int) = ((k : Nat) : Int))) && (before (l.getD i default) (l.getD k default))) : Value) from e14) (fun hb157 => ?_) (fun hb157 => (if_neg hb157).symm)
          have hl158 : ((!decide (((i : Nat) : Int) = ((k : Nat) : Int))) && (before (l.getD i default) (l.getD k default))) = true := hb157
          simp only [Bool.and_eq_true, Bool.or_eq_true, Bool.and_eq_false_iff, Bool.or_eq_false_iff, decide_eq_true_eq, decide_eq_false_iff_not, Bool.not_eq_true', Bool.not_eq_false', Int.not_lt, Int.not_le] at hl158
          exact fa29_1 (show _ = (.pointer (some ⟨sb vl, so vl + k * 10, none⟩) : Value) from (Eq.trans e17 (if_pos hb157))) ⟨Chg.refl _ _, (if_pos hb157).symm⟩
        · intro vals w39 hR159 hA
          have hs160 := hR159.size
          have e14 : (vals 14) = (.bool ((!decide (((i : Nat) : Int) = ((k : Nat) : Int))) && (before (l.getD i default) (l.getD k default))) : Value) := hA 14 (by decide)
          have e18 : (vals 18) = (if ((!decide (((i : Nat) : Int) = ((k : Nat) : Int))) && (before (l.getD i default) (l.getD k default))) = true then (.pointer (some ⟨sb vl, so vl + k * 10 + 2, none⟩) : Value) else undef) := hA 18 (by decide)
          refine oblc rfl rfl (show _ = (.bool ((!decide (((i : Nat) : Int) = ((k : Nat) : Int))) && (before (l.getD i default) (l.getD k default))) : Value) from e14) (fun hb161 => ?_) (fun hb161 => (if_neg hb161).symm)
          have hl162 : ((!decide (((i : Nat) : Int) = ((k : Nat) : Int))) && (before (l.getD i default) (l.getD k default))) = true := hb161
          simp only [Bool.and_eq_true, Bool.or_eq_true, Bool.and_eq_false_iff, Bool.or_eq_false_iff, decide_eq_true_eq, decide_eq_false_iff_not, Bool.not_eq_true', Bool.not_eq_false', Int.not_lt, Int.not_le] at hl162
          have h164 := hl.ext (Chg.trans (Chg.trans hx2 hx4) hx68)
          have hi163 : k < l.length := by omega
          obtain ⟨hc163, hd163, hok163⟩ := h164.ev hi163
          rw [← getD_at default hi163] at hc163 hd163 hok163
          have h165 := hc163.mono (fun hb => (Chg.trans hx75 hR159).block _ hb (fun h => h))
          exact ov_load1 (v := .int .i64 ((l.getD k default).lam)) Try.isAgg3 (show _ = (.pointer (some ⟨sb vl, so vl + k * 10 + 2, none⟩) : Value) from (Eq.trans e18 (if_pos hb161))) (h165.get (j := 2) rfl) ⟨Chg.refl _ _, (if_pos hb161).symm⟩
        · intro vals w40 hR166 hA
          have hs167 := hR166.size
          have e14 : (vals 14) = (.bool ((!decide (((i : Nat) : Int) = ((k : Nat) : Int))) && (before (l.getD i default) (l.getD k default))) : Value) := hA 14 (by decide)
          refine oblc rfl rfl (show _ = (.bool ((!decide (((i : Nat) : Int) = ((k : Nat) : Int))) && (before (l.getD i default) (l.getD k default))) : Value) from e14) (fun hb168 => ?_) (fun hb168 => (if_neg hb168).symm)
          have hl169 : ((!decide (((i : Nat) : Int) = ((k : Nat) : Int))) && (before (l.getD i default) (l.getD k default))) = true := hb168
          simp only [Bool.and_eq_true, Bool.or_eq_true, Bool.and_eq_false_iff, Bool.or_eq_false_iff, decide_eq_true_eq, decide_eq_false_iff_not, Bool.not_eq_true', Bool.not_eq_false', Int.not_lt, Int.not_le] at hl169
          exact ov_move (v := vl) rfl ⟨Chg.refl _ _, (if_pos hb168).symm⟩
        · intro vals w41 hR170 hA
          have hs171 := hR170.size
          have e14 : (vals 14) = (.bool ((!decide (((i : Nat) : Int) = ((k : Nat) : Int))) && (before (l.getD i default) (l.getD k default))) : Value) := hA 14 (by decide)
          refine oblc rfl rfl (show _ = (.bool ((!decide (((i : Nat) : Int) = ((k : Nat) : Int))) && (before (l.getD i default) (l.getD k default))) : Value) from e14) (fun hb172 => ?_) (fun hb172 => (if_neg hb172).symm)
          have hl173 : ((!decide (((i : Nat) : Int) = ((k : Nat) : Int))) && (before (l.getD i default) (l.getD k default))) = true := hb172
          simp only [Bool.and_eq_true, Bool.or_eq_true, Bool.and_eq_false_iff, Bool.or_eq_false_iff, decide_eq_true_eq, decide_eq_false_iff_not, Bool.not_eq_true', Bool.not_eq_false', Int.not_lt, Int.not_le] at hl173
          exact ov_move (v := .int .i64 ((i : Nat) : Int)) rfl ⟨Chg.refl _ _, (if_pos hb172).symm⟩
        · intro vals w42 hR174 hA
          have hs175 := hR174.size
          have e14 : (vals 14) = (.bool ((!decide (((i : Nat) : Int) = ((k : Nat) : Int))) && (before (l.getD i default) (l.getD k default))) : Value) := hA 14 (by decide)
          have e20 : (vals 20) = (if ((!decide (((i : Nat) : Int) = ((k : Nat) : Int))) && (before (l.getD i default) (l.getD k default))) = true then (vl : Value) else undef) := hA 20 (by decide)
          have e21 : (vals 21) = (if ((!decide (((i : Nat) : Int) = ((k : Nat) : Int))) && (before (l.getD i default) (l.getD k default))) = true then (.int .i64 ((i : Nat) : Int) : Value) else undef) := hA 21 (by decide)
          refine oblc rfl rfl (show _ = (.bool ((!decide (((i : Nat) : Int) = ((k : Nat) : Int))) && (before (l.getD i default) (l.getD k default))) : Value) from e14) (fun hb176 => ?_) (fun hb176 => (if_neg hb176).symm)
          have hl177 : ((!decide (((i : Nat) : Int) = ((k : Nat) : Int))) && (before (l.getD i default) (l.getD k default))) = true := hb176
          simp only [Bool.and_eq_true, Bool.or_eq_true, Bool.and_eq_false_iff, Bool.or_eq_false_iff, decide_eq_true_eq, decide_eq_false_iff_not, Bool.not_eq_true', Bool.not_eq_false', Int.not_lt, Int.not_le] at hl177
          have hi178 : i < l.length := by omega
          exact ov_indexAddrN (k := 10) (i := i) Try.underlying22 Try.sizeOf29 (show _ = (vl : Value) from (Eq.trans e20 (if_pos hb176))) hl.sl (show _ = (.int .i64 ((i : Nat) : Int) : Value) from (Eq.trans e21 (if_pos hb176))) hi178 ⟨Chg.refl _ _, (if_pos hb176).symm⟩
        · intro vals w43 hR179 hA
          have hs180 := hR179.size
          have e14 : (vals 14) = (.bool ((!decide (((i : Nat) : Int) = ((k : Nat) : Int))) && (before (l.getD i default) (l.getD k default))) : Value) := hA 14 (by decide)
          have e22 : (vals 22) = (if ((!decide (((i : Nat) : Int) = ((k : Nat) : Int))) && (before (l.getD i default) (l.getD k default))) = true then (.pointer (some ⟨sb vl, so vl + i * 10, none⟩) : Value) else undef) := hA 22 (by decide)
          refine oblc rfl rfl (show _ = (.bool ((!decide (((i : Nat) : Int) = ((k : Nat) : Int))) && (before (l.getD i default) (l.getD k default))) : Value) from e14) (fun hb181 => ?_) (fun hb181 => (if_neg hb181).symm)
          have hl182 : ((!decide (((i : Nat) : Int) = ((k : Nat) : Int))) && (before (l.getD i default) (l.getD k default))) = true := hb181
          simp only [Bool.and_eq_true, Bool.or_eq_true, Bool.and_eq_false_iff, Bool.or_eq_false_iff, decide_eq_true_eq, decide_eq_false_iff_not, Bool.not_eq_true', Bool.not_eq_false', Int.not_lt, Int.not_le] at hl182
          exact fa29_1 (show _ = (.pointer (some ⟨sb vl, so vl + i * 10, none⟩) : Value) from (Eq.trans e22 (if_pos hb181))) ⟨Chg.refl _ _, (if_pos hb181).symm⟩
        · intro vals w44 hR183 hA
          have hs184 := hR183.size
          have e14 : (vals 14) = (.bool ((!decide (((i : Nat) : Int) = ((k : Nat) : Int))) && (before (l.getD i default) (l.getD k default))) : Value) := hA 14 (by decide)
          have e23 : (vals 23) = (if ((!decide (((i : Nat) : Int) = ((k : Nat) : Int))) && (before (l.getD i default) (l.getD k default))) = true then (.pointer (some ⟨sb vl, so vl + i * 10 + 2, none⟩) : Value) else undef) := hA 23 (by decide)
          refine oblc rfl rfl (show _ = (.bool ((!decide (((i : Nat) : Int) = ((k : Nat) : Int))) && (before (l.getD i default) (l.getD k default))) : Value) from e14) (fun hb185 => ?_) (fun hb185 => (if_neg hb185).symm)
          have hl186 : ((!decide (((i : Nat) : Int) = ((k : Nat) : Int))) && (before (l.getD i default) (l.getD k default))) = true := hb185
          simp only [Bool.and_eq_true, Bool.or_eq_true, Bool.and_eq_false_iff, Bool.or_eq_false_iff, decide_eq_true_eq, decide_eq_false_iff_not, Bool.not_eq_true', Bool.not_eq_false', Int.not_lt, Int.not_le] at hl186
          have h188 := hl.ext (Chg.trans (Chg.trans hx2 hx4) hx68)
          have hi187 : i < l.length := by omega
          obtain ⟨hc187, hd187, hok187⟩ := h188.ev hi187
          rw [← getD_at default hi187] at hc187 hd187 hok187
          have h189 := hc187.mono (fun hb => (Chg.trans hx75 hR183).block _ hb (fun h => h))
          exact ov_load1 (v := .int .i64 ((l.getD i default).lam)) Try.isAgg3 (show _ = (.pointer (some ⟨sb vl, so vl + i * 10 + 2, none⟩) : Value) from (Eq.trans e23 (if_pos hb185))) (h189.get (j := 2) rfl) ⟨Chg.refl _ _, (if_pos hb185).symm⟩
        · intro vals w45 hR190 hA
          have hs191 := hR190.size
          have e14 : (vals 14) = (.bool ((!decide (((i : Nat) : Int) = ((k : Nat) : Int))) && (before (l.getD i default) (l.getD k default))) : Value) := hA 14 (by decide)
          have e19 : (vals 19) = (if ((!decide (((i : Nat) : Int) = ((k : Nat) : Int))) && (before (l.getD i default) (l.getD k default))) = true then (.int .i64 ((l.getD k default).lam) : Value) else undef) := hA 19 (by decide)
          have e24 : (vals 24) = (if ((!decide (((i : Nat) : Int) = ((k : Nat) : Int))) && (before (l.getD i default) (l.getD k default))) = true then (.int .i64 ((l.getD i default).lam) : Value) else undef) := hA 24 (by decide)
          refine oblc rfl rfl (show _ = (.bool ((!decide (((i : Nat) : Int) = ((k : Nat) : Int))) && (before (l.getD i default) (l.getD k default))) : Value) from e14) (fun hb192 => ?_) (fun hb192 => (if_neg hb192).symm)
          have hl193 : ((!decide (((i : Nat) : Int) = ((k : Nat) : Int))) && (before (l.getD i default) (l.getD k default))) = true := hb192
          simp only [Bool.and_eq_true, Bool.or_eq_true, Bool.and_eq_false_iff, Bool.or_eq_false_iff, decide_eq_true_eq, decide_eq_false_iff_not, Bool.not_eq_true', Bool.not_eq_false', Int.not_lt, Int.not_le] at hl193
          exact ov_leq (k := .i64) (a := (l.getD k default).lam) (b := (l.getD i default).lam) (show _ = (.int .i64 ((l.getD k default).lam) : Value) from (Eq.trans e19 (if_pos hb192))) (show _ = (.int .i64 ((l.getD i default).lam) : Value) from (Eq.trans e24 (if_pos hb192))) ⟨Chg.refl _ _, (if_pos hb192).symm⟩
        · intro vals w46 hR194 hA
          have hs195 := hR194.size
          have e14 : (vals 14) = (.bool ((!decide (((i : Nat) : Int) = ((k : Nat) : Int))) && (before (l.getD i default) (l.getD k default))) : Value) := hA 14 (by decide)
          have e25 : (vals 25) = (if ((!decide (((i : Nat) : Int) = ((k : Nat) : Int))) && (before (l.getD i default) (l.getD k default))) = true then (.bool (decide (((l.getD k default).lam) ≤ ((l.getD i default).lam))) : Value) else undef) := hA 25 (by decide)
          refine obl rfl ?_
          exact ov_pick_and (b := (!decide (((i : Nat) : Int) = ((k : Nat) : Int))) && (before (l.getD i default) (l.getD k default))) (b' := decide (((l.getD k default).lam) ≤ ((l.getD i default).lam))) (show _ = (.bool ((!decide (((i : Nat) : Int) = ((k : Nat) : Int))) && (before (l.getD i default) (l.getD k default))) : Value) from e14) (fun hbp => (show _ = (.bool (decide (((l.getD k default).lam) ≤ ((l.getD i default).lam))) : Value) from (Eq.trans e25 (if_pos hbp)))) ⟨Chg.refl _ _, rfl⟩
        intro vals w47 hR196 hA
        have hs197 := hR196.size
        have hs198 := hx75.size
        have e26 : (vals 26) = (.bool (((!decide (((i : Nat) : Int) = ((k : Nat) : Int))) && (before (l.getD i default) (l.getD k default))) && (decide (((l.getD k default).lam) ≤ ((l.getD i default).lam)))) : Value) := hA 26 (by decide)
        refine st_env (kv := [(0, vl), (3, .int .i64 ((i : Nat) : Int)), (4, .int .i64 ((k : Nat) : Int)), (17, .int .i64 ((k : Nat) : Int)), (18, vl), (19, .int .i64 ((l.length : Nat) : Int)), (20, .bool true), (49, .bool (((!decide (((i : Nat) : Int) = ((k : Nat) : Int))) && (before (l.getD i default) (l.getD k default))) && (decide (((l.getD k default).lam) ≤ ((l.getD i default).lam)))))]) ⟨rfl, rfl, rfl, rfl, rfl, rfl, rfl, e26, trivial⟩ (fun ρ47 => ?_)
        clear e26
        clear hA qh1 qh2 qh3 qh4
        refine st_nil ?_
        cases hc199 : ((!decide (((i : Nat) : Int) = ((k : Nat) : Int))) && (before (l.getD i default) (l.getD k default))) && (decide (((l.getD k default).lam) ≤ ((l.getD i default).lam)))
        · skip
          simp only [Bool.and_eq_true, Bool.or_eq_true, Bool.and_eq_false_iff, Bool.or_eq_false_iff, decide_eq_true_eq, decide_eq_false_iff_not, Bool.not_eq_true', Bool.not_eq_false', Int.not_lt, Int.not_le] at hc199
          refine WP_cond_f rfl ?_
          refine WP_skip ?_
          refine WP_region0 (by kernel_rfl) (fun _ => ?_)
          refine st (ov_move (v := .int .i64 ((k : Nat) : Int)) rfl ?_)
          have hr200 : InR ((k + 1 : Nat) : Int) := by omega
          refine st (ov_add (r := ((k + 1 : Nat) : Int)) (k := .i64) (a := ((k : Nat) : Int)) (b := 1) rfl rfl (by rw [show (((k : Nat) : Int) + 1 : Int) = ((k + 1 : Nat) : Int) by omega]; exact wrap_in hr200) ?_)
          refine st (ov_assign (v := .int .i64 ((k + 1 : Nat) : Int)) rfl ?_)
          refine st_nil ?_
          exact ⟨_, by omega, k + 1, _, rfl, setAll_self ⟨rfl, rfl, rfl, trivial⟩, (Chg.trans (Chg.trans hx68 hx75) hR196), by omega, (fun y hy hne hb => by rcases Nat.lt_or_eq_of_le (Nat.le_of_lt_succ hy) with h | h; exact hv70 y h hne hb; subst h; rcases hc199 with (hz | hz) | hz; omega; rw [hb] at hz; cases hz; omega)⟩
        · skip
          simp only [Bool.and_eq_true, Bool.or_eq_true, Bool.and_eq_false_iff, Bool.or_eq_false_iff, decide_eq_true_eq, decide_eq_false_iff_not, Bool.not_eq_true', Bool.not_eq_false', Int.not_lt, Int.not_le] at hc199
          refine WP_cond_t rfl ?_
          refine WP_seq ?_
          refine WP_region0 (by kernel_rfl) (fun _ => ?_)
          refine st (ov_call (f := 10) (vals := []) (cap := []) (show _ = (.func (.func 10) #[] #[] : Value) from rfl) rfl Try.call10 (C_works ) ?_)
          rintro _ w48 ⟨rfl, hx201⟩
          have hx201s := hx201.size
          refine st (ov_assign (v := .bool true) rfl ?_)
          refine st_nil ?_
          refine WP_ret ?_
          refine fin1 Try.results8 (show _ = (.bool true : Value) from rfl) ?_
          exact ⟨rfl, (Chg.trans (Chg.trans (Chg.trans (Chg.trans (Chg.trans hx2 hx4) hx68) hx75) hR196) hx201)⟩
  · skip
    refine WP_cond_t rfl ?_
    refine WP_seq ?_
    refine WP_region0 (by kernel_rfl) (fun _ => ?_)
    refine st (ov_call (f := 10) (vals := []) (cap := []) (show _ = (.func (.func 10) #[] #[] : Value) from rfl) rfl Try.call10 (C_works ) ?_)
    rintro _ w49 ⟨rfl, hx202⟩
    have hx202s := hx202.size
    refine st (ov_assign (v := .bool true) rfl ?_)
    refine st_nil ?_
    refine WP_ret ?_
    refine fin1 Try.results8 (show _ = (.bool true : Value) from rfl) ?_
    exact ⟨rfl, (Chg.trans hx2 hx202)⟩

end Go.Proofs.Ytbbhpddgjiifmaa
