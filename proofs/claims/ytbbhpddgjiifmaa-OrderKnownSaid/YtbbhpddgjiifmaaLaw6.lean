/- Steps of the proofs of this seat: part Law6. -/
import Derived.Test.YtbbhpddgjiifmaaLaw3
import Derived.Test.YtbbhpddgjiifmaaLaw5
import Derived.Test.YtbbhpddgjiifmaaLaw1
import Derived.Test.YtbbhpddgjiifmaaLaw2
set_option linter.unusedSimpArgs false
set_option linter.unusedVariables false
namespace Go.Proofs.Ytbbhpddgjiifmaa
open Go.Proofs Go.RowKit

def nums : List Int := [-9223372036854775808, -1, 0, 1, 2, 3, 9223372036854775807]
theorem nums_at (i : Nat) : InR (nums.getD i 0) := by
  rcases Nat.lt_or_ge i 7 with h | h
  · match i, h with
    | 0, _ | 1, _ | 2, _ | 3, _ | 4, _ | 5, _ | 6, _ => decide
  · rw [List.getD_eq_getElem?_getD, List.getElem?_eq_none (show nums.length ≤ i from h)]; decide

set_option maxHeartbeats 4000000 in
theorem C_OrderKnown {w : World}  : Ret Try.prog 7 [] w (fun r w' => r = .bool true ∧ Ext w w') := by
  have hn7 : nums.length = 7 := rfl
  have he3 : ev3.length = 3 := rfl
  refine Calls_of_WP (args := []) Try.func7 rfl rfl ?_
  refine WP_seq ?_
  refine WP_region0 (by kernel_rfl) (fun _ => ?_)
  refine st (ov_assign (v := .bool false) rfl ?_)
  refine st_nil ?_
  refine WP_seq ?_
  refine WP_region0 (by kernel_rfl) (fun _ => ?_)
  refine st (ov_buildSlice (k := 1) (parts' := [(0, .int .i64 (-9223372036854775808)), (1, .int .i64 (-1)), (2, .int .i64 (0)), (3, .int .i64 (1)), (4, .int .i64 (2)), (5, .int .i64 (3)), (6, .int .i64 (9223372036854775807))]) (c := #[.int .i64 (-9223372036854775808), .int .i64 (-1), .int .i64 (0), .int .i64 (1), .int .i64 (2), .int .i64 (3), .int .i64 (9223372036854775807)]) Try.underlying27 Try.sizeOf3 Try.zeroValue3 (by decide) rfl (by kernel_rfl) (fun w1 b2 hn1 => ?_))
  have hb3 : w1.heap[b2]? = some (.cells #[.int .i64 (-9223372036854775808), .int .i64 (-1), .int .i64 (0), .int .i64 (1), .int .i64 (2), .int .i64 (3), .int .i64 (9223372036854775807)] 3) := hn1.at_
  have hs4 := hn1.size; have hs4e := hn1.eq
  have hrd5 : RdS (α := Int) w1 (fun _ => True) ((.slice (some ⟨b2, 0, none⟩) 7 7)) [-9223372036854775808, -1, 0, 1, 2, 3, 9223372036854775807] := RdS.ints (l := [-9223372036854775808, -1, 0, 1, 2, 3, 9223372036854775807]) hb3 ⟨(by omega), (by omega), (by omega), (by omega), (by omega), (by omega), (by omega), trivial⟩
  refine st (ov_assign (v := (.slice (some ⟨b2, 0, none⟩) 7 7)) rfl ?_)
  refine st_nil ?_
  refine WP_seq ?_
  refine WP_region0 (by kernel_rfl) (fun _ => ?_)
  refine st (ov_call (f := 24) (vals := []) (cap := []) (show _ = (.func (.func 24) #[] #[] : Value) from rfl) rfl Try.call24 C_three ?_)
  rintro v8 w2 ⟨hx6, hr7⟩
  have hx6s := hx6.size
  refine st (ov_assign (v := v8) rfl ?_)
  refine st_nil ?_
  refine WP_seq ?_
  refine WP_seq ?_
  refine WP_region0 (by kernel_rfl) (fun _ => ?_)
  refine st (ov_assign (v := .int .i64 (0)) rfl ?_)
  refine st_nil ?_
  refine WP_block ?_
  have hnums : RdS (α := Int) w1 (fun _ => True) (.slice (some ⟨b2, 0, none⟩) 7 7) nums := hrd5
  refine WP_loop (fun m σ wq => ∃ (i : Nat) (ρ : Env), m = nums.length - i ∧ σ = setAll ρ [(1, (.slice (some ⟨b2, 0, none⟩) 7 7)), (2, v8), (3, .int .i64 ((i : Nat) : Int))] ∧ (Ext w2 wq) ∧ (i ≤ nums.length)) ⟨0, _, rfl, setAll_self ⟨rfl, rfl, rfl, trivial⟩, (Chg.refl _ _), Nat.zero_le _⟩ ?_
  rintro m11 σ12 w3 ⟨i, ρ3, rfl, rfl, hx9, hk10⟩
  have hx9s := hx9.size
  refine WP_seq ?_
  refine WP_seq ?_
  refine WP_region0 (by kernel_rfl) (fun _ => ?_)
  refine st (ov_move (v := .int .i64 ((i : Nat) : Int)) rfl ?_)
  refine st (ov_move (v := (.slice (some ⟨b2, 0, none⟩) 7 7)) rfl ?_)
  refine st (ov_len (n := nums.length) Try.underlying27 rfl hnums.sl ?_)
  refine st (ov_lss (k := .i64) (a := ((i : Nat) : Int)) (b := ((nums.length : Nat) : Int)) rfl rfl ?_)
  refine st_nil ?_
  cases hc13 : decide (((i : Nat) : Int) < ((nums.length : Nat) : Int))
  · skip
    have hc13 := of_decide_eq_false hc13
    refine WP_cond_f rfl ?_
    refine WP_exit ?_
    refine blk_exit ?_
    refine WP_seq ?_
    refine WP_region0 (by kernel_rfl) (fun _ => ?_)
    refine st (ov_call (f := 10) (vals := []) (cap := []) (show _ = (.func (.func 10) #[] #[] : Value) from rfl) rfl Try.call10 (C_works ) ?_)
    rintro _ w4 ⟨rfl, hx14⟩
    have hx14s := hx14.size
    refine st (ov_assign (v := .bool true) rfl ?_)
    refine st_nil ?_
    refine WP_ret ?_
    refine fin1 Try.results7 (show _ = (.bool true : Value) from rfl) ?_
    exact ⟨rfl, (Chg.trans (Chg.trans (Chg.trans hn1.ext hx6) hx9) hx14)⟩
  · skip
    have hc13 := of_decide_eq_true hc13
    refine WP_cond_t rfl ?_
    refine WP_skip ?_
    refine WP_seq ?_
    refine WP_block ?_
    refine WP_seq ?_
    refine WP_region0 (by kernel_rfl) (fun _ => ?_)
    refine st (ov_assign (v := .int .i64 (0)) rfl ?_)
    refine st_nil ?_
    refine WP_block ?_
    refine WP_loop (fun m σ wq => ∃ (k : Nat) (ρ : Env), m = nums.length - k ∧ σ = setAll ρ [(1, (.slice (some ⟨b2, 0, none⟩) 7 7)), (2, v8), (3, .int .i64 ((i : Nat) : Int)), (4, .int .i64 ((k : Nat) : Int))] ∧ (Ext w3 wq) ∧ (k ≤ nums.length)) ⟨0, _, rfl, setAll_self ⟨rfl, rfl, rfl, rfl, trivial⟩, (Chg.refl _ _), Nat.zero_le _⟩ ?_
    rintro m17 σ18 w5 ⟨k, ρ5, rfl, rfl, hx15, hk16⟩
    have hx15s := hx15.size
    refine WP_seq ?_
    refine WP_seq ?_
    refine WP_region0 (by kernel_rfl) (fun _ => ?_)
    refine st (ov_move (v := .int .i64 ((k : Nat) : Int)) rfl ?_)
    refine st (ov_move (v := (.slice (some ⟨b2, 0, none⟩) 7 7)) rfl ?_)
    refine st (ov_len (n := nums.length) Try.underlying27 rfl hnums.sl ?_)
    refine st (ov_lss (k := .i64) (a := ((k : Nat) : Int)) (b := ((nums.length : Nat) : Int)) rfl rfl ?_)
    refine st_nil ?_
    cases hc19 : decide (((k : Nat) : Int) < ((nums.length : Nat) : Int))
    · skip
      have hc19 := of_decide_eq_false hc19
      refine WP_cond_f rfl ?_
      refine WP_exit ?_
      refine blk_exit ?_
      refine WP_region0 (by kernel_rfl) (fun _ => ?_)
      refine st (ov_move (v := .int .i64 ((i : Nat) : Int)) rfl ?_)
      have hr20 : InR ((i + 1 : Nat) : Int) := by omega
      refine st (ov_add (r := ((i + 1 : Nat) : Int)) (k := .i64) (a := ((i : Nat) : Int)) (b := 1) rfl rfl (by rw [show (((i : Nat) : Int) + 1 : Int) = ((i + 1 : Nat) : Int) by omega]; exact wrap_in hr20) ?_)
      refine st (ov_assign (v := .int .i64 ((i + 1 : Nat) : Int)) rfl ?_)
      refine st_nil ?_
      exact ⟨_, by omega, i + 1, _, rfl, setAll_self ⟨rfl, rfl, rfl, trivial⟩, (Chg.trans hx9 hx15), by omega⟩
    · skip
      have hc19 := of_decide_eq_true hc19
      refine WP_cond_t rfl ?_
      refine WP_skip ?_
      refine WP_seq ?_
      refine WP_block ?_
      refine WP_seq ?_
      refine WP_draw Ext (AL [fun v w => v = ((.slice (some ⟨b2, 0, none⟩) 7 7) : Value), fun v w => v = (.int .i64 ((i : Nat) : Int) : Value), fun v w => v = (.pointer (some ⟨sb (.slice (some ⟨b2, 0, none⟩) 7 7), so (.slice (some ⟨b2, 0, none⟩) 7 7) + i * 1, none⟩) : Value), fun v w => v = (.int .i64 ((nums.getD i 0)) : Value), fun v w => v = ((.slice (some ⟨b2, 0, none⟩) 7 7) : Value), fun v w => v = (.int .i64 ((k : Nat) : Int) : Value), fun v w => v = (.pointer (some ⟨sb (.slice (some ⟨b2, 0, none⟩) 7 7), so (.slice (some ⟨b2, 0, none⟩) 7 7) + k * 1, none⟩) : Value), fun v w => v = (.int .i64 ((nums.getD k 0)) : Value), fun v w => v = (.agg #[.int .i64 ((nums.getD i 0)), .int .i64 ((nums.getD k 0))] : Value), fun v w => v = ((.slice (some ⟨b2, 0, none⟩) 7 7) : Value), fun v w => v = (.int .i64 ((i : Nat) : Int) : Value), fun v w => v = (.int .i64 ((k : Nat) : Int) : Value), fun v w => v = (.int .i64 ((i + k : Nat) : Int) : Value), fun v w => v = ((.slice (some ⟨b2, 0, none⟩) 7 7) : Value), fun v w => v = (.int .i64 ((nums.length : Nat) : Int) : Value), fun v w => v = (.int .i64 (((i + k) % nums.length : Nat) : Int) : Value), fun v w => v = (.pointer (some ⟨sb (.slice (some ⟨b2, 0, none⟩) 7 7), so (.slice (some ⟨b2, 0, none⟩) 7 7) + ((i + k) % nums.length) * 1, none⟩) : Value), fun v w => v = (.int .i64 ((nums.getD ((i + k) % nums.length) 0)) : Value), fun v w => v = ((.slice (some ⟨b2, 0, none⟩) 7 7) : Value), fun v w => v = (.int .i64 ((k : Nat) : Int) : Value), fun v w => v = ((subV 1 (.slice (some ⟨b2, 0, none⟩) 7 7) 0 k) : Value), fun v w => v = (.agg ((⟨(nums.getD i 0), (nums.getD k 0), (nums.getD ((i + k) % nums.length) 0), nums.take k, 0, 0, 0, 0, 0, 0⟩ : Ev).cells (subV 1 (.slice (some ⟨b2, 0, none⟩) 7 7) 0 k)).toArray : Value), fun v w => ∃ b, v = (.pointer (some ⟨b, 0, none⟩) : Value) ∧ w5.heap.size ≤ b ∧ w.heap[b]? = some (.cells #[.int .i64 (0), .int .i64 (0), .int .i64 (0), (.slice none 0 0), .int .i64 (0), .int .i64 (0), .int .i64 (0), .int .i64 (0), .int .i64 (0), .int .i64 (0)] 29)]) [[], [], [0, 1], [0, 1, 2], [], [], [4, 5], [4, 5, 6], [0, 1, 2, 3, 4, 5, 6, 7], [], [], [], [10, 11], [], [13], [10, 11, 12, 13, 14], [9, 10, 11, 12, 13, 14, 15], [9, 10, 11, 12, 13, 14, 15, 16], [], [], [18, 19], [0, 1, 2, 3, 4, 5, 6, 7, 8, 9, 10, 11, 12, 13, 14, 15, 16, 17, 18, 19, 20], [], [0, 1, 2, 3, 4, 5, 6, 7, 8, 9, 10, 11, 12, 13, 14, 15, 16, 17, 18, 19, 20, 21, 22]] 23 (by kernel_rfl) (by kernel_rfl) (by kernel_rfl) (fun w => Chg.refl _ w) (fun _ _ _ h1 h2 => h1.trans h2) (stabL ⟨fun _ _ _ _ h => h, fun _ _ _ _ h => h, fun _ _ _ _ h => h, fun _ _ _ _ h => h, fun _ _ _ _ h => h, fun _ _ _ _ h => h, fun _ _ _ _ h => h, fun _ _ _ _ h => h, fun _ _ _ _ h => h, fun _ _ _ _ h => h, fun _ _ _ _ h => h, fun _ _ _ _ h => h, fun _ _ _ _ h => h, fun _ _ _ _ h => h, fun _ _ _ _ h => h, fun _ _ _ _ h => h, fun _ _ _ _ h => h, fun _ _ _ _ h => h, fun _ _ _ _ h => h, fun _ _ _ _ h => h, fun _ _ _ _ h => h, fun _ _ _ _ h => h, fun _ _ _ hx ⟨b, h1, h2, h3⟩ => ⟨b, h1, h2, hx.keep h3 (fun h => h)⟩, trivial⟩) ?_
      intro w6 qh1 qh2 qh3 qh4
      have hx21 := ext_same qh1 qh2 qh3 qh4
      refine ⟨⟨?_, ?_, ?_, ?_, ?_, ?_, ?_, ?_, ?_, ?_, ?_, ?_, ?_, ?_, ?_, ?_, ?_, ?_, ?_, ?_, ?_, ?_, ?_, trivial⟩, ?_⟩
      · intro vals w7 hR22 hA
        have hs23 := hR22.size
        refine obl rfl ?_
        exact ov_move (v := (.slice (some ⟨b2, 0, none⟩) 7 7)) rfl ⟨Chg.refl _ _, rfl⟩
      · intro vals w8 hR24 hA
        have hs25 := hR24.size
        refine obl rfl ?_
        exact ov_move (v := .int .i64 ((i : Nat) : Int)) rfl ⟨Chg.refl _ _, rfl⟩
      · intro vals w9 hR26 hA
        have hs27 := hR26.size
        have e0 : (vals 0) = ((.slice (some ⟨b2, 0, none⟩) 7 7) : Value) := hA 0 (by decide)
        have e1 : (vals 1) = (.int .i64 ((i : Nat) : Int) : Value) := hA 1 (by decide)
        refine obl rfl ?_
        have hi28 : i < nums.length := by omega
        have h30 := hnums.ext (Chg.trans (Chg.trans hx6 hx9) hx15)
        have hi29 : i < nums.length := by omega
        obtain ⟨hc29, hx29⟩ := h30.int hi29
        rw [← getD_at 0 hi29] at hc29 hx29
        exact ov_indexAddrN (k := 1) (i := i) Try.underlying27 Try.sizeOf3 (show _ = ((.slice (some ⟨b2, 0, none⟩) 7 7) : Value) from e0) hnums.sl (show _ = (.int .i64 ((i : Nat) : Int) : Value) from e1) hi28 ⟨Chg.refl _ _, rfl⟩
      · intro vals w10 hR31 hA
        have hs32 := hR31.size
        have e2 : (vals 2) = (.pointer (some ⟨sb (.slice (some ⟨b2, 0, none⟩) 7 7), so (.slice (some ⟨b2, 0, none⟩) 7 7) + i * 1, none⟩) : Value) := hA 2 (by decide)
        refine obl rfl ?_
        have h34 := hnums.ext (Chg.trans (Chg.trans hx6 hx9) hx15)
        have hi33 : i < nums.length := by omega
        obtain ⟨hc33, hx33⟩ := h34.int hi33
        rw [← getD_at 0 hi33] at hc33 hx33
        have h35 := hc33.mono (fun hb => (Chg.trans hx21 hR31).block _ hb (fun h => h))
        exact ov_load1 (v := .int .i64 ((nums.getD i 0))) Try.isAgg3 (show _ = (.pointer (some ⟨sb (.slice (some ⟨b2, 0, none⟩) 7 7), so (.slice (some ⟨b2, 0, none⟩) 7 7) + i * 1, none⟩) : Value) from e2) (h35.get (j := 0) rfl) ⟨Chg.refl _ _, rfl⟩
      · intro vals w11 hR36 hA
        have hs37 := hR36.size
        refine obl rfl ?_
        exact ov_move (v := (.slice (some ⟨b2, 0, none⟩) 7 7)) rfl ⟨Chg.refl _ _, rfl⟩
      · intro vals w12 hR38 hA
        have hs39 := hR38.size
        refine obl rfl ?_
        exact ov_move (v := .int .i64 ((k : Nat) : Int)) rfl ⟨Chg.refl _ _, rfl⟩
      · intro vals w13 hR40 hA
        have hs41 := hR40.size
        have e4 : (vals 4) = ((.slice (some ⟨b2, 0, none⟩) 7 7) : Value) := hA 4 (by decide)
        have e5 : (vals 5) = (.int .i64 ((k : Nat) : Int) : Value) := hA 5 (by decide)
        refine obl rfl ?_
        have hi42 : k < nums.length := by omega
        have h44 := hnums.ext (Chg.trans (Chg.trans hx6 hx9) hx15)
        have hi43 : k < nums.length := by omega
        obtain ⟨hc43, hx43⟩ := h44.int hi43
        rw [← getD_at 0 hi43] at hc43 hx43
        exact ov_indexAddrN (k := 1) (i := k) Try.underlying27 Try.sizeOf3 (show _ = ((.slice (some ⟨b2, 0, none⟩) 7 7) : Value) from e4) hnums.sl (show _ = (.int .i64 ((k : Nat) : Int) : Value) from e5) hi42 ⟨Chg.refl _ _, rfl⟩
      · intro vals w14 hR45 hA
        have hs46 := hR45.size
        have e6 : (vals 6) = (.pointer (some ⟨sb (.slice (some ⟨b2, 0, none⟩) 7 7), so (.slice (some ⟨b2, 0, none⟩) 7 7) + k * 1, none⟩) : Value) := hA 6 (by decide)
        refine obl rfl ?_
        have h48 := hnums.ext (Chg.trans (Chg.trans hx6 hx9) hx15)
        have hi47 : k < nums.length := by omega
        obtain ⟨hc47, hx47⟩ := h48.int hi47
        rw [← getD_at 0 hi47] at hc47 hx47
        have h49 := hc47.mono (fun hb => (Chg.trans hx21 hR45).block _ hb (fun h => h))
        exact ov_load1 (v := .int .i64 ((nums.getD k 0))) Try.isAgg3 (show _ = (.pointer (some ⟨sb (.slice (some ⟨b2, 0, none⟩) 7 7), so (.slice (some ⟨b2, 0, none⟩) 7 7) + k * 1, none⟩) : Value) from e6) (h49.get (j := 0) rfl) ⟨Chg.refl _ _, rfl⟩
      · intro vals w15 hR50 hA
        have hs51 := hR50.size
        have e3 : (vals 3) = (.int .i64 ((nums.getD i 0)) : Value) := hA 3 (by decide)
        have e7 : (vals 7) = (.int .i64 ((nums.getD k 0)) : Value) := hA 7 (by decide)
        refine obl rfl ?_
        exact ov_build (parts' := [(0, .int .i64 ((nums.getD i 0))), (1, .int .i64 ((nums.getD k 0)))]) (v := .agg #[.int .i64 ((nums.getD i 0)), .int .i64 ((nums.getD k 0))]) (mapP ⟨rfl, (show _ = (.int .i64 ((nums.getD i 0)) : Value) from e3), rfl, (show _ = (.int .i64 ((nums.getD k 0)) : Value) from e7), trivial⟩) (by simp [Instr.build, Instr.fill, Ev.cells, go_sem, -List.getD_eq_getElem?_getD]) ⟨Chg.refl _ _, rfl⟩
      · intro vals w16 hR52 hA
        have hs53 := hR52.size
        refine obl rfl ?_
        exact ov_move (v := (.slice (some ⟨b2, 0, none⟩) 7 7)) rfl ⟨Chg.refl _ _, rfl⟩
      · intro vals w17 hR54 hA
        have hs55 := hR54.size
        refine obl rfl ?_
        exact ov_move (v := .int .i64 ((i : Nat) : Int)) rfl ⟨Chg.refl _ _, rfl⟩
      · intro vals w18 hR56 hA
        have hs57 := hR56.size
        refine obl rfl ?_
        exact ov_move (v := .int .i64 ((k : Nat) : Int)) rfl ⟨Chg.refl _ _, rfl⟩
      · intro vals w19 hR58 hA
        have hs59 := hR58.size
        have e10 : (vals 10) = (.int .i64 ((i : Nat) : Int) : Value) := hA 10 (by decide)
        have e11 : (vals 11) = (.int .i64 ((k : Nat) : Int) : Value) := hA 11 (by decide)
        refine obl rfl ?_
        have hr60 : InR ((i + k : Nat) : Int) := by omega
        exact ov_add (r := ((i + k : Nat) : Int)) (k := .i64) (a := ((i : Nat) : Int)) (b := ((k : Nat) : Int)) (show _ = (.int .i64 ((i : Nat) : Int) : Value) from e10) (show _ = (.int .i64 ((k : Nat) : Int) : Value) from e11) (by rw [show (((i : Nat) : Int) + ((k : Nat) : Int) : Int) = ((i + k : Nat) : Int) by omega]; exact wrap_in hr60) ⟨Chg.refl _ _, rfl⟩
      · intro vals w20 hR61 hA
        have hs62 := hR61.size
        refine obl rfl ?_
        exact ov_move (v := (.slice (some ⟨b2, 0, none⟩) 7 7)) rfl ⟨Chg.refl _ _, rfl⟩
      · intro vals w21 hR63 hA
        have hs64 := hR63.size
        have e13 : (vals 13) = ((.slice (some ⟨b2, 0, none⟩) 7 7) : Value) := hA 13 (by decide)
        refine obl rfl ?_
        exact ov_len (n := nums.length) Try.underlying27 (show _ = ((.slice (some ⟨b2, 0, none⟩) 7 7) : Value) from e13) hnums.sl ⟨Chg.refl _ _, rfl⟩
      · intro vals w22 hR65 hA
        have hs66 := hR65.size
        have e12 : (vals 12) = (.int .i64 ((i + k : Nat) : Int) : Value) := hA 12 (by decide)
        have e14 : (vals 14) = (.int .i64 ((nums.length : Nat) : Int) : Value) := hA 14 (by decide)
        refine obl rfl ?_
        have h067 : (0 : Int) < ((nums.length : Nat) : Int) := by omega
        exact ov_rem (r := (((i + k) % nums.length : Nat) : Int)) (show _ = (.int .i64 ((i + k : Nat) : Int) : Value) from e12) (show _ = (.int .i64 ((nums.length : Nat) : Int) : Value) from e14) h067 (Int.ofNat_tmod _ _).symm ⟨Chg.refl _ _, rfl⟩
      · intro vals w23 hR68 hA
        have hs69 := hR68.size
        have e9 : (vals 9) = ((.slice (some ⟨b2, 0, none⟩) 7 7) : Value) := hA 9 (by decide)
        have e15 : (vals 15) = (.int .i64 (((i + k) % nums.length : Nat) : Int) : Value) := hA 15 (by decide)
        refine obl rfl ?_
        have hi70 : (i + k) % nums.length < nums.length := Nat.mod_lt _ (by decide)
        have h72 := hnums.ext (Chg.trans (Chg.trans hx6 hx9) hx15)
        have hi71 : (i + k) % nums.length < nums.length := Nat.mod_lt _ (by decide)
        obtain ⟨hc71, hx71⟩ := h72.int hi71
        rw [← getD_at 0 hi71] at hc71 hx71
        exact ov_indexAddrN (k := 1) (i := (i + k) % nums.length) Try.underlying27 Try.sizeOf3 (show _ = ((.slice (some ⟨b2, 0, none⟩) 7 7) : Value) from e9) hnums.sl (show _ = (.int .i64 (((i + k) % nums.length : Nat) : Int) : Value) from e15) hi70 ⟨Chg.refl _ _, rfl⟩
      · intro vals w24 hR73 hA
        have hs74 := hR73.size
        have e16 : (vals 16) = (.pointer (some ⟨sb (.slice (some ⟨b2, 0, none⟩) 7 7), so (.slice (some ⟨b2, 0, none⟩) 7 7) + ((i + k) % nums.length) * 1, none⟩) : Value) := hA 16 (by decide)
        refine obl rfl ?_
        have h76 := hnums.ext (Chg.trans (Chg.trans hx6 hx9) hx15)
        have hi75 : (i + k) % nums.length < nums.length := Nat.mod_lt _ (by decide)
        obtain ⟨hc75, hx75⟩ := h76.int hi75
        rw [← getD_at 0 hi75] at hc75 hx75
        have h77 := hc75.mono (fun hb => (Chg.trans hx21 hR73).block _ hb (fun h => h))
        exact ov_load1 (v := .int .i64 ((nums.getD ((i + k) % nums.length) 0))) Try.isAgg3 (show _ = (.pointer (some ⟨sb (.slice (some ⟨b2, 0, none⟩) 7 7), so (.slice (some ⟨b2, 0, none⟩) 7 7) + ((i + k) % nums.length) * 1, none⟩) : Value) from e16) (h77.get (j := 0) rfl) ⟨Chg.refl _ _, rfl⟩
      · intro vals w25 hR78 hA
        have hs79 := hR78.size
        refine obl rfl ?_
        exact ov_move (v := (.slice (some ⟨b2, 0, none⟩) 7 7)) rfl ⟨Chg.refl _ _, rfl⟩
      · intro vals w26 hR80 hA
        have hs81 := hR80.size
        refine obl rfl ?_
        exact ov_move (v := .int .i64 ((k : Nat) : Int)) rfl ⟨Chg.refl _ _, rfl⟩
      · intro vals w27 hR82 hA
        have hs83 := hR82.size
        have e18 : (vals 18) = ((.slice (some ⟨b2, 0, none⟩) 7 7) : Value) := hA 18 (by decide)
        have e19 : (vals 19) = (.int .i64 ((k : Nat) : Int) : Value) := hA 19 (by decide)
        refine obl rfl ?_
        exact ov_sliceHi (j := k) (k := 1) (n := nums.length) Try.underlying27 Try.sizeOf3 (show _ = ((.slice (some ⟨b2, 0, none⟩) 7 7) : Value) from e18) hnums.sl (show _ = (.int .i64 ((k : Nat) : Int) : Value) from e19) (by first | omega | (simp only [List.length_drop, List.length_take]; omega)) ⟨Chg.refl _ _, rfl⟩
      · intro vals w28 hR84 hA
        have hs85 := hR84.size
        have e8 : (vals 8) = (.agg #[.int .i64 ((nums.getD i 0)), .int .i64 ((nums.getD k 0))] : Value) := hA 8 (by decide)
        have e17 : (vals 17) = (.int .i64 ((nums.getD ((i + k) % nums.length) 0)) : Value) := hA 17 (by decide)
        have e20 : (vals 20) = ((subV 1 (.slice (some ⟨b2, 0, none⟩) 7 7) 0 k) : Value) := hA 20 (by decide)
        refine obl rfl ?_
        have h86 := RdS.sub_hi (j := k) hnums (by first | omega | (simp only [List.length_drop, List.length_take]; omega))
        have ok87 : Ev.Ok (⟨(nums.getD i 0), (nums.getD k 0), (nums.getD ((i + k) % nums.length) 0), nums.take k, 0, 0, 0, 0, 0, 0⟩ : Ev) := ⟨(show InR ((nums.getD i 0)) from (by first | exact nums_at _ | omega)), (show InR ((nums.getD k 0)) from (by first | exact nums_at _ | omega)), (show InR ((nums.getD ((i + k) % nums.length) 0)) from (by first | exact nums_at _ | omega)), (show InR (0) from (by first | exact nums_at _ | omega)), (show InR (0) from (by first | exact nums_at _ | omega)), (show InR (0) from (by first | exact nums_at _ | omega)), (show InR (0) from (by first | exact nums_at _ | omega)), (show InR (0) from (by first | exact nums_at _ | omega)), (show InR (0) from (by first | exact nums_at _ | omega))⟩
        exact ov_build (parts' := [(0, .agg #[.int .i64 ((nums.getD i 0)), .int .i64 ((nums.getD k 0))]), (1, .int .i64 ((nums.getD ((i + k) % nums.length) 0))), (2, (subV 1 (.slice (some ⟨b2, 0, none⟩) 7 7) 0 k))]) (v := .agg ((⟨(nums.getD i 0), (nums.getD k 0), (nums.getD ((i + k) % nums.length) 0), nums.take k, 0, 0, 0, 0, 0, 0⟩ : Ev).cells (subV 1 (.slice (some ⟨b2, 0, none⟩) 7 7) 0 k)).toArray) (mapP ⟨rfl, (show _ = (.agg #[.int .i64 ((nums.getD i 0)), .int .i64 ((nums.getD k 0))] : Value) from e8), rfl, (show _ = (.int .i64 ((nums.getD ((i + k) % nums.length) 0)) : Value) from e17), rfl, (show _ = ((subV 1 (.slice (some ⟨b2, 0, none⟩) 7 7) 0 k) : Value) from e20), trivial⟩) (by obtain ⟨_, _, hv88, _⟩ := h86.sl; rw [show (subV 1 (.slice (some ⟨b2, 0, none⟩) 7 7) 0 k) = Value.slice _ _ _ from hv88]; simp [Instr.build, Instr.fill, Ev.cells, go_sem, -List.getD_eq_getElem?_getD]) ⟨Chg.refl _ _, rfl⟩
      · intro vals w29 hR89 hA
        have hs90 := hR89.size
        refine obl rfl ?_
        exact ov_alloc Try.zeroValue29 (fun _ b hn => ⟨hn.ext, b, rfl, (by rw [hn.eq]; exact Chg.size (Chg.trans hx21 hR89)), hn.at_⟩)
      intro vals w30 hR91 hA
      have hs92 := hR91.size
      have hs93 := hx21.size
      have e21 : (vals 21) = (.agg ((⟨(nums.getD i 0), (nums.getD k 0), (nums.getD ((i + k) % nums.length) 0), nums.take k, 0, 0, 0, 0, 0, 0⟩ : Ev).cells (subV 1 (.slice (some ⟨b2, 0, none⟩) 7 7) 0 k)).toArray : Value) := hA 21 (by decide)
      have e22 : ∃ b, (vals 22) = (.pointer (some ⟨b, 0, none⟩) : Value) ∧ w5.heap.size ≤ b ∧ w30.heap[b]? = some (.cells #[.int .i64 (0), .int .i64 (0), .int .i64 (0), (.slice none 0 0), .int .i64 (0), .int .i64 (0), .int .i64 (0), .int .i64 (0), .int .i64 (0), .int .i64 (0)] 29) := hA 22 (by decide)
      obtain ⟨b94, he95, hlo96, hbk97⟩ := e22
      refine st_env (kv := [(1, (.slice (some ⟨b2, 0, none⟩) 7 7)), (2, v8), (3, .int .i64 ((i : Nat) : Int)), (4, .int .i64 ((k : Nat) : Int)), (15, .int .i64 ((k : Nat) : Int)), (16, (.slice (some ⟨b2, 0, none⟩) 7 7)), (17, .int .i64 ((nums.length : Nat) : Int)), (18, .bool true), (42, .agg ((⟨(nums.getD i 0), (nums.getD k 0), (nums.getD ((i + k) % nums.length) 0), nums.take k, 0, 0, 0, 0, 0, 0⟩ : Ev).cells (subV 1 (.slice (some ⟨b2, 0, none⟩) 7 7) 0 k)).toArray), (5, .pointer (some ⟨b94, 0, none⟩))]) ⟨rfl, rfl, rfl, rfl, rfl, rfl, rfl, rfl, e21, he95, trivial⟩ (fun ρ30 => ?_)
      clear e21
      clear hA qh1 qh2 qh3 qh4
      have h99 := RdS.sub_hi (j := k) hnums (by first | omega | (simp only [List.length_drop, List.length_take]; omega))
      refine stn (ov_store (v := .agg ((⟨(nums.getD i 0), (nums.getD k 0), (nums.getD ((i + k) % nums.length) 0), nums.take k, 0, 0, 0, 0, 0, 0⟩ : Ev).cells (subV 1 (.slice (some ⟨b2, 0, none⟩) 7 7) 0 k)).toArray) (c' := ((⟨(nums.getD i 0), (nums.getD k 0), (nums.getD ((i + k) % nums.length) 0), nums.take k, 0, 0, 0, 0, 0, 0⟩ : Ev).cells (subV 1 (.slice (some ⟨b2, 0, none⟩) 7 7) 0 k)).toArray) Try.sizeOf29 rfl rfl hbk97 (all1 ⟨rfl, rfl, rfl, h99.sl.one, rfl, rfl, rfl, rfl, rfl, rfl, trivial⟩) (Nat.le_of_ble_eq_true rfl) rfl (fun w31 hp98 => ?_))
      have hs100 := hp98.size
      refine st_nil ?_
      refine WP_seq ?_
      refine WP_draw Ext (AL [fun v w => v = (.int .i64 ((k : Nat) : Int) : Value), fun v w => v = ((.slice (some ⟨b2, 0, none⟩) 7 7) : Value), fun v w => v = (.int .i64 ((i : Nat) : Int) : Value), fun v w => v = (.pointer (some ⟨sb (.slice (some ⟨b2, 0, none⟩) 7 7), so (.slice (some ⟨b2, 0, none⟩) 7 7) + i * 1, none⟩) : Value), fun v w => v = (.int .i64 ((nums.getD i 0)) : Value), fun v w => v = (.agg #[.int .i64 ((k : Nat) : Int), .int .i64 ((nums.getD i 0))] : Value), fun v w => v = ((.slice (some ⟨b2, 0, none⟩) 7 7) : Value), fun v w => v = (.int .i64 ((i : Nat) : Int) : Value), fun v w => v = (.pointer (some ⟨sb (.slice (some ⟨b2, 0, none⟩) 7 7), so (.slice (some ⟨b2, 0, none⟩) 7 7) + i * 1, none⟩) : Value), fun v w => v = (.int .i64 ((nums.getD i 0)) : Value), fun v w => v = ((.slice (some ⟨b2, 0, none⟩) 7 7) : Value), fun v w => v = (.int .i64 ((k : Nat) : Int) : Value), fun v w => v = (.pointer (some ⟨sb (.slice (some ⟨b2, 0, none⟩) 7 7), so (.slice (some ⟨b2, 0, none⟩) 7 7) + k * 1, none⟩) : Value), fun v w => v = (.int .i64 ((nums.getD k 0)) : Value), fun v w => v = ((.slice (some ⟨b2, 0, none⟩) 7 7) : Value), fun v w => v = (.int .i64 ((i : Nat) : Int) : Value), fun v w => v = (.pointer (some ⟨sb (.slice (some ⟨b2, 0, none⟩) 7 7), so (.slice (some ⟨b2, 0, none⟩) 7 7) + i * 1, none⟩) : Value), fun v w => v = (.int .i64 ((nums.getD i 0)) : Value), fun v w => RdS (α := Int) w (TB w 3) v ([(nums.getD k 0), (nums.getD i 0)]), fun v w => ∃ d, v = (.agg ((⟨((k : Nat) : Int), (nums.getD i 0), (nums.getD i 0), [(nums.getD k 0), (nums.getD i 0)], 0, 0, 0, 0, 0, 0⟩ : Ev).cells d).toArray : Value) ∧ RdS (α := Int) w (TB w 3) d ([(nums.getD k 0), (nums.getD i 0)]), fun v w => ∃ b, v = (.pointer (some ⟨b, 0, none⟩) : Value) ∧ w31.heap.size ≤ b ∧ w.heap[b]? = some (.cells #[.int .i64 (0), .int .i64 (0), .int .i64 (0), (.slice none 0 0), .int .i64 (0), .int .i64 (0), .int .i64 (0), .int .i64 (0), .int .i64 (0), .int .i64 (0)] 29)]) [[], [], [], [1, 2], [1, 2, 3], [0, 1, 2, 3, 4], [], [], [6, 7], [6, 7, 8], [], [], [10, 11], [10, 11, 12], [], [], [14, 15], [14, 15, 16], [10, 11, 12, 13, 14, 15, 16, 17], [0, 1, 2, 3, 4, 5, 6, 7, 8, 9, 10, 11, 12, 13, 14, 15, 16, 17, 18], [], [0, 1, 2, 3, 4, 5, 6, 7, 8, 9, 10, 11, 12, 13, 14, 15, 16, 17, 18, 19, 20]] 21 (by kernel_rfl) (by kernel_rfl) (by kernel_rfl) (fun w => Chg.refl _ w) (fun _ _ _ h1 h2 => h1.trans h2) (stabL ⟨fun _ _ _ _ h => h, fun _ _ _ _ h => h, fun _ _ _ _ h => h, fun _ _ _ _ h => h, fun _ _ _ _ h => h, fun _ _ _ _ h => h, fun _ _ _ _ h => h, fun _ _ _ _ h => h, fun _ _ _ _ h => h, fun _ _ _ _ h => h, fun _ _ _ _ h => h, fun _ _ _ _ h => h, fun _ _ _ _ h => h, fun _ _ _ _ h => h, fun _ _ _ _ h => h, fun _ _ _ _ h => h, fun _ _ _ _ h => h, fun _ _ _ _ h => h, fun _ _ _ hx h => RdS.tb_ext h hx, fun _ _ _ hx ⟨d, h1, h2⟩ => ⟨d, h1, RdS.tb_ext h2 hx⟩, fun _ _ _ hx ⟨b, h1, h2, h3⟩ => ⟨b, h1, h2, hx.keep h3 (fun h => h)⟩, trivial⟩) ?_
      intro w32 qh1 qh2 qh3 qh4
      have hx101 := ext_same qh1 qh2 qh3 qh4
      refine ⟨⟨?_, ?_, ?_, ?_, ?_, ?_, ?_, ?_, ?_, ?_, ?_, ?_, ?_, ?_, ?_, ?_, ?_, ?_, ?_, ?_, ?_, trivial⟩, ?_⟩
      · intro vals w33 hR102 hA
        have hs103 := hR102.size
        refine obl rfl ?_
        exact ov_move (v := .int .i64 ((k : Nat) : Int)) rfl ⟨Chg.refl _ _, rfl⟩
      · intro vals w34 hR104 hA
        have hs105 := hR104.size
        refine obl rfl ?_
        exact ov_move (v := (.slice (some ⟨b2, 0, none⟩) 7 7)) rfl ⟨Chg.refl _ _, rfl⟩
      · intro vals w35 hR106 hA
        have hs107 := hR106.size
        refine obl rfl ?_
        exact ov_move (v := .int .i64 ((i : Nat) : Int)) rfl ⟨Chg.refl _ _, rfl⟩
      · intro vals w36 hR108 hA
        have hs109 := hR108.size
        have e1 : (vals 1) = ((.slice (some ⟨b2, 0, none⟩) 7 7) : Value) := hA 1 (by decide)
        have e2 : (vals 2) = (.int .i64 ((i : Nat) : Int) : Value) := hA 2 (by decide)
        refine obl rfl ?_
        have hi110 : i < nums.length := by omega
        exact ov_indexAddrN (k := 1) (i := i) Try.underlying27 Try.sizeOf3 (show _ = ((.slice (some ⟨b2, 0, none⟩) 7 7) : Value) from e1) hnums.sl (show _ = (.int .i64 ((i : Nat) : Int) : Value) from e2) hi110 ⟨Chg.refl _ _, rfl⟩
      · intro vals w37 hR111 hA
        have hs112 := hR111.size
        have e3 : (vals 3) = (.pointer (some ⟨sb (.slice (some ⟨b2, 0, none⟩) 7 7), so (.slice (some ⟨b2, 0, none⟩) 7 7) + i * 1, none⟩) : Value) := hA 3 (by decide)
        refine obl rfl ?_
        have h114 := hnums.ext (Chg.trans (Chg.trans hx6 hx9) hx15)
        have hi113 : i < nums.length := by omega
        obtain ⟨hc113, hx113⟩ := h114.int hi113
        rw [← getD_at 0 hi113] at hc113 hx113
        have h115 := hc113.mono (fun hb => (Chg.trans (Chg.trans (Chg.new (Chg.trans hx21 hR91) hp98.chg (fun i hi hO => by subst hO; omega)) hx101) hR111).block _ hb (fun h => h))
        exact ov_load1 (v := .int .i64 ((nums.getD i 0))) Try.isAgg3 (show _ = (.pointer (some ⟨sb (.slice (some ⟨b2, 0, none⟩) 7 7), so (.slice (some ⟨b2, 0, none⟩) 7 7) + i * 1, none⟩) : Value) from e3) (h115.get (j := 0) rfl) ⟨Chg.refl _ _, rfl⟩
      · intro vals w38 hR116 hA
        have hs117 := hR116.size
        have e0 : (vals 0) = (.int .i64 ((k : Nat) : Int) : Value) := hA 0 (by decide)
        have e4 : (vals 4) = (.int .i64 ((nums.getD i 0)) : Value) := hA 4 (by decide)
        refine obl rfl ?_
        exact ov_build (parts' := [(0, .int .i64 ((k : Nat) : Int)), (1, .int .i64 ((nums.getD i 0)))]) (v := .agg #[.int .i64 ((k : Nat) : Int), .int .i64 ((nums.getD i 0))]) (mapP ⟨rfl, (show _ = (.int .i64 ((k : Nat) : Int) : Value) from e0), rfl, (show _ = (.int .i64 ((nums.getD i 0)) : Value) from e4), trivial⟩) (by simp [Instr.build, Instr.fill, Ev.cells, go_sem, -List.getD_eq_getElem?_getD]) ⟨Chg.refl _ _, rfl⟩
      · intro vals w39 hR118 hA
        have hs119 := hR118.size
        refine obl rfl ?_
        exact ov_move (v := (.slice (some ⟨b2, 0, none⟩) 7 7)) rfl ⟨Chg.refl _ _, rfl⟩
      · intro vals w40 hR120 hA
        have hs121 := hR120.size
        refine obl rfl ?_
        exact ov_move (v := .int .i64 ((i : Nat) : Int)) rfl ⟨Chg.refl _ _, rfl⟩
      · intro vals w41 hR122 hA
        have hs123 := hR122.size
        have e6 : (vals 6) = ((.slice (some ⟨b2, 0, none⟩) 7 7) : Value) := hA 6 (by decide)
        have e7 : (vals 7) = (.int .i64 ((i : Nat) : Int) : Value) := hA 7 (by decide)
        refine obl rfl ?_
        have hi124 : i < nums.length := by omega
        exact ov_indexAddrN (k := 1) (i := i) Try.underlying27 Try.sizeOf3 (show _ = ((.slice (some ⟨b2, 0, none⟩) 7 7) : Value) from e6) hnums.sl (show _ = (.int .i64 ((i : Nat) : Int) : Value) from e7) hi124 ⟨Chg.refl _ _, rfl⟩
      · intro vals w42 hR125 hA
        have hs126 := hR125.size
        have e8 : (vals 8) = (.pointer (some ⟨sb (.slice (some ⟨b2, 0, none⟩) 7 7), so (.slice (some ⟨b2, 0, none⟩) 7 7) + i * 1, none⟩) : Value) := hA 8 (by decide)
        refine obl rfl ?_
        have h128 := hnums.ext (Chg.trans (Chg.trans hx6 hx9) hx15)
        have hi127 : i < nums.length := by omega
        obtain ⟨hc127, hx127⟩ := h128.int hi127
        rw [← getD_at 0 hi127] at hc127 hx127
        have h129 := hc127.mono (fun hb => (Chg.trans (Chg.trans (Chg.new (Chg.trans hx21 hR91) hp98.chg (fun i hi hO => by subst hO; omega)) hx101) hR125).block _ hb (fun h => h))
        exact ov_load1 (v := .int .i64 ((nums.getD i 0))) Try.isAgg3 (show _ = (.pointer (some ⟨sb (.slice (some ⟨b2, 0, none⟩) 7 7), so (.slice (some ⟨b2, 0, none⟩) 7 7) + i * 1, none⟩) : Value) from e8) (h129.get (j := 0) rfl) ⟨Chg.refl _ _, rfl⟩
      · intro vals w43 hR130 hA
        have hs131 := hR130.size
        refine obl rfl ?_
        exact ov_move (v := (.slice (some ⟨b2, 0, none⟩) 7 7)) rfl ⟨Chg.refl _ _, rfl⟩
      · intro vals w44 hR132 hA
        have hs133 := hR132.size
        refine obl rfl ?_
        exact ov_move (v := .int .i64 ((k : Nat) : Int)) rfl ⟨Chg.refl _ _, rfl⟩
      · intro vals w45 hR134 hA
        have hs135 := hR134.size
        have e10 : (vals 10) = ((.slice (some ⟨b2, 0, none⟩) 7 7) : Value) := hA 10 (by decide)
        have e11 : (vals 11) = (.int .i64 ((k : Nat) : Int) : Value) := hA 11 (by decide)
        refine obl rfl ?_
        have hi136 : k < nums.length := by omega
        exact ov_indexAddrN (k := 1) (i := k) Try.underlying27 Try.sizeOf3 (show _ = ((.slice (some ⟨b2, 0, none⟩) 7 7) : Value) from e10) hnums.sl (show _ = (.int .i64 ((k : Nat) : Int) : Value) from e11) hi136 ⟨Chg.refl _ _, rfl⟩
      · intro vals w46 hR137 hA
        have hs138 := hR137.size
        have e12 : (vals 12) = (.pointer (some ⟨sb (.slice (some ⟨b2, 0, none⟩) 7 7), so (.slice (some ⟨b2, 0, none⟩) 7 7) + k * 1, none⟩) : Value) := hA 12 (by decide)
        refine obl rfl ?_
        have h140 := hnums.ext (Chg.trans (Chg.trans hx6 hx9) hx15)
        have hi139 : k < nums.length := by omega
        obtain ⟨hc139, hx139⟩ := h140.int hi139
        rw [← getD_at 0 hi139] at hc139 hx139
        have h141 := hc139.mono (fun hb => (Chg.trans (Chg.trans (Chg.new (Chg.trans hx21 hR91) hp98.chg (fun i hi hO => by subst hO; omega)) hx101) hR137).block _ hb (fun h => h))
        exact ov_load1 (v := .int .i64 ((nums.getD k 0))) Try.isAgg3 (show _ = (.pointer (some ⟨sb (.slice (some ⟨b2, 0, none⟩) 7 7), so (.slice (some ⟨b2, 0, none⟩) 7 7) + k * 1, none⟩) : Value) from e12) (h141.get (j := 0) rfl) ⟨Chg.refl _ _, rfl⟩
      · intro vals w47 hR142 hA
        have hs143 := hR142.size
        refine obl rfl ?_
        exact ov_move (v := (.slice (some ⟨b2, 0, none⟩) 7 7)) rfl ⟨Chg.refl _ _, rfl⟩
      · intro vals w48 hR144 hA
        have hs145 := hR144.size
        refine obl rfl ?_
        exact ov_move (v := .int .i64 ((i : Nat) : Int)) rfl ⟨Chg.refl _ _, rfl⟩
      · intro vals w49 hR146 hA
        have hs147 := hR146.size
        have e14 : (vals 14) = ((.slice (some ⟨b2, 0, none⟩) 7 7) : Value) := hA 14 (by decide)
        have e15 : (vals 15) = (.int .i64 ((i : Nat) : Int) : Value) := hA 15 (by decide)
        refine obl rfl ?_
        have hi148 : i < nums.length := by omega
        exact ov_indexAddrN (k := 1) (i := i) Try.underlying27 Try.sizeOf3 (show _ = ((.slice (some ⟨b2, 0, none⟩) 7 7) : Value) from e14) hnums.sl (show _ = (.int .i64 ((i : Nat) : Int) : Value) from e15) hi148 ⟨Chg.refl _ _, rfl⟩
      · intro vals w50 hR149 hA
        have hs150 := hR149.size
        have e16 : (vals 16) = (.pointer (some ⟨sb (.slice (some ⟨b2, 0, none⟩) 7 7), so (.slice (some ⟨b2, 0, none⟩) 7 7) + i * 1, none⟩) : Value) := hA 16 (by decide)
        refine obl rfl ?_
        have h152 := hnums.ext (Chg.trans (Chg.trans hx6 hx9) hx15)
        have hi151 : i < nums.length := by omega
        obtain ⟨hc151, hx151⟩ := h152.int hi151
        rw [← getD_at 0 hi151] at hc151 hx151
        have h153 := hc151.mono (fun hb => (Chg.trans (Chg.trans (Chg.new (Chg.trans hx21 hR91) hp98.chg (fun i hi hO => by subst hO; omega)) hx101) hR149).block _ hb (fun h => h))
        exact ov_load1 (v := .int .i64 ((nums.getD i 0))) Try.isAgg3 (show _ = (.pointer (some ⟨sb (.slice (some ⟨b2, 0, none⟩) 7 7), so (.slice (some ⟨b2, 0, none⟩) 7 7) + i * 1, none⟩) : Value) from e16) (h153.get (j := 0) rfl) ⟨Chg.refl _ _, rfl⟩
      · intro vals w51 hR154 hA
        have hs155 := hR154.size
        have e13 : (vals 13) = (.int .i64 ((nums.getD k 0)) : Value) := hA 13 (by decide)
        have e17 : (vals 17) = (.int .i64 ((nums.getD i 0)) : Value) := hA 17 (by decide)
        refine obl rfl ?_
        exact ov_buildSlice (k := 1) (parts' := [(0, .int .i64 ((nums.getD k 0))), (1, .int .i64 ((nums.getD i 0)))]) (c := #[.int .i64 ((nums.getD k 0)), .int .i64 ((nums.getD i 0))]) Try.underlying27 Try.sizeOf3 Try.zeroValue3 (by decide) (mapP ⟨rfl, (show _ = (.int .i64 ((nums.getD k 0)) : Value) from e13), rfl, (show _ = (.int .i64 ((nums.getD i 0)) : Value) from e17), trivial⟩) (by kernel_rfl) (fun _ _ hn => ⟨hn.ext, (RdS.tb (RdS.ints (l := [(nums.getD k 0), (nums.getD i 0)]) hn.at_ ⟨(by first | exact nums_at _ | omega), (by first | exact nums_at _ | omega), trivial⟩) hn.at_)⟩)
      · intro vals w52 hR156 hA
        have hs157 := hR156.size
        have e5 : (vals 5) = (.agg #[.int .i64 ((k : Nat) : Int), .int .i64 ((nums.getD i 0))] : Value) := hA 5 (by decide)
        have e9 : (vals 9) = (.int .i64 ((nums.getD i 0)) : Value) := hA 9 (by decide)
        have e18 : RdS (α := Int) w52 (TB w52 3) (vals 18) ([(nums.getD k 0), (nums.getD i 0)]) := hA 18 (by decide)
        refine obl rfl ?_
        have ok158 : Ev.Ok (⟨((k : Nat) : Int), (nums.getD i 0), (nums.getD i 0), [(nums.getD k 0), (nums.getD i 0)], 0, 0, 0, 0, 0, 0⟩ : Ev) := ⟨(show InR (((k : Nat) : Int)) from (by first | exact nums_at _ | omega)), (show InR ((nums.getD i 0)) from (by first | exact nums_at _ | omega)), (show InR ((nums.getD i 0)) from (by first | exact nums_at _ | omega)), (show InR (0) from (by first | exact nums_at _ | omega)), (show InR (0) from (by first | exact nums_at _ | omega)), (show InR (0) from (by first | exact nums_at _ | omega)), (show InR (0) from (by first | exact nums_at _ | omega)), (show InR (0) from (by first | exact nums_at _ | omega)), (show InR (0) from (by first | exact nums_at _ | omega))⟩
        exact ov_build (parts' := [(0, .agg #[.int .i64 ((k : Nat) : Int), .int .i64 ((nums.getD i 0))]), (1, .int .i64 ((nums.getD i 0))), (2, (vals 18))]) (v := .agg ((⟨((k : Nat) : Int), (nums.getD i 0), (nums.getD i 0), [(nums.getD k 0), (nums.getD i 0)], 0, 0, 0, 0, 0, 0⟩ : Ev).cells (vals 18)).toArray) (mapP ⟨rfl, (show _ = (.agg #[.int .i64 ((k : Nat) : Int), .int .i64 ((nums.getD i 0))] : Value) from e5), rfl, (show _ = (.int .i64 ((nums.getD i 0)) : Value) from e9), rfl, rfl, trivial⟩) (by obtain ⟨_, _, hv159, _⟩ := e18.sl; rw [show (vals 18) = Value.slice _ _ _ from hv159]; simp [Instr.build, Instr.fill, Ev.cells, go_sem, -List.getD_eq_getElem?_getD]) ⟨Chg.refl _ _, _, rfl, e18⟩
      · intro vals w53 hR160 hA
        have hs161 := hR160.size
        refine obl rfl ?_
        exact ov_alloc Try.zeroValue29 (fun _ b hn => ⟨hn.ext, b, rfl, (by rw [hn.eq]; exact Chg.size (Chg.trans hx101 hR160)), hn.at_⟩)
      intro vals w54 hR162 hA
      have hs163 := hR162.size
      have hs164 := hx101.size
      have e19 : ∃ d, (vals 19) = (.agg ((⟨((k : Nat) : Int), (nums.getD i 0), (nums.getD i 0), [(nums.getD k 0), (nums.getD i 0)], 0, 0, 0, 0, 0, 0⟩ : Ev).cells d).toArray : Value) ∧ RdS (α := Int) w54 (TB w54 3) d ([(nums.getD k 0), (nums.getD i 0)]) := hA 19 (by decide)
      obtain ⟨d165, he166, hd167⟩ := e19
      have e20 : ∃ b, (vals 20) = (.pointer (some ⟨b, 0, none⟩) : Value) ∧ w31.heap.size ≤ b ∧ w54.heap[b]? = some (.cells #[.int .i64 (0), .int .i64 (0), .int .i64 (0), (.slice none 0 0), .int .i64 (0), .int .i64 (0), .int .i64 (0), .int .i64 (0), .int .i64 (0), .int .i64 (0)] 29) := hA 20 (by decide)
      obtain ⟨b168, he169, hlo170, hbk171⟩ := e20
      refine st_env (kv := [(1, (.slice (some ⟨b2, 0, none⟩) 7 7)), (2, v8), (3, .int .i64 ((i : Nat) : Int)), (4, .int .i64 ((k : Nat) : Int)), (15, .int .i64 ((k : Nat) : Int)), (16, (.slice (some ⟨b2, 0, none⟩) 7 7)), (17, .int .i64 ((nums.length : Nat) : Int)), (18, .bool true), (42, .agg ((⟨(nums.getD i 0), (nums.getD k 0), (nums.getD ((i + k) % nums.length) 0), nums.take k, 0, 0, 0, 0, 0, 0⟩ : Ev).cells (subV 1 (.slice (some ⟨b2, 0, none⟩) 7 7) 0 k)).toArray), (5, .pointer (some ⟨b94, 0, none⟩)), (62, .agg ((⟨((k : Nat) : Int), (nums.getD i 0), (nums.getD i 0), [(nums.getD k 0), (nums.getD i 0)], 0, 0, 0, 0, 0, 0⟩ : Ev).cells d165).toArray), (6, .pointer (some ⟨b168, 0, none⟩))]) ⟨rfl, rfl, rfl, rfl, rfl, rfl, rfl, rfl, rfl, rfl, he166, he169, trivial⟩ (fun ρ54 => ?_)
      clear hA qh1 qh2 qh3 qh4
      refine stn (ov_store (v := .agg ((⟨((k : Nat) : Int), (nums.getD i 0), (nums.getD i 0), [(nums.getD k 0), (nums.getD i 0)], 0, 0, 0, 0, 0, 0⟩ : Ev).cells d165).toArray) (c' := ((⟨((k : Nat) : Int), (nums.getD i 0), (nums.getD i 0), [(nums.getD k 0), (nums.getD i 0)], 0, 0, 0, 0, 0, 0⟩ : Ev).cells d165).toArray) Try.sizeOf29 rfl rfl hbk171 (all1 ⟨rfl, rfl, rfl, hd167.sl.one, rfl, rfl, rfl, rfl, rfl, rfl, trivial⟩) (Nat.le_of_ble_eq_true rfl) rfl (fun w55 hp172 => ?_))
      have hs173 := hp172.size
      refine st_nil ?_
      refine WP_seq ?_
      refine WP_draw Ext (AL [fun v w => v = (.agg ((⟨(nums.getD i 0), (nums.getD k 0), (nums.getD ((i + k) % nums.length) 0), nums.take k, 0, 0, 0, 0, 0, 0⟩ : Ev).cells (subV 1 (.slice (some ⟨b2, 0, none⟩) 7 7) 0 k)).toArray : Value), fun v w => v = (.agg ((⟨((k : Nat) : Int), (nums.getD i 0), (nums.getD i 0), [(nums.getD k 0), (nums.getD i 0)], 0, 0, 0, 0, 0, 0⟩ : Ev).cells d165).toArray : Value), fun v w => v = (v8 : Value), fun v w => v = (.pointer (some ⟨sb v8, so v8 + 0 * 10, none⟩) : Value), fun v w => v = (.agg ((ev3.getD 0 default).cells (cellV w55 (sb v8) (so v8 + 0 * 10 + 3))).toArray : Value), fun v w => v = (.agg ((⟨(nums.getD i 0), (nums.getD k 0), (nums.getD ((i + k) % nums.length) 0), nums.take k, 0, 0, 0, 0, 0, 0⟩ : Ev).cells (subV 1 (.slice (some ⟨b2, 0, none⟩) 7 7) 0 k)).toArray : Value), fun v w => v = (v8 : Value), fun v w => v = (.pointer (some ⟨sb v8, so v8 + 1 * 10, none⟩) : Value), fun v w => v = (.agg ((ev3.getD 1 default).cells (cellV w55 (sb v8) (so v8 + 1 * 10 + 3))).toArray : Value), fun v w => v = (v8 : Value), fun v w => v = (.pointer (some ⟨sb v8, so v8 + 2 * 10, none⟩) : Value), fun v w => v = (.agg ((ev3.getD 2 default).cells (cellV w55 (sb v8) (so v8 + 2 * 10 + 3))).toArray : Value), fun v w => v = (.agg ((⟨((k : Nat) : Int), (nums.getD i 0), (nums.getD i 0), [(nums.getD k 0), (nums.getD i 0)], 0, 0, 0, 0, 0, 0⟩ : Ev).cells d165).toArray : Value), fun v w => RdS (α := Ev) w (fun _ => True) v ([(⟨(nums.getD i 0), (nums.getD k 0), (nums.getD ((i + k) % nums.length) 0), nums.take k, 0, 0, 0, 0, 0, 0⟩ : Ev), (⟨((k : Nat) : Int), (nums.getD i 0), (nums.getD i 0), [(nums.getD k 0), (nums.getD i 0)], 0, 0, 0, 0, 0, 0⟩ : Ev), (ev3.getD 0 default), (⟨(nums.getD i 0), (nums.getD k 0), (nums.getD ((i + k) % nums.length) 0), nums.take k, 0, 0, 0, 0, 0, 0⟩ : Ev), (ev3.getD 1 default), (ev3.getD 2 default), (⟨((k : Nat) : Int), (nums.getD i 0), (nums.getD i 0), [(nums.getD k 0), (nums.getD i 0)], 0, 0, 0, 0, 0, 0⟩ : Ev)]), fun v w => v = (.bool true : Value), fun v w => v = (.bool false : Value), fun v w => v = (.bool false : Value), fun v w => v = (.agg ((⟨((k : Nat) : Int), (nums.getD i 0), (nums.getD i 0), [(nums.getD k 0), (nums.getD i 0)], 0, 0, 0, 0, 0, 0⟩ : Ev).cells d165).toArray : Value), fun v w => v = (v8 : Value), fun v w => v = (.pointer (some ⟨sb v8, so v8 + 1 * 10, none⟩) : Value), fun v w => v = (.agg ((ev3.getD 1 default).cells (cellV w55 (sb v8) (so v8 + 1 * 10 + 3))).toArray : Value), fun v w => v = (.agg ((⟨(nums.getD i 0), (nums.getD k 0), (nums.getD ((i + k) % nums.length) 0), nums.take k, 0, 0, 0, 0, 0, 0⟩ : Ev).cells (subV 1 (.slice (some ⟨b2, 0, none⟩) 7 7) 0 k)).toArray : Value), fun v w => v = (v8 : Value), fun v w => v = (.pointer (some ⟨sb v8, so v8 + 2 * 10, none⟩) : Value), fun v w => v = (.agg ((ev3.getD 2 default).cells (cellV w55 (sb v8) (so v8 + 2 * 10 + 3))).toArray : Value), fun v w => v = (v8 : Value), fun v w => v = (.pointer (some ⟨sb v8, so v8 + 0 * 10, none⟩) : Value), fun v w => v = (.agg ((ev3.getD 0 default).cells (cellV w55 (sb v8) (so v8 + 0 * 10 + 3))).toArray : Value), fun v w => RdS (α := Ev) w (fun _ => True) v ([(⟨((k : Nat) : Int), (nums.getD i 0), (nums.getD i 0), [(nums.getD k 0), (nums.getD i 0)], 0, 0, 0, 0, 0, 0⟩ : Ev), (ev3.getD 1 default), (⟨(nums.getD i 0), (nums.getD k 0), (nums.getD ((i + k) % nums.length) 0), nums.take k, 0, 0, 0, 0, 0, 0⟩ : Ev), (ev3.getD 2 default), (ev3.getD 0 default)]), fun v w => v = (.int .i64 ((i : Nat) : Int) : Value), fun v w => v = (.bool true : Value), fun v w => v = (.bool false : Value), fun v w => v = (.bool false : Value), fun v w => v = (.bool false : Value), fun v w => v = (.agg ((⟨(nums.getD i 0), (nums.getD k 0), (nums.getD ((i + k) % nums.length) 0), nums.take k, 0, 0, 0, 0, 0, 0⟩ : Ev).cells (subV 1 (.slice (some ⟨b2, 0, none⟩) 7 7) 0 k)).toArray : Value), fun v w => v = (.agg ((⟨((k : Nat) : Int), (nums.getD i 0), (nums.getD i 0), [(nums.getD k 0), (nums.getD i 0)], 0, 0, 0, 0, 0, 0⟩ : Ev).cells d165).toArray : Value), fun v w => v = (v8 : Value), fun v w => v = (.pointer (some ⟨sb v8, so v8 + 1 * 10, none⟩) : Value), fun v w => v = (.agg ((ev3.getD 1 default).cells (cellV w55 (sb v8) (so v8 + 1 * 10 + 3))).toArray : Value), fun v w => v = (.bool true : Value), fun v w => v = (.bool false : Value), fun v w => v = (.bool false : Value), fun v w => v = (.bool false : Value), fun v w => v = (.agg ((⟨(nums.getD i 0), (nums.getD k 0), (nums.getD ((i + k) % nums.length) 0), nums.take k, 0, 0, 0, 0, 0, 0⟩ : Ev).cells (subV 1 (.slice (some ⟨b2, 0, none⟩) 7 7) 0 k)).toArray : Value), fun v w => v = (.agg ((⟨((k : Nat) : Int), (nums.getD i 0), (nums.getD i 0), [(nums.getD k 0), (nums.getD i 0)], 0, 0, 0, 0, 0, 0⟩ : Ev).cells d165).toArray : Value), fun v w => v = (.bool true : Value), fun v w => v = (.bool false : Value), fun v w => v = (.bool false : Value), fun v w => v = (.bool false : Value), fun v w => v = (v8 : Value), fun v w => v = (.int .i64 ((i : Nat) : Int) : Value), fun v w => v = (.int .i64 ((i % 3 : Nat) : Int) : Value), fun v w => v = (.pointer (some ⟨sb v8, so v8 + (i % 3) * 10, none⟩) : Value), fun v w => v = (.agg ((ev3.getD (i % 3) default).cells (cellV w55 (sb v8) (so v8 + (i % 3) * 10 + 3))).toArray : Value), fun v w => v = (.agg ((⟨((k : Nat) : Int), (nums.getD i 0), (nums.getD i 0), [(nums.getD k 0), (nums.getD i 0)], 0, 0, 0, 0, 0, 0⟩ : Ev).cells d165).toArray : Value), fun v w => v = (.bool true : Value), fun v w => v = (.bool false : Value), fun v w => v = (.bool false : Value)]) [[], [], [], [2], [2, 3], [], [], [6], [6, 7], [], [9], [9, 10], [], [0, 1, 2, 3, 4, 5, 6, 7, 8, 9, 10, 11, 12], [0, 1, 2, 3, 4, 5, 6, 7, 8, 9, 10, 11, 12, 13], [0, 1, 2, 3, 4, 5, 6, 7, 8, 9, 10, 11, 12, 13, 14], [0, 1, 2, 3, 4, 5, 6, 7, 8, 9, 10, 11, 12, 13, 14, 15], [0, 1, 2, 3, 4, 5, 6, 7, 8, 9, 10, 11, 12, 13, 14, 15, 16], [0, 1, 2, 3, 4, 5, 6, 7, 8, 9, 10, 11, 12, 13, 14, 15, 16], [0, 1, 2, 3, 4, 5, 6, 7, 8, 9, 10, 11, 12, 13, 14, 15, 16, 18], [0, 1, 2, 3, 4, 5, 6, 7, 8, 9, 10, 11, 12, 13, 14, 15, 16, 18, 19], [0, 1, 2, 3, 4, 5, 6, 7, 8, 9, 10, 11, 12, 13, 14, 15, 16], [0, 1, 2, 3, 4, 5, 6, 7, 8, 9, 10, 11, 12, 13, 14, 15, 16], [0, 1, 2, 3, 4, 5, 6, 7, 8, 9, 10, 11, 12, 13, 14, 15, 16, 22], [0, 1, 2, 3, 4, 5, 6, 7, 8, 9, 10, 11, 12, 13, 14, 15, 16, 22, 23], [0, 1, 2, 3, 4, 5, 6, 7, 8, 9, 10, 11, 12, 13, 14, 15, 16], [0, 1, 2, 3, 4, 5, 6, 7, 8, 9, 10, 11, 12, 13, 14, 15, 16, 25], [0, 1, 2, 3, 4, 5, 6, 7, 8, 9, 10, 11, 12, 13, 14, 15, 16, 25, 26], [0, 1, 2, 3, 4, 5, 6, 7, 8, 9, 10, 11, 12, 13, 14, 15, 16, 17, 18, 19, 20, 21, 22, 23, 24, 25, 26, 27], [0, 1, 2, 3, 4, 5, 6, 7, 8, 9, 10, 11, 12, 13, 14, 15, 16], [0, 1, 2, 3, 4, 5, 6, 7, 8, 9, 10, 11, 12, 13, 14, 15, 16, 17, 18, 19, 20, 21, 22, 23, 24, 25, 26, 27, 28, 29], [0, 1, 2, 3, 4, 5, 6, 7, 8, 9, 10, 11, 12, 13, 14, 15, 16, 17, 18, 19, 20, 21, 22, 23, 24, 25, 26, 27, 28, 29, 30], [0, 1, 2, 3, 4, 5, 6, 7, 8, 9, 10, 11, 12, 13, 14, 15, 16, 17, 18, 19, 20, 21, 22, 23, 24, 25, 26, 27, 28, 29, 30, 31], [0, 1, 2, 3, 4, 5, 6, 7, 8, 9, 10, 11, 12, 13, 14, 15, 16, 17, 18, 19, 20, 21, 22, 23, 24, 25, 26, 27, 28, 29, 30, 31, 32], [0, 1, 2, 3, 4, 5, 6, 7, 8, 9, 10, 11, 12, 13, 14, 15, 16, 17, 18, 19, 20, 21, 22, 23, 24, 25, 26, 27, 28, 29, 30, 31, 32, 33], [0, 1, 2, 3, 4, 5, 6, 7, 8, 9, 10, 11, 12, 13, 14, 15, 16, 17, 18, 19, 20, 21, 22, 23, 24, 25, 26, 27, 28, 29, 30, 31, 32, 33], [0, 1, 2, 3, 4, 5, 6, 7, 8, 9, 10, 11, 12, 13, 14, 15, 16, 17, 18, 19, 20, 21, 22, 23, 24, 25, 26, 27, 28, 29, 30, 31, 32, 33], [0, 1, 2, 3, 4, 5, 6, 7, 8, 9, 10, 11, 12, 13, 14, 15, 16, 17, 18, 19, 20, 21, 22, 23, 24, 25, 26, 27, 28, 29, 30, 31, 32, 33, 36], [0, 1, 2, 3, 4, 5, 6, 7, 8, 9, 10, 11, 12, 13, 14, 15, 16, 17, 18, 19, 20, 21, 22, 23, 24, 25, 26, 27, 28, 29, 30, 31, 32, 33, 36, 37], [0, 1, 2, 3, 4, 5, 6, 7, 8, 9, 10, 11, 12, 13, 14, 15, 16, 17, 18, 19, 20, 21, 22, 23, 24, 25, 26, 27, 28, 29, 30, 31, 32, 33, 34, 35, 36, 37, 38], [0, 1, 2, 3, 4, 5, 6, 7, 8, 9, 10, 11, 12, 13, 14, 15, 16, 17, 18, 19, 20, 21, 22, 23, 24, 25, 26, 27, 28, 29, 30, 31, 32, 33, 34, 35, 36, 37, 38, 39], [0, 1, 2, 3, 4, 5, 6, 7, 8, 9, 10, 11, 12, 13, 14, 15, 16, 17, 18, 19, 20, 21, 22, 23, 24, 25, 26, 27, 28, 29, 30, 31, 32, 33, 34, 35, 36, 37, 38, 39, 40], [0, 1, 2, 3, 4, 5, 6, 7, 8, 9, 10, 11, 12, 13, 14, 15, 16, 17, 18, 19, 20, 21, 22, 23, 24, 25, 26, 27, 28, 29, 30, 31, 32, 33, 34, 35, 36, 37, 38, 39, 40, 41], [0, 1, 2, 3, 4, 5, 6, 7, 8, 9, 10, 11, 12, 13, 14, 15, 16, 17, 18, 19, 20, 21, 22, 23, 24, 25, 26, 27, 28, 29, 30, 31, 32, 33, 34, 35, 36, 37, 38, 39, 40, 41, 42], [0, 1, 2, 3, 4, 5, 6, 7, 8, 9, 10, 11, 12, 13, 14, 15, 16, 17, 18, 19, 20, 21, 22, 23, 24, 25, 26, 27, 28, 29, 30, 31, 32, 33, 34, 35, 36, 37, 38, 39, 40, 41, 42], [0, 1, 2, 3, 4, 5, 6, 7, 8, 9, 10, 11, 12, 13, 14, 15, 16, 17, 18, 19, 20, 21, 22, 23, 24, 25, 26, 27, 28, 29, 30, 31, 32, 33, 34, 35, 36, 37, 38, 39, 40, 41, 42, 43, 44], [0, 1, 2, 3, 4, 5, 6, 7, 8, 9, 10, 11, 12, 13, 14, 15, 16, 17, 18, 19, 20, 21, 22, 23, 24, 25, 26, 27, 28, 29, 30, 31, 32, 33, 34, 35, 36, 37, 38, 39, 40, 41, 42, 43, 44, 45], [0, 1, 2, 3, 4, 5, 6, 7, 8, 9, 10, 11, 12, 13, 14, 15, 16, 17, 18, 19, 20, 21, 22, 23, 24, 25, 26, 27, 28, 29, 30, 31, 32, 33, 34, 35, 36, 37, 38, 39, 40, 41, 42, 43, 44, 45, 46], [0, 1, 2, 3, 4, 5, 6, 7, 8, 9, 10, 11, 12, 13, 14, 15, 16, 17, 18, 19, 20, 21, 22, 23, 24, 25, 26, 27, 28, 29, 30, 31, 32, 33, 34, 35, 36, 37, 38, 39, 40, 41, 42, 43, 44, 45, 46, 47], [0, 1, 2, 3, 4, 5, 6, 7, 8, 9, 10, 11, 12, 13, 14, 15, 16, 17, 18, 19, 20, 21, 22, 23, 24, 25, 26, 27, 28, 29, 30, 31, 32, 33, 34, 35, 36, 37, 38, 39, 40, 41, 42, 43, 44, 45, 46, 47, 48], [0, 1, 2, 3, 4, 5, 6, 7, 8, 9, 10, 11, 12, 13, 14, 15, 16, 17, 18, 19, 20, 21, 22, 23, 24, 25, 26, 27, 28, 29, 30, 31, 32, 33, 34, 35, 36, 37, 38, 39, 40, 41, 42, 43, 44, 45, 46, 47, 48], [0, 1, 2, 3, 4, 5, 6, 7, 8, 9, 10, 11, 12, 13, 14, 15, 16, 17, 18, 19, 20, 21, 22, 23, 24, 25, 26, 27, 28, 29, 30, 31, 32, 33, 34, 35, 36, 37, 38, 39, 40, 41, 42, 43, 44, 45, 46, 47, 48, 50], [0, 1, 2, 3, 4, 5, 6, 7, 8, 9, 10, 11, 12, 13, 14, 15, 16, 17, 18, 19, 20, 21, 22, 23, 24, 25, 26, 27, 28, 29, 30, 31, 32, 33, 34, 35, 36, 37, 38, 39, 40, 41, 42, 43, 44, 45, 46, 47, 48, 49, 50, 51], [0, 1, 2, 3, 4, 5, 6, 7, 8, 9, 10, 11, 12, 13, 14, 15, 16, 17, 18, 19, 20, 21, 22, 23, 24, 25, 26, 27, 28, 29, 30, 31, 32, 33, 34, 35, 36, 37, 38, 39, 40, 41, 42, 43, 44, 45, 46, 47, 48, 49, 50, 51, 52], [0, 1, 2, 3, 4, 5, 6, 7, 8, 9, 10, 11, 12, 13, 14, 15, 16, 17, 18, 19, 20, 21, 22, 23, 24, 25, 26, 27, 28, 29, 30, 31, 32, 33, 34, 35, 36, 37, 38, 39, 40, 41, 42, 43, 44, 45, 46, 47, 48], [0, 1, 2, 3, 4, 5, 6, 7, 8, 9, 10, 11, 12, 13, 14, 15, 16, 17, 18, 19, 20, 21, 22, 23, 24, 25, 26, 27, 28, 29, 30, 31, 32, 33, 34, 35, 36, 37, 38, 39, 40, 41, 42, 43, 44, 45, 46, 47, 48, 49, 50, 51, 52, 53, 54], [0, 1, 2, 3, 4, 5, 6, 7, 8, 9, 10, 11, 12, 13, 14, 15, 16, 17, 18, 19, 20, 21, 22, 23, 24, 25, 26, 27, 28, 29, 30, 31, 32, 33, 34, 35, 36, 37, 38, 39, 40, 41, 42, 43, 44, 45, 46, 47, 48, 49, 50, 51, 52, 53, 54, 55], [0, 1, 2, 3, 4, 5, 6, 7, 8, 9, 10, 11, 12, 13, 14, 15, 16, 17, 18, 19, 20, 21, 22, 23, 24, 25, 26, 27, 28, 29, 30, 31, 32, 33, 34, 35, 36, 37, 38, 39, 40, 41, 42, 43, 44, 45, 46, 47, 48, 49, 50, 51, 52, 53, 54, 55, 56]] 58 (by kernel_rfl) (by kernel_rfl) (by kernel_rfl) (fun w => Chg.refl _ w) (fun _ _ _ h1 h2 => h1.trans h2) (stabL ⟨fun _ _ _ _ h => h, fun _ _ _ _ h => h, fun _ _ _ _ h => h, fun _ _ _ _ h => h, fun _ _ _ _ h => h, fun _ _ _ _ h => h, fun _ _ _ _ h => h, fun _ _ _ _ h => h, fun _ _ _ _ h => h, fun _ _ _ _ h => h, fun _ _ _ _ h => h, fun _ _ _ _ h => h, fun _ _ _ _ h => h, fun _ _ _ hx h => h.ext hx, fun _ _ _ _ h => h, fun _ _ _ _ h => h, fun _ _ _ _ h => h, fun _ _ _ _ h => h, fun _ _ _ _ h => h, fun _ _ _ _ h => h, fun _ _ _ _ h => h, fun _ _ _ _ h => h, fun _ _ _ _ h => h, fun _ _ _ _ h => h, fun _ _ _ _ h => h, fun _ _ _ _ h => h, fun _ _ _ _ h => h, fun _ _ _ _ h => h, fun _ _ _ hx h => h.ext hx, fun _ _ _ _ h => h, fun _ _ _ _ h => h, fun _ _ _ _ h => h, fun _ _ _ _ h => h, fun _ _ _ _ h => h, fun _ _ _ _ h => h, fun _ _ _ _ h => h, fun _ _ _ _ h => h, fun _ _ _ _ h => h, fun _ _ _ _ h => h, fun _ _ _ _ h => h, fun _ _ _ _ h => h, fun _ _ _ _ h => h, fun _ _ _ _ h => h, fun _ _ _ _ h => h, fun _ _ _ _ h => h, fun _ _ _ _ h => h, fun _ _ _ _ h => h, fun _ _ _ _ h => h, fun _ _ _ _ h => h, fun _ _ _ _ h => h, fun _ _ _ _ h => h, fun _ _ _ _ h => h, fun _ _ _ _ h => h, fun _ _ _ _ h => h, fun _ _ _ _ h => h, fun _ _ _ _ h => h, fun _ _ _ _ h => h, fun _ _ _ _ h => h, trivial⟩) ?_
      intro w56 qh1 qh2 qh3 qh4
      have hx174 := ext_same qh1 qh2 qh3 qh4
      refine ⟨⟨?_, ?_, ?_, ?_, ?_, ?_, ?_, ?_, ?_, ?_, ?_, ?_, ?_, ?_, ?_, ?_, ?_, ?_, ?_, ?_, ?_, ?_, ?_, ?_, ?_, ?_, ?_, ?_, ?_, ?_, ?_, ?_, ?_, ?_, ?_, ?_, ?_, ?_, ?_, ?_, ?_, ?_, ?_, ?_, ?_, ?_, ?_, ?_, ?_, ?_, ?_, ?_, ?_, ?_, ?_, ?_, ?_, ?_, trivial⟩, ?_⟩
      · intro vals w57 hR175 hA
        have hs176 := hR175.size
        refine obl rfl ?_
        have h177 := (Chg.trans (Chg.trans (Chg.new (Chg.trans hx101 hR162) hp172.chg (fun i hi hO => by subst hO; omega)) hx174) hR175).keep hp98.at_ (fun h => h)
        exact ov_loadk (k := 10) Try.isAgg29 Try.sizeOf29 rfl rfl (CellsAt.all h177) ⟨Chg.refl _ _, rfl⟩
      · intro vals w58 hR178 hA
        have hs179 := hR178.size
        refine obl rfl ?_
        have h180 := (Chg.trans hx174 hR178).keep hp172.at_ (fun h => h)
        exact ov_loadk (k := 10) Try.isAgg29 Try.sizeOf29 rfl rfl (CellsAt.all h180) ⟨Chg.refl _ _, rfl⟩
      · intro vals w59 hR181 hA
        have hs182 := hR181.size
        refine obl rfl ?_
        exact ov_move (v := v8) rfl ⟨Chg.refl _ _, rfl⟩
      · intro vals w60 hR183 hA
        have hs184 := hR183.size
        have e2 : (vals 2) = (v8 : Value) := hA 2 (by decide)
        refine obl rfl ?_
        have hi185 : 0 < ev3.length := by omega
        have h187 := hr7.ext (Chg.new (Chg.trans (Chg.trans (Chg.new (Chg.trans (Chg.trans (Chg.trans hx9 hx15) hx21) hR91) hp98.chg (fun i hi hO => by subst hO; omega)) hx101) hR162) hp172.chg (fun i hi hO => by subst hO; omega))
        have hi186 : 0 < ev3.length := by omega
        obtain ⟨hc186, hd186, hok186⟩ := h187.ev hi186
        rw [← getD_at default hi186] at hc186 hd186 hok186
        exact ov_indexAddrN (k := 10) (i := 0) Try.underlying22 Try.sizeOf29 (show _ = (v8 : Value) from e2) hr7.sl rfl hi185 ⟨Chg.refl _ _, rfl⟩
      · intro vals w61 hR188 hA
        have hs189 := hR188.size
        have e3 : (vals 3) = (.pointer (some ⟨sb v8, so v8 + 0 * 10, none⟩) : Value) := hA 3 (by decide)
        refine obl rfl ?_
        have h191 := hr7.ext (Chg.new (Chg.trans (Chg.trans (Chg.new (Chg.trans (Chg.trans (Chg.trans hx9 hx15) hx21) hR91) hp98.chg (fun i hi hO => by subst hO; omega)) hx101) hR162) hp172.chg (fun i hi hO => by subst hO; omega))
        have hi190 : 0 < ev3.length := by omega
        obtain ⟨hc190, hd190, hok190⟩ := h191.ev hi190
        rw [← getD_at default hi190] at hc190 hd190 hok190
        have h192 := hc190.mono (fun hb => (Chg.trans hx174 hR188).block _ hb (fun h => h))
        exact ov_loadk (k := 10) Try.isAgg29 Try.sizeOf29 rfl (show _ = (.pointer (some ⟨sb v8, so v8 + 0 * 10, none⟩) : Value) from e3) h192 ⟨Chg.refl _ _, rfl⟩
      · intro vals w62 hR193 hA
        have hs194 := hR193.size
        refine obl rfl ?_
        have h195 := (Chg.trans (Chg.trans (Chg.new (Chg.trans hx101 hR162) hp172.chg (fun i hi hO => by subst hO; omega)) hx174) hR193).keep hp98.at_ (fun h => h)
        exact ov_loadk (k := 10) Try.isAgg29 Try.sizeOf29 rfl rfl (CellsAt.all h195) ⟨Chg.refl _ _, rfl⟩
      · intro vals w63 hR196 hA
        have hs197 := hR196.size
        refine obl rfl ?_
        exact ov_move (v := v8) rfl ⟨Chg.refl _ _, rfl⟩
      · intro vals w64 hR198 hA
        have hs199 := hR198.size
        have e6 : (vals 6) = (v8 : Value) := hA 6 (by decide)
        refine obl rfl ?_
        have hi200 : 1 < ev3.length := by omega
        have h202 := hr7.ext (Chg.new (Chg.trans (Chg.trans (Chg.new (Chg.trans (Chg.trans (Chg.trans hx9 hx15) hx21) hR91) hp98.chg (fun i hi hO => by subst hO; omega)) hx101) hR162) hp172.chg (fun i hi hO => by subst hO; omega))
        have hi201 : 1 < ev3.length := by omega
        obtain ⟨hc201, hd201, hok201⟩ := h202.ev hi201
        rw [← getD_at default hi201] at hc201 hd201 hok201
        exact ov_indexAddrN (k := 10) (i := 1) Try.underlying22 Try.sizeOf29 (show _ = (v8 : Value) from e6) hr7.sl rfl hi200 ⟨Chg.refl _ _, rfl⟩
      · intro vals w65 hR203 hA
        have hs204 := hR203.size
        have e7 : (vals 7) = (.pointer (some ⟨sb v8, so v8 + 1 * 10, none⟩) : Value) := hA 7 (by decide)
        refine obl rfl ?_
        have h206 := hr7.ext (Chg.new (Chg.trans (Chg.trans (Chg.new (Chg.trans (Chg.trans (Chg.trans hx9 hx15) hx21) hR91) hp98.chg (fun i hi hO => by subst hO; omega)) hx101) hR162) hp172.chg (fun i hi hO => by subst hO; omega))
        have hi205 : 1 < ev3.length := by omega
        obtain ⟨hc205, hd205, hok205⟩ := h206.ev hi205
        rw [← getD_at default hi205] at hc205 hd205 hok205
        have h207 := hc205.mono (fun hb => (Chg.trans hx174 hR203).block _ hb (fun h => h))
        exact ov_loadk (k := 10) Try.isAgg29 Try.sizeOf29 rfl (show _ = (.pointer (some ⟨sb v8, so v8 + 1 * 10, none⟩) : Value) from e7) h207 ⟨Chg.refl _ _, rfl⟩
      · intro vals w66 hR208 hA
        have hs209 := hR208.size
        refine obl rfl ?_
        exact ov_move (v := v8) rfl ⟨Chg.refl _ _, rfl⟩
      · intro vals w67 hR210 hA
        have hs211 := hR210.size
        have e9 : (vals 9) = (v8 : Value) := hA 9 (by decide)
        refine obl rfl ?_
        have hi212 : 2 < ev3.length := by omega
        have h214 := hr7.ext (Chg.new (Chg.trans (Chg.trans (Chg.new (Chg.trans (Chg.trans (Chg.trans hx9 hx15) hx21) hR91) hp98.chg (fun i hi hO => by subst hO; omega)) hx101) hR162) hp172.chg (fun i hi hO => by subst hO; omega))
        have hi213 : 2 < ev3.length := by omega
        obtain ⟨hc213, hd213, hok213⟩ := h214.ev hi213
        rw [← getD_at default hi213] at hc213 hd213 hok213
        exact ov_indexAddrN (k := 10) (i := 2) Try.underlying22 Try.sizeOf29 (show _ = (v8 : Value) from e9) hr7.sl rfl hi212 ⟨Chg.refl _ _, rfl⟩
      · intro vals w68 hR215 hA
        have hs216 := hR215.size
        have e10 : (vals 10) = (.pointer (some ⟨sb v8, so v8 + 2 * 10, none⟩) : Value) := hA 10 (by decide)
        refine obl rfl ?_
        have h218 := hr7.ext (Chg.new (Chg.trans (Chg.trans (Chg.new (Chg.trans (Chg.trans (Chg.trans hx9 hx15) hx21) hR91) hp98.chg (fun i hi hO => by subst hO; omega)) hx101) hR162) hp172.chg (fun i hi hO => by subst hO; omega))
        have hi217 : 2 < ev3.length := by omega
        obtain ⟨hc217, hd217, hok217⟩ := h218.ev hi217
        rw [← getD_at default hi217] at hc217 hd217 hok217
        have h219 := hc217.mono (fun hb => (Chg.trans hx174 hR215).block _ hb (fun h => h))
        exact ov_loadk (k := 10) Try.isAgg29 Try.sizeOf29 rfl (show _ = (.pointer (some ⟨sb v8, so v8 + 2 * 10, none⟩) : Value) from e10) h219 ⟨Chg.refl _ _, rfl⟩
      · intro vals w69 hR220 hA
        have hs221 := hR220.size
        refine obl rfl ?_
        have h222 := (Chg.trans hx174 hR220).keep hp172.at_ (fun h => h)
        exact ov_loadk (k := 10) Try.isAgg29 Try.sizeOf29 rfl rfl (CellsAt.all h222) ⟨Chg.refl _ _, rfl⟩
      · intro vals w70 hR223 hA
        have hs224 := hR223.size
        have e0 : (vals 0) = (.agg ((⟨(nums.getD i 0), (nums.getD k 0), (nums.getD ((i + k) % nums.length) 0), nums.take k, 0, 0, 0, 0, 0, 0⟩ : Ev).cells (subV 1 (.slice (some ⟨b2, 0, none⟩) 7 7) 0 k)).toArray : Value) := hA 0 (by decide)
        have e1 : (vals 1) = (.agg ((⟨((k : Nat) : Int), (nums.getD i 0), (nums.getD i 0), [(nums.getD k 0), (nums.getD i 0)], 0, 0, 0, 0, 0, 0⟩ : Ev).cells d165).toArray : Value) := hA 1 (by decide)
        have e4 : (vals 4) = (.agg ((ev3.getD 0 default).cells (cellV w55 (sb v8) (so v8 + 0 * 10 + 3))).toArray : Value) := hA 4 (by decide)
        have e5 : (vals 5) = (.agg ((⟨(nums.getD i 0), (nums.getD k 0), (nums.getD ((i + k) % nums.length) 0), nums.take k, 0, 0, 0, 0, 0, 0⟩ : Ev).cells (subV 1 (.slice (some ⟨b2, 0, none⟩) 7 7) 0 k)).toArray : Value) := hA 5 (by decide)
        have e8 : (vals 8) = (.agg ((ev3.getD 1 default).cells (cellV w55 (sb v8) (so v8 + 1 * 10 + 3))).toArray : Value) := hA 8 (by decide)
        have e11 : (vals 11) = (.agg ((ev3.getD 2 default).cells (cellV w55 (sb v8) (so v8 + 2 * 10 + 3))).toArray : Value) := hA 11 (by decide)
        have e12 : (vals 12) = (.agg ((⟨((k : Nat) : Int), (nums.getD i 0), (nums.getD i 0), [(nums.getD k 0), (nums.getD i 0)], 0, 0, 0, 0, 0, 0⟩ : Ev).cells d165).toArray : Value) := hA 12 (by decide)
        refine obl rfl ?_
        have h225 := h99.ext (Chg.trans (Chg.trans (Chg.new (Chg.trans (Chg.trans (Chg.new (Chg.trans (Chg.trans (Chg.trans (Chg.trans hx6 hx9) hx15) hx21) hR91) hp98.chg (fun i hi hO => by subst hO; omega)) hx101) hR162) hp172.chg (fun i hi hO => by subst hO; omega)) hx174) hR223)
        have ok226 : Ev.Ok (⟨(nums.getD i 0), (nums.getD k 0), (nums.getD ((i + k) % nums.length) 0), nums.take k, 0, 0, 0, 0, 0, 0⟩ : Ev) := ⟨(show InR ((nums.getD i 0)) from (by first | exact nums_at _ | omega)), (show InR ((nums.getD k 0)) from (by first | exact nums_at _ | omega)), (show InR ((nums.getD ((i + k) % nums.length) 0)) from (by first | exact nums_at _ | omega)), (show InR (0) from (by first | exact nums_at _ | omega)), (show InR (0) from (by first | exact nums_at _ | omega)), (show InR (0) from (by first | exact nums_at _ | omega)), (show InR (0) from (by first | exact nums_at _ | omega)), (show InR (0) from (by first | exact nums_at _ | omega)), (show InR (0) from (by first | exact nums_at _ | omega))⟩
        have h227 := (RdS.tb_ext (RdS.tb_ext (RdS.tb_put hd167 hp172.chg hbk171 (by decide)) hx174) hR223)
        have ok228 : Ev.Ok (⟨((k : Nat) : Int), (nums.getD i 0), (nums.getD i 0), [(nums.getD k 0), (nums.getD i 0)], 0, 0, 0, 0, 0, 0⟩ : Ev) := ⟨(show InR (((k : Nat) : Int)) from (by first | exact nums_at _ | omega)), (show InR ((nums.getD i 0)) from (by first | exact nums_at _ | omega)), (show InR ((nums.getD i 0)) from (by first | exact nums_at _ | omega)), (show InR (0) from (by first | exact nums_at _ | omega)), (show InR (0) from (by first | exact nums_at _ | omega)), (show InR (0) from (by first | exact nums_at _ | omega)), (show InR (0) from (by first | exact nums_at _ | omega)), (show InR (0) from (by first | exact nums_at _ | omega)), (show InR (0) from (by first | exact nums_at _ | omega))⟩
        have h230 := hr7.ext (Chg.new (Chg.trans (Chg.trans (Chg.new (Chg.trans (Chg.trans (Chg.trans hx9 hx15) hx21) hR91) hp98.chg (fun i hi hO => by subst hO; omega)) hx101) hR162) hp172.chg (fun i hi hO => by subst hO; omega))
        have hi229 : 0 < ev3.length := by omega
        obtain ⟨hc229, hd229, hok229⟩ := h230.ev hi229
        rw [← getD_at default hi229] at hc229 hd229 hok229
        have h231 := hd229.ext (Chg.trans hx174 hR223)
        have h233 := hr7.ext (Chg.new (Chg.trans (Chg.trans (Chg.new (Chg.trans (Chg.trans (Chg.trans hx9 hx15) hx21) hR91) hp98.chg (fun i hi hO => by subst hO; omega)) hx101) hR162) hp172.chg (fun i hi hO => by subst hO; omega))
        have hi232 : 1 < ev3.length := by omega
        obtain ⟨hc232, hd232, hok232⟩ := h233.ev hi232
        rw [← getD_at default hi232] at hc232 hd232 hok232
        have h234 := hd232.ext (Chg.trans hx174 hR223)
        have h236 := hr7.ext (Chg.new (Chg.trans (Chg.trans (Chg.new (Chg.trans (Chg.trans (Chg.trans hx9 hx15) hx21) hR91) hp98.chg (fun i hi hO => by subst hO; omega)) hx101) hR162) hp172.chg (fun i hi hO => by subst hO; omega))
        have hi235 : 2 < ev3.length := by omega
        obtain ⟨hc235, hd235, hok235⟩ := h236.ev hi235
        rw [← getD_at default hi235] at hc235 hd235 hok235
        have h237 := hd235.ext (Chg.trans hx174 hR223)
        exact ov_buildSlice (k := 10) (parts' := [(0, .agg ((⟨(nums.getD i 0), (nums.getD k 0), (nums.getD ((i + k) % nums.length) 0), nums.take k, 0, 0, 0, 0, 0, 0⟩ : Ev).cells (subV 1 (.slice (some ⟨b2, 0, none⟩) 7 7) 0 k)).toArray), (1, .agg ((⟨((k : Nat) : Int), (nums.getD i 0), (nums.getD i 0), [(nums.getD k 0), (nums.getD i 0)], 0, 0, 0, 0, 0, 0⟩ : Ev).cells d165).toArray), (2, .agg ((ev3.getD 0 default).cells (cellV w55 (sb v8) (so v8 + 0 * 10 + 3))).toArray), (3, .agg ((⟨(nums.getD i 0), (nums.getD k 0), (nums.getD ((i + k) % nums.length) 0), nums.take k, 0, 0, 0, 0, 0, 0⟩ : Ev).cells (subV 1 (.slice (some ⟨b2, 0, none⟩) 7 7) 0 k)).toArray), (4, .agg ((ev3.getD 1 default).cells (cellV w55 (sb v8) (so v8 + 1 * 10 + 3))).toArray), (5, .agg ((ev3.getD 2 default).cells (cellV w55 (sb v8) (so v8 + 2 * 10 + 3))).toArray), (6, .agg ((⟨((k : Nat) : Int), (nums.getD i 0), (nums.getD i 0), [(nums.getD k 0), (nums.getD i 0)], 0, 0, 0, 0, 0, 0⟩ : Ev).cells d165).toArray)]) (c := ((⟨(nums.getD i 0), (nums.getD k 0), (nums.getD ((i + k) % nums.length) 0), nums.take k, 0, 0, 0, 0, 0, 0⟩ : Ev).cells (subV 1 (.slice (some ⟨b2, 0, none⟩) 7 7) 0 k) ++ (⟨((k : Nat) : Int), (nums.getD i 0), (nums.getD i 0), [(nums.getD k 0), (nums.getD i 0)], 0, 0, 0, 0, 0, 0⟩ : Ev).cells d165 ++ (ev3.getD 0 default).cells (cellV w55 (sb v8) (so v8 + 0 * 10 + 3)) ++ (⟨(nums.getD i 0), (nums.getD k 0), (nums.getD ((i + k) % nums.length) 0), nums.take k, 0, 0, 0, 0, 0, 0⟩ : Ev).cells (subV 1 (.slice (some ⟨b2, 0, none⟩) 7 7) 0 k) ++ (ev3.getD 1 default).cells (cellV w55 (sb v8) (so v8 + 1 * 10 + 3)) ++ (ev3.getD 2 default).cells (cellV w55 (sb v8) (so v8 + 2 * 10 + 3)) ++ (⟨((k : Nat) : Int), (nums.getD i 0), (nums.getD i 0), [(nums.getD k 0), (nums.getD i 0)], 0, 0, 0, 0, 0, 0⟩ : Ev).cells d165).toArray) Try.underlying22 Try.sizeOf29 Try.zeroValue29 (by decide) (mapP ⟨rfl, (show _ = (.agg ((⟨(nums.getD i 0), (nums.getD k 0), (nums.getD ((i + k) % nums.length) 0), nums.take k, 0, 0, 0, 0, 0, 0⟩ : Ev).cells (subV 1 (.slice (some ⟨b2, 0, none⟩) 7 7) 0 k)).toArray : Value) from e0), rfl, (show _ = (.agg ((⟨((k : Nat) : Int), (nums.getD i 0), (nums.getD i 0), [(nums.getD k 0), (nums.getD i 0)], 0, 0, 0, 0, 0, 0⟩ : Ev).cells d165).toArray : Value) from e1), rfl, (show _ = (.agg ((ev3.getD 0 default).cells (cellV w55 (sb v8) (so v8 + 0 * 10 + 3))).toArray : Value) from e4), rfl, (show _ = (.agg ((⟨(nums.getD i 0), (nums.getD k 0), (nums.getD ((i + k) % nums.length) 0), nums.take k, 0, 0, 0, 0, 0, 0⟩ : Ev).cells (subV 1 (.slice (some ⟨b2, 0, none⟩) 7 7) 0 k)).toArray : Value) from e5), rfl, (show _ = (.agg ((ev3.getD 1 default).cells (cellV w55 (sb v8) (so v8 + 1 * 10 + 3))).toArray : Value) from e8), rfl, (show _ = (.agg ((ev3.getD 2 default).cells (cellV w55 (sb v8) (so v8 + 2 * 10 + 3))).toArray : Value) from e11), rfl, (show _ = (.agg ((⟨((k : Nat) : Int), (nums.getD i 0), (nums.getD i 0), [(nums.getD k 0), (nums.getD i 0)], 0, 0, 0, 0, 0, 0⟩ : Ev).cells d165).toArray : Value) from e12), trivial⟩) (by kernel_rfl) (fun _ _ hn => ⟨hn.ext, Els.flat_at (α := Ev) (css := [(⟨(nums.getD i 0), (nums.getD k 0), (nums.getD ((i + k) % nums.length) 0), nums.take k, 0, 0, 0, 0, 0, 0⟩ : Ev).cells (subV 1 (.slice (some ⟨b2, 0, none⟩) 7 7) 0 k), (⟨((k : Nat) : Int), (nums.getD i 0), (nums.getD i 0), [(nums.getD k 0), (nums.getD i 0)], 0, 0, 0, 0, 0, 0⟩ : Ev).cells d165, (ev3.getD 0 default).cells (cellV w55 (sb v8) (so v8 + 0 * 10 + 3)), (⟨(nums.getD i 0), (nums.getD k 0), (nums.getD ((i + k) % nums.length) 0), nums.take k, 0, 0, 0, 0, 0, 0⟩ : Ev).cells (subV 1 (.slice (some ⟨b2, 0, none⟩) 7 7) 0 k), (ev3.getD 1 default).cells (cellV w55 (sb v8) (so v8 + 1 * 10 + 3)), (ev3.getD 2 default).cells (cellV w55 (sb v8) (so v8 + 2 * 10 + 3)), (⟨((k : Nat) : Int), (nums.getD i 0), (nums.getD i 0), [(nums.getD k 0), (nums.getD i 0)], 0, 0, 0, 0, 0, 0⟩ : Ev).cells d165]) (l := [(⟨(nums.getD i 0), (nums.getD k 0), (nums.getD ((i + k) % nums.length) 0), nums.take k, 0, 0, 0, 0, 0, 0⟩ : Ev), (⟨((k : Nat) : Int), (nums.getD i 0), (nums.getD i 0), [(nums.getD k 0), (nums.getD i 0)], 0, 0, 0, 0, 0, 0⟩ : Ev), (ev3.getD 0 default), (⟨(nums.getD i 0), (nums.getD k 0), (nums.getD ((i + k) % nums.length) 0), nums.take k, 0, 0, 0, 0, 0, 0⟩ : Ev), (ev3.getD 1 default), (ev3.getD 2 default), (⟨((k : Nat) : Int), (nums.getD i 0), (nums.getD i 0), [(nums.getD k 0), (nums.getD i 0)], 0, 0, 0, 0, 0, 0⟩ : Ev)]) (F := fun _ => True) ⟨(show Rep.rd _ _ ((⟨(nums.getD i 0), (nums.getD k 0), (nums.getD ((i + k) % nums.length) 0), nums.take k, 0, 0, 0, 0, 0, 0⟩ : Ev).cells (subV 1 (.slice (some ⟨b2, 0, none⟩) 7 7) 0 k)) (⟨(nums.getD i 0), (nums.getD k 0), (nums.getD ((i + k) % nums.length) 0), nums.take k, 0, 0, 0, 0, 0, 0⟩ : Ev) from ⟨_, rfl, ((h225).weak (fun _ _ _ => trivial)).ext hn.ext, ok226⟩), (show Rep.rd _ _ ((⟨((k : Nat) : Int), (nums.getD i 0), (nums.getD i 0), [(nums.getD k 0), (nums.getD i 0)], 0, 0, 0, 0, 0, 0⟩ : Ev).cells d165) (⟨((k : Nat) : Int), (nums.getD i 0), (nums.getD i 0), [(nums.getD k 0), (nums.getD i 0)], 0, 0, 0, 0, 0, 0⟩ : Ev) from ⟨_, rfl, ((h227).weak (fun _ _ _ => trivial)).ext hn.ext, ok228⟩), (show Rep.rd _ _ ((ev3.getD 0 default).cells (cellV w55 (sb v8) (so v8 + 0 * 10 + 3))) (ev3.getD 0 default) from ⟨_, rfl, ((h231).weak (fun _ _ _ => trivial)).ext hn.ext, hok229⟩), (show Rep.rd _ _ ((⟨(nums.getD i 0), (nums.getD k 0), (nums.getD ((i + k) % nums.length) 0), nums.take k, 0, 0, 0, 0, 0, 0⟩ : Ev).cells (subV 1 (.slice (some ⟨b2, 0, none⟩) 7 7) 0 k)) (⟨(nums.getD i 0), (nums.getD k 0), (nums.getD ((i + k) % nums.length) 0), nums.take k, 0, 0, 0, 0, 0, 0⟩ : Ev) from ⟨_, rfl, ((h225).weak (fun _ _ _ => trivial)).ext hn.ext, ok226⟩), (show Rep.rd _ _ ((ev3.getD 1 default).cells (cellV w55 (sb v8) (so v8 + 1 * 10 + 3))) (ev3.getD 1 default) from ⟨_, rfl, ((h234).weak (fun _ _ _ => trivial)).ext hn.ext, hok232⟩), (show Rep.rd _ _ ((ev3.getD 2 default).cells (cellV w55 (sb v8) (so v8 + 2 * 10 + 3))) (ev3.getD 2 default) from ⟨_, rfl, ((h237).weak (fun _ _ _ => trivial)).ext hn.ext, hok235⟩), (show Rep.rd _ _ ((⟨((k : Nat) : Int), (nums.getD i 0), (nums.getD i 0), [(nums.getD k 0), (nums.getD i 0)], 0, 0, 0, 0, 0, 0⟩ : Ev).cells d165) (⟨((k : Nat) : Int), (nums.getD i 0), (nums.getD i 0), [(nums.getD k 0), (nums.getD i 0)], 0, 0, 0, 0, 0, 0⟩ : Ev) from ⟨_, rfl, ((h227).weak (fun _ _ _ => trivial)).ext hn.ext, ok228⟩), trivial⟩ rfl hn.at_ trivial (by first | decide | (simp only [List.length_cons, List.length_nil]; decide))⟩)
      · intro vals w71 hR238 hA
        have hs239 := hR238.size
        have e13 : RdS (α := Ev) w71 (fun _ => True) (vals 13) ([(⟨(nums.getD i 0), (nums.getD k 0), (nums.getD ((i + k) % nums.length) 0), nums.take k, 0, 0, 0, 0, 0, 0⟩ : Ev), (⟨((k : Nat) : Int), (nums.getD i 0), (nums.getD i 0), [(nums.getD k 0), (nums.getD i 0)], 0, 0, 0, 0, 0, 0⟩ : Ev), (ev3.getD 0 default), (⟨(nums.getD i 0), (nums.getD k 0), (nums.getD ((i + k) % nums.length) 0), nums.take k, 0, 0, 0, 0, 0, 0⟩ : Ev), (ev3.getD 1 default), (ev3.getD 2 default), (⟨((k : Nat) : Int), (nums.getD i 0), (nums.getD i 0), [(nums.getD k 0), (nums.getD i 0)], 0, 0, 0, 0, 0, 0⟩ : Ev)]) := hA 13 (by decide)
        refine obl rfl ?_
        exact ov_call (f := 3) (vals := [(vals 13)]) (cap := []) (show _ = (.func (.func 3) #[] #[] : Value) from rfl) rfl Try.call3 (C_OrderTells e13) (fun _ _ h => ⟨h.2, h.1⟩)
      · intro vals w72 hR240 hA
        have hs241 := hR240.size
        have e14 : (vals 14) = (.bool true : Value) := hA 14 (by decide)
        refine obl rfl ?_
        exact ov_not (a := true) (show _ = (.bool true : Value) from e14) ⟨Chg.refl _ _, rfl⟩
      · intro vals w73 hR242 hA
        have hs243 := hR242.size
        have e15 : (vals 15) = (.bool false : Value) := hA 15 (by decide)
        refine obl rfl ?_
        exact ov_move (v := .bool false) (show _ = (.bool false : Value) from e15) ⟨Chg.refl _ _, rfl⟩
      · intro vals w74 hR244 hA
        have hs245 := hR244.size
        have e16 : (vals 16) = (.bool false : Value) := hA 16 (by decide)
        refine oblc rfl rfl (show _ = (.bool false : Value) from e16) (fun _ => ?_) (fun hb => absurd rfl hb)
        have h246 := (Chg.trans hx174 hR244).keep hp172.at_ (fun h => h)
        exact ov_loadk (k := 10) Try.isAgg29 Try.sizeOf29 rfl rfl (CellsAt.all h246) ⟨Chg.refl _ _, rfl⟩
      · intro vals w75 hR247 hA
        have hs248 := hR247.size
        have e16 : (vals 16) = (.bool false : Value) := hA 16 (by decide)
        refine oblc rfl rfl (show _ = (.bool false : Value) from e16) (fun _ => ?_) (fun hb => absurd rfl hb)
        exact ov_move (v := v8) rfl ⟨Chg.refl _ _, rfl⟩
      · intro vals w76 hR249 hA
        have hs250 := hR249.size
        have e16 : (vals 16) = (.bool false : Value) := hA 16 (by decide)
        have e18 : (vals 18) = (v8 : Value) := hA 18 (by decide)
        refine oblc rfl rfl (show _ = (.bool false : Value) from e16) (fun _ => ?_) (fun hb => absurd rfl hb)
        have hi251 : 1 < ev3.length := by omega
        exact ov_indexAddrN (k := 10) (i := 1) Try.underlying22 Try.sizeOf29 (show _ = (v8 : Value) from e18) hr7.sl rfl hi251 ⟨Chg.refl _ _, rfl⟩
      · intro vals w77 hR252 hA
        have hs253 := hR252.size
        have e16 : (vals 16) = (.bool false : Value) := hA 16 (by decide)
        have e19 : (vals 19) = (.pointer (some ⟨sb v8, so v8 + 1 * 10, none⟩) : Value) := hA 19 (by decide)
        refine oblc rfl rfl (show _ = (.bool false : Value) from e16) (fun _ => ?_) (fun hb => absurd rfl hb)
        have h255 := hr7.ext (Chg.new (Chg.trans (Chg.trans (Chg.new (Chg.trans (Chg.trans (Chg.trans hx9 hx15) hx21) hR91) hp98.chg (fun i hi hO => by subst hO; omega)) hx101) hR162) hp172.chg (fun i hi hO => by subst hO; omega))
        have hi254 : 1 < ev3.length := by omega
        obtain ⟨hc254, hd254, hok254⟩ := h255.ev hi254
        rw [← getD_at default hi254] at hc254 hd254 hok254
        have h256 := hc254.mono (fun hb => (Chg.trans hx174 hR252).block _ hb (fun h => h))
        exact ov_loadk (k := 10) Try.isAgg29 Try.sizeOf29 rfl (show _ = (.pointer (some ⟨sb v8, so v8 + 1 * 10, none⟩) : Value) from e19) h256 ⟨Chg.refl _ _, rfl⟩
      · intro vals w78 hR257 hA
        have hs258 := hR257.size
        have e16 : (vals 16) = (.bool false : Value) := hA 16 (by decide)
        refine oblc rfl rfl (show _ = (.bool false : Value) from e16) (fun _ => ?_) (fun hb => absurd rfl hb)
        have h259 := (Chg.trans (Chg.trans (Chg.new (Chg.trans hx101 hR162) hp172.chg (fun i hi hO => by subst hO; omega)) hx174) hR257).keep hp98.at_ (fun h => h)
        exact ov_loadk (k := 10) Try.isAgg29 Try.sizeOf29 rfl rfl (CellsAt.all h259) ⟨Chg.refl _ _, rfl⟩
      · intro vals w79 hR260 hA
        have hs261 := hR260.size
        have e16 : (vals 16) = (.bool false : Value) := hA 16 (by decide)
        refine oblc rfl rfl (show _ = (.bool false : Value) from e16) (fun _ => ?_) (fun hb => absurd rfl hb)
        exact ov_move (v := v8) rfl ⟨Chg.refl _ _, rfl⟩
      · intro vals w80 hR262 hA
        have hs263 := hR262.size
        have e16 : (vals 16) = (.bool false : Value) := hA 16 (by decide)
        have e22 : (vals 22) = (v8 : Value) := hA 22 (by decide)
        refine oblc rfl rfl (show _ = (.bool false : Value) from e16) (fun _ => ?_) (fun hb => absurd rfl hb)
        have hi264 : 2 < ev3.length := by omega
        exact ov_indexAddrN (k := 10) (i := 2) Try.underlying22 Try.sizeOf29 (show _ = (v8 : Value) from e22) hr7.sl rfl hi264 ⟨Chg.refl _ _, rfl⟩
      · intro vals w81 hR265 hA
        have hs266 := hR265.size
        have e16 : (vals 16) = (.bool false : Value) := hA 16 (by decide)
        have e23 : (vals 23) = (.pointer (some ⟨sb v8, so v8 + 2 * 10, none⟩) : Value) := hA 23 (by decide)
        refine oblc rfl rfl (show _ = (.bool false : Value) from e16) (fun _ => ?_) (fun hb => absurd rfl hb)
        have h268 := hr7.ext (Chg.new (Chg.trans (Chg.trans (Chg.new (Chg.trans (Chg.trans (Chg.trans hx9 hx15) hx21) hR91) hp98.chg (fun i hi hO => by subst hO; omega)) hx101) hR162) hp172.chg (fun i hi hO => by subst hO; omega))
        have hi267 : 2 < ev3.length := by omega
        obtain ⟨hc267, hd267, hok267⟩ := h268.ev hi267
        rw [← getD_at default hi267] at hc267 hd267 hok267
        have h269 := hc267.mono (fun hb => (Chg.trans hx174 hR265).block _ hb (fun h => h))
        exact ov_loadk (k := 10) Try.isAgg29 Try.sizeOf29 rfl (show _ = (.pointer (some ⟨sb v8, so v8 + 2 * 10, none⟩) : Value) from e23) h269 ⟨Chg.refl _ _, rfl⟩
      · intro vals w82 hR270 hA
        have hs271 := hR270.size
        have e16 : (vals 16) = (.bool false : Value) := hA 16 (by decide)
        refine oblc rfl rfl (show _ = (.bool false : Value) from e16) (fun _ => ?_) (fun hb => absurd rfl hb)
        exact ov_move (v := v8) rfl ⟨Chg.refl _ _, rfl⟩
      · intro vals w83 hR272 hA
        have hs273 := hR272.size
        have e16 : (vals 16) = (.bool false : Value) := hA 16 (by decide)
        have e25 : (vals 25) = (v8 : Value) := hA 25 (by decide)
        refine oblc rfl rfl (show _ = (.bool false : Value) from e16) (fun _ => ?_) (fun hb => absurd rfl hb)
        have hi274 : 0 < ev3.length := by omega
        exact ov_indexAddrN (k := 10) (i := 0) Try.underlying22 Try.sizeOf29 (show _ = (v8 : Value) from e25) hr7.sl rfl hi274 ⟨Chg.refl _ _, rfl⟩
      · intro vals w84 hR275 hA
        have hs276 := hR275.size
        have e16 : (vals 16) = (.bool false : Value) := hA 16 (by decide)
        have e26 : (vals 26) = (.pointer (some ⟨sb v8, so v8 + 0 * 10, none⟩) : Value) := hA 26 (by decide)
        refine oblc rfl rfl (show _ = (.bool false : Value) from e16) (fun _ => ?_) (fun hb => absurd rfl hb)
        have h278 := hr7.ext (Chg.new (Chg.trans (Chg.trans (Chg.new (Chg.trans (Chg.trans (Chg.trans hx9 hx15) hx21) hR91) hp98.chg (fun i hi hO => by subst hO; omega)) hx101) hR162) hp172.chg (fun i hi hO => by subst hO; omega))
        have hi277 : 0 < ev3.length := by omega
        obtain ⟨hc277, hd277, hok277⟩ := h278.ev hi277
        rw [← getD_at default hi277] at hc277 hd277 hok277
        have h279 := hc277.mono (fun hb => (Chg.trans hx174 hR275).block _ hb (fun h => h))
        exact ov_loadk (k := 10) Try.isAgg29 Try.sizeOf29 rfl (show _ = (.pointer (some ⟨sb v8, so v8 + 0 * 10, none⟩) : Value) from e26) h279 ⟨Chg.refl _ _, rfl⟩
      · intro vals w85 hR280 hA
        have hs281 := hR280.size
        have e16 : (vals 16) = (.bool false : Value) := hA 16 (by decide)
        have e17 : (vals 17) = (.agg ((⟨((k : Nat) : Int), (nums.getD i 0), (nums.getD i 0), [(nums.getD k 0), (nums.getD i 0)], 0, 0, 0, 0, 0, 0⟩ : Ev).cells d165).toArray : Value) := hA 17 (by decide)
        have e20 : (vals 20) = (.agg ((ev3.getD 1 default).cells (cellV w55 (sb v8) (so v8 + 1 * 10 + 3))).toArray : Value) := hA 20 (by decide)
        have e21 : (vals 21) = (.agg ((⟨(nums.getD i 0), (nums.getD k 0), (nums.getD ((i + k) % nums.length) 0), nums.take k, 0, 0, 0, 0, 0, 0⟩ : Ev).cells (subV 1 (.slice (some ⟨b2, 0, none⟩) 7 7) 0 k)).toArray : Value) := hA 21 (by decide)
        have e24 : (vals 24) = (.agg ((ev3.getD 2 default).cells (cellV w55 (sb v8) (so v8 + 2 * 10 + 3))).toArray : Value) := hA 24 (by decide)
        have e27 : (vals 27) = (.agg ((ev3.getD 0 default).cells (cellV w55 (sb v8) (so v8 + 0 * 10 + 3))).toArray : Value) := hA 27 (by decide)
        refine oblc rfl rfl (show _ = (.bool false : Value) from e16) (fun _ => ?_) (fun hb => absurd rfl hb)
        have h282 := (RdS.tb_ext (RdS.tb_ext (RdS.tb_put hd167 hp172.chg hbk171 (by decide)) hx174) hR280)
        have ok283 : Ev.Ok (⟨((k : Nat) : Int), (nums.getD i 0), (nums.getD i 0), [(nums.getD k 0), (nums.getD i 0)], 0, 0, 0, 0, 0, 0⟩ : Ev) := ⟨(show InR (((k : Nat) : Int)) from (by first | exact nums_at _ | omega)), (show InR ((nums.getD i 0)) from (by first | exact nums_at _ | omega)), (show InR ((nums.getD i 0)) from (by first | exact nums_at _ | omega)), (show InR (0) from (by first | exact nums_at _ | omega)), (show InR (0) from (by first | exact nums_at _ | omega)), (show InR (0) from (by first | exact nums_at _ | omega)), (show InR (0) from (by first | exact nums_at _ | omega)), (show InR (0) from (by first | exact nums_at _ | omega)), (show InR (0) from (by first | exact nums_at _ | omega))⟩
        have h285 := hr7.ext (Chg.new (Chg.trans (Chg.trans (Chg.new (Chg.trans (Chg.trans (Chg.trans hx9 hx15) hx21) hR91) hp98.chg (fun i hi hO => by subst hO; omega)) hx101) hR162) hp172.chg (fun i hi hO => by subst hO; omega))
        have hi284 : 1 < ev3.length := by omega
        obtain ⟨hc284, hd284, hok284⟩ := h285.ev hi284
        rw [← getD_at default hi284] at hc284 hd284 hok284
        have h286 := hd284.ext (Chg.trans hx174 hR280)
        have h287 := h99.ext (Chg.trans (Chg.trans (Chg.new (Chg.trans (Chg.trans (Chg.new (Chg.trans (Chg.trans (Chg.trans (Chg.trans hx6 hx9) hx15) hx21) hR91) hp98.chg (fun i hi hO => by subst hO; omega)) hx101) hR162) hp172.chg (fun i hi hO => by subst hO; omega)) hx174) hR280)
        have ok288 : Ev.Ok (⟨(nums.getD i 0), (nums.getD k 0), (nums.getD ((i + k) % nums.length) 0), nums.take k, 0, 0, 0, 0, 0, 0⟩ : Ev) := ⟨(show InR ((nums.getD i 0)) from (by first | exact nums_at _ | omega)), (show InR ((nums.getD k 0)) from (by first | exact nums_at _ | omega)), (show InR ((nums.getD ((i + k) % nums.length) 0)) from (by first | exact nums_at _ | omega)), (show InR (0) from (by first | exact nums_at _ | omega)), (show InR (0) from (by first | exact nums_at _ | omega)), (show InR (0) from (by first | exact nums_at _ | omega)), (show InR (0) from (by first | exact nums_at _ | omega)), (show InR (0) from (by first | exact nums_at _ | omega)), (show InR (0) from (by first | exact nums_at _ | omega))⟩
        have h290 := hr7.ext (Chg.new (Chg.trans (Chg.trans (Chg.new (Chg.trans (Chg.trans (Chg.trans hx9 hx15) hx21) hR91) hp98.chg (fun i hi hO => by subst hO; omega)) hx101) hR162) hp172.chg (fun i hi hO => by subst hO; omega))
        have hi289 : 2 < ev3.length := by omega
        obtain ⟨hc289, hd289, hok289⟩ := h290.ev hi289
        rw [← getD_at default hi289] at hc289 hd289 hok289
        have h291 := hd289.ext (Chg.trans hx174 hR280)
        have h293 := hr7.ext (Chg.new (Chg.trans (Chg.trans (Chg.new (Chg.trans (Chg.trans (Chg.trans hx9 hx15) hx21) hR91) hp98.chg (fun i hi hO => by subst hO; omega)) hx101) hR162) hp172.chg (fun i hi hO => by subst hO; omega))
        have hi292 : 0 < ev3.length := by omega
        obtain ⟨hc292, hd292, hok292⟩ := h293.ev hi292
        rw [← getD_at default hi292] at hc292 hd292 hok292
        have h294 := hd292.ext (Chg.trans hx174 hR280)
        exact ov_buildSlice (k := 10) (parts' := [(0, .agg ((⟨((k : Nat) : Int), (nums.getD i 0), (nums.getD i 0), [(nums.getD k 0), (nums.getD i 0)], 0, 0, 0, 0, 0, 0⟩ : Ev).cells d165).toArray), (1, .agg ((ev3.getD 1 default).cells (cellV w55 (sb v8) (so v8 + 1 * 10 + 3))).toArray), (2, .agg ((⟨(nums.getD i 0), (nums.getD k 0), (nums.getD ((i + k) % nums.length) 0), nums.take k, 0, 0, 0, 0, 0, 0⟩ : Ev).cells (subV 1 (.slice (some ⟨b2, 0, none⟩) 7 7) 0 k)).toArray), (3, .agg ((ev3.getD 2 default).cells (cellV w55 (sb v8) (so v8 + 2 * 10 + 3))).toArray), (4, .agg ((ev3.getD 0 default).cells (cellV w55 (sb v8) (so v8 + 0 * 10 + 3))).toArray)]) (c := ((⟨((k : Nat) : Int), (nums.getD i 0), (nums.getD i 0), [(nums.getD k 0), (nums.getD i 0)], 0, 0, 0, 0, 0, 0⟩ : Ev).cells d165 ++ (ev3.getD 1 default).cells (cellV w55 (sb v8) (so v8 + 1 * 10 + 3)) ++ (⟨(nums.getD i 0), (nums.getD k 0), (nums.getD ((i + k) % nums.length) 0), nums.take k, 0, 0, 0, 0, 0, 0⟩ : Ev).cells (subV 1 (.slice (some ⟨b2, 0, none⟩) 7 7) 0 k) ++ (ev3.getD 2 default).cells (cellV w55 (sb v8) (so v8 + 2 * 10 + 3)) ++ (ev3.getD 0 default).cells (cellV w55 (sb v8) (so v8 + 0 * 10 + 3))).toArray) Try.underlying22 Try.sizeOf29 Try.zeroValue29 (by decide) (mapP ⟨rfl, (show _ = (.agg ((⟨((k : Nat) : Int), (nums.getD i 0), (nums.getD i 0), [(nums.getD k 0), (nums.getD i 0)], 0, 0, 0, 0, 0, 0⟩ : Ev).cells d165).toArray : Value) from e17), rfl, (show _ = (.agg ((ev3.getD 1 default).cells (cellV w55 (sb v8) (so v8 + 1 * 10 + 3))).toArray : Value) from e20), rfl, (show _ = (.agg ((⟨(nums.getD i 0), (nums.getD k 0), (nums.getD ((i + k) % nums.length) 0), nums.take k, 0, 0, 0, 0, 0, 0⟩ : Ev).cells (subV 1 (.slice (some ⟨b2, 0, none⟩) 7 7) 0 k)).toArray : Value) from e21), rfl, (show _ = (.agg ((ev3.getD 2 default).cells (cellV w55 (sb v8) (so v8 + 2 * 10 + 3))).toArray : Value) from e24), rfl, (show _ = (.agg ((ev3.getD 0 default).cells (cellV w55 (sb v8) (so v8 + 0 * 10 + 3))).toArray : Value) from e27), trivial⟩) (by kernel_rfl) (fun _ _ hn => ⟨hn.ext, Els.flat_at (α := Ev) (css := [(⟨((k : Nat) : Int), (nums.getD i 0), (nums.getD i 0), [(nums.getD k 0), (nums.getD i 0)], 0, 0, 0, 0, 0, 0⟩ : Ev).cells d165, (ev3.getD 1 default).cells (cellV w55 (sb v8) (so v8 + 1 * 10 + 3)), (⟨(nums.getD i 0), (nums.getD k 0), (nums.getD ((i + k) % nums.length) 0), nums.take k, 0, 0, 0, 0, 0, 0⟩ : Ev).cells (subV 1 (.slice (some ⟨b2, 0, none⟩) 7 7) 0 k), (ev3.getD 2 default).cells (cellV w55 (sb v8) (so v8 + 2 * 10 + 3)), (ev3.getD 0 default).cells (cellV w55 (sb v8) (so v8 + 0 * 10 + 3))]) (l := [(⟨((k : Nat) : Int), (nums.getD i 0), (nums.getD i 0), [(nums.getD k 0), (nums.getD i 0)], 0, 0, 0, 0, 0, 0⟩ : Ev), (ev3.getD 1 default), (⟨(nums.getD i 0), (nums.getD k 0), (nums.getD ((i + k) % nums.length) 0), nums.take k, 0, 0, 0, 0, 0, 0⟩ : Ev), (ev3.getD 2 default), (ev3.getD 0 default)]) (F := fun _ => True) ⟨(show Rep.rd _ _ ((⟨((k : Nat) : Int), (nums.getD i 0), (nums.getD i 0), [(nums.getD k 0), (nums.getD i 0)], 0, 0, 0, 0, 0, 0⟩ : Ev).cells d165) (⟨((k : Nat) : Int), (nums.getD i 0), (nums.getD i 0), [(nums.getD k 0), (nums.getD i 0)], 0, 0, 0, 0, 0, 0⟩ : Ev) from ⟨_, rfl, ((h282).weak (fun _ _ _ => trivial)).ext hn.ext, ok283⟩), (show Rep.rd _ _ ((ev3.getD 1 default).cells (cellV w55 (sb v8) (so v8 + 1 * 10 + 3))) (ev3.getD 1 default) from ⟨_, rfl, ((h286).weak (fun _ _ _ => trivial)).ext hn.ext, hok284⟩), (show Rep.rd _ _ ((⟨(nums.getD i 0), (nums.getD k 0), (nums.getD ((i + k) % nums.length) 0), nums.take k, 0, 0, 0, 0, 0, 0⟩ : Ev).cells (subV 1 (.slice (some ⟨b2, 0, none⟩) 7 7) 0 k)) (⟨(nums.getD i 0), (nums.getD k 0), (nums.getD ((i + k) % nums.length) 0), nums.take k, 0, 0, 0, 0, 0, 0⟩ : Ev) from ⟨_, rfl, ((h287).weak (fun _ _ _ => trivial)).ext hn.ext, ok288⟩), (show Rep.rd _ _ ((ev3.getD 2 default).cells (cellV w55 (sb v8) (so v8 + 2 * 10 + 3))) (ev3.getD 2 default) from ⟨_, rfl, ((h291).weak (fun _ _ _ => trivial)).ext hn.ext, hok289⟩), (show Rep.rd _ _ ((ev3.getD 0 default).cells (cellV w55 (sb v8) (so v8 + 0 * 10 + 3))) (ev3.getD 0 default) from ⟨_, rfl, ((h294).weak (fun _ _ _ => trivial)).ext hn.ext, hok292⟩), trivial⟩ rfl hn.at_ trivial (by first | decide | (simp only [List.length_cons, List.length_nil]; decide))⟩)
      · intro vals w86 hR295 hA
        have hs296 := hR295.size
        have e16 : (vals 16) = (.bool false : Value) := hA 16 (by decide)
        refine oblc rfl rfl (show _ = (.bool false : Value) from e16) (fun _ => ?_) (fun hb => absurd rfl hb)
        exact ov_move (v := .int .i64 ((i : Nat) : Int)) rfl ⟨Chg.refl _ _, rfl⟩
      · intro vals w87 hR297 hA
        have hs298 := hR297.size
        have e16 : (vals 16) = (.bool false : Value) := hA 16 (by decide)
        have e28 : RdS (α := Ev) w87 (fun _ => True) (vals 28) ([(⟨((k : Nat) : Int), (nums.getD i 0), (nums.getD i 0), [(nums.getD k 0), (nums.getD i 0)], 0, 0, 0, 0, 0, 0⟩ : Ev), (ev3.getD 1 default), (⟨(nums.getD i 0), (nums.getD k 0), (nums.getD ((i + k) % nums.length) 0), nums.take k, 0, 0, 0, 0, 0, 0⟩ : Ev), (ev3.getD 2 default), (ev3.getD 0 default)]) := hA 28 (by decide)
        have e29 : (vals 29) = (.int .i64 ((i : Nat) : Int) : Value) := hA 29 (by decide)
        refine oblc rfl rfl (show _ = (.bool false : Value) from e16) (fun _ => ?_) (fun hb => absurd rfl hb)
        exact ov_call (f := 4) (vals := [(vals 28), .int .i64 ((i : Nat) : Int)]) (cap := []) (show _ = (.func (.func 4) #[] #[] : Value) from rfl) (mapL ⟨rfl, (show _ = (.int .i64 ((i : Nat) : Int) : Value) from e29), trivial⟩) Try.call4 (C_OrderSorts e28 (by omega)) (fun _ _ h => ⟨h.2, h.1⟩)
      · intro vals w88 hR299 hA
        have hs300 := hR299.size
        have e16 : (vals 16) = (.bool false : Value) := hA 16 (by decide)
        have e30 : (vals 30) = (.bool true : Value) := hA 30 (by decide)
        refine oblc rfl rfl (show _ = (.bool false : Value) from e16) (fun _ => ?_) (fun hb => absurd rfl hb)
        exact ov_not (a := true) (show _ = (.bool true : Value) from e30) ⟨Chg.refl _ _, rfl⟩
      · intro vals w89 hR301 hA
        have hs302 := hR301.size
        have e16 : (vals 16) = (.bool false : Value) := hA 16 (by decide)
        have e31 : (vals 31) = (.bool false : Value) := hA 31 (by decide)
        refine obl rfl ?_
        exact ov_pick_f (v := .bool false) (show _ = (.bool false : Value) from e16) (show _ = (.bool false : Value) from e31) ⟨Chg.refl _ _, rfl⟩
      · intro vals w90 hR303 hA
        have hs304 := hR303.size
        have e32 : (vals 32) = (.bool false : Value) := hA 32 (by decide)
        refine obl rfl ?_
        exact ov_move (v := .bool false) (show _ = (.bool false : Value) from e32) ⟨Chg.refl _ _, rfl⟩
      · intro vals w91 hR305 hA
        have hs306 := hR305.size
        have e33 : (vals 33) = (.bool false : Value) := hA 33 (by decide)
        refine oblc rfl rfl (show _ = (.bool false : Value) from e33) (fun _ => ?_) (fun hb => absurd rfl hb)
        have h307 := (Chg.trans (Chg.trans (Chg.new (Chg.trans hx101 hR162) hp172.chg (fun i hi hO => by subst hO; omega)) hx174) hR305).keep hp98.at_ (fun h => h)
        exact ov_loadk (k := 10) Try.isAgg29 Try.sizeOf29 rfl rfl (CellsAt.all h307) ⟨Chg.refl _ _, rfl⟩
      · intro vals w92 hR308 hA
        have hs309 := hR308.size
        have e33 : (vals 33) = (.bool false : Value) := hA 33 (by decide)
        refine oblc rfl rfl (show _ = (.bool false : Value) from e33) (fun _ => ?_) (fun hb => absurd rfl hb)
        have h310 := (Chg.trans hx174 hR308).keep hp172.at_ (fun h => h)
        exact ov_loadk (k := 10) Try.isAgg29 Try.sizeOf29 rfl rfl (CellsAt.all h310) ⟨Chg.refl _ _, rfl⟩
      · intro vals w93 hR311 hA
        have hs312 := hR311.size
        have e33 : (vals 33) = (.bool false : Value) := hA 33 (by decide)
        refine oblc rfl rfl (show _ = (.bool false : Value) from e33) (fun _ => ?_) (fun hb => absurd rfl hb)
        exact ov_move (v := v8) rfl ⟨Chg.refl _ _, rfl⟩
      · intro vals w94 hR313 hA
        have hs314 := hR313.size
        have e33 : (vals 33) = (.bool false : Value) := hA 33 (by decide)
        have e36 : (vals 36) = (v8 : Value) := hA 36 (by decide)
        refine oblc rfl rfl (show _ = (.bool false : Value) from e33) (fun _ => ?_) (fun hb => absurd rfl hb)
        have hi315 : 1 < ev3.length := by omega
        exact ov_indexAddrN (k := 10) (i := 1) Try.underlying22 Try.sizeOf29 (show _ = (v8 : Value) from e36) hr7.sl rfl hi315 ⟨Chg.refl _ _, rfl⟩
      · intro vals w95 hR316 hA
        have hs317 := hR316.size
        have e33 : (vals 33) = (.bool false : Value) := hA 33 (by decide)
        have e37 : (vals 37) = (.pointer (some ⟨sb v8, so v8 + 1 * 10, none⟩) : Value) := hA 37 (by decide)
        refine oblc rfl rfl (show _ = (.bool false : Value) from e33) (fun _ => ?_) (fun hb => absurd rfl hb)
        have h319 := hr7.ext (Chg.new (Chg.trans (Chg.trans (Chg.new (Chg.trans (Chg.trans (Chg.trans hx9 hx15) hx21) hR91) hp98.chg (fun i hi hO => by subst hO; omega)) hx101) hR162) hp172.chg (fun i hi hO => by subst hO; omega))
        have hi318 : 1 < ev3.length := by omega
        obtain ⟨hc318, hd318, hok318⟩ := h319.ev hi318
        rw [← getD_at default hi318] at hc318 hd318 hok318
        have h320 := hc318.mono (fun hb => (Chg.trans hx174 hR316).block _ hb (fun h => h))
        exact ov_loadk (k := 10) Try.isAgg29 Try.sizeOf29 rfl (show _ = (.pointer (some ⟨sb v8, so v8 + 1 * 10, none⟩) : Value) from e37) h320 ⟨Chg.refl _ _, rfl⟩
      · intro vals w96 hR321 hA
        have hs322 := hR321.size
        have e33 : (vals 33) = (.bool false : Value) := hA 33 (by decide)
        have e34 : (vals 34) = (.agg ((⟨(nums.getD i 0), (nums.getD k 0), (nums.getD ((i + k) % nums.length) 0), nums.take k, 0, 0, 0, 0, 0, 0⟩ : Ev).cells (subV 1 (.slice (some ⟨b2, 0, none⟩) 7 7) 0 k)).toArray : Value) := hA 34 (by decide)
        have e35 : (vals 35) = (.agg ((⟨((k : Nat) : Int), (nums.getD i 0), (nums.getD i 0), [(nums.getD k 0), (nums.getD i 0)], 0, 0, 0, 0, 0, 0⟩ : Ev).cells d165).toArray : Value) := hA 35 (by decide)
        have e38 : (vals 38) = (.agg ((ev3.getD 1 default).cells (cellV w55 (sb v8) (so v8 + 1 * 10 + 3))).toArray : Value) := hA 38 (by decide)
        refine oblc rfl rfl (show _ = (.bool false : Value) from e33) (fun _ => ?_) (fun hb => absurd rfl hb)
        have h323 := h99.ext (Chg.trans (Chg.trans (Chg.new (Chg.trans (Chg.trans (Chg.new (Chg.trans (Chg.trans (Chg.trans (Chg.trans hx6 hx9) hx15) hx21) hR91) hp98.chg (fun i hi hO => by subst hO; omega)) hx101) hR162) hp172.chg (fun i hi hO => by subst hO; omega)) hx174) hR321)
        have ok324 : Ev.Ok (⟨(nums.getD i 0), (nums.getD k 0), (nums.getD ((i + k) % nums.length) 0), nums.take k, 0, 0, 0, 0, 0, 0⟩ : Ev) := ⟨(show InR ((nums.getD i 0)) from (by first | exact nums_at _ | omega)), (show InR ((nums.getD k 0)) from (by first | exact nums_at _ | omega)), (show InR ((nums.getD ((i + k) % nums.length) 0)) from (by first | exact nums_at _ | omega)), (show InR (0) from (by first | exact nums_at _ | omega)), (show InR (0) from (by first | exact nums_at _ | omega)), (show InR (0) from (by first | exact nums_at _ | omega)), (show InR (0) from (by first | exact nums_at _ | omega)), (show InR (0) from (by first | exact nums_at _ | omega)), (show InR (0) from (by first | exact nums_at _ | omega))⟩
        have h325 := (RdS.tb_ext (RdS.tb_ext (RdS.tb_put hd167 hp172.chg hbk171 (by decide)) hx174) hR321)
        have ok326 : Ev.Ok (⟨((k : Nat) : Int), (nums.getD i 0), (nums.getD i 0), [(nums.getD k 0), (nums.getD i 0)], 0, 0, 0, 0, 0, 0⟩ : Ev) := ⟨(show InR (((k : Nat) : Int)) from (by first | exact nums_at _ | omega)), (show InR ((nums.getD i 0)) from (by first | exact nums_at _ | omega)), (show InR ((nums.getD i 0)) from (by first | exact nums_at _ | omega)), (show InR (0) from (by first | exact nums_at _ | omega)), (show InR (0) from (by first | exact nums_at _ | omega)), (show InR (0) from (by first | exact nums_at _ | omega)), (show InR (0) from (by first | exact nums_at _ | omega)), (show InR (0) from (by first | exact nums_at _ | omega)), (show InR (0) from (by first | exact nums_at _ | omega))⟩
        have h328 := hr7.ext (Chg.new (Chg.trans (Chg.trans (Chg.new (Chg.trans (Chg.trans (Chg.trans hx9 hx15) hx21) hR91) hp98.chg (fun i hi hO => by subst hO; omega)) hx101) hR162) hp172.chg (fun i hi hO => by subst hO; omega))
        have hi327 : 1 < ev3.length := by omega
        obtain ⟨hc327, hd327, hok327⟩ := h328.ev hi327
        rw [← getD_at default hi327] at hc327 hd327 hok327
        have h329 := hd327.ext (Chg.trans hx174 hR321)
        exact ov_call (f := 5) (vals := [.agg ((⟨(nums.getD i 0), (nums.getD k 0), (nums.getD ((i + k) % nums.length) 0), nums.take k, 0, 0, 0, 0, 0, 0⟩ : Ev).cells (subV 1 (.slice (some ⟨b2, 0, none⟩) 7 7) 0 k)).toArray, .agg ((⟨((k : Nat) : Int), (nums.getD i 0), (nums.getD i 0), [(nums.getD k 0), (nums.getD i 0)], 0, 0, 0, 0, 0, 0⟩ : Ev).cells d165).toArray, .agg ((ev3.getD 1 default).cells (cellV w55 (sb v8) (so v8 + 1 * 10 + 3))).toArray]) (cap := []) (show _ = (.func (.func 5) #[] #[] : Value) from rfl) (mapL ⟨(show _ = (.agg ((⟨(nums.getD i 0), (nums.getD k 0), (nums.getD ((i + k) % nums.length) 0), nums.take k, 0, 0, 0, 0, 0, 0⟩ : Ev).cells (subV 1 (.slice (some ⟨b2, 0, none⟩) 7 7) 0 k)).toArray : Value) from e34), (show _ = (.agg ((⟨((k : Nat) : Int), (nums.getD i 0), (nums.getD i 0), [(nums.getD k 0), (nums.getD i 0)], 0, 0, 0, 0, 0, 0⟩ : Ev).cells d165).toArray : Value) from e35), (show _ = (.agg ((ev3.getD 1 default).cells (cellV w55 (sb v8) (so v8 + 1 * 10 + 3))).toArray : Value) from e38), trivial⟩) Try.call5 (C_OrderLess h323 ok324 h325 ok326 h329 hok327) (fun _ _ h => ⟨h.2, h.1⟩)
      · intro vals w97 hR330 hA
        have hs331 := hR330.size
        have e33 : (vals 33) = (.bool false : Value) := hA 33 (by decide)
        have e39 : (vals 39) = (.bool true : Value) := hA 39 (by decide)
        refine oblc rfl rfl (show _ = (.bool false : Value) from e33) (fun _ => ?_) (fun hb => absurd rfl hb)
        exact ov_not (a := true) (show _ = (.bool true : Value) from e39) ⟨Chg.refl _ _, rfl⟩
      · intro vals w98 hR332 hA
        have hs333 := hR332.size
        have e33 : (vals 33) = (.bool false : Value) := hA 33 (by decide)
        have e40 : (vals 40) = (.bool false : Value) := hA 40 (by decide)
        refine obl rfl ?_
        exact ov_pick_f (v := .bool false) (show _ = (.bool false : Value) from e33) (show _ = (.bool false : Value) from e40) ⟨Chg.refl _ _, rfl⟩
      · intro vals w99 hR334 hA
        have hs335 := hR334.size
        have e41 : (vals 41) = (.bool false : Value) := hA 41 (by decide)
        refine obl rfl ?_
        exact ov_move (v := .bool false) (show _ = (.bool false : Value) from e41) ⟨Chg.refl _ _, rfl⟩
      · intro vals w100 hR336 hA
        have hs337 := hR336.size
        have e42 : (vals 42) = (.bool false : Value) := hA 42 (by decide)
        refine oblc rfl rfl (show _ = (.bool false : Value) from e42) (fun _ => ?_) (fun hb => absurd rfl hb)
        have h338 := (Chg.trans (Chg.trans (Chg.new (Chg.trans hx101 hR162) hp172.chg (fun i hi hO => by subst hO; omega)) hx174) hR336).keep hp98.at_ (fun h => h)
        exact ov_loadk (k := 10) Try.isAgg29 Try.sizeOf29 rfl rfl (CellsAt.all h338) ⟨Chg.refl _ _, rfl⟩
      · intro vals w101 hR339 hA
        have hs340 := hR339.size
        have e42 : (vals 42) = (.bool false : Value) := hA 42 (by decide)
        refine oblc rfl rfl (show _ = (.bool false : Value) from e42) (fun _ => ?_) (fun hb => absurd rfl hb)
        have h341 := (Chg.trans hx174 hR339).keep hp172.at_ (fun h => h)
        exact ov_loadk (k := 10) Try.isAgg29 Try.sizeOf29 rfl rfl (CellsAt.all h341) ⟨Chg.refl _ _, rfl⟩
      · intro vals w102 hR342 hA
        have hs343 := hR342.size
        have e42 : (vals 42) = (.bool false : Value) := hA 42 (by decide)
        have e43 : (vals 43) = (.agg ((⟨(nums.getD i 0), (nums.getD k 0), (nums.getD ((i + k) % nums.length) 0), nums.take k, 0, 0, 0, 0, 0, 0⟩ : Ev).cells (subV 1 (.slice (some ⟨b2, 0, none⟩) 7 7) 0 k)).toArray : Value) := hA 43 (by decide)
        have e44 : (vals 44) = (.agg ((⟨((k : Nat) : Int), (nums.getD i 0), (nums.getD i 0), [(nums.getD k 0), (nums.getD i 0)], 0, 0, 0, 0, 0, 0⟩ : Ev).cells d165).toArray : Value) := hA 44 (by decide)
        refine oblc rfl rfl (show _ = (.bool false : Value) from e42) (fun _ => ?_) (fun hb => absurd rfl hb)
        have h344 := h99.ext (Chg.trans (Chg.trans (Chg.new (Chg.trans (Chg.trans (Chg.new (Chg.trans (Chg.trans (Chg.trans (Chg.trans hx6 hx9) hx15) hx21) hR91) hp98.chg (fun i hi hO => by subst hO; omega)) hx101) hR162) hp172.chg (fun i hi hO => by subst hO; omega)) hx174) hR342)
        have ok345 : Ev.Ok (⟨(nums.getD i 0), (nums.getD k 0), (nums.getD ((i + k) % nums.length) 0), nums.take k, 0, 0, 0, 0, 0, 0⟩ : Ev) := ⟨(show InR ((nums.getD i 0)) from (by first | exact nums_at _ | omega)), (show InR ((nums.getD k 0)) from (by first | exact nums_at _ | omega)), (show InR ((nums.getD ((i + k) % nums.length) 0)) from (by first | exact nums_at _ | omega)), (show InR (0) from (by first | exact nums_at _ | omega)), (show InR (0) from (by first | exact nums_at _ | omega)), (show InR (0) from (by first | exact nums_at _ | omega)), (show InR (0) from (by first | exact nums_at _ | omega)), (show InR (0) from (by first | exact nums_at _ | omega)), (show InR (0) from (by first | exact nums_at _ | omega))⟩
        have h346 := (RdS.tb_ext (RdS.tb_ext (RdS.tb_put hd167 hp172.chg hbk171 (by decide)) hx174) hR342)
        have ok347 : Ev.Ok (⟨((k : Nat) : Int), (nums.getD i 0), (nums.getD i 0), [(nums.getD k 0), (nums.getD i 0)], 0, 0, 0, 0, 0, 0⟩ : Ev) := ⟨(show InR (((k : Nat) : Int)) from (by first | exact nums_at _ | omega)), (show InR ((nums.getD i 0)) from (by first | exact nums_at _ | omega)), (show InR ((nums.getD i 0)) from (by first | exact nums_at _ | omega)), (show InR (0) from (by first | exact nums_at _ | omega)), (show InR (0) from (by first | exact nums_at _ | omega)), (show InR (0) from (by first | exact nums_at _ | omega)), (show InR (0) from (by first | exact nums_at _ | omega)), (show InR (0) from (by first | exact nums_at _ | omega)), (show InR (0) from (by first | exact nums_at _ | omega))⟩
        exact ov_call (f := 6) (vals := [.agg ((⟨(nums.getD i 0), (nums.getD k 0), (nums.getD ((i + k) % nums.length) 0), nums.take k, 0, 0, 0, 0, 0, 0⟩ : Ev).cells (subV 1 (.slice (some ⟨b2, 0, none⟩) 7 7) 0 k)).toArray, .agg ((⟨((k : Nat) : Int), (nums.getD i 0), (nums.getD i 0), [(nums.getD k 0), (nums.getD i 0)], 0, 0, 0, 0, 0, 0⟩ : Ev).cells d165).toArray]) (cap := []) (show _ = (.func (.func 6) #[] #[] : Value) from rfl) (mapL ⟨(show _ = (.agg ((⟨(nums.getD i 0), (nums.getD k 0), (nums.getD ((i + k) % nums.length) 0), nums.take k, 0, 0, 0, 0, 0, 0⟩ : Ev).cells (subV 1 (.slice (some ⟨b2, 0, none⟩) 7 7) 0 k)).toArray : Value) from e43), (show _ = (.agg ((⟨((k : Nat) : Int), (nums.getD i 0), (nums.getD i 0), [(nums.getD k 0), (nums.getD i 0)], 0, 0, 0, 0, 0, 0⟩ : Ev).cells d165).toArray : Value) from e44), trivial⟩) Try.call6 (C_OrderKnew h344 ok345 h346 ok347) (fun _ _ h => ⟨h.2, h.1⟩)
      · intro vals w103 hR348 hA
        have hs349 := hR348.size
        have e42 : (vals 42) = (.bool false : Value) := hA 42 (by decide)
        have e45 : (vals 45) = (.bool true : Value) := hA 45 (by decide)
        refine oblc rfl rfl (show _ = (.bool false : Value) from e42) (fun _ => ?_) (fun hb => absurd rfl hb)
        exact ov_not (a := true) (show _ = (.bool true : Value) from e45) ⟨Chg.refl _ _, rfl⟩
      · intro vals w104 hR350 hA
        have hs351 := hR350.size
        have e42 : (vals 42) = (.bool false : Value) := hA 42 (by decide)
        have e46 : (vals 46) = (.bool false : Value) := hA 46 (by decide)
        refine obl rfl ?_
        exact ov_pick_f (v := .bool false) (show _ = (.bool false : Value) from e42) (show _ = (.bool false : Value) from e46) ⟨Chg.refl _ _, rfl⟩
      · intro vals w105 hR352 hA
        have hs353 := hR352.size
        have e47 : (vals 47) = (.bool false : Value) := hA 47 (by decide)
        refine obl rfl ?_
        exact ov_move (v := .bool false) (show _ = (.bool false : Value) from e47) ⟨Chg.refl _ _, rfl⟩
      · intro vals w106 hR354 hA
        have hs355 := hR354.size
        have e48 : (vals 48) = (.bool false : Value) := hA 48 (by decide)
        refine oblc rfl rfl (show _ = (.bool false : Value) from e48) (fun _ => ?_) (fun hb => absurd rfl hb)
        exact ov_move (v := v8) rfl ⟨Chg.refl _ _, rfl⟩
      · intro vals w107 hR356 hA
        have hs357 := hR356.size
        have e48 : (vals 48) = (.bool false : Value) := hA 48 (by decide)
        refine oblc rfl rfl (show _ = (.bool false : Value) from e48) (fun _ => ?_) (fun hb => absurd rfl hb)
        exact ov_move (v := .int .i64 ((i : Nat) : Int)) rfl ⟨Chg.refl _ _, rfl⟩
      · intro vals w108 hR358 hA
        have hs359 := hR358.size
        have e48 : (vals 48) = (.bool false : Value) := hA 48 (by decide)
        have e50 : (vals 50) = (.int .i64 ((i : Nat) : Int) : Value) := hA 50 (by decide)
        refine oblc rfl rfl (show _ = (.bool false : Value) from e48) (fun _ => ?_) (fun hb => absurd rfl hb)
        have h0360 : (0 : Int) < 3 := by omega
        exact ov_rem (r := ((i % 3 : Nat) : Int)) (show _ = (.int .i64 ((i : Nat) : Int) : Value) from e50) rfl h0360 (Int.ofNat_tmod _ _).symm ⟨Chg.refl _ _, rfl⟩
      · intro vals w109 hR361 hA
        have hs362 := hR361.size
        have e48 : (vals 48) = (.bool false : Value) := hA 48 (by decide)
        have e49 : (vals 49) = (v8 : Value) := hA 49 (by decide)
        have e51 : (vals 51) = (.int .i64 ((i % 3 : Nat) : Int) : Value) := hA 51 (by decide)
        refine oblc rfl rfl (show _ = (.bool false : Value) from e48) (fun _ => ?_) (fun hb => absurd rfl hb)
        have hi363 : i % 3 < ev3.length := by omega
        have h365 := hr7.ext (Chg.new (Chg.trans (Chg.trans (Chg.new (Chg.trans (Chg.trans (Chg.trans hx9 hx15) hx21) hR91) hp98.chg (fun i hi hO => by subst hO; omega)) hx101) hR162) hp172.chg (fun i hi hO => by subst hO; omega))
        have hi364 : i % 3 < ev3.length := by omega
        obtain ⟨hc364, hd364, hok364⟩ := h365.ev hi364
        rw [← getD_at default hi364] at hc364 hd364 hok364
        exact ov_indexAddrN (k := 10) (i := i % 3) Try.underlying22 Try.sizeOf29 (show _ = (v8 : Value) from e49) hr7.sl (show _ = (.int .i64 ((i % 3 : Nat) : Int) : Value) from e51) hi363 ⟨Chg.refl _ _, rfl⟩
      · intro vals w110 hR366 hA
        have hs367 := hR366.size
        have e48 : (vals 48) = (.bool false : Value) := hA 48 (by decide)
        have e52 : (vals 52) = (.pointer (some ⟨sb v8, so v8 + (i % 3) * 10, none⟩) : Value) := hA 52 (by decide)
        refine oblc rfl rfl (show _ = (.bool false : Value) from e48) (fun _ => ?_) (fun hb => absurd rfl hb)
        have h369 := hr7.ext (Chg.new (Chg.trans (Chg.trans (Chg.new (Chg.trans (Chg.trans (Chg.trans hx9 hx15) hx21) hR91) hp98.chg (fun i hi hO => by subst hO; omega)) hx101) hR162) hp172.chg (fun i hi hO => by subst hO; omega))
        have hi368 : i % 3 < ev3.length := by omega
        obtain ⟨hc368, hd368, hok368⟩ := h369.ev hi368
        rw [← getD_at default hi368] at hc368 hd368 hok368
        have h370 := hc368.mono (fun hb => (Chg.trans hx174 hR366).block _ hb (fun h => h))
        exact ov_loadk (k := 10) Try.isAgg29 Try.sizeOf29 rfl (show _ = (.pointer (some ⟨sb v8, so v8 + (i % 3) * 10, none⟩) : Value) from e52) h370 ⟨Chg.refl _ _, rfl⟩
      · intro vals w111 hR371 hA
        have hs372 := hR371.size
        have e48 : (vals 48) = (.bool false : Value) := hA 48 (by decide)
        refine oblc rfl rfl (show _ = (.bool false : Value) from e48) (fun _ => ?_) (fun hb => absurd rfl hb)
        have h373 := (Chg.trans hx174 hR371).keep hp172.at_ (fun h => h)
        exact ov_loadk (k := 10) Try.isAgg29 Try.sizeOf29 rfl rfl (CellsAt.all h373) ⟨Chg.refl _ _, rfl⟩
      · intro vals w112 hR374 hA
        have hs375 := hR374.size
        have e48 : (vals 48) = (.bool false : Value) := hA 48 (by decide)
        have e53 : (vals 53) = (.agg ((ev3.getD (i % 3) default).cells (cellV w55 (sb v8) (so v8 + (i % 3) * 10 + 3))).toArray : Value) := hA 53 (by decide)
        have e54 : (vals 54) = (.agg ((⟨((k : Nat) : Int), (nums.getD i 0), (nums.getD i 0), [(nums.getD k 0), (nums.getD i 0)], 0, 0, 0, 0, 0, 0⟩ : Ev).cells d165).toArray : Value) := hA 54 (by decide)
        refine oblc rfl rfl (show _ = (.bool false : Value) from e48) (fun _ => ?_) (fun hb => absurd rfl hb)
        have h377 := hr7.ext (Chg.new (Chg.trans (Chg.trans (Chg.new (Chg.trans (Chg.trans (Chg.trans hx9 hx15) hx21) hR91) hp98.chg (fun i hi hO => by subst hO; omega)) hx101) hR162) hp172.chg (fun i hi hO => by subst hO; omega))
        have hi376 : i % 3 < ev3.length := by omega
        obtain ⟨hc376, hd376, hok376⟩ := h377.ev hi376
        rw [← getD_at default hi376] at hc376 hd376 hok376
        have h378 := hd376.ext (Chg.trans hx174 hR374)
        have h379 := (RdS.tb_ext (RdS.tb_ext (RdS.tb_put hd167 hp172.chg hbk171 (by decide)) hx174) hR374)
        have ok380 : Ev.Ok (⟨((k : Nat) : Int), (nums.getD i 0), (nums.getD i 0), [(nums.getD k 0), (nums.getD i 0)], 0, 0, 0, 0, 0, 0⟩ : Ev) := ⟨(show InR (((k : Nat) : Int)) from (by first | exact nums_at _ | omega)), (show InR ((nums.getD i 0)) from (by first | exact nums_at _ | omega)), (show InR ((nums.getD i 0)) from (by first | exact nums_at _ | omega)), (show InR (0) from (by first | exact nums_at _ | omega)), (show InR (0) from (by first | exact nums_at _ | omega)), (show InR (0) from (by first | exact nums_at _ | omega)), (show InR (0) from (by first | exact nums_at _ | omega)), (show InR (0) from (by first | exact nums_at _ | omega)), (show InR (0) from (by first | exact nums_at _ | omega))⟩
        exact ov_call (f := 6) (vals := [.agg ((ev3.getD (i % 3) default).cells (cellV w55 (sb v8) (so v8 + (i % 3) * 10 + 3))).toArray, .agg ((⟨((k : Nat) : Int), (nums.getD i 0), (nums.getD i 0), [(nums.getD k 0), (nums.getD i 0)], 0, 0, 0, 0, 0, 0⟩ : Ev).cells d165).toArray]) (cap := []) (show _ = (.func (.func 6) #[] #[] : Value) from rfl) (mapL ⟨(show _ = (.agg ((ev3.getD (i % 3) default).cells (cellV w55 (sb v8) (so v8 + (i % 3) * 10 + 3))).toArray : Value) from e53), (show _ = (.agg ((⟨((k : Nat) : Int), (nums.getD i 0), (nums.getD i 0), [(nums.getD k 0), (nums.getD i 0)], 0, 0, 0, 0, 0, 0⟩ : Ev).cells d165).toArray : Value) from e54), trivial⟩) Try.call6 (C_OrderKnew h378 hok376 h379 ok380) (fun _ _ h => ⟨h.2, h.1⟩)
      · intro vals w113 hR381 hA
        have hs382 := hR381.size
        have e48 : (vals 48) = (.bool false : Value) := hA 48 (by decide)
        have e55 : (vals 55) = (.bool true : Value) := hA 55 (by decide)
        refine oblc rfl rfl (show _ = (.bool false : Value) from e48) (fun _ => ?_) (fun hb => absurd rfl hb)
        exact ov_not (a := true) (show _ = (.bool true : Value) from e55) ⟨Chg.refl _ _, rfl⟩
      · intro vals w114 hR383 hA
        have hs384 := hR383.size
        have e48 : (vals 48) = (.bool false : Value) := hA 48 (by decide)
        have e56 : (vals 56) = (.bool false : Value) := hA 56 (by decide)
        refine obl rfl ?_
        exact ov_pick_f (v := .bool false) (show _ = (.bool false : Value) from e48) (show _ = (.bool false : Value) from e56) ⟨Chg.refl _ _, rfl⟩
      intro vals w115 hR385 hA
      have hs386 := hR385.size
      have hs387 := hx174.size
      have e57 : (vals 57) = (.bool false : Value) := hA 57 (by decide)
      refine st_env (kv := [(1, (.slice (some ⟨b2, 0, none⟩) 7 7)), (2, v8), (3, .int .i64 ((i : Nat) : Int)), (4, .int .i64 ((k : Nat) : Int)), (15, .int .i64 ((k : Nat) : Int)), (16, (.slice (some ⟨b2, 0, none⟩) 7 7)), (17, .int .i64 ((nums.length : Nat) : Int)), (18, .bool true), (42, .agg ((⟨(nums.getD i 0), (nums.getD k 0), (nums.getD ((i + k) % nums.length) 0), nums.take k, 0, 0, 0, 0, 0, 0⟩ : Ev).cells (subV 1 (.slice (some ⟨b2, 0, none⟩) 7 7) 0 k)).toArray), (5, .pointer (some ⟨b94, 0, none⟩)), (62, .agg ((⟨((k : Nat) : Int), (nums.getD i 0), (nums.getD i 0), [(nums.getD k 0), (nums.getD i 0)], 0, 0, 0, 0, 0, 0⟩ : Ev).cells d165).toArray), (6, .pointer (some ⟨b168, 0, none⟩)), (120, .bool false)]) ⟨rfl, rfl, rfl, rfl, rfl, rfl, rfl, rfl, rfl, rfl, rfl, rfl, e57, trivial⟩ (fun ρ115 => ?_)
      clear e57
      clear hA qh1 qh2 qh3 qh4
      refine st_nil ?_
      refine WP_cond_f rfl ?_
      refine WP_skip ?_
      refine WP_region0 (by kernel_rfl) (fun _ => ?_)
      refine st (ov_move (v := .int .i64 ((k : Nat) : Int)) rfl ?_)
      have hr388 : InR ((k + 1 : Nat) : Int) := by omega
      refine st (ov_add (r := ((k + 1 : Nat) : Int)) (k := .i64) (a := ((k : Nat) : Int)) (b := 1) rfl rfl (by rw [show (((k : Nat) : Int) + 1 : Int) = ((k + 1 : Nat) : Int) by omega]; exact wrap_in hr388) ?_)
      refine st (ov_assign (v := .int .i64 ((k + 1 : Nat) : Int)) rfl ?_)
      refine st_nil ?_
      exact ⟨_, by omega, k + 1, _, rfl, setAll_self ⟨rfl, rfl, rfl, rfl, trivial⟩, (Chg.trans (Chg.trans (Chg.new (Chg.trans (Chg.trans (Chg.new (Chg.trans (Chg.trans hx15 hx21) hR91) hp98.chg (fun i hi hO => by subst hO; omega)) hx101) hR162) hp172.chg (fun i hi hO => by subst hO; omega)) hx174) hR385), by omega⟩

end Go.Proofs.Ytbbhpddgjiifmaa
