/- Steps of the proofs of this seat: part P5. -/
import Derived.Test.YtbbpmhfcgoljdaaP4
import Derived.Test.YtbbpmhfcgoljdaaPlain16b
set_option linter.unusedSimpArgs false
set_option linter.unusedVariables false
namespace Go.Proofs.Ytbbpmhfcgoljdaa
open Go.Proofs Go.RowKit

theorem dec3 (a b c d e f : Int) : (decide (a = d ∧ b = e ∧ c = f)) = (a == d && (b == e && c == f)) := by
  by_cases h1 : a = d <;> by_cases h2 : b = e <;> by_cases h3 : c = f <;> simp [h1, h2, h3]
theorem neqRow {x y : Operand} {a0 a1 a2 b0 b1 b2 : Int} : ∀ w, (do eqGuard .neq 31 x y (.agg #[.int .i64 a0, .int .i64 a1, .int .i64 a2]) (.agg #[.int .i64 b0, .int .i64 b1, .int .i64 b2]); binOp .neq 31 (.agg #[.int .i64 a0, .int .i64 a1, .int .i64 a2]) (.agg #[.int .i64 b0, .int .i64 b1, .int .i64 b2]) : Sem Value).run Try.prog w = .ok (.bool (!decide (a0 = b0 ∧ a1 = b1 ∧ a2 = b2))) w := by
  intro w
  rw [dec3]
  simp only [eqGuard]
  simp [go_sem]
  by_cases h1 : a0 = b0 <;> by_cases h2 : a1 = b1 <;> by_cases h3 : a2 = b2 <;> simp [h1, h2, h3]

theorem C_SameRows {w : World} {Fx : Nat → Prop} {vx : Value} {x : List Row} (hx : RdS w Fx vx x) {Fy : Nat → Prop} {vy : Value} {y : List Row} (hy : RdS w Fy vy y) : Ret Try.prog 15 [vx, vy] w (fun r w' => r = .bool (decide (x = y)) ∧ Ext w w') := by
  have hxs : x.length * 24 ≤ 140737488355328 := hx.small
  have hys : y.length * 24 ≤ 140737488355328 := hy.small
  refine Calls_of_WP (args := [vx, vy]) Try.func15 rfl rfl ?_
  refine WP_seq ?_
  refine WP_region0 (by kernel_rfl) (fun _ => ?_)
  refine st (ov_assign (v := .bool false) rfl ?_)
  refine st_nil ?_
  refine WP_seq ?_
  refine WP_seq ?_
  refine WP_region0 (by kernel_rfl) (fun _ => ?_)
  refine st (ov_move (v := vx) rfl ?_)
  refine st (ov_len (n := x.length) Try.underlying28 rfl hx.sl ?_)
  refine st (ov_move (v := vy) rfl ?_)
  refine st (ov_len (n := y.length) Try.underlying28 rfl hy.sl ?_)
  refine st (ov_neq (k := .i64) (a := ((x.length : Nat) : Int)) (b := ((y.length : Nat) : Int)) rfl rfl ?_)
  refine st_nil ?_
  cases hc1 : !decide (((x.length : Nat) : Int) = ((y.length : Nat) : Int))
  · skip
    have hc1 := ndec_false hc1
    refine WP_cond_f rfl ?_
    refine WP_skip ?_
    refine WP_seq ?_
    refine WP_seq ?_
    refine WP_region0 (by kernel_rfl) (fun _ => ?_)
    refine st (ov_assign (v := .int .i64 (0)) rfl ?_)
    refine st_nil ?_
    refine WP_block ?_
    refine WP_loop (fun mq σ wq => ∃ (k : Nat) (ρ : Env), mq = x.length - k ∧ σ = setAll ρ [(0, vx), (1, vy), (5, .int .i64 ((k : Nat) : Int))] ∧ (Ext w wq) ∧ (k ≤ x.length) ∧ (x.length = y.length) ∧ (x.take k = y.take k)) ⟨0, _, rfl, setAll_self ⟨rfl, rfl, rfl, trivial⟩, (Chg.refl _ _), Nat.zero_le _, by omega, rfl⟩ ?_
    rintro m6 σ7 w1 ⟨k, ρ1, rfl, rfl, hx2, hk3, hv4, hv5⟩
    have hx2s := hx2.size
    refine WP_seq ?_
    refine WP_seq ?_
    refine WP_region0 (by kernel_rfl) (fun _ => ?_)
    refine st (ov_move (v := .int .i64 ((k : Nat) : Int)) rfl ?_)
    refine st (ov_move (v := vx) rfl ?_)
    refine st (ov_len (n := x.length) Try.underlying28 rfl hx.sl ?_)
    refine st (ov_lss (k := .i64) (a := ((k : Nat) : Int)) (b := ((x.length : Nat) : Int)) rfl rfl ?_)
    refine st_nil ?_
    cases hc8 : decide (((k : Nat) : Int) < ((x.length : Nat) : Int))
    · skip
      have hc8 := of_decide_eq_false hc8
      refine WP_cond_f rfl ?_
      refine WP_exit ?_
      refine blk_exit ?_
      refine WP_seq ?_
      refine WP_region0 (by kernel_rfl) (fun _ => ?_)
      refine st (ov_assign (v := .bool true) rfl ?_)
      refine st_nil ?_
      refine WP_ret ?_
      refine fin1 Try.results15 (show _ = (.bool true : Value) from rfl) ?_
      refine ⟨?_, hx2⟩
      rw [decide_eq_true (by rw [← List.take_of_length_le (l := x) (i := k) (by omega), ← List.take_of_length_le (l := y) (i := k) (by omega)]; assumption)]
    · skip
      have hc8 := of_decide_eq_true hc8
      refine WP_cond_t rfl ?_
      refine WP_skip ?_
      refine WP_seq ?_
      refine WP_block ?_
      refine WP_seq ?_
      refine WP_draw Ext (AL [fun v w => v = (vx : Value), fun v w => v = (.int .i64 ((k : Nat) : Int) : Value), fun v w => v = (.pointer (some ⟨sb vx, so vx + k * 3, none⟩) : Value), fun v w => v = (.agg ((x[k]).cells).toArray : Value), fun v w => v = (vy : Value), fun v w => v = (.int .i64 ((k : Nat) : Int) : Value), fun v w => v = (.pointer (some ⟨sb vy, so vy + k * 3, none⟩) : Value), fun v w => v = (.agg ((y[k]).cells).toArray : Value)]) [[], [], [0, 1], [0, 1, 2], [], [], [4, 5], [4, 5, 6], [0, 1, 2, 3, 4, 5, 6, 7]] 8 (by kernel_rfl) (by kernel_rfl) (by kernel_rfl) (fun w => Chg.refl _ w) (fun _ _ _ h1 h2 => h1.trans h2) (stabL ⟨fun _ _ _ _ h => h, fun _ _ _ _ h => h, fun _ _ _ _ h => h, fun _ _ _ _ h => h, fun _ _ _ _ h => h, fun _ _ _ _ h => h, fun _ _ _ _ h => h, fun _ _ _ _ h => h, trivial⟩) ?_
      intro w2 qh1 qh2 qh3 qh4
      have hx9 := ext_same qh1 qh2 qh3 qh4
      refine ⟨⟨?_, ?_, ?_, ?_, ?_, ?_, ?_, ?_, trivial⟩, ?_⟩
      · intro vals w3 hR10 hA
        have hs11 := hR10.size
        refine obl rfl ?_
        exact ov_move (v := vx) rfl ⟨Chg.refl _ _, rfl⟩
      · intro vals w4 hR12 hA
        have hs13 := hR12.size
        refine obl rfl ?_
        exact ov_move (v := .int .i64 ((k : Nat) : Int)) rfl ⟨Chg.refl _ _, rfl⟩
      · intro vals w5 hR14 hA
        have hs15 := hR14.size
        have e0 : (vals 0) = (vx : Value) := hA 0 (by decide)
        have e1 : (vals 1) = (.int .i64 ((k : Nat) : Int) : Value) := hA 1 (by decide)
        refine obl rfl ?_
        have hi16 : k < x.length := by omega
        have h18 := hx.ext hx2
        have hi17 : k < x.length := by omega
        obtain ⟨hc17, hok17⟩ := h18.row hi17
        exact ov_indexAddrN (k := 3) (i := k) Try.underlying28 Try.sizeOf31 (show _ = (vx : Value) from e0) hx.sl (show _ = (.int .i64 ((k : Nat) : Int) : Value) from e1) hi16 ⟨Chg.refl _ _, rfl⟩
      · intro vals w6 hR19 hA
        have hs20 := hR19.size
        have e2 : (vals 2) = (.pointer (some ⟨sb vx, so vx + k * 3, none⟩) : Value) := hA 2 (by decide)
        refine obl rfl ?_
        have h22 := hx.ext hx2
        have hi21 : k < x.length := by omega
        obtain ⟨hc21, hok21⟩ := h22.row hi21
        have h23 := hc21.mono (fun hb => (Chg.trans hx9 hR19).block _ hb (fun h => h))
        exact ov_loadk (k := 3) Try.isAgg31 Try.sizeOf31 rfl (show _ = (.pointer (some ⟨sb vx, so vx + k * 3, none⟩) : Value) from e2) h23 ⟨Chg.refl _ _, rfl⟩
      · intro vals w7 hR24 hA
        have hs25 := hR24.size
        refine obl rfl ?_
        exact ov_move (v := vy) rfl ⟨Chg.refl _ _, rfl⟩
      · intro vals w8 hR26 hA
        have hs27 := hR26.size
        refine obl rfl ?_
        exact ov_move (v := .int .i64 ((k : Nat) : Int)) rfl ⟨Chg.refl _ _, rfl⟩
      · intro vals w9 hR28 hA
        have hs29 := hR28.size
        have e4 : (vals 4) = (vy : Value) := hA 4 (by decide)
        have e5 : (vals 5) = (.int .i64 ((k : Nat) : Int) : Value) := hA 5 (by decide)
        refine obl rfl ?_
        have hi30 : k < y.length := by omega
        have h32 := hy.ext hx2
        have hi31 : k < y.length := by omega
        obtain ⟨hc31, hok31⟩ := h32.row hi31
        exact ov_indexAddrN (k := 3) (i := k) Try.underlying28 Try.sizeOf31 (show _ = (vy : Value) from e4) hy.sl (show _ = (.int .i64 ((k : Nat) : Int) : Value) from e5) hi30 ⟨Chg.refl _ _, rfl⟩
      · intro vals w10 hR33 hA
        have hs34 := hR33.size
        have e6 : (vals 6) = (.pointer (some ⟨sb vy, so vy + k * 3, none⟩) : Value) := hA 6 (by decide)
        refine obl rfl ?_
        have h36 := hy.ext hx2
        have hi35 : k < y.length := by omega
        obtain ⟨hc35, hok35⟩ := h36.row hi35
        have h37 := hc35.mono (fun hb => (Chg.trans hx9 hR33).block _ hb (fun h => h))
        exact ov_loadk (k := 3) Try.isAgg31 Try.sizeOf31 rfl (show _ = (.pointer (some ⟨sb vy, so vy + k * 3, none⟩) : Value) from e6) h37 ⟨Chg.refl _ _, rfl⟩
      intro vals w11 hR38 hA
      have hs39 := hR38.size
      have hs40 := hx9.size
      have e3 : (vals 3) = (.agg ((x[k]).cells).toArray : Value) := hA 3 (by decide)
      have e7 : (vals 7) = (.agg ((y[k]).cells).toArray : Value) := hA 7 (by decide)
      refine st_env (kv := [(0, vx), (1, vy), (5, .int .i64 ((k : Nat) : Int)), (11, .int .i64 ((k : Nat) : Int)), (12, vx), (13, .int .i64 ((x.length : Nat) : Int)), (14, .bool true), (20, .agg ((x[k]).cells).toArray), (24, .agg ((y[k]).cells).toArray)]) ⟨rfl, rfl, rfl, rfl, rfl, rfl, rfl, (by exact e3), (by exact e7), trivial⟩ (fun ρ11 => ?_)
      clear e3 e7
      clear hA qh1 qh2 qh3 qh4
      refine st (ov_neqS (e := decide ((x[k]).group = (y[k]).group ∧ (x[k]).value = (y[k]).value ∧ (x[k]).count = (y[k]).count)) (xs := #[.int .i64 ((x[k]).group), .int .i64 ((x[k]).value), .int .i64 ((x[k]).count)]) (ys := #[.int .i64 ((y[k]).group), .int .i64 ((y[k]).value), .int .i64 ((y[k]).count)]) neqRow rfl rfl ?_)
      refine st_nil ?_
      cases hc41 : !decide ((x[k]).group = (y[k]).group ∧ (x[k]).value = (y[k]).value ∧ (x[k]).count = (y[k]).count)
      · skip
        have hc41 := ndec_false hc41
        refine WP_cond_f rfl ?_
        refine WP_skip ?_
        refine WP_region0 (by kernel_rfl) (fun _ => ?_)
        refine st (ov_move (v := .int .i64 ((k : Nat) : Int)) rfl ?_)
        have hr42 : InR ((k + 1 : Nat) : Int) := by omega
        refine st (ov_add (r := ((k + 1 : Nat) : Int)) (k := .i64) (a := ((k : Nat) : Int)) (b := 1) rfl rfl (by rw [show (((k : Nat) : Int) + 1 : Int) = ((k + 1 : Nat) : Int) by omega]; exact wrap_in hr42) ?_)
        refine st (ov_assign (v := .int .i64 ((k + 1 : Nat) : Int)) rfl ?_)
        refine st_nil ?_
        exact ⟨_, by omega, k + 1, _, rfl, setAll_self ⟨rfl, rfl, rfl, trivial⟩, (Chg.trans (Chg.trans hx2 hx9) hR38), by omega, hv4, (by rw [List.take_succ_eq_append_getElem (by omega), List.take_succ_eq_append_getElem (by omega), hv5, Row.eq_iff.2 hc41])⟩
      · skip
        have hc41 := ndec_true hc41
        refine WP_cond_t rfl ?_
        refine WP_seq ?_
        refine WP_region0 (by kernel_rfl) (fun _ => ?_)
        refine st (ov_assign (v := .bool false) rfl ?_)
        refine st_nil ?_
        refine WP_ret ?_
        refine fin1 Try.results15 (show _ = (.bool false : Value) from rfl) ?_
        refine ⟨?_, (Chg.trans (Chg.trans hx2 hx9) hR38)⟩
        rw [decide_eq_false (by intro h; subst h; first | omega | exact absurd ⟨rfl, rfl, rfl⟩ hc41)]
  · skip
    have hc1 := ndec_true hc1
    refine WP_cond_t rfl ?_
    refine WP_seq ?_
    refine WP_region0 (by kernel_rfl) (fun _ => ?_)
    refine st (ov_assign (v := .bool false) rfl ?_)
    refine st_nil ?_
    refine WP_ret ?_
    refine fin1 Try.results15 (show _ = (.bool false : Value) from rfl) ?_
    refine ⟨?_, (Chg.refl _ _)⟩
    rw [decide_eq_false (by intro h; subst h; first | omega | exact absurd ⟨rfl, rfl, rfl⟩ hc1)]

theorem fa36_2 {d : Option Tmp} {ty : TypeId} {pos : String} {af : Array Edge} {g : Option (Nat × Bool)} {σ : Env} {w : World} {K : Value → World → Prop} {x : Operand} {b o : Nat} (hx : ev σ x = .pointer (some ⟨b, o, none⟩)) (h : K (.pointer (some ⟨b, o + 3, none⟩)) w) : opV Try.prog ⟨d, .fieldAddr 36 x 2, ty, pos, af, g⟩ σ w K := ov_fieldAddr Try.underlying36 rfl rfl (fun w => ⟨0, Try.sizeOf25 w⟩) hx h
theorem C_Long {w : World} {Fl : Nat → Prop} {vl : Value} {l : List Ent} (hl : RdS w Fl vl l) : Ret Try.prog 9 [vl] w (fun r w' => ∃ b : Bool, r = .bool b ∧ (b = false → l.length ≤ 300) ∧ Ext w w') := by
  have hls : l.length * 120 ≤ 140737488355328 := hl.small
  refine Calls_of_WP (args := [vl]) Try.func9 rfl rfl ?_
  refine WP_seq ?_
  refine WP_region0 (by kernel_rfl) (fun _ => ?_)
  refine st (ov_assign (v := .bool false) rfl ?_)
  refine st_nil ?_
  refine WP_seq ?_
  refine WP_seq ?_
  refine WP_region0 (by kernel_rfl) (fun _ => ?_)
  refine st (ov_assign (v := .int .i64 (0)) rfl ?_)
  refine st_nil ?_
  refine WP_block ?_
  refine WP_loop (fun mq σ wq => ∃ (k : Nat) (ρ : Env), mq = l.length - k ∧ σ = setAll ρ [(0, vl), (3, .int .i64 ((k : Nat) : Int))] ∧ (Ext w wq) ∧ (k ≤ l.length)) ⟨0, _, rfl, setAll_self ⟨rfl, rfl, trivial⟩, (Chg.refl _ _), Nat.zero_le _⟩ ?_
  rintro m3 σ4 w1 ⟨k, ρ1, rfl, rfl, hx1, hk2⟩
  have hx1s := hx1.size
  refine WP_seq ?_
  refine WP_seq ?_
  refine WP_region0 (by kernel_rfl) (fun _ => ?_)
  refine st (ov_move (v := .int .i64 ((k : Nat) : Int)) rfl ?_)
  refine st (ov_move (v := vl) rfl ?_)
  refine st (ov_len (n := l.length) Try.underlying24 rfl hl.sl ?_)
  refine st (ov_lss (k := .i64) (a := ((k : Nat) : Int)) (b := ((l.length : Nat) : Int)) rfl rfl ?_)
  refine st_nil ?_
  cases hc5 : decide (((k : Nat) : Int) < ((l.length : Nat) : Int))
  · skip
    have hc5 := of_decide_eq_false hc5
    refine WP_cond_f rfl ?_
    refine WP_exit ?_
    refine blk_exit ?_
    refine WP_seq ?_
    refine WP_region0 (by kernel_rfl) (fun _ => ?_)
    refine st (ov_move (v := vl) rfl ?_)
    refine st (ov_len (n := l.length) Try.underlying24 rfl hl.sl ?_)
    refine st (ov_gtr (k := .i64) (a := ((l.length : Nat) : Int)) (b := 300) rfl rfl ?_)
    refine st (ov_assign (v := .bool (decide (300 < ((l.length : Nat) : Int)))) rfl ?_)
    refine st_nil ?_
    refine WP_ret ?_
    refine fin1 Try.results9 (show _ = (.bool (decide (300 < ((l.length : Nat) : Int))) : Value) from rfl) ?_
    exact ⟨_, rfl, (fun h => by first | cases h | (have h := of_decide_eq_false h; omega)), hx1⟩
  · skip
    have hc5 := of_decide_eq_true hc5
    refine WP_cond_t rfl ?_
    refine WP_skip ?_
    refine WP_seq ?_
    refine WP_block ?_
    refine WP_seq ?_
    refine WP_region0 (by kernel_rfl) (fun _ => ?_)
    refine st (ov_move (v := vl) rfl ?_)
    refine st (ov_move (v := .int .i64 ((k : Nat) : Int)) rfl ?_)
    have hi6 : k < l.length := by omega
    have h8 := hl.ext hx1
    have hi7 : k < l.length := by omega
    obtain ⟨hc7, hd7_0, hok7⟩ := h8.ent hi7
    refine st (ov_indexAddrN (k := 13) (i := k) Try.underlying24 Try.sizeOf38 rfl hl.sl rfl hi6 ?_)
    refine st (fa38_0 rfl ?_)
    refine st (fa36_2 rfl ?_)
    refine st (ov_load1 (v := (cellV w1 (sb vl) (so vl + k * 13 + 3))) Try.isAgg25 rfl (hc7.get (j := 3) rfl) ?_)
    refine st (ov_len (n := ((l[k]).ev.deps).length) Try.underlying25 rfl hd7_0.sl ?_)
    refine st (ov_gtr (k := .i64) (a := ((((l[k]).ev.deps).length : Nat) : Int)) (b := 100) rfl rfl ?_)
    refine st_nil ?_
    cases hc9 : decide (100 < ((((l[k]).ev.deps).length : Nat) : Int))
    · skip
      have hc9 := of_decide_eq_false hc9
      refine WP_cond_f rfl ?_
      refine WP_skip ?_
      refine WP_region0 (by kernel_rfl) (fun _ => ?_)
      refine st (ov_move (v := .int .i64 ((k : Nat) : Int)) rfl ?_)
      have hr10 : InR ((k + 1 : Nat) : Int) := by omega
      refine st (ov_add (r := ((k + 1 : Nat) : Int)) (k := .i64) (a := ((k : Nat) : Int)) (b := 1) rfl rfl (by rw [show (((k : Nat) : Int) + 1 : Int) = ((k + 1 : Nat) : Int) by omega]; exact wrap_in hr10) ?_)
      refine st (ov_assign (v := .int .i64 ((k + 1 : Nat) : Int)) rfl ?_)
      refine st_nil ?_
      exact ⟨_, by omega, k + 1, _, rfl, setAll_self ⟨rfl, rfl, trivial⟩, hx1, by omega⟩
    · skip
      have hc9 := of_decide_eq_true hc9
      refine WP_cond_t rfl ?_
      refine WP_seq ?_
      refine WP_region0 (by kernel_rfl) (fun _ => ?_)
      refine st (ov_assign (v := .bool true) rfl ?_)
      refine st_nil ?_
      refine WP_ret ?_
      refine fin1 Try.results9 (show _ = (.bool true : Value) from rfl) ?_
      exact ⟨_, rfl, (fun h => by first | cases h | (have h := of_decide_eq_false h; omega)), hx1⟩

theorem C_Pick {w : World} {x : Int} (hx : InR x) {n : Nat} (hn : 1 ≤ n) (hn2 : n ≤ 281474976710656) : Ret Try.prog 14 [.int .i64 (x), .int .i64 ((n : Nat) : Int)] w (fun r w' => ∃ q : Nat, r = .int .i64 ((q : Nat) : Int) ∧ q < n ∧ Ext w w') := by
  refine Calls_of_WP (args := [.int .i64 (x), .int .i64 ((n : Nat) : Int)]) Try.func14 rfl rfl ?_
  refine WP_seq ?_
  refine WP_region0 (by kernel_rfl) (fun _ => ?_)
  refine st (ov_assign (v := .int .i64 (0)) rfl ?_)
  refine st_nil ?_
  refine WP_seq ?_
  refine WP_seq ?_
  refine WP_region0 (by kernel_rfl) (fun _ => ?_)
  refine st (ov_move (v := .int .i64 ((n : Nat) : Int)) rfl ?_)
  refine st (ov_lss (k := .i64) (a := ((n : Nat) : Int)) (b := 1) rfl rfl ?_)
  refine st_nil ?_
  cases hc1 : decide (((n : Nat) : Int) < 1)
  · skip
    have hc1 := of_decide_eq_false hc1
    refine WP_cond_f rfl ?_
    refine WP_skip ?_
    refine WP_seq ?_
    refine WP_region0 (by kernel_rfl) (fun _ => ?_)
    refine st (ov_move (v := .int .i64 (x)) rfl ?_)
    refine st (ov_move (v := .int .i64 ((n : Nat) : Int)) rfl ?_)
    have h03 : (0 : Int) < ((n : Nat) : Int) := by omega
    have hr4 := Int.tmod_lt_of_pos x h03; have hr5 := Int.lt_tmod_of_pos x h03
    obtain ⟨rm2, hr6⟩ : ∃ z, Int.tmod x ((n : Nat) : Int) = z := ⟨_, rfl⟩; rw [hr6] at hr4 hr5
    refine st (ov_rem (r := rm2) rfl rfl h03 hr6 ?_)
    refine st (ov_assign (v := .int .i64 (rm2)) rfl ?_)
    refine st_nil ?_
    refine WP_seq ?_
    refine WP_seq ?_
    refine WP_region0 (by kernel_rfl) (fun _ => ?_)
    refine st (ov_move (v := .int .i64 (rm2)) rfl ?_)
    refine st (ov_lss (k := .i64) (a := rm2) (b := 0) rfl rfl ?_)
    refine st_nil ?_
    cases hc7 : decide (rm2 < 0)
    · skip
      have hc7 := of_decide_eq_false hc7
      refine WP_cond_f rfl ?_
      refine WP_skip ?_
      refine WP_seq ?_
      refine WP_region0 (by kernel_rfl) (fun _ => ?_)
      refine st (ov_move (v := .int .i64 (rm2)) rfl ?_)
      refine st (ov_assign (v := .int .i64 (rm2)) rfl ?_)
      refine st_nil ?_
      refine WP_ret ?_
      refine fin1 Try.results14 (show _ = (.int .i64 (rm2) : Value) from rfl) ?_
      exact ⟨(rm2).toNat, by rw [Int.toNat_of_nonneg (by omega)], by omega, (Chg.refl _ _)⟩
    · skip
      have hc7 := of_decide_eq_true hc7
      refine WP_cond_t rfl ?_
      refine WP_region0 (by kernel_rfl) (fun _ => ?_)
      refine st (ov_move (v := .int .i64 (rm2)) rfl ?_)
      refine st (ov_move (v := .int .i64 ((n : Nat) : Int)) rfl ?_)
      have hr8 : InR (rm2 + ((n : Nat) : Int)) := by omega
      refine st (ov_add (r := rm2 + ((n : Nat) : Int)) (k := .i64) (a := rm2) (b := ((n : Nat) : Int)) rfl rfl (wrap_in hr8) ?_)
      refine st (ov_assign (v := .int .i64 (rm2 + ((n : Nat) : Int))) rfl ?_)
      refine st_nil ?_
      refine WP_seq ?_
      refine WP_region0 (by kernel_rfl) (fun _ => ?_)
      refine st (ov_move (v := .int .i64 (rm2 + ((n : Nat) : Int))) rfl ?_)
      refine st (ov_assign (v := .int .i64 (rm2 + ((n : Nat) : Int))) rfl ?_)
      refine st_nil ?_
      refine WP_ret ?_
      refine fin1 Try.results14 (show _ = (.int .i64 (rm2 + ((n : Nat) : Int)) : Value) from rfl) ?_
      exact ⟨(rm2 + ((n : Nat) : Int)).toNat, by rw [Int.toNat_of_nonneg (by omega)], by omega, (Chg.refl _ _)⟩
  · skip
    have hc1 := of_decide_eq_true hc1
    refine WP_cond_t rfl ?_
    refine WP_seq ?_
    refine WP_region0 (by kernel_rfl) (fun _ => ?_)
    refine st (ov_assign (v := .int .i64 (0)) rfl ?_)
    refine st_nil ?_
    refine WP_ret ?_
    refine fin1 Try.results14 (show _ = (.int .i64 (0) : Value) from rfl) ?_
    exfalso; omega

def setsE (f a : Int) : Ent := ⟨⟨0, 0, 0, [], 0, 0, f, 2, a, 0⟩, false, 0, 0⟩
theorem in0 : InR 0 := by decide
theorem in2 : InR 2 := by decide
theorem setsE_ok {f a : Int} (hf : InR f) (ha : InR a) : (setsE f a).Ok := ⟨⟨in0, in0, in0, in0, in0, hf, in2, ha, in0⟩, in0, in0⟩

theorem C_sets {w : World} {f : Int} (hf : InR f) {b : Int} (hb : InR b) : Ret Try.prog 26 [.int .i64 (f), .int .i64 (b)] w (fun r w' => r = .agg ((setsE f b).cells (.slice none 0 0)).toArray ∧ Ext w w') := by
  refine Calls_of_WP (args := [.int .i64 (f), .int .i64 (b)]) Try.func26 rfl rfl ?_
  refine WP_seq ?_
  refine WP_region0 (by kernel_rfl) (fun _ => ?_)
  refine st (ov_alloc Try.zeroValue38 (fun w1 b2 hn1 => ?_))
  have hb3 : w1.heap[b2]? = some (.cells #[.int .i64 (0), .int .i64 (0), .int .i64 (0), (.slice none 0 0), .int .i64 (0), .int .i64 (0), .int .i64 (0), .int .i64 (0), .int .i64 (0), .int .i64 (0), .bool false, .int .i64 (0), .int .i64 (0)] 38) := hn1.at_
  have hs4 := hn1.size; have hs4e := hn1.eq
  refine st_nil ?_
  refine WP_seq ?_
  refine WP_region0 (by kernel_rfl) (fun _ => ?_)
  refine st (ov_move (v := .int .i64 (f)) rfl ?_)
  refine st (ov_move (v := .int .i64 (b)) rfl ?_)
  refine st (ov_build (parts' := [(5, .int .i64 (f)), (6, .int .i64 (2)), (7, .int .i64 (b))]) (v := .agg #[.int .i64 (0), .int .i64 (0), .int .i64 (0), (.slice none 0 0), .int .i64 (0), .int .i64 (0), .int .i64 (f), .int .i64 (2), .int .i64 (b), .int .i64 (0)]) rfl (by simp [Instr.build, Instr.fill, Prj.cells, Ent.cells, Ev.cells, Row.cells, go_sem]) ?_)
  refine st (ov_build (parts' := [(0, .agg #[.int .i64 (0), .int .i64 (0), .int .i64 (0), (.slice none 0 0), .int .i64 (0), .int .i64 (0), .int .i64 (f), .int .i64 (2), .int .i64 (b), .int .i64 (0)])]) (v := .agg #[.int .i64 (0), .int .i64 (0), .int .i64 (0), (.slice none 0 0), .int .i64 (0), .int .i64 (0), .int .i64 (f), .int .i64 (2), .int .i64 (b), .int .i64 (0), .bool false, .int .i64 (0), .int .i64 (0)]) rfl (by simp [Instr.build, Instr.fill, Prj.cells, Ent.cells, Ev.cells, Row.cells, go_sem]) ?_)
  refine stn (ov_store (v := .agg #[.int .i64 (0), .int .i64 (0), .int .i64 (0), (.slice none 0 0), .int .i64 (0), .int .i64 (0), .int .i64 (f), .int .i64 (2), .int .i64 (b), .int .i64 (0), .bool false, .int .i64 (0), .int .i64 (0)]) (c' := #[.int .i64 (0), .int .i64 (0), .int .i64 (0), (.slice none 0 0), .int .i64 (0), .int .i64 (0), .int .i64 (f), .int .i64 (2), .int .i64 (b), .int .i64 (0), .bool false, .int .i64 (0), .int .i64 (0)]) Try.sizeOf38 rfl rfl hb3 (all1 ⟨rfl, rfl, rfl, rfl, rfl, rfl, rfl, rfl, rfl, rfl, rfl, rfl, rfl, trivial⟩) (Nat.le_of_ble_eq_true rfl) rfl (fun w2 hp5 => ?_))
  have hs6 := hp5.size
  refine st_nil ?_
  refine WP_ret ?_
  refine finc (b := b2) Try.results26 Try.isAgg38 Try.sizeOf38 rfl rfl (CellsAt.all hp5.at_) ?_
  refine ⟨?_, (Chg.new hn1.ext hp5.chg (fun i hi hO => by subst hO; omega))⟩
  rfl

theorem C_works {w : World}  : Ret Try.prog 10 [] w (fun r w' => r = .bool true ∧ Ext w w') := by
  refine Calls_of_WP (args := []) Try.func10 rfl rfl ?_
  refine WP_seq ?_
  refine WP_region0 (by kernel_rfl) (fun _ => ?_)
  refine st (ov_assign (v := .bool false) rfl ?_)
  refine st_nil ?_
  refine WP_seq ?_
  refine WP_region0 (by kernel_rfl) (fun _ => ?_)
  have ok1 : Prj.Ok (⟨0, 0, 2, 0, 1⟩ : Prj) := ⟨(show InR (0) from (by omega)), (show InR (0) from (by omega)), (show InR (2) from (by omega)), (show InR (0) from (by omega)), (show InR (1) from (by omega))⟩
  refine st (ov_build (parts' := [(2, .int .i64 (2)), (4, .int .i64 (1))]) (v := .agg ((⟨0, 0, 2, 0, 1⟩ : Prj).cells).toArray) rfl (by simp [Instr.build, Instr.fill, Prj.cells, Ent.cells, Ev.cells, Row.cells, go_sem]) ?_)
  refine st (ov_call (f := 17) (vals := [.agg ((⟨0, 0, 2, 0, 1⟩ : Prj).cells).toArray]) (cap := []) (show _ = (.func (.func 17) #[] #[] : Value) from rfl) rfl Try.call17 (C_New ok1) ?_)
  rintro _ w1 ⟨a8, m9, rfl, hx2, hla3, hlm4, ham5, hao6, hmo7⟩
  have hx2s := hx2.size; have hmo7l := hmo7.lt; have hao6l := blk_lt hao6
  refine st (ov_assign (v := .pointer (some ⟨a8, 0, none⟩)) rfl ?_)
  refine st_nil ?_
  refine WP_seq ?_
  refine WP_seq ?_
  refine WP_region0 (by kernel_rfl) (fun _ => ?_)
  refine st (ov_move (v := .pointer (some ⟨a8, 0, none⟩)) rfl ?_)
  refine st (ov_eqlPtr (b := a8) (o := 0) Try.underlying46 rfl ?_)
  refine st_nil ?_
  refine WP_cond_f rfl ?_
  refine WP_skip ?_
  refine WP_seq ?_
  refine WP_region0 (by kernel_rfl) (fun _ => ?_)
  refine st (ov_move (v := .pointer (some ⟨a8, 0, none⟩)) rfl ?_)
  refine st (ov_call (f := 26) (vals := [.int .i64 (0), .int .i64 (5)]) (cap := []) (show _ = (.func (.func 26) #[] #[] : Value) from rfl) rfl Try.call26 (C_sets (by omega) (by omega)) ?_)
  rintro _ w2 ⟨rfl, hx10⟩
  have hx10s := hx10.size
  have ok11 : Ent.Ok (setsE 0 5) := setsE_ok (by omega) (by omega)
  have hnil12 : RdS (α := Int) w2 (fun _ => True) (.slice none 0 0) [] := RdS.nil _ _
  have h13 := hx10.keep hao6 (fun h => h)
  have h14 := hmo7.ext hx10
  refine st (ov_call (f := 19) (vals := [.pointer (some ⟨a8, 0, none⟩), .agg ((setsE 0 5).cells (.slice none 0 0)).toArray, .int .i64 (0)]) (cap := []) (show _ = (.func (.func 19) #[] #[] : Value) from rfl) rfl Try.call19 (C_Add h13 ok1 h14 (by omega) hnil12 ok11 (by omega) (fun gq => by have := cnt_of good_nil gq; omega)) ?_)
  rintro _ w3 ⟨rfl, hm15, hch16⟩
  have hch16s := hch16.size
  refine st_nil ?_
  refine WP_seq ?_
  refine WP_region0 (by kernel_rfl) (fun _ => ?_)
  refine st (ov_move (v := .pointer (some ⟨a8, 0, none⟩)) rfl ?_)
  refine st (ov_call (f := 26) (vals := [.int .i64 (0), .int .i64 (7)]) (cap := []) (show _ = (.func (.func 26) #[] #[] : Value) from rfl) rfl Try.call26 (C_sets (by omega) (by omega)) ?_)
  rintro _ w4 ⟨rfl, hx17⟩
  have hx17s := hx17.size
  have ok18 : Ent.Ok (setsE 0 7) := setsE_ok (by omega) (by omega)
  have hnil19 : RdS (α := Int) w4 (fun _ => True) (.slice none 0 0) [] := RdS.nil _ _
  have h20 := (hx17.keep (hch16.keep h13 (fun e => by have e : a8 = m9 := e; omega)) (fun h => h))
  have h21 := hm15.ext hx17
  refine st (ov_call (f := 19) (vals := [.pointer (some ⟨a8, 0, none⟩), .agg ((setsE 0 7).cells (.slice none 0 0)).toArray, .int .i64 (0)]) (cap := []) (show _ = (.func (.func 19) #[] #[] : Value) from rfl) rfl Try.call19 (C_Add h20 ok1 h21 (by omega) hnil19 ok18 (by omega) (fun gq => by have := cnt_of (GoodM.add good_nil (⟨0, 0, 2, 0, 1⟩ : Prj) (setsE 0 5) 0) gq; omega)) ?_)
  rintro _ w5 ⟨rfl, hm22, hch23⟩
  have hch23s := hch23.size
  refine st_nil ?_
  refine WP_seq ?_
  refine WP_region0 (by kernel_rfl) (fun _ => ?_)
  refine st (ov_move (v := .pointer (some ⟨a8, 0, none⟩)) rfl ?_)
  refine st (ov_call (f := 26) (vals := [.int .i64 (0), .int .i64 (5)]) (cap := []) (show _ = (.func (.func 26) #[] #[] : Value) from rfl) rfl Try.call26 (C_sets (by omega) (by omega)) ?_)
  rintro _ w6 ⟨rfl, hx24⟩
  have hx24s := hx24.size
  have ok25 : Ent.Ok (setsE 0 5) := setsE_ok (by omega) (by omega)
  have hnil26 : RdS (α := Int) w6 (fun _ => True) (.slice none 0 0) [] := RdS.nil _ _
  have h27 := (hx24.keep (hch23.keep h20 (fun e => by have e : a8 = m9 := e; omega)) (fun h => h))
  have h28 := hm22.ext hx24
  refine st (ov_call (f := 19) (vals := [.pointer (some ⟨a8, 0, none⟩), .agg ((setsE 0 5).cells (.slice none 0 0)).toArray, .int .i64 (0)]) (cap := []) (show _ = (.func (.func 19) #[] #[] : Value) from rfl) rfl Try.call19 (C_Add h27 ok1 h28 (by omega) hnil26 ok25 (by omega) (fun gq => by have := cnt_of (GoodM.add (GoodM.add good_nil (⟨0, 0, 2, 0, 1⟩ : Prj) (setsE 0 5) 0) (⟨0, 0, 2, 0, 1⟩ : Prj) (setsE 0 7) 0) gq; omega)) ?_)
  rintro _ w7 ⟨rfl, hm29, hch30⟩
  have hch30s := hch30.size
  refine st_nil ?_
  refine WP_seq ?_
  refine WP_region0 (by kernel_rfl) (fun _ => ?_)
  refine st (ov_move (v := .pointer (some ⟨a8, 0, none⟩)) rfl ?_)
  refine st (ov_call (f := 26) (vals := [.int .i64 (1), .int .i64 (5)]) (cap := []) (show _ = (.func (.func 26) #[] #[] : Value) from rfl) rfl Try.call26 (C_sets (by omega) (by omega)) ?_)
  rintro _ w8 ⟨rfl, hx31⟩
  have hx31s := hx31.size
  have ok32 : Ent.Ok (setsE 1 5) := setsE_ok (by omega) (by omega)
  have hnil33 : RdS (α := Int) w8 (fun _ => True) (.slice none 0 0) [] := RdS.nil _ _
  have h34 := (hx31.keep (hch30.keep h27 (fun e => by have e : a8 = m9 := e; omega)) (fun h => h))
  have h35 := hm29.ext hx31
  refine st (ov_call (f := 19) (vals := [.pointer (some ⟨a8, 0, none⟩), .agg ((setsE 1 5).cells (.slice none 0 0)).toArray, .int .i64 (0)]) (cap := []) (show _ = (.func (.func 19) #[] #[] : Value) from rfl) rfl Try.call19 (C_Add h34 ok1 h35 (by omega) hnil33 ok32 (by omega) (fun gq => by have := cnt_of (GoodM.add (GoodM.add (GoodM.add good_nil (⟨0, 0, 2, 0, 1⟩ : Prj) (setsE 0 5) 0) (⟨0, 0, 2, 0, 1⟩ : Prj) (setsE 0 7) 0) (⟨0, 0, 2, 0, 1⟩ : Prj) (setsE 0 5) 0) gq; omega)) ?_)
  rintro _ w9 ⟨rfl, hm36, hch37⟩
  have hch37s := hch37.size
  refine st_nil ?_
  refine WP_seq ?_
  refine WP_region0 (by kernel_rfl) (fun _ => ?_)
  refine st (ov_move (v := .pointer (some ⟨a8, 0, none⟩)) rfl ?_)
  have h38 := (hch37.keep h34 (fun e => by have e : a8 = m9 := e; omega))
  refine st (ov_call (f := 23) (vals := [.pointer (some ⟨a8, 0, none⟩)]) (cap := []) (show _ = (.func (.func 23) #[] #[] : Value) from rfl) rfl Try.call23 (C_List h38 ok1 hm36 (by omega) (GoodM.add (GoodM.add (GoodM.add (GoodM.add good_nil (⟨0, 0, 2, 0, 1⟩ : Prj) (setsE 0 5) 0) (⟨0, 0, 2, 0, 1⟩ : Prj) (setsE 0 7) 0) (⟨0, 0, 2, 0, 1⟩ : Prj) (setsE 0 5) 0) (⟨0, 0, 2, 0, 1⟩ : Prj) (setsE 1 5) 0).grp (by have := (GoodM.add (GoodM.add (GoodM.add (GoodM.add good_nil (⟨0, 0, 2, 0, 1⟩ : Prj) (setsE 0 5) 0) (⟨0, 0, 2, 0, 1⟩ : Prj) (setsE 0 7) 0) (⟨0, 0, 2, 0, 1⟩ : Prj) (setsE 0 5) 0) (⟨0, 0, 2, 0, 1⟩ : Prj) (setsE 1 5) 0).len; omega)) ?_)
  rintro v41 w10 ⟨hx39, hf40⟩
  have hx39s := hx39.size
  have hf40r := hf40.rd
  have ok42 : Row.Ok (⟨5, 2, 2⟩ : Row) := ⟨(show InR (5) from (by omega)), (show InR (2) from (by omega)), (show InR (2) from (by omega))⟩
  refine st (ov_build (parts' := [(0, .int .i64 (5)), (1, .int .i64 (2)), (2, .int .i64 (2))]) (v := .agg ((⟨5, 2, 2⟩ : Row).cells).toArray) rfl (by simp [Instr.build, Instr.fill, Prj.cells, Ent.cells, Ev.cells, Row.cells, go_sem]) ?_)
  have ok43 : Row.Ok (⟨7, 1, 1⟩ : Row) := ⟨(show InR (7) from (by omega)), (show InR (1) from (by omega)), (show InR (1) from (by omega))⟩
  refine st (ov_build (parts' := [(0, .int .i64 (7)), (1, .int .i64 (1)), (2, .int .i64 (1))]) (v := .agg ((⟨7, 1, 1⟩ : Row).cells).toArray) rfl (by simp [Instr.build, Instr.fill, Prj.cells, Ent.cells, Ev.cells, Row.cells, go_sem]) ?_)
  refine st (ov_buildSlice (k := 3) (parts' := [(0, .agg ((⟨5, 2, 2⟩ : Row).cells).toArray), (1, .agg ((⟨7, 1, 1⟩ : Row).cells).toArray)]) (c := #[.int .i64 ((⟨5, 2, 2⟩ : Row).group), .int .i64 ((⟨5, 2, 2⟩ : Row).value), .int .i64 ((⟨5, 2, 2⟩ : Row).count), .int .i64 ((⟨7, 1, 1⟩ : Row).group), .int .i64 ((⟨7, 1, 1⟩ : Row).value), .int .i64 ((⟨7, 1, 1⟩ : Row).count)]) Try.underlying28 Try.sizeOf31 Try.zeroValue31 (by decide) rfl (by kernel_rfl) (fun w11 b45 hn44 => ?_))
  have hb46 : w11.heap[b45]? = some (.cells #[.int .i64 ((⟨5, 2, 2⟩ : Row).group), .int .i64 ((⟨5, 2, 2⟩ : Row).value), .int .i64 ((⟨5, 2, 2⟩ : Row).count), .int .i64 ((⟨7, 1, 1⟩ : Row).group), .int .i64 ((⟨7, 1, 1⟩ : Row).value), .int .i64 ((⟨7, 1, 1⟩ : Row).count)] 31) := hn44.at_
  have hs47 := hn44.size; have hs47e := hn44.eq
  have hrd48 : RdS (α := Row) w11 (fun _ => True) ((.slice (some ⟨b45, 0, none⟩) 2 2)) [(⟨5, 2, 2⟩ : Row), (⟨7, 1, 1⟩ : Row)] := Els.flat_at (α := Row) (F := fun _ => True) (css := [(⟨5, 2, 2⟩ : Row).cells, (⟨7, 1, 1⟩ : Row).cells]) (l := [(⟨5, 2, 2⟩ : Row), (⟨7, 1, 1⟩ : Row)]) ⟨(show Rep.rd _ _ ((⟨5, 2, 2⟩ : Row).cells) (⟨5, 2, 2⟩ : Row) from ⟨rfl, ok42⟩), (show Rep.rd _ _ ((⟨7, 1, 1⟩ : Row).cells) (⟨7, 1, 1⟩ : Row) from ⟨rfl, ok43⟩), trivial⟩ rfl hb46 trivial (by first | decide | (simp only [List.length_cons, List.length_nil]; decide))
  have h49 := hf40r.ext hn44.ext
  refine st (ov_call (f := 15) (vals := [v41, (.slice (some ⟨b45, 0, none⟩) 2 2)]) (cap := []) (show _ = (.func (.func 15) #[] #[] : Value) from rfl) rfl Try.call15 (C_SameRows h49 hrd48) ?_)
  rintro _ w12 ⟨rfl, hx50⟩
  have hx50s := hx50.size
  refine st (ov_assign (v := .bool (decide ((srtR ((addM (⟨0, 0, 2, 0, 1⟩ : Prj) (addM (⟨0, 0, 2, 0, 1⟩ : Prj) (addM (⟨0, 0, 2, 0, 1⟩ : Prj) (addM (⟨0, 0, 2, 0, 1⟩ : Prj) ([]) (setsE 0 5) 0) (setsE 0 7) 0) (setsE 0 5) 0) (setsE 1 5) 0).map (·.2))) = ([(⟨5, 2, 2⟩ : Row), (⟨7, 1, 1⟩ : Row)])))) rfl ?_)
  refine st_nil ?_
  refine WP_ret ?_
  refine fin1 Try.results10 (show _ = (.bool (decide ((srtR ((addM (⟨0, 0, 2, 0, 1⟩ : Prj) (addM (⟨0, 0, 2, 0, 1⟩ : Prj) (addM (⟨0, 0, 2, 0, 1⟩ : Prj) (addM (⟨0, 0, 2, 0, 1⟩ : Prj) ([]) (setsE 0 5) 0) (setsE 0 7) 0) (setsE 0 5) 0) (setsE 1 5) 0).map (·.2))) = ([(⟨5, 2, 2⟩ : Row), (⟨7, 1, 1⟩ : Row)]))) : Value) from rfl) ?_
  refine ⟨?_, (Chg.trans (Chg.trans (Chg.trans (Chg.new (Chg.trans (Chg.new (Chg.trans (Chg.new (Chg.trans (Chg.new (Chg.trans hx2 hx10) hch16 (fun i hi hO => by have hO : i = m9 := hO; omega)) hx17) hch23 (fun i hi hO => by have hO : i = m9 := hO; omega)) hx24) hch30 (fun i hi hO => by have hO : i = m9 := hO; omega)) hx31) hch37 (fun i hi hO => by have hO : i = m9 := hO; omega)) hx39) hn44.ext) hx50)⟩
  congr 1

end Go.Proofs.Ytbbpmhfcgoljdaa
