/- Steps of the proofs of this seat: part Fns. -/
import Derived.Test.YtbbhpddgjiifmaaData
import Derived.Test.YtbbhpddgjiifmaaProg
set_option linter.unusedSimpArgs false
set_option linter.unusedVariables false
namespace Go.Proofs.Ytbbhpddgjiifmaa
open Go.Proofs Go.RowKit

theorem elem27 : Elem Try.prog 27 3 1 8 := ⟨Try.underlying27, _, _, rfl, rfl, rfl, rfl, rfl⟩
theorem elem22 : Elem Try.prog 22 29 10 96 := ⟨Try.underlying22, _, _, rfl, rfl, rfl, rfl, rfl⟩
def get (l : List Int) (o : Int) : Int := if o < 0 then 0 else max (l.getD o.toNat 0) 0
theorem get_in {l : List Int} (h : ∀ x ∈ l, InR x) (o : Int) : InR (get l o) := by
  unfold get; split
  · decide
  · rw [List.getD_eq_getElem?_getD]
    cases hx : l[o.toNat]? with
    | none => decide
    | some x => have := h x (List.mem_of_getElem? hx); simp only [Option.getD_some]; omega
theorem RdS.allR {w : World} {F : Nat → Prop} {v : Value} {l : List Int} (h : RdS w F v l) : ∀ x ∈ l, InR x := by
  intro x hx
  obtain ⟨i, hi, rfl⟩ := List.getElem_of_mem hx
  obtain ⟨cs, _, _, hr⟩ := h.at_ i hi
  exact hr
def cmpI (a b : Int) : Int := if a < b then -1 else if b < a then 1 else 0
def orL : List Int → Int
  | [] => 0
  | x :: l => if x ≠ 0 then x else orL l
def cmpP (a b : Ev) : Int := orL [cmpI a.lam b.lam, cmpI a.origin b.origin, cmpI a.seq b.seq]
def before (a b : Ev) : Bool := decide (a.seq ≤ get b.deps a.origin)
theorem cmpI_in (a b : Int) : InR (cmpI a b) := by unfold cmpI; split <;> (try split) <;> decide

theorem C_get {w : World} {Fl : Nat → Prop} {vl : Value} {l : List Int} (hl : RdS w Fl vl l) {o : Int} (ho : InR o) : Ret Try.prog 25 [vl, .int .i64 (o)] w (fun r w' => r = .int .i64 (get l o) ∧ Ext w w') := by
  have hls : l.length * 8 ≤ 140737488355328 := hl.small
  refine Calls_of_WP (args := [vl, .int .i64 (o)]) Try.func25 rfl rfl ?_
  refine WP_seq ?_
  refine WP_region0 (by kernel_rfl) (fun _ => ?_)
  refine st (ov_assign (v := .int .i64 (0)) rfl ?_)
  refine st_nil ?_
  refine WP_seq ?_
  refine WP_seq ?_
  refine WP_region (by kernel_rfl) ?_
  refine st (ov_move (v := .int .i64 (o)) rfl ?_)
  refine st (ov_lss (k := .i64) (a := o) (b := 0) rfl rfl ?_)
  refine st (ov_move (v := .bool (decide (o < 0))) rfl ?_)
  refine stc (V := .int .i64 (o)) rfl rfl (fun hb1 => ?_) ?_
  · have hl2 : (decide (o < 0)) = false := hb1
    have hl2 := of_decide_eq_false hl2
    exact ov_move (v := .int .i64 (o)) rfl ⟨rfl, rfl⟩
  refine stc (V := vl) rfl rfl (fun hb3 => ?_) ?_
  · have hl4 : (decide (o < 0)) = false := hb3
    have hl4 := of_decide_eq_false hl4
    exact ov_move (v := vl) rfl ⟨rfl, rfl⟩
  refine stc (V := .int .i64 ((l.length : Nat) : Int)) rfl rfl (fun hb5 => ?_) ?_
  · have hl6 : (decide (o < 0)) = false := hb5
    have hl6 := of_decide_eq_false hl6
    exact ov_len (n := l.length) Try.underlying27 (show _ = (vl : Value) from (if_pos hb5)) hl.sl ⟨rfl, rfl⟩
  refine stc (V := .bool (decide (((l.length : Nat) : Int) ≤ o))) rfl rfl (fun hb7 => ?_) ?_
  · have hl8 : (decide (o < 0)) = false := hb7
    have hl8 := of_decide_eq_false hl8
    exact ov_geq (k := .i64) (a := o) (b := ((l.length : Nat) : Int)) (show _ = (.int .i64 (o) : Value) from (if_pos hb7)) (show _ = (.int .i64 ((l.length : Nat) : Int) : Value) from (if_pos hb7)) ⟨rfl, rfl⟩
  refine st (ov_pick_or (b := decide (o < 0)) (b' := decide (((l.length : Nat) : Int) ≤ o)) rfl (fun hbp => (show _ = (.bool (decide (((l.length : Nat) : Int) ≤ o)) : Value) from (if_pos hbp))) ?_)
  refine st_nil ?_
  cases hc9 : (decide (o < 0)) || (decide (((l.length : Nat) : Int) ≤ o))
  · skip
    simp only [Bool.and_eq_true, Bool.or_eq_true, Bool.and_eq_false_iff, Bool.or_eq_false_iff, decide_eq_true_eq, decide_eq_false_iff_not, Bool.not_eq_true', Bool.not_eq_false', Int.not_lt, Int.not_le] at hc9
    refine WP_cond_f rfl ?_
    refine WP_skip ?_
    refine WP_seq ?_
    refine WP_region0 (by kernel_rfl) (fun _ => ?_)
    refine st (ov_move (v := vl) rfl ?_)
    refine st (ov_move (v := .int .i64 (o)) rfl ?_)
    have hi10 : o.toNat < l.length := by omega
    have hi11 : o.toNat < l.length := by omega
    obtain ⟨hc11, hx11⟩ := hl.int hi11
    refine st (ov_indexAddr (k := 1) (i := o) Try.underlying27 Try.sizeOf3 rfl hl.sl rfl ⟨by omega, by omega⟩ ?_)
    refine st (ov_load1 (v := .int .i64 (l[o.toNat])) Try.isAgg3 rfl (hc11.get (j := 0) rfl) ?_)
    refine st (ov_max (k := .i64) (a := l[o.toNat]) (b := 0) rfl rfl ?_)
    refine st (ov_assign (v := .int .i64 (max (l[o.toNat]) 0)) rfl ?_)
    refine st_nil ?_
    refine WP_ret ?_
    refine fin1 Try.results25 (show _ = (.int .i64 (max (l[o.toNat]) 0) : Value) from rfl) ?_
    refine ⟨?_, (Chg.refl _ _)⟩
    rw [get, if_neg (by omega), List.getD_eq_getElem?_getD, List.getElem?_eq_getElem (by omega)]; rfl
  · skip
    simp only [Bool.and_eq_true, Bool.or_eq_true, Bool.and_eq_false_iff, Bool.or_eq_false_iff, decide_eq_true_eq, decide_eq_false_iff_not, Bool.not_eq_true', Bool.not_eq_false', Int.not_lt, Int.not_le] at hc9
    refine WP_cond_t rfl ?_
    refine WP_seq ?_
    refine WP_region0 (by kernel_rfl) (fun _ => ?_)
    refine st (ov_assign (v := .int .i64 (0)) rfl ?_)
    refine st_nil ?_
    refine WP_ret ?_
    refine fin1 Try.results25 (show _ = (.int .i64 (0) : Value) from rfl) ?_
    refine ⟨?_, (Chg.refl _ _)⟩
    simp only [get]
    split
    · rfl
    · rw [List.getD_eq_getElem?_getD, List.getElem?_eq_none (by omega)]; rfl

theorem C_isNaN {w : World} {x : Int} (hx : InR x) : Ret Try.prog 41 [.int .i64 (x)] w (fun r w' => r = .bool false ∧ Ext w w') := by
  refine Calls_of_WP (args := [.int .i64 (x)]) Try.func41 rfl rfl ?_
  refine WP_seq ?_
  refine WP_region0 (by kernel_rfl) (fun _ => ?_)
  refine st (ov_assign (v := .bool false) rfl ?_)
  refine st_nil ?_
  refine WP_seq ?_
  refine WP_region0 (by kernel_rfl) (fun _ => ?_)
  refine st (ov_move (v := .int .i64 (x)) rfl ?_)
  refine st (ov_move (v := .int .i64 (x)) rfl ?_)
  refine st (ov_neq (k := .i64) (a := x) (b := x) rfl rfl ?_)
  refine st (ov_assign (v := .bool (!decide (x = x))) rfl ?_)
  refine st_nil ?_
  refine WP_ret ?_
  refine fin1 Try.results41 (show _ = (.bool (!decide (x = x)) : Value) from rfl) ?_
  refine ⟨?_, (Chg.refl _ _)⟩
  simp

theorem C_cmp {w : World} {x : Int} (hx : InR x) {y : Int} (hy : InR y) : Ret Try.prog 36 [.int .i64 (x), .int .i64 (y)] w (fun r w' => r = .int .i64 (cmpI x y) ∧ Ext w w') := by
  refine Calls_of_WP (args := [.int .i64 (x), .int .i64 (y)]) Try.func36 rfl rfl ?_
  refine WP_seq ?_
  refine WP_region0 (by kernel_rfl) (fun _ => ?_)
  refine st (ov_assign (v := .int .i64 (0)) rfl ?_)
  refine st_nil ?_
  refine WP_seq ?_
  refine WP_region0 (by kernel_rfl) (fun _ => ?_)
  refine st (ov_move (v := .int .i64 (x)) rfl ?_)
  refine st (ov_call (f := 41) (vals := [.int .i64 (x)]) (cap := []) (show _ = (.func (.func 41) #[] #[] : Value) from rfl) rfl Try.call41 (C_isNaN hx) ?_)
  rintro _ w1 ⟨rfl, hx1⟩
  have hx1s := hx1.size
  refine st (ov_assign (v := .bool false) rfl ?_)
  refine st_nil ?_
  refine WP_seq ?_
  refine WP_region0 (by kernel_rfl) (fun _ => ?_)
  refine st (ov_move (v := .int .i64 (y)) rfl ?_)
  refine st (ov_call (f := 41) (vals := [.int .i64 (y)]) (cap := []) (show _ = (.func (.func 41) #[] #[] : Value) from rfl) rfl Try.call41 (C_isNaN hy) ?_)
  rintro _ w2 ⟨rfl, hx2⟩
  have hx2s := hx2.size
  refine st (ov_assign (v := .bool false) rfl ?_)
  refine st_nil ?_
  refine WP_seq ?_
  refine WP_seq ?_
  refine WP_region0 (by kernel_rfl) (fun _ => ?_)
  refine st (ov_move (v := .bool false) rfl ?_)
  refine st_nil ?_
  refine WP_cond_f rfl ?_
  refine WP_skip ?_
  refine WP_seq ?_
  refine WP_seq ?_
  refine WP_region0 (by kernel_rfl) (fun _ => ?_)
  refine st (ov_move (v := .bool false) rfl ?_)
  refine st_nil ?_
  refine WP_cond_f rfl ?_
  refine WP_skip ?_
  refine WP_seq ?_
  refine WP_seq ?_
  refine WP_region0 (by kernel_rfl) (fun _ => ?_)
  refine st (ov_move (v := .int .i64 (x)) rfl ?_)
  refine st (ov_move (v := .int .i64 (y)) rfl ?_)
  refine st (ov_lss (k := .i64) (a := x) (b := y) rfl rfl ?_)
  refine st_nil ?_
  cases hc3 : decide (x < y)
  · skip
    have hc3 := of_decide_eq_false hc3
    refine WP_cond_f rfl ?_
    refine WP_skip ?_
    refine WP_seq ?_
    refine WP_seq ?_
    refine WP_region0 (by kernel_rfl) (fun _ => ?_)
    refine st (ov_move (v := .int .i64 (x)) rfl ?_)
    refine st (ov_move (v := .int .i64 (y)) rfl ?_)
    refine st (ov_gtr (k := .i64) (a := x) (b := y) rfl rfl ?_)
    refine st_nil ?_
    cases hc4 : decide (y < x)
    · skip
      have hc4 := of_decide_eq_false hc4
      refine WP_cond_f rfl ?_
      refine WP_skip ?_
      refine WP_seq ?_
      refine WP_region0 (by kernel_rfl) (fun _ => ?_)
      refine st (ov_assign (v := .int .i64 (0)) rfl ?_)
      refine st_nil ?_
      refine WP_ret ?_
      refine fin1 Try.results36 (show _ = (.int .i64 (0) : Value) from rfl) ?_
      refine ⟨?_, (Chg.trans hx1 hx2)⟩
      unfold cmpI
      (repeat (first | rw [if_pos (by omega)] | rw [if_neg (by omega)]))
    · skip
      have hc4 := of_decide_eq_true hc4
      refine WP_cond_t rfl ?_
      refine WP_seq ?_
      refine WP_region0 (by kernel_rfl) (fun _ => ?_)
      refine st (ov_assign (v := .int .i64 (1)) rfl ?_)
      refine st_nil ?_
      refine WP_ret ?_
      refine fin1 Try.results36 (show _ = (.int .i64 (1) : Value) from rfl) ?_
      refine ⟨?_, (Chg.trans hx1 hx2)⟩
      unfold cmpI
      (repeat (first | rw [if_pos (by omega)] | rw [if_neg (by omega)]))
  · skip
    have hc3 := of_decide_eq_true hc3
    refine WP_cond_t rfl ?_
    refine WP_seq ?_
    refine WP_region0 (by kernel_rfl) (fun _ => ?_)
    refine st (ov_assign (v := .int .i64 (-1)) rfl ?_)
    refine st_nil ?_
    refine WP_ret ?_
    refine fin1 Try.results36 (show _ = (.int .i64 (-1) : Value) from rfl) ?_
    refine ⟨?_, (Chg.trans hx1 hx2)⟩
    unfold cmpI
    (repeat (first | rw [if_pos (by omega)] | rw [if_neg (by omega)]))

theorem C_or {w : World} {Fl : Nat → Prop} {vl : Value} {l : List Int} (hl : RdS w Fl vl l) : Ret Try.prog 35 [vl] w (fun r w' => r = .int .i64 (orL l) ∧ Ext w w') := by
  have hls : l.length * 8 ≤ 140737488355328 := hl.small
  refine Calls_of_WP (args := [vl]) Try.func35 rfl rfl ?_
  refine WP_seq ?_
  refine WP_region0 (by kernel_rfl) (fun _ => ?_)
  refine st (ov_assign (v := .int .i64 (0)) rfl ?_)
  refine st_nil ?_
  refine WP_seq ?_
  refine WP_region0 (by kernel_rfl) (fun _ => ?_)
  refine st (ov_assign (v := .int .i64 (0)) rfl ?_)
  refine st_nil ?_
  refine WP_seq ?_
  refine WP_seq ?_
  refine WP_region0 (by kernel_rfl) (fun _ => ?_)
  refine st (ov_move (v := vl) rfl ?_)
  refine st (ov_len (n := l.length) Try.underlying27 rfl hl.sl ?_)
  refine st (ov_move (v := .int .i64 (0)) rfl ?_)
  refine st_nil ?_
  refine WP_block ?_
  refine WP_loop (fun m σ wq => ∃ (k : Nat) (ρ : Env), m = l.length - k ∧ σ = setAll ρ [(0, vl), (6, vl), (7, .int .i64 ((l.length : Nat) : Int)), (3, .int .i64 (0)), (8, .int .i64 ((k : Nat) : Int))] ∧ (Ext w wq) ∧ (k ≤ l.length) ∧ (orL l = orL (l.drop k))) ⟨0, _, rfl, setAll_self ⟨rfl, rfl, rfl, rfl, rfl, trivial⟩, (Chg.refl _ _), Nat.zero_le _, rfl⟩ ?_
  rintro m4 σ5 w1 ⟨k, ρ1, rfl, rfl, hx1, hk2, hv3⟩
  have hx1s := hx1.size
  refine WP_seq ?_
  refine WP_region0 (by kernel_rfl) (fun _ => ?_)
  refine st (ov_lss (k := .i64) (a := ((k : Nat) : Int)) (b := ((l.length : Nat) : Int)) rfl rfl ?_)
  refine st_nil ?_
  refine WP_seq ?_
  cases hc6 : decide (((k : Nat) : Int) < ((l.length : Nat) : Int))
  · skip
    have hc6 := of_decide_eq_false hc6
    refine WP_cond_f rfl ?_
    refine WP_exit ?_
    refine blk_exit ?_
    refine WP_seq ?_
    refine WP_region0 (by kernel_rfl) (fun _ => ?_)
    refine st (ov_move (v := .int .i64 (0)) rfl ?_)
    refine st (ov_assign (v := .int .i64 (0)) rfl ?_)
    refine st_nil ?_
    refine WP_ret ?_
    refine fin1 Try.results35 (show _ = (.int .i64 (0) : Value) from rfl) ?_
    refine ⟨?_, hx1⟩
    rw [hv3, List.drop_of_length_le (by omega)]; rfl
  · skip
    have hc6 := of_decide_eq_true hc6
    refine WP_cond_t rfl ?_
    refine WP_skip ?_
    refine WP_seq ?_
    refine WP_block ?_
    refine WP_seq ?_
    refine WP_region0 (by kernel_rfl) (fun _ => ?_)
    have hi7 : k < l.length := by omega
    have h9 := hl.ext hx1
    have hi8 : k < l.length := by omega
    obtain ⟨hc8, hx8⟩ := h9.int hi8
    refine st (ov_indexAddrN (k := 1) (i := k) Try.underlying27 Try.sizeOf3 rfl hl.sl rfl hi7 ?_)
    refine st (ov_load1 (v := .int .i64 (l[k])) Try.isAgg3 rfl (hc8.get (j := 0) rfl) ?_)
    refine st (ov_assign (v := .int .i64 (l[k])) rfl ?_)
    refine st_nil ?_
    refine WP_seq ?_
    refine WP_region0 (by kernel_rfl) (fun _ => ?_)
    refine st (ov_move (v := .int .i64 (l[k])) rfl ?_)
    refine st (ov_move (v := .int .i64 (0)) rfl ?_)
    refine st (ov_neq (k := .i64) (a := l[k]) (b := 0) rfl rfl ?_)
    refine st_nil ?_
    cases hc10 : !decide ((l[k]) = 0)
    · skip
      have hc10 := ndec_false hc10
      refine WP_cond_f rfl ?_
      refine WP_skip ?_
      refine WP_region0 (by kernel_rfl) (fun _ => ?_)
      have hr11 : InR ((k + 1 : Nat) : Int) := by omega
      refine st (ov_add (r := ((k + 1 : Nat) : Int)) (k := .i64) (a := ((k : Nat) : Int)) (b := 1) rfl rfl (by rw [show (((k : Nat) : Int) + 1 : Int) = ((k + 1 : Nat) : Int) by omega]; exact wrap_in hr11) ?_)
      refine st (ov_move (v := .int .i64 ((k + 1 : Nat) : Int)) rfl ?_)
      refine st_nil ?_
      exact ⟨_, by omega, k + 1, _, rfl, setAll_self ⟨rfl, rfl, rfl, rfl, rfl, trivial⟩, hx1, by omega, (by rw [hv3, List.drop_eq_getElem_cons (by omega)]; simp only [orL]; rw [if_neg (by simpa using ‹l[k] = 0›)])⟩
    · skip
      have hc10 := ndec_true hc10
      refine WP_cond_t rfl ?_
      refine WP_seq ?_
      refine WP_region0 (by kernel_rfl) (fun _ => ?_)
      refine st (ov_move (v := .int .i64 (l[k])) rfl ?_)
      refine st (ov_assign (v := .int .i64 (l[k])) rfl ?_)
      refine st_nil ?_
      refine WP_ret ?_
      refine fin1 Try.results35 (show _ = (.int .i64 (l[k]) : Value) from rfl) ?_
      refine ⟨?_, hx1⟩
      rw [hv3, List.drop_eq_getElem_cons (by omega)]; simp only [orL]; rw [if_pos (by assumption)]

theorem decId (a b c d : Int) : (decide (a = c ∧ b = d)) = (a == c && b == d) := by
  by_cases h1 : a = c <;> by_cases h2 : b = d <;> simp [h1, h2]
theorem eqId {x y : Operand} {a b c d : Int} : ∀ w, (do eqGuard .eql 26 x y (.agg #[.int .i64 a, .int .i64 b]) (.agg #[.int .i64 c, .int .i64 d]); binOp .eql 26 (.agg #[.int .i64 a, .int .i64 b]) (.agg #[.int .i64 c, .int .i64 d]) : Sem Value).run Try.prog w = .ok (.bool (decide (a = c ∧ b = d))) w := by
  intro w
  rw [decId]
  simp only [eqGuard]
  simp [go_sem]
  by_cases h1 : a = c <;> by_cases h2 : b = d <;> simp [h1, h2]
theorem neqId {x y : Operand} {a b c d : Int} : ∀ w, (do eqGuard .neq 26 x y (.agg #[.int .i64 a, .int .i64 b]) (.agg #[.int .i64 c, .int .i64 d]); binOp .neq 26 (.agg #[.int .i64 a, .int .i64 b]) (.agg #[.int .i64 c, .int .i64 d]) : Sem Value).run Try.prog w = .ok (.bool (!decide (a = c ∧ b = d))) w := by
  intro w
  rw [decId]
  simp only [eqGuard]
  simp [go_sem]
  by_cases h1 : a = c <;> by_cases h2 : b = d <;> simp [h1, h2]

end Go.Proofs.Ytbbhpddgjiifmaa
