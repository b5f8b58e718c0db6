/- Steps of the proofs of this seat: part C11. -/
import Derived.Test.YtlblilbmpdejgaaDoorC10
import Derived.Test.YtlblilbmpdejgaaDoorCelRows2
set_option linter.unusedSimpArgs false
set_option linter.unusedVariables false
set_option maxRecDepth 8000
namespace Go.Proofs.YtlblilbmpdejgaaDoor
open Go.Proofs Go.RowKit

def wOut (l : List Int) (n : Int) (b : Bool) : List Int := if b = true then l.filter (fun y => decide (y < n)) ++ n :: l.filter (fun y => decide (n < y)) else l.filter (fun y => decide (y ≠ n))
def WInv (l : List Int) (n : Int) (b : Bool) : Prop := (b = false → ∀ y ∈ l, y ≤ n) ∧ (b = true → ∃ y ∈ l, n < y)
theorem w_le {l : List Int} {n : Int} (h : ∀ y ∈ l, y ≤ n) : l.filter (fun y => decide (y ≠ n)) = l.filter (fun y => decide (y < n)) ∧ l.filter (fun y => decide (n < y)) = [] := by
  constructor
  · refine List.filter_congr (fun y hy => ?_)
    have := h y hy
    rw [decide_eq_decide]; omega
  · refine List.filter_eq_nil_iff.2 (fun y hy => ?_)
    have := h y hy
    simp only [decide_eq_true_eq]; omega
theorem w_new {l : List Int} {n x : Int} {b : Bool} (h : WInv l n b) (hb : b = false) (hx : n < x) : wOut (l ++ [x]) n true = wOut l n b ++ [n] ++ [x] ∧ WInv (l ++ [x]) n true := by
  subst hb
  obtain ⟨e1, e2⟩ := w_le (h.1 rfl)
  refine ⟨?_, fun h => Bool.noConfusion h, fun _ => ⟨x, by simp, hx⟩⟩
  unfold wOut
  rw [if_pos rfl, if_neg (by decide), e1, List.filter_append, List.filter_append, e2, List.filter_cons, List.filter_cons, if_neg (by simp; omega), if_pos (by simpa using hx)]
  simp
theorem w_old {l : List Int} {n x : Int} {b : Bool} (h : WInv l n b) (ha : Asc (l ++ [x])) (hc : b = true ∨ x ≤ n) (hx : ¬ x = n) : wOut (l ++ [x]) n b = wOut l n b ++ [x] ∧ WInv (l ++ [x]) n b := by
  cases b with
  | false =>
    have hxn : x ≤ n := by rcases hc with h | h; · cases h
                           · exact h
    refine ⟨?_, fun _ y hy => ?_, fun h => Bool.noConfusion h⟩
    · unfold wOut
      rw [if_neg (by decide), if_neg (by decide), List.filter_append, List.filter_cons, if_pos (by simpa using hx)]; rfl
    · rcases List.mem_append.1 hy with hy | hy
      · exact h.1 rfl y hy
      · rw [List.mem_singleton.1 hy]; exact hxn
  | true =>
    obtain ⟨y, hy, hny⟩ := h.2 rfl
    have hyx : y < x := (List.pairwise_append.1 ha).2.2 y hy x (List.mem_singleton.2 rfl)
    refine ⟨?_, fun h => Bool.noConfusion h, fun _ => ⟨y, List.mem_append_left _ hy, hny⟩⟩
    unfold wOut
    rw [if_pos rfl, if_pos rfl, List.filter_append, List.filter_append, List.filter_cons, List.filter_cons, if_neg (by simp; omega), if_pos (by simp; omega)]
    simp
theorem w_skip {l : List Int} {n x : Int} {b : Bool} (h : WInv l n b) (hx : x = n) : wOut (l ++ [x]) n b = wOut l n b ∧ WInv (l ++ [x]) n b := by
  subst hx
  refine ⟨?_, fun hb y hy => ?_, fun hb => ?_⟩
  · unfold wOut
    simp [List.filter_append, List.filter_cons]
  · rcases List.mem_append.1 hy with hy | hy
    · exact h.1 hb y hy
    · rw [List.mem_singleton.1 hy]; exact Int.le_refl _
  · obtain ⟨y, hy, hl⟩ := h.2 hb; exact ⟨y, List.mem_append_left _ hy, hl⟩
theorem w_insS {l : List Int} (ha : Asc l) (n : Int) : wOut l n true = insS l n := by
  unfold wOut
  rw [if_pos rfl]
  refine asc_ext ?_ (insS_asc ha n) (fun y => ?_)
  · refine List.pairwise_append.2 ⟨ha.filter _, List.pairwise_cons.2 ⟨fun y hy => ?_, ha.filter _⟩, fun a ha2 b hb => ?_⟩
    · simpa using (List.mem_filter.1 hy).2
    · have h1 : a < n := by simpa using (List.mem_filter.1 ha2).2
      rcases List.mem_cons.1 hb with rfl | hb
      · exact h1
      · have h2 : n < b := by simpa using (List.mem_filter.1 hb).2
        omega
  · rw [mem_insS]
    simp only [List.mem_append, List.mem_cons, List.mem_filter, decide_eq_true_eq]
    constructor
    · rintro (⟨h1, _⟩ | rfl | ⟨h1, _⟩)
      · exact .inr h1
      · exact .inl rfl
      · exact .inr h1
    · rintro (rfl | h1)
      · exact .inr (.inl rfl)
      · rcases Int.lt_trichotomy y n with h2 | h2 | h2
        · exact .inl ⟨h1, h2⟩
        · exact .inr (.inl h2)
        · exact .inr (.inr ⟨h1, h2⟩)
theorem w_end {l : List Int} {n : Int} {b : Bool} (h : WInv l n b) (hb : b = false) (ha : Asc l) : wOut l n b ++ [n] = insS l n := by
  subst hb
  obtain ⟨e1, e2⟩ := w_le (h.1 rfl)
  rw [← w_insS ha]
  unfold wOut
  rw [if_pos rfl, if_neg (by decide), e1, e2]
theorem asc_take {l : List Int} (h : Asc l) (k : Nat) : Asc (l.take k) := h.sublist (List.take_sublist k l)
theorem w_ini (l : List Int) (n : Int) : WInv (l.take 0) n false := by
  rw [List.take_zero]
  exact ⟨fun _ y hy => (List.not_mem_nil hy).elim, fun h => Bool.noConfusion h⟩
theorem wOut_len (l : List Int) (n : Int) (b : Bool) : (wOut l n b).length ≤ l.length + 1 := by
  have key : ∀ l : List Int, (l.filter (fun y => decide (y < n))).length + (l.filter (fun y => decide (n < y))).length ≤ l.length := by
    intro l
    induction l with
    | nil => simp
    | cons x l ih =>
      rw [List.filter_cons, List.filter_cons]
      by_cases h1 : x < n
      · rw [if_pos (by simpa using h1), if_neg (by simp; omega)]; simp only [List.length_cons]; omega
      · rw [if_neg (by simpa using h1)]
        split
        · simp only [List.length_cons]; omega
        · simp only [List.length_cons]; omega
  unfold wOut
  split
  · have := key l
    simp only [List.length_append, List.length_cons]; omega
  · have := List.length_filter_le (fun y => decide (y ≠ n)) l
    omega
theorem take_snoc {l : List Int} {k : Nat} (h : k < l.length) : l.take (k + 1) = l.take k ++ [l.getD k 0] := by rw [List.take_succ_eq_append_getElem h, getD_at _ h]
theorem D_with {G : Nat → Prop} {W w : World} {Rs : List HP} {vl : Value} {l : List Int} (hl : RdS W G vl l) {n : Int} (hn : InR n) (hS0 : Sep G W Rs w) (hasc : Asc l) (hfew : l.length ≤ 1000) : Ret Tryd.prog 75 [vl, .int .i64 (n)] w (fun r w' => ∃ (v : Value), r = (v : Value) ∧ Sep G W ((RowE (α := Int) own 3 v (insS l n)) :: Rs) w') := by
 have hls : l.length * 8 ≤ 140737488355328 := hl.small
 refine Calls_of_WP (args := [vl, .int .i64 (n)]) Tryd.func75 rfl rfl ?_
 refine WP_seq ?_
 refine WP_region0 (by kernel_rfl) (fun _ => ?_)
 refine st (ov_assign (v := (.slice none 0 0)) rfl ?_)
 refine st_nil ?_
 refine WP_seq ?_
 refine WP_region0 (by kernel_rfl) (fun _ => ?_)
 refine st (ov_assign (v := (.slice none 0 0)) rfl ?_)
 refine st_nil ?_
 refine WP_seq ?_
 refine WP_region0 (by kernel_rfl) (fun _ => ?_)
 refine st (ov_assign (v := .bool false) rfl ?_)
 refine st_nil ?_
 refine WP_seq ?_
 refine WP_seq ?_
 refine WP_region0 (by kernel_rfl) (fun _ => ?_)
 refine st (ov_assign (v := .int .i64 (0)) rfl ?_)
 refine st_nil ?_
 refine WP_block ?_
 have hS1 : Sep G W ((RowE (α := Int) own 3 (.slice none 0 0) ([] : List Int)) :: Rs) w := hS0.rowNil own 3
 refine WP_loop (fun mq σ wq => ∃ (k : Nat) (vo : Value) (ld : Bool) (ρ : Env), mq = l.length - k ∧ σ = setAll ρ [(0, vl), (1, .int .i64 (n)), (5, vo), (6, .bool ld), (7, .int .i64 ((k : Nat) : Int))] ∧ (k ≤ l.length) ∧ (WInv (l.take k) n ld) ∧ Sep G W ((RowE (α := Int) own 3 vo (wOut (l.take k) n ld)) :: Rs) wq) ⟨0, .slice none 0 0, false, _, rfl, setAll_self ⟨rfl, rfl, rfl, rfl, rfl, trivial⟩, Nat.zero_le _, (w_ini l n), hS1⟩ ?_
 rintro m3 σ4 w2 ⟨k, vo, ld, ρl1, rfl, rfl, hk, hw, hS5⟩
 have hr6 := hS5.row (i := 0) rfl
 have hr6s : (wOut (l.take k) n ld).length * 8 ≤ 140737488355328 := hr6.2
 have hwl := wOut_len (l.take k) n ld
 rw [List.length_take] at hwl
 refine WP_seq ?_
 refine WP_seq ?_
 refine WP_region0 (by kernel_rfl) (fun _ => ?_)
 refine st (ov_move (v := .int .i64 ((k : Nat) : Int)) rfl ?_)
 refine st (ov_move (v := vl) rfl ?_)
 refine st (ov_len (n := l.length) Tryd.underlying40 rfl hl.sl ?_)
 refine st (ov_lss (k := .i64) (a := ((k : Nat) : Int)) (b := ((l.length : Nat) : Int)) rfl rfl ?_)
 refine st_nil ?_
 cases hc7 : decide (((k : Nat) : Int) < ((l.length : Nat) : Int))
 ·skip
  have hc7 := of_decide_eq_false hc7
  refine WP_cond_f rfl ?_
  refine WP_exit ?_
  refine blk_exit ?_
  refine WP_seq ?_
  refine WP_seq ?_
  refine WP_region0 (by kernel_rfl) (fun _ => ?_)
  refine st (ov_move (v := .bool ld) rfl ?_)
  refine st (ov_not (a := ld) rfl ?_)
  refine st_nil ?_
  cases hc8 : !ld
  ·skip
   try simp only [bools] at hc8
   refine WP_cond_f rfl ?_
   refine WP_skip ?_
   refine WP_seq ?_
   refine WP_region0 (by kernel_rfl) (fun _ => ?_)
   refine st (ov_move (v := vo) rfl ?_)
   refine st (ov_assign (v := vo) rfl ?_)
   refine st_nil ?_
   refine WP_ret ?_
   refine fin1 Tryd.results75 (show _ = (vo : Value) from rfl) ?_
   have hk9 : k = l.length := by omega
   rw [hk9, List.take_length] at hS5
   rw [hk9, List.take_length] at hw
   rw [hc8, w_insS hasc] at hS5
   refine ⟨vo, rfl, hS5⟩
  ·skip
   try simp only [bools] at hc8
   refine WP_cond_t rfl ?_
   refine WP_region0 (by kernel_rfl) (fun _ => ?_)
   refine st (ov_move (v := vo) rfl ?_)
   refine st (ov_move (v := .int .i64 (n)) rfl ?_)
   refine st (ov_buildSlice (k := 1) (parts' := [(0, .int .i64 (n))]) (c := #[.int .i64 (n)]) Tryd.underlying40 Tryd.sizeOf3 Tryd.zeroValue3 (by decide) rfl (by kernel_rfl) ?_)
   intro w11 b10 hn9
   have hS12 : Sep G W ((Blk b10 #[.int .i64 (n)] 3) :: (RowE (α := Int) own 3 vo (wOut (l.take k) n ld)) :: Rs) w11 := hS5.new hn9
   have hbk16 := hS12.blk (i := 0) rfl
   have hS17 : Sep G W ((RowE (α := Int) own 3 vo (wOut (l.take k) n ld)) :: Rs) w11 := hS12.sel 2 [1] (Nat.le_add_left _ _) rfl rfl
   have hS18 : Sep G W ((RowE (α := Int) own 3 vo (wOut (l.take k) n ld)) :: Emp :: Rs) w11 := hS17.emp1
   refine st (ov_append1S (src := own) (bytes := 8) (x1 := n) hS18 el40 rfl rfl hbk16 (fun _ _ _ => (show _ from ⟨rfl, hn⟩)) (by first | omega | (simp only [List.length_append, List.length_cons, List.length_nil, List.length_take, List.length_drop]; omega)) rfl ?_)
   intro v14 w13 hS15
   have hr19 := hS15.row (i := 0) rfl
   have hr19s : ((wOut (l.take k) n ld) ++ [n]).length * 8 ≤ 140737488355328 := hr19.2
   refine st (ov_assign (v := v14) rfl ?_)
   refine st_nil ?_
   refine WP_seq ?_
   refine WP_region0 (by kernel_rfl) (fun _ => ?_)
   refine st (ov_move (v := v14) rfl ?_)
   refine st (ov_assign (v := v14) rfl ?_)
   refine st_nil ?_
   refine WP_ret ?_
   refine fin1 Tryd.results75 (show _ = (v14 : Value) from rfl) ?_
   have hk9 : k = l.length := by omega
   rw [hk9, List.take_length] at hS15
   rw [hk9, List.take_length] at hw
   rw [w_end hw hc8 hasc] at hS15
   refine ⟨v14, rfl, hS15⟩
 ·skip
  have hc7 := of_decide_eq_true hc7
  refine WP_cond_t rfl ?_
  refine WP_skip ?_
  refine WP_seq ?_
  refine WP_block ?_
  refine WP_seq ?_
  refine WP_seq ?_
  refine WP_region (by kernel_rfl) ?_
  refine st (ov_move (v := .bool ld) rfl ?_)
  refine st (ov_not (a := ld) rfl ?_)
  refine st (ov_move (v := .bool (!ld)) rfl ?_)
  refine stc (V := vl) rfl rfl (fun hb20 => ?_) ?_
  ·have hl21 := hb20
   try simp only [bools] at hl21
   exact ov_move (v := vl) rfl ⟨rfl, rfl⟩
  refine stc (V := .int .i64 ((k : Nat) : Int)) rfl rfl (fun hb22 => ?_) ?_
  ·have hl23 := hb22
   try simp only [bools] at hl23
   exact ov_move (v := .int .i64 ((k : Nat) : Int)) rfl ⟨rfl, rfl⟩
  refine stc (V := .pointer (some ⟨sb vl, so vl + k * 1, none⟩)) rfl rfl (fun hb24 => ?_) ?_
  ·have hl25 := hb24
   try simp only [bools] at hl25
   have hi26 : k < l.length := (by first | omega | (simp only [lens]; omega))
   exact ov_indexAddrN (k := 1) (i := k) Tryd.underlying40 Tryd.sizeOf3 (show _ = (vl : Value) from (if_pos hb24)) hl.sl (show _ = (.int .i64 ((k : Nat) : Int) : Value) from (if_pos hb24)) hi26 ⟨rfl, rfl⟩
  refine stc (V := .int .i64 ((l.getD k 0))) rfl rfl (fun hb27 => ?_) ?_
  ·have hl28 := hb27
   try simp only [bools] at hl28
   have hi30 : k < l.length := (by first | omega | (simp only [lens]; omega))
   obtain ⟨hce29, hxe29⟩ := hl.int hi30
   rw [← getD_at 0 hi30] at hce29 hxe29
   have hcw31 := hS5.cells hce29 (hl.foot (ne_of_lt hi30))
   exact ov_load1 (v := .int .i64 ((l.getD k 0))) Tryd.isAgg3 (show _ = (.pointer (some ⟨sb vl, so vl + k * 1, none⟩) : Value) from (if_pos hb27)) (hcw31.get (j := 0) rfl) ⟨rfl, rfl⟩
  refine stc (V := .int .i64 (n)) rfl rfl (fun hb32 => ?_) ?_
  ·have hl33 := hb32
   try simp only [bools] at hl33
   exact ov_move (v := .int .i64 (n)) rfl ⟨rfl, rfl⟩
  refine stc (V := .bool (decide (n < (l.getD k 0)))) rfl rfl (fun hb34 => ?_) ?_
  ·have hl35 := hb34
   try simp only [bools] at hl35
   exact ov_gtr (k := .i64) (a := (l.getD k 0)) (b := n) (show _ = (.int .i64 ((l.getD k 0)) : Value) from (if_pos hb34)) (show _ = (.int .i64 (n) : Value) from (if_pos hb34)) ⟨rfl, rfl⟩
  refine st (ov_pick_and (b := !ld) (b' := decide (n < (l.getD k 0))) rfl (fun hbp => (show _ = (.bool (decide (n < (l.getD k 0))) : Value) from (if_pos hbp))) ?_)
  refine st_nil ?_
  cases hc36 : (!ld) && (decide (n < (l.getD k 0)))
  ·skip
   try simp only [bools] at hc36
   refine WP_cond_f rfl ?_
   refine WP_skip ?_
   refine WP_seq ?_
   refine WP_region0 (by kernel_rfl) (fun _ => ?_)
   refine st (ov_move (v := vl) rfl ?_)
   refine st (ov_move (v := .int .i64 ((k : Nat) : Int)) rfl ?_)
   have hi37 : k < l.length := (by first | omega | (simp only [lens]; omega))
   refine st (ov_indexAddrN (k := 1) (i := k) Tryd.underlying40 Tryd.sizeOf3 rfl hl.sl rfl hi37 ?_)
   have hi39 : k < l.length := (by first | omega | (simp only [lens]; omega))
   obtain ⟨hce38, hxe38⟩ := hl.int hi39
   rw [← getD_at 0 hi39] at hce38 hxe38
   have hcw40 := hS5.cells hce38 (hl.foot (ne_of_lt hi39))
   refine st (ov_load1 (v := .int .i64 ((l.getD k 0))) Tryd.isAgg3 rfl (hcw40.get (j := 0) rfl) ?_)
   refine st (ov_move (v := .int .i64 (n)) rfl ?_)
   refine st (ov_neq (k := .i64) (a := (l.getD k 0)) (b := n) rfl rfl ?_)
   refine st_nil ?_
   cases hc41 : !decide ((l.getD k 0) = n)
   ·skip
    have hc41 := ndec_false hc41
    refine WP_cond_f rfl ?_
    refine WP_skip ?_
    refine WP_region0 (by kernel_rfl) (fun _ => ?_)
    refine st (ov_move (v := .int .i64 ((k : Nat) : Int)) rfl ?_)
    have hr42 : InR ((k + 1 : Nat) : Int) := by first | omega | (simp only [lens]; omega)
    refine st (ov_add (r := ((k + 1 : Nat) : Int)) (k := .i64) (a := ((k : Nat) : Int)) (b := 1) rfl rfl (by rw [show (((k : Nat) : Int) + 1 : Int) = ((k + 1 : Nat) : Int) by first | omega | (simp only [lens]; omega)]; exact wrap_in hr42) ?_)
    refine st (ov_assign (v := .int .i64 ((k + 1 : Nat) : Int)) rfl ?_)
    refine st_nil ?_
    have hL43 : wOut (l.take (k + 1)) n ld = (wOut (l.take k) n ld) ∧ WInv (l.take (k + 1)) n ld := by
      rw [take_snoc (by omega)]
      have ha9 : Asc (l.take k ++ [l.getD k 0]) := by rw [← take_snoc (by omega)]; exact asc_take hasc _
      first | (exfalso; omega) | exact w_new hw hc36.1 hc36.2 | exact w_old hw ha9 hc36 hc41 | exact w_skip hw hc41
    rw [← hL43.1] at hS5
    exact ⟨_, by omega, k + 1, vo, ld, _, rfl, setAll_self ⟨rfl, rfl, rfl, rfl, rfl, trivial⟩, by omega, hL43.2, hS5⟩
   ·skip
    have hc41 := ndec_true hc41
    refine WP_cond_t rfl ?_
    refine WP_region0 (by kernel_rfl) (fun _ => ?_)
    refine st (ov_move (v := vo) rfl ?_)
    refine st (ov_move (v := vl) rfl ?_)
    refine st (ov_move (v := .int .i64 ((k : Nat) : Int)) rfl ?_)
    have hi44 : k < l.length := (by first | omega | (simp only [lens]; omega))
    refine st (ov_indexAddrN (k := 1) (i := k) Tryd.underlying40 Tryd.sizeOf3 rfl hl.sl rfl hi44 ?_)
    have hcw46 := hS5.cells hce38 (hl.foot (ne_of_lt hi39))
    refine st (ov_load1 (v := .int .i64 ((l.getD k 0))) Tryd.isAgg3 rfl (hcw46.get (j := 0) rfl) ?_)
    refine st (ov_buildSlice (k := 1) (parts' := [(0, .int .i64 ((l.getD k 0)))]) (c := #[.int .i64 ((l.getD k 0))]) Tryd.underlying40 Tryd.sizeOf3 Tryd.zeroValue3 (by decide) rfl (by kernel_rfl) ?_)
    intro w49 b48 hn47
    have hS50 : Sep G W ((Blk b48 #[.int .i64 ((l.getD k 0))] 3) :: (RowE (α := Int) own 3 vo (wOut (l.take k) n ld)) :: Rs) w49 := hS5.new hn47
    have hbk54 := hS50.blk (i := 0) rfl
    have hS55 : Sep G W ((RowE (α := Int) own 3 vo (wOut (l.take k) n ld)) :: Rs) w49 := hS50.sel 2 [1] (Nat.le_add_left _ _) rfl rfl
    have hS56 : Sep G W ((RowE (α := Int) own 3 vo (wOut (l.take k) n ld)) :: Emp :: Rs) w49 := hS55.emp1
    refine st (ov_append1S (src := own) (bytes := 8) (x1 := (l.getD k 0)) hS56 el40 rfl rfl hbk54 (fun _ _ _ => (show _ from ⟨rfl, hxe38⟩)) (by first | omega | (simp only [List.length_append, List.length_cons, List.length_nil, List.length_take, List.length_drop]; omega)) rfl ?_)
    intro v52 w51 hS53
    have hr57 := hS53.row (i := 0) rfl
    have hr57s : ((wOut (l.take k) n ld) ++ [(l.getD k 0)]).length * 8 ≤ 140737488355328 := hr57.2
    refine st (ov_assign (v := v52) rfl ?_)
    refine st_nil ?_
    refine WP_region0 (by kernel_rfl) (fun _ => ?_)
    refine st (ov_move (v := .int .i64 ((k : Nat) : Int)) rfl ?_)
    have hr58 : InR ((k + 1 : Nat) : Int) := by first | omega | (simp only [lens]; omega)
    refine st (ov_add (r := ((k + 1 : Nat) : Int)) (k := .i64) (a := ((k : Nat) : Int)) (b := 1) rfl rfl (by rw [show (((k : Nat) : Int) + 1 : Int) = ((k + 1 : Nat) : Int) by first | omega | (simp only [lens]; omega)]; exact wrap_in hr58) ?_)
    refine st (ov_assign (v := .int .i64 ((k + 1 : Nat) : Int)) rfl ?_)
    refine st_nil ?_
    have hL59 : wOut (l.take (k + 1)) n ld = (wOut (l.take k) n ld) ++ [(l.getD k 0)] ∧ WInv (l.take (k + 1)) n ld := by
      rw [take_snoc (by omega)]
      have ha9 : Asc (l.take k ++ [l.getD k 0]) := by rw [← take_snoc (by omega)]; exact asc_take hasc _
      first | (exfalso; omega) | exact w_new hw hc36.1 hc36.2 | exact w_old hw ha9 hc36 hc41 | exact w_skip hw hc41
    rw [← hL59.1] at hS53
    exact ⟨_, by omega, k + 1, v52, ld, _, rfl, setAll_self ⟨rfl, rfl, rfl, rfl, rfl, trivial⟩, by omega, hL59.2, hS53⟩
  ·skip
   try simp only [bools] at hc36
   refine WP_cond_t rfl ?_
   refine WP_seq ?_
   refine WP_region0 (by kernel_rfl) (fun _ => ?_)
   refine st (ov_move (v := vo) rfl ?_)
   refine st (ov_move (v := .int .i64 (n)) rfl ?_)
   refine st (ov_buildSlice (k := 1) (parts' := [(0, .int .i64 (n))]) (c := #[.int .i64 (n)]) Tryd.underlying40 Tryd.sizeOf3 Tryd.zeroValue3 (by decide) rfl (by kernel_rfl) ?_)
   intro w62 b61 hn60
   have hS63 : Sep G W ((Blk b61 #[.int .i64 (n)] 3) :: (RowE (α := Int) own 3 vo (wOut (l.take k) n ld)) :: Rs) w62 := hS5.new hn60
   have hbk67 := hS63.blk (i := 0) rfl
   have hS68 : Sep G W ((RowE (α := Int) own 3 vo (wOut (l.take k) n ld)) :: Rs) w62 := hS63.sel 2 [1] (Nat.le_add_left _ _) rfl rfl
   have hS69 : Sep G W ((RowE (α := Int) own 3 vo (wOut (l.take k) n ld)) :: Emp :: Rs) w62 := hS68.emp1
   refine st (ov_append1S (src := own) (bytes := 8) (x1 := n) hS69 el40 rfl rfl hbk67 (fun _ _ _ => (show _ from ⟨rfl, hn⟩)) (by first | omega | (simp only [List.length_append, List.length_cons, List.length_nil, List.length_take, List.length_drop]; omega)) rfl ?_)
   intro v65 w64 hS66
   have hr70 := hS66.row (i := 0) rfl
   have hr70s : ((wOut (l.take k) n ld) ++ [n]).length * 8 ≤ 140737488355328 := hr70.2
   refine st (ov_assign (v := v65) rfl ?_)
   refine st_nil ?_
   refine WP_region0 (by kernel_rfl) (fun _ => ?_)
   refine st (ov_assign (v := .bool true) rfl ?_)
   refine st_nil ?_
   refine WP_seq ?_
   refine WP_region0 (by kernel_rfl) (fun _ => ?_)
   refine st (ov_move (v := vl) rfl ?_)
   refine st (ov_move (v := .int .i64 ((k : Nat) : Int)) rfl ?_)
   have hi71 : k < l.length := (by first | omega | (simp only [lens]; omega))
   refine st (ov_indexAddrN (k := 1) (i := k) Tryd.underlying40 Tryd.sizeOf3 rfl hl.sl rfl hi71 ?_)
   have hi73 : k < l.length := (by first | omega | (simp only [lens]; omega))
   obtain ⟨hce72, hxe72⟩ := hl.int hi73
   rw [← getD_at 0 hi73] at hce72 hxe72
   have hcw74 := hS66.cells hce72 (hl.foot (ne_of_lt hi73))
   refine st (ov_load1 (v := .int .i64 ((l.getD k 0))) Tryd.isAgg3 rfl (hcw74.get (j := 0) rfl) ?_)
   refine st (ov_move (v := .int .i64 (n)) rfl ?_)
   refine st (ov_neq (k := .i64) (a := (l.getD k 0)) (b := n) rfl rfl ?_)
   refine st_nil ?_
   cases hc75 : !decide ((l.getD k 0) = n)
   ·skip
    have hc75 := ndec_false hc75
    refine WP_cond_f rfl ?_
    refine WP_skip ?_
    refine WP_region0 (by kernel_rfl) (fun _ => ?_)
    refine st (ov_move (v := .int .i64 ((k : Nat) : Int)) rfl ?_)
    have hr76 : InR ((k + 1 : Nat) : Int) := by first | omega | (simp only [lens]; omega)
    refine st (ov_add (r := ((k + 1 : Nat) : Int)) (k := .i64) (a := ((k : Nat) : Int)) (b := 1) rfl rfl (by rw [show (((k : Nat) : Int) + 1 : Int) = ((k + 1 : Nat) : Int) by first | omega | (simp only [lens]; omega)]; exact wrap_in hr76) ?_)
    refine st (ov_assign (v := .int .i64 ((k + 1 : Nat) : Int)) rfl ?_)
    refine st_nil ?_
    have hL77 : wOut (l.take (k + 1)) n true = (wOut (l.take k) n ld) ++ [n] ∧ WInv (l.take (k + 1)) n true := by
      rw [take_snoc (by omega)]
      have ha9 : Asc (l.take k ++ [l.getD k 0]) := by rw [← take_snoc (by omega)]; exact asc_take hasc _
      first | (exfalso; omega) | exact w_new hw hc36.1 hc36.2 | exact w_old hw ha9 hc36 hc75 | exact w_skip hw hc75
    rw [← hL77.1] at hS66
    exact ⟨_, by omega, k + 1, v65, true, _, rfl, setAll_self ⟨rfl, rfl, rfl, rfl, rfl, trivial⟩, by omega, hL77.2, hS66⟩
   ·skip
    have hc75 := ndec_true hc75
    refine WP_cond_t rfl ?_
    refine WP_region0 (by kernel_rfl) (fun _ => ?_)
    refine st (ov_move (v := v65) rfl ?_)
    refine st (ov_move (v := vl) rfl ?_)
    refine st (ov_move (v := .int .i64 ((k : Nat) : Int)) rfl ?_)
    have hi78 : k < l.length := (by first | omega | (simp only [lens]; omega))
    refine st (ov_indexAddrN (k := 1) (i := k) Tryd.underlying40 Tryd.sizeOf3 rfl hl.sl rfl hi78 ?_)
    have hcw80 := hS66.cells hce72 (hl.foot (ne_of_lt hi73))
    refine st (ov_load1 (v := .int .i64 ((l.getD k 0))) Tryd.isAgg3 rfl (hcw80.get (j := 0) rfl) ?_)
    refine st (ov_buildSlice (k := 1) (parts' := [(0, .int .i64 ((l.getD k 0)))]) (c := #[.int .i64 ((l.getD k 0))]) Tryd.underlying40 Tryd.sizeOf3 Tryd.zeroValue3 (by decide) rfl (by kernel_rfl) ?_)
    intro w83 b82 hn81
    have hS84 : Sep G W ((Blk b82 #[.int .i64 ((l.getD k 0))] 3) :: (RowE (α := Int) own 3 v65 ((wOut (l.take k) n ld) ++ [n])) :: Rs) w83 := hS66.new hn81
    have hbk88 := hS84.blk (i := 0) rfl
    have hS89 : Sep G W ((RowE (α := Int) own 3 v65 ((wOut (l.take k) n ld) ++ [n])) :: Rs) w83 := hS84.sel 2 [1] (Nat.le_add_left _ _) rfl rfl
    have hS90 : Sep G W ((RowE (α := Int) own 3 v65 ((wOut (l.take k) n ld) ++ [n])) :: Emp :: Rs) w83 := hS89.emp1
    refine st (ov_append1S (src := own) (bytes := 8) (x1 := (l.getD k 0)) hS90 el40 rfl rfl hbk88 (fun _ _ _ => (show _ from ⟨rfl, hxe72⟩)) (by first | omega | (simp only [List.length_append, List.length_cons, List.length_nil, List.length_take, List.length_drop]; omega)) rfl ?_)
    intro v86 w85 hS87
    have hr91 := hS87.row (i := 0) rfl
    have hr91s : ((wOut (l.take k) n ld) ++ [n] ++ [(l.getD k 0)]).length * 8 ≤ 140737488355328 := hr91.2
    refine st (ov_assign (v := v86) rfl ?_)
    refine st_nil ?_
    refine WP_region0 (by kernel_rfl) (fun _ => ?_)
    refine st (ov_move (v := .int .i64 ((k : Nat) : Int)) rfl ?_)
    have hr92 : InR ((k + 1 : Nat) : Int) := by first | omega | (simp only [lens]; omega)
    refine st (ov_add (r := ((k + 1 : Nat) : Int)) (k := .i64) (a := ((k : Nat) : Int)) (b := 1) rfl rfl (by rw [show (((k : Nat) : Int) + 1 : Int) = ((k + 1 : Nat) : Int) by first | omega | (simp only [lens]; omega)]; exact wrap_in hr92) ?_)
    refine st (ov_assign (v := .int .i64 ((k + 1 : Nat) : Int)) rfl ?_)
    refine st_nil ?_
    have hL93 : wOut (l.take (k + 1)) n true = (wOut (l.take k) n ld) ++ [n] ++ [(l.getD k 0)] ∧ WInv (l.take (k + 1)) n true := by
      rw [take_snoc (by omega)]
      have ha9 : Asc (l.take k ++ [l.getD k 0]) := by rw [← take_snoc (by omega)]; exact asc_take hasc _
      first | (exfalso; omega) | exact w_new hw hc36.1 hc36.2 | exact w_old hw ha9 hc36 hc75 | exact w_skip hw hc75
    rw [← hL93.1] at hS87
    exact ⟨_, by omega, k + 1, v86, true, _, rfl, setAll_self ⟨rfl, rfl, rfl, rfl, rfl, trivial⟩, by omega, hL93.2, hS87⟩

end Go.Proofs.YtlblilbmpdejgaaDoor
