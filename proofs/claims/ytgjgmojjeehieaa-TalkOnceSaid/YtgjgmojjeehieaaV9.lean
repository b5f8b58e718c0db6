/- Texts of this claim, part 9. -/
import Derived.Test.YtgjgmojjeehieaaV8
set_option linter.unusedSimpArgs false
set_option linter.unusedVariables false
section
/- Steps of the proofs of this seat: part B6. -/
set_option linter.unusedSimpArgs false
set_option linter.unusedVariables false
set_option maxRecDepth 8000
set_option maxHeartbeats 4000000
namespace Go.Proofs.Ytgjgmojjeehieaa
open Go.Proofs Go.RowKit

section
variable {n : Nat} {L T : List Ev} {e x : Ev}
theorem ins_end : ∀ {T : List Ev}, (∀ x ∈ T, cmpE x e < 0) → insE e T = T ++ [e]
  | [], _ => rfl
  | x :: l, h => by
    have h1 := h x (List.mem_cons_self ..)
    have h2 : ¬ ltE e x = true := fun h3 => cmp_asym h1 (lt_cmp.1 h3)
    simp only [insE]
    rw [if_neg h2, ins_end fun y hy => h y (List.mem_cons_of_mem _ hy)]; rfl
theorem Good.at_lt (h : Good n L) {i j : Nat} (hij : i < j) (hj : j < L.length) : cmpE (L.getD i default) (L.getD j default) < 0 := by
  rw [getD_at _ (by omega), getD_at _ hj]
  exact List.pairwise_iff_getElem.1 h.srt i j (by omega) hj hij
theorem mem_take {i : Nat} (hx : x ∈ L.take i) : ∃ j, j < i ∧ j < L.length ∧ x = L.getD j default := by
  obtain ⟨j, hj, rfl⟩ := List.getElem_of_mem hx
  rw [List.length_take] at hj
  refine ⟨j, by omega, by omega, ?_⟩
  rw [getD_at _ (by omega), List.getElem_take]
theorem getD_mem {i : Nat} (hi : i < L.length) : L.getD i default ∈ L := by rw [getD_at _ hi]; exact List.getElem_mem hi
theorem take_mem {i j : Nat} (hi : i < j) (hj : i < L.length) : L.getD i default ∈ L.take j := by
  rw [getD_at _ hj]
  exact List.mem_take_iff_getElem.2 ⟨i, by omega, rfl⟩
theorem Good.step (h : Good n L) {i : Nat} (hi : i < L.length) (ht : Good n (L.take i)) : addE n (L.take i) (L.getD i default) = 0 := by
  refine h.sub_add ht (fun x hx => List.mem_of_mem_take hx) (getD_mem hi) (fun hm => ?_) (fun x hx hlt => ?_)
  · obtain ⟨j, h1, h2, h3⟩ := mem_take hm
    have := h.at_lt h1 hi
    rw [← h3] at this
    rw [cmpE_neg] at this; omega
  · obtain ⟨j, hj, rfl⟩ := List.getElem_of_mem hx
    rw [← getD_at default hj] at hlt ⊢
    rcases Nat.lt_trichotomy j i with h1 | h1 | h1
    · exact take_mem h1 hj
    · subst h1; rw [cmpE_neg] at hlt; omega
    · exact absurd (h.at_lt h1 hj) (cmp_asym hlt)
theorem take_snoc {i : Nat} (hi : i < L.length) : L.take (i + 1) = L.take i ++ [L.getD i default] := by
  rw [List.take_succ_eq_append_getElem hi, getD_at _ hi]
theorem Good.ins_take (h : Good n L) {i : Nat} (hi : i < L.length) : insE (L.getD i default) (L.take i) = L.take (i + 1) := by
  rw [take_snoc hi]
  refine ins_end fun x hx => ?_
  obtain ⟨j, h1, h2, rfl⟩ := mem_take hx
  exact h.at_lt h1 hi
theorem Good.prefix (h : Good n L) : ∀ (i : Nat), i ≤ L.length → Good n (L.take i)
  | 0, _ => Good.nil
  | i + 1, hi => by
    have ht := h.prefix i (by omega)
    rw [← h.ins_take hi]
    exact ht.add (h.step hi ht)
theorem Good.seq_at (h : Good n L) {i : Nat} (hi : i < L.length) : (L.getD i default).seq = ((cntE (L.take i) (L.getD i default).origin.toNat : Nat) : Int) + 1 := (add_zero (h.step hi (h.prefix i (Nat.le_of_lt hi)))).2.2.1
end
end Go.Proofs.Ytgjgmojjeehieaa
end

section
/- Steps of the proofs of this seat: part B7. -/
set_option linter.unusedSimpArgs false
set_option linter.unusedVariables false
set_option maxRecDepth 8000
set_option maxHeartbeats 4000000
namespace Go.Proofs.Ytgjgmojjeehieaa
open Go.Proofs Go.RowKit

/-- What Pick gives. -/
def pickI (x : Int) (n : Nat) : Nat := if x.tmod n < 0 then (x.tmod n + n).toNat else (x.tmod n).toNat
theorem pick_eq {q n : Nat} {x : Int} (h : (q : Int) = if x.tmod n < 0 then x.tmod n + n else x.tmod n) : q = pickI x n := by
  unfold pickI
  split <;> rename_i h1
  · rw [if_pos h1] at h; omega
  · rw [if_neg h1] at h; omega
theorem D_PickF {G : Nat → Prop} {W w : World} {Rs : List HP} {x : Int} (hx : InR x) {n : Nat} (hn : 1 ≤ n ∧ n ≤ 281474976710656) (hS0 : Sep G W Rs w) : Ret Try.prog 17 [.int .i64 (x), .int .i64 ((n : Nat) : Int)] w (fun r w' => ∃ (q : Nat), r = (.int .i64 ((q : Nat) : Int) : Value) ∧ (q < n) ∧ (q = pickI x n) ∧ Sep G W Rs w') := by
 refine Calls_of_WP (args := [.int .i64 (x), .int .i64 ((n : Nat) : Int)]) Try.func17 rfl rfl ?_
 refine WP_seq ?_
 refine WP_region0 (by kernel_rfl) (fun _ => ?_)
 refine st (ov_assign (v := .int .i64 (0)) rfl ?_)
 refine st_nil ?_
 refine WP_seq ?_
 refine WP_seq ?_
 refine WP_region0 (by kernel_rfl) (fun _ => ?_)
 refine st (ov_move (v := .int .i64 ((n : Nat) : Int)) rfl ?_)
 refine st (ov_lss (k := .i64) (a := ((n : Nat) : Int)) (b := 1) rfl rfl ?_)
 refine st_nil ?_
 cases hc1 : decide (((n : Nat) : Int) < 1)
 ·skip
  have hc1 := of_decide_eq_false hc1
  refine WP_cond_f rfl ?_
  refine WP_skip ?_
  refine WP_seq ?_
  refine WP_region0 (by kernel_rfl) (fun _ => ?_)
  refine st (ov_move (v := .int .i64 (x)) rfl ?_)
  refine st (ov_move (v := .int .i64 ((n : Nat) : Int)) rfl ?_)
  have h03 : (0 : Int) < ((n : Nat) : Int) := by omega
  have hr4 := Int.tmod_lt_of_pos x h03; have hr5 := Int.lt_tmod_of_pos x h03
  obtain ⟨rm2, hr6⟩ : ∃ z, Int.tmod x ((n : Nat) : Int) = z := ⟨_, rfl⟩; rw [hr6] at hr4 hr5
  refine st (ov_rem (r := rm2) rfl rfl h03 hr6 ?_)
  refine st (ov_assign (v := .int .i64 (rm2)) rfl ?_)
  refine st_nil ?_
  refine WP_seq ?_
  refine WP_seq ?_
  refine WP_region0 (by kernel_rfl) (fun _ => ?_)
  refine st (ov_move (v := .int .i64 (rm2)) rfl ?_)
  refine st (ov_lss (k := .i64) (a := rm2) (b := 0) rfl rfl ?_)
  refine st_nil ?_
  cases hc7 : decide (rm2 < 0)
  ·skip
   have hc7 := of_decide_eq_false hc7
   refine WP_cond_f rfl ?_
   refine WP_skip ?_
   refine WP_seq ?_
   refine WP_region0 (by kernel_rfl) (fun _ => ?_)
   refine st (ov_move (v := .int .i64 (rm2)) rfl ?_)
   refine st (ov_assign (v := .int .i64 (rm2)) rfl ?_)
   refine st_nil ?_
   refine WP_ret ?_
   refine fin1 Try.results17 (show _ = (.int .i64 (rm2) : Value) from rfl) ?_
   refine ⟨(rm2).toNat, ?_, ?_, ?_, hS0⟩
   · rw [Int.toNat_of_nonneg (by omega)]
   · omega
   · refine pick_eq ?_
     first | (rw [if_pos (by omega)]; omega) | (rw [if_neg (by omega)]; omega)
  ·skip
   have hc7 := of_decide_eq_true hc7
   refine WP_cond_t rfl ?_
   refine WP_region0 (by kernel_rfl) (fun _ => ?_)
   refine st (ov_move (v := .int .i64 (rm2)) rfl ?_)
   refine st (ov_move (v := .int .i64 ((n : Nat) : Int)) rfl ?_)
   have hr8 : InR (rm2 + ((n : Nat) : Int)) := by omega
   refine st (ov_add (r := rm2 + ((n : Nat) : Int)) (k := .i64) (a := rm2) (b := ((n : Nat) : Int)) rfl rfl (wrap_in hr8) ?_)
   refine st (ov_assign (v := .int .i64 (rm2 + ((n : Nat) : Int))) rfl ?_)
   refine st_nil ?_
   refine WP_seq ?_
   refine WP_region0 (by kernel_rfl) (fun _ => ?_)
   refine st (ov_move (v := .int .i64 (rm2 + ((n : Nat) : Int))) rfl ?_)
   refine st (ov_assign (v := .int .i64 (rm2 + ((n : Nat) : Int))) rfl ?_)
   refine st_nil ?_
   refine WP_ret ?_
   refine fin1 Try.results17 (show _ = (.int .i64 (rm2 + ((n : Nat) : Int)) : Value) from rfl) ?_
   refine ⟨(rm2 + ((n : Nat) : Int)).toNat, ?_, ?_, ?_, hS0⟩
   · rw [Int.toNat_of_nonneg (by omega)]
   · omega
   · refine pick_eq ?_
     first | (rw [if_pos (by omega)]; omega) | (rw [if_neg (by omega)]; omega)
 ·skip
  have hc1 := of_decide_eq_true hc1
  refine WP_cond_t rfl ?_
  refine WP_seq ?_
  refine WP_region0 (by kernel_rfl) (fun _ => ?_)
  refine st (ov_assign (v := .int .i64 (0)) rfl ?_)
  refine st_nil ?_
  refine WP_ret ?_
  refine fin1 Try.results17 (show _ = (.int .i64 (0) : Value) from rfl) ?_
  refine ⟨0, ?_, ?_, ?_, hS0⟩
  · exfalso; omega
  · exfalso; omega
  · exfalso; omega

/-- A part of a set. -/
def Part (n : Nat) (S T : List Ev) : Prop := Good n T ∧ ∀ x ∈ T, x ∈ S
section
variable {n : Nat} {S T : List Ev} {e x : Ev} {i k f len : Nat}
theorem addL_keep (h : x ∈ T) : x ∈ addL n T e := by
  unfold addL
  split
  · exact insE_mem.2 (.inr h)
  · exact h
theorem Part.has (hG : Good n S) (h : Part n S T) (hk : k < S.length) (hK : ∀ x ∈ S.take k, x ∈ T) : S.getD k default ∈ addL n T (S.getD k default) := by
  by_cases hm : S.getD k default ∈ T
  · exact addL_keep hm
  · have h0 : addE n T (S.getD k default) = 0 := by
      refine hG.sub_add h.1 h.2 (getD_mem hk) hm (fun x hx hlt => ?_)
      obtain ⟨j, hj, rfl⟩ := List.getElem_of_mem hx
      rw [← getD_at default hj] at hlt ⊢
      rcases Nat.lt_trichotomy j k with h1 | h1 | h1
      · exact hK _ (take_mem h1 hj)
      · subst h1; rw [cmpE_neg] at hlt; omega
      · exact absurd (hG.at_lt h1 hj) (cmp_asym hlt)
    rw [addL_yes h0]
    exact insE_mem.2 (.inl rfl)
end
end Go.Proofs.Ytgjgmojjeehieaa
end

section
/- Steps of the proofs of this seat: part T1. -/
set_option linter.unusedSimpArgs false
set_option linter.unusedVariables false
set_option maxRecDepth 8000
set_option maxHeartbeats 4000000
namespace Go.Proofs.Ytgjgmojjeehieaa
open Go.Proofs Go.RowKit

def fl (a b : Bool) : Int := (if a then 1 else 0) + (if b then 2 else 0)
/-- Whether an entry of a is less than b's, up to m. -/
def anyL (a b : List Int) (m : Nat) : Bool := (List.range m).any fun i => decide (vget a (i : Int) < vget b (i : Int))
theorem anyL_succ {a b : List Int} {m : Nat} : anyL a b (m + 1) = (anyL a b m || decide (vget a (m : Int) < vget b (m : Int))) := by
  unfold anyL
  rw [List.range_succ, List.any_append]; simp
theorem fl_in {a b : Bool} : InR (fl a b) := by cases a <;> cases b <;> decide
theorem ov_or1 {P : Program} {d : Option Tmp} {ty : TypeId} {pos : String} {af : Array Edge} {g : Option (Nat × Bool)} {σ : Env} {w : World} {K : Value → World → Prop} {x : Operand} {t t2 : TypeId} {a b : Bool} (hx : ev σ x = .int .i64 (fl a b)) (h : K (.int .i64 (fl true b)) w) : opV P ⟨d, .binOp .or t x (.const (.int .i64 1)) t2, ty, pos, af, g⟩ σ w K := by
  have hc : ev σ (.const (.int .i64 1)) = .int .i64 1 := rfl
  refine ov_run (v := .int .i64 (fl true b)) (w' := w) ?_ h
  cases a <;> cases b <;> (simp [execOp, hx, hc, fl, go_sem]; try rfl)
theorem ov_or2 {P : Program} {d : Option Tmp} {ty : TypeId} {pos : String} {af : Array Edge} {g : Option (Nat × Bool)} {σ : Env} {w : World} {K : Value → World → Prop} {x : Operand} {t t2 : TypeId} {a b : Bool} (hx : ev σ x = .int .i64 (fl a b)) (h : K (.int .i64 (fl a true)) w) : opV P ⟨d, .binOp .or t x (.const (.int .i64 2)) t2, ty, pos, af, g⟩ σ w K := by
  have hc : ev σ (.const (.int .i64 2)) = .int .i64 2 := rfl
  refine ov_run (v := .int .i64 (fl a true)) (w' := w) ?_ h
  cases a <;> cases b <;> (simp [execOp, hx, hc, fl, go_sem]; try rfl)
theorem cmp_lt {a b : List Int} {k : Nat} (h : vget a (k : Int) < vget b (k : Int)) : fl true (anyL b a k) = fl (anyL a b (k + 1)) (anyL b a (k + 1)) := by
  rw [anyL_succ, anyL_succ, decide_eq_true h, decide_eq_false (show ¬ vget b (k : Int) < vget a (k : Int) by omega)]; simp
theorem cmp_gt {a b : List Int} {k : Nat} (h : vget b (k : Int) < vget a (k : Int)) : fl (anyL a b k) true = fl (anyL a b (k + 1)) (anyL b a (k + 1)) := by
  rw [anyL_succ, anyL_succ, decide_eq_true h, decide_eq_false (show ¬ vget a (k : Int) < vget b (k : Int) by omega)]; simp
theorem cmp_eq {a b : List Int} {k : Nat} (h1 : ¬ vget a (k : Int) < vget b (k : Int)) (h2 : ¬ vget b (k : Int) < vget a (k : Int)) : fl (anyL a b k) (anyL b a k) = fl (anyL a b (k + 1)) (anyL b a (k + 1)) := by
  rw [anyL_succ, anyL_succ, decide_eq_false h1, decide_eq_false h2]; simp
def cmpV (a b : List Int) : Int := fl (anyL a b (max a.length b.length)) (anyL b a (max a.length b.length))
theorem D_vcmp {G : Nat → Prop} {W w : World} {Rs : List HP} {va : Value} {a : List Int} (ha : RdS W G va a) {vb : Value} {b : List Int} (hb : RdS W G vb b) (hS0 : Sep G W Rs w) : Ret Try.prog 73 [va, vb] w (fun r w' => r = (.int .i64 ((cmpV a b)) : Value) ∧ (InR (cmpV a b)) ∧ Sep G W Rs w') := by
 have has : a.length * 8 ≤ 140737488355328 := ha.small
 have hbs : b.length * 8 ≤ 140737488355328 := hb.small
 refine Calls_of_WP (args := [va, vb]) Try.func73 rfl rfl ?_
 refine WP_seq ?_
 refine WP_region0 (by kernel_rfl) (fun _ => ?_)
 refine st (ov_assign (v := .int .i64 (0)) rfl ?_)
 refine st_nil ?_
 refine WP_seq ?_
 refine WP_region0 (by kernel_rfl) (fun _ => ?_)
 refine st (ov_assign (v := .int .i64 (0)) rfl ?_)
 refine st_nil ?_
 refine WP_seq ?_
 refine WP_seq ?_
 refine WP_region0 (by kernel_rfl) (fun _ => ?_)
 refine st (ov_move (v := va) rfl ?_)
 refine st (ov_len (n := a.length) Try.underlying34 rfl ha.sl ?_)
 refine st (ov_move (v := vb) rfl ?_)
 refine st (ov_len (n := b.length) Try.underlying34 rfl hb.sl ?_)
 refine st (ov_max (k := .i64) (a := ((a.length : Nat) : Int)) (b := ((b.length : Nat) : Int)) rfl rfl ?_)
 rw [show max ((a.length : Nat) : Int) ((b.length : Nat) : Int) = ((max a.length b.length : Nat) : Int) by omega]
 refine st (ov_move (v := .int .i64 (0)) rfl ?_)
 refine st_nil ?_
 refine WP_block ?_
 refine WP_loop (fun mq σ wq => ∃ (k : Nat) (ρ : Env), mq = max a.length b.length - k ∧ σ = setAll ρ [(0, va), (1, vb), (5, .int .i64 (fl (anyL a b k) (anyL b a k))), (13, .int .i64 (((max a.length b.length) : Nat) : Int)), (14, .int .i64 ((k : Nat) : Int))] ∧ (k ≤ max a.length b.length) ∧ Sep G W Rs wq) ⟨0, _, rfl, setAll_self ⟨rfl, rfl, rfl, rfl, rfl, trivial⟩, Nat.zero_le _, hS0⟩ ?_
 rintro m2 σ3 w1 ⟨k, ρl1, rfl, rfl, hk, hS4⟩
 refine WP_seq ?_
 refine WP_region0 (by kernel_rfl) (fun _ => ?_)
 refine st (ov_lss (k := .i64) (a := ((k : Nat) : Int)) (b := (((max a.length b.length) : Nat) : Int)) rfl rfl ?_)
 refine st_nil ?_
 refine WP_seq ?_
 cases hc5 : decide (((k : Nat) : Int) < (((max a.length b.length) : Nat) : Int))
 ·skip
  have hc5 := of_decide_eq_false hc5
  refine WP_cond_f rfl ?_
  refine WP_exit ?_
  refine blk_exit ?_
  refine WP_seq ?_
  refine WP_region0 (by kernel_rfl) (fun _ => ?_)
  refine st (ov_move (v := .int .i64 (fl (anyL a b k) (anyL b a k))) rfl ?_)
  refine st (ov_assign (v := .int .i64 (fl (anyL a b k) (anyL b a k))) rfl ?_)
  refine st_nil ?_
  refine WP_ret ?_
  refine fin1 Try.results73 (show _ = (.int .i64 (fl (anyL a b k) (anyL b a k)) : Value) from rfl) ?_
  refine ⟨?_, ?_, hS4⟩
  · rw [show k = max a.length b.length by omega]; rfl
  · exact fl_in
 ·skip
  have hc5 := of_decide_eq_true hc5
  refine WP_cond_t rfl ?_
  refine WP_skip ?_
  refine WP_seq ?_
  refine WP_block ?_
  refine WP_seq ?_
  refine WP_region0 (by kernel_rfl) (fun _ => ?_)
  refine st (ov_move (v := .int .i64 ((k : Nat) : Int)) rfl ?_)
  refine st (ov_assign (v := .int .i64 ((k : Nat) : Int)) rfl ?_)
  refine st_nil ?_
  refine WP_seq ?_
  refine WP_region0 (by kernel_rfl) (fun _ => ?_)
  refine st (ov_move (v := va) rfl ?_)
  refine st (ov_move (v := .int .i64 ((k : Nat) : Int)) rfl ?_)
  refine st (ov_call (f := 59) (vals := [va, .int .i64 ((k : Nat) : Int)]) (cap := []) (show _ = (.func (.func 59) #[] #[] : Value) from rfl) rfl Try.call59 (D_vget (v := a) (vv := va) (o := ((k : Nat) : Int)) ha (by omega) hS4) ?_)
  rintro _ w7 ⟨rfl, hg6, hS8⟩
  refine st (ov_move (v := vb) rfl ?_)
  refine st (ov_move (v := .int .i64 ((k : Nat) : Int)) rfl ?_)
  refine st (ov_call (f := 59) (vals := [vb, .int .i64 ((k : Nat) : Int)]) (cap := []) (show _ = (.func (.func 59) #[] #[] : Value) from rfl) rfl Try.call59 (D_vget (v := b) (vv := vb) (o := ((k : Nat) : Int)) hb (by omega) hS8) ?_)
  rintro _ w10 ⟨rfl, hg9, hS11⟩
  refine st (ov_assign (v := .int .i64 (vget a ((k : Nat) : Int))) rfl ?_)
  refine st (ov_assign (v := .int .i64 (vget b ((k : Nat) : Int))) rfl ?_)
  refine st_nil ?_
  refine WP_block ?_
  refine WP_seq ?_
  refine WP_region0 (by kernel_rfl) (fun _ => ?_)
  refine st (ov_move (v := .int .i64 (vget a ((k : Nat) : Int))) rfl ?_)
  refine st (ov_move (v := .int .i64 (vget b ((k : Nat) : Int))) rfl ?_)
  refine st (ov_lss (k := .i64) (a := vget a ((k : Nat) : Int)) (b := vget b ((k : Nat) : Int)) rfl rfl ?_)
  refine st (ov_assign (v := .bool (decide ((vget a ((k : Nat) : Int)) < (vget b ((k : Nat) : Int))))) rfl ?_)
  refine st_nil ?_
  cases hc12 : decide ((vget a ((k : Nat) : Int)) < (vget b ((k : Nat) : Int)))
  ·skip
   have hc12 := of_decide_eq_false hc12
   refine WP_cond_f rfl ?_
   refine WP_seq ?_
   refine WP_region0 (by kernel_rfl) (fun _ => ?_)
   refine st (ov_move (v := .int .i64 (vget a ((k : Nat) : Int))) rfl ?_)
   refine st (ov_move (v := .int .i64 (vget b ((k : Nat) : Int))) rfl ?_)
   refine st (ov_gtr (k := .i64) (a := vget a ((k : Nat) : Int)) (b := vget b ((k : Nat) : Int)) rfl rfl ?_)
   refine st (ov_assign (v := .bool (decide ((vget b ((k : Nat) : Int)) < (vget a ((k : Nat) : Int))))) rfl ?_)
   refine st_nil ?_
   cases hc13 : decide ((vget b ((k : Nat) : Int)) < (vget a ((k : Nat) : Int)))
   ·skip
    have hc13 := of_decide_eq_false hc13
    refine WP_cond_f rfl ?_
    refine WP_skip ?_
    refine WP_region0 (by kernel_rfl) (fun _ => ?_)
    have hr14 : InR ((k + 1 : Nat) : Int) := by first | omega | (simp only [lens]; omega)
    refine st (ov_add (r := ((k + 1 : Nat) : Int)) (k := .i64) (a := ((k : Nat) : Int)) (b := 1) rfl rfl (by rw [show (((k : Nat) : Int) + 1 : Int) = ((k + 1 : Nat) : Int) by first | omega | (simp only [lens]; omega)]; exact wrap_in hr14) ?_)
    refine st (ov_move (v := .int .i64 ((k + 1 : Nat) : Int)) rfl ?_)
    refine st_nil ?_
    exact ⟨_, by omega, k + 1, _, rfl, setAll_self ⟨rfl, rfl, (show _ = (.int .i64 (fl (anyL a b (k + 1)) (anyL b a (k + 1))) : Value) from congrArg _ (cmp_eq hc12 hc13)), rfl, rfl, trivial⟩, by omega, hS11⟩
   ·skip
    have hc13 := of_decide_eq_true hc13
    refine WP_cond_t rfl ?_
    refine WP_region0 (by kernel_rfl) (fun _ => ?_)
    refine st (ov_move (v := .int .i64 (fl (anyL a b k) (anyL b a k))) rfl ?_)
    refine st (ov_or2 (a := (anyL a b k)) (b := (anyL b a k)) rfl ?_)
    refine st (ov_assign (v := .int .i64 (fl (anyL a b k) true)) rfl ?_)
    refine st_nil ?_
    refine WP_region0 (by kernel_rfl) (fun _ => ?_)
    have hr15 : InR ((k + 1 : Nat) : Int) := by first | omega | (simp only [lens]; omega)
    refine st (ov_add (r := ((k + 1 : Nat) : Int)) (k := .i64) (a := ((k : Nat) : Int)) (b := 1) rfl rfl (by rw [show (((k : Nat) : Int) + 1 : Int) = ((k + 1 : Nat) : Int) by first | omega | (simp only [lens]; omega)]; exact wrap_in hr15) ?_)
    refine st (ov_move (v := .int .i64 ((k + 1 : Nat) : Int)) rfl ?_)
    refine st_nil ?_
    exact ⟨_, by omega, k + 1, _, rfl, setAll_self ⟨rfl, rfl, (show _ = (.int .i64 (fl (anyL a b (k + 1)) (anyL b a (k + 1))) : Value) from congrArg _ (cmp_gt hc13)), rfl, rfl, trivial⟩, by omega, hS11⟩
  ·skip
   have hc12 := of_decide_eq_true hc12
   refine WP_cond_t rfl ?_
   refine WP_region0 (by kernel_rfl) (fun _ => ?_)
   refine st (ov_move (v := .int .i64 (fl (anyL a b k) (anyL b a k))) rfl ?_)
   refine st (ov_or1 (a := (anyL a b k)) (b := (anyL b a k)) rfl ?_)
   refine st (ov_assign (v := .int .i64 (fl true (anyL b a k))) rfl ?_)
   refine st_nil ?_
   refine WP_region0 (by kernel_rfl) (fun _ => ?_)
   have hr16 : InR ((k + 1 : Nat) : Int) := by first | omega | (simp only [lens]; omega)
   refine st (ov_add (r := ((k + 1 : Nat) : Int)) (k := .i64) (a := ((k : Nat) : Int)) (b := 1) rfl rfl (by rw [show (((k : Nat) : Int) + 1 : Int) = ((k + 1 : Nat) : Int) by first | omega | (simp only [lens]; omega)]; exact wrap_in hr16) ?_)
   refine st (ov_move (v := .int .i64 ((k + 1 : Nat) : Int)) rfl ?_)
   refine st_nil ?_
   exact ⟨_, by omega, k + 1, _, rfl, setAll_self ⟨rfl, rfl, (show _ = (.int .i64 (fl (anyL a b (k + 1)) (anyL b a (k + 1))) : Value) from congrArg _ (cmp_lt hc12)), rfl, rfl, trivial⟩, by omega, hS11⟩

theorem D_Digest {G : Nat → Prop} {W w : World} {Rs : List HP} {b : Nat} {n : Nat} {L : List Ev} (hb : (SetO b n L).p W G) {fr : Int} (hfr : InR fr) {tt : Int} (htt : InR tt) (hS0 : Sep G W Rs w) : Ret Try.prog 46 [.pointer (some ⟨b, 0, none⟩), .int .i64 (fr), .int .i64 (tt)] w (fun r w' => ∃ (v : Value), r = (.agg ((⟨1, fr, tt, vecE n L, []⟩ : Msg).cells v (.slice none 0 0)).toArray : Value) ∧ ((⟨1, fr, tt, vecE n L, []⟩ : Msg).Ok) ∧ Sep G W ((RowE (α := Int) own 3 v (vecE n L)) :: Rs) w') := by
 refine Calls_of_WP (args := [.pointer (some ⟨b, 0, none⟩), .int .i64 (fr), .int .i64 (tt)]) Try.func46 rfl rfl ?_
 obtain ⟨vv1, m2, R3, hb4, hv5, hr6⟩ := SetO.sh hb
 have hsm7 : (vecE n L).length * 8 ≤ 140737488355328 := hv5.small
 refine WP_seq ?_
 refine WP_region0 (by kernel_rfl) (fun _ => ?_)
 refine st (ov_alloc Try.zeroValue57 ?_)
 intro w10 b9 hn8
 have hS11 : Sep G W ((Blk b9 #[.int .i64 (0), .int .i64 (0), .int .i64 (0), (.slice none 0 0), (.slice none 0 0)] 57) :: Rs) w10 := hS0.new hn8
 refine st_nil ?_
 refine WP_seq ?_
 refine WP_region0 (by kernel_rfl) (fun _ => ?_)
 refine st (ov_move (v := .int .i64 (fr)) rfl ?_)
 refine st (ov_move (v := .int .i64 (tt)) rfl ?_)
 refine st (ov_move (v := .pointer (some ⟨b, 0, none⟩)) rfl ?_)
 refine st (ov_call (f := 26) (vals := [.pointer (some ⟨b, 0, none⟩)]) (cap := []) (show _ = (.func (.func 26) #[] #[] : Value) from rfl) rfl Try.call26 (D_Vec  hb hS11) ?_)
 rintro v12 w13 ⟨_, rfl, hS14⟩
 have hr15 := hS14.row (i := 0) rfl
 have hr15s : (vecE n L).length * 8 ≤ 140737488355328 := hr15.2
 have ok16 : Msg.Ok (⟨1, fr, tt, vecE n L, []⟩ : Msg) := ⟨(show InR (1) from (by decide)), (show InR (fr) from hfr), (show InR (tt) from htt)⟩
 refine st (ov_build (parts' := [(0, .int .i64 (1)), (1, .int .i64 (fr)), (2, .int .i64 (tt)), (3, v12)]) (v := .agg ((⟨1, fr, tt, vecE n L, []⟩ : Msg).cells v12 (.slice none 0 0)).toArray) rfl (by obtain ⟨_, _, hv17, _⟩ := hr15.1; rw [show v12 = Value.slice _ _ _ from hv17]; simp [Instr.build, Instr.fill, go_sem, Msg.cells]) ?_)
 refine stn (ov_store (v := .agg ((⟨1, fr, tt, vecE n L, []⟩ : Msg).cells v12 (.slice none 0 0)).toArray) (c' := ((⟨1, fr, tt, vecE n L, []⟩ : Msg).cells v12 (.slice none 0 0)).toArray) Try.sizeOf57 rfl rfl (hS14.blk (i := 1) rfl) (all1 ⟨rfl, rfl, rfl, hr15.1.one, rfl, trivial⟩) (Nat.le_of_ble_eq_true rfl) rfl ?_)
 intro w18 hp19
 have hS20 : Sep G W ((RowE (α := Int) own 3 v12 (vecE n L)) :: (Blk b9 ((⟨1, fr, tt, vecE n L, []⟩ : Msg).cells v12 (.slice none 0 0)).toArray 57) :: Rs) w18 := hS14.put (i := 1) rfl hp19
 refine st_nil ?_
 refine WP_ret ?_
 refine finc (b := b9) Try.results46 Try.isAgg57 Try.sizeOf57 rfl rfl (CellsAt.all (hS20.blk (i := 1) rfl)) ?_
 have hS21 : Sep G W ((RowE (α := Int) own 3 v12 (vecE n L)) :: Rs) w18 := hS20.sel 2 [0] (Nat.le_add_left _ _) rfl rfl
 refine ⟨v12, rfl, ?_, hS21⟩
 assumption

theorem D_Ack {G : Nat → Prop} {W w : World} {Rs : List HP} {b : Nat} {n : Nat} {L : List Ev} (hb : (SetO b n L).p W G) {fr : Int} (hfr : InR fr) {tt : Int} (htt : InR tt) (hS0 : Sep G W Rs w) : Ret Try.prog 47 [.pointer (some ⟨b, 0, none⟩), .int .i64 (fr), .int .i64 (tt)] w (fun r w' => ∃ (v : Value), r = (.agg ((⟨4, fr, tt, vecE n L, []⟩ : Msg).cells v (.slice none 0 0)).toArray : Value) ∧ ((⟨4, fr, tt, vecE n L, []⟩ : Msg).Ok) ∧ Sep G W ((RowE (α := Int) own 3 v (vecE n L)) :: Rs) w') := by
 refine Calls_of_WP (args := [.pointer (some ⟨b, 0, none⟩), .int .i64 (fr), .int .i64 (tt)]) Try.func47 rfl rfl ?_
 obtain ⟨vv1, m2, R3, hb4, hv5, hr6⟩ := SetO.sh hb
 have hsm7 : (vecE n L).length * 8 ≤ 140737488355328 := hv5.small
 refine WP_seq ?_
 refine WP_region0 (by kernel_rfl) (fun _ => ?_)
 refine st (ov_alloc Try.zeroValue57 ?_)
 intro w10 b9 hn8
 have hS11 : Sep G W ((Blk b9 #[.int .i64 (0), .int .i64 (0), .int .i64 (0), (.slice none 0 0), (.slice none 0 0)] 57) :: Rs) w10 := hS0.new hn8
 refine st_nil ?_
 refine WP_seq ?_
 refine WP_region0 (by kernel_rfl) (fun _ => ?_)
 refine st (ov_move (v := .int .i64 (fr)) rfl ?_)
 refine st (ov_move (v := .int .i64 (tt)) rfl ?_)
 refine st (ov_move (v := .pointer (some ⟨b, 0, none⟩)) rfl ?_)
 refine st (ov_call (f := 26) (vals := [.pointer (some ⟨b, 0, none⟩)]) (cap := []) (show _ = (.func (.func 26) #[] #[] : Value) from rfl) rfl Try.call26 (D_Vec  hb hS11) ?_)
 rintro v12 w13 ⟨_, rfl, hS14⟩
 have hr15 := hS14.row (i := 0) rfl
 have hr15s : (vecE n L).length * 8 ≤ 140737488355328 := hr15.2
 have ok16 : Msg.Ok (⟨4, fr, tt, vecE n L, []⟩ : Msg) := ⟨(show InR (4) from (by decide)), (show InR (fr) from hfr), (show InR (tt) from htt)⟩
 refine st (ov_build (parts' := [(0, .int .i64 (4)), (1, .int .i64 (fr)), (2, .int .i64 (tt)), (3, v12)]) (v := .agg ((⟨4, fr, tt, vecE n L, []⟩ : Msg).cells v12 (.slice none 0 0)).toArray) rfl (by obtain ⟨_, _, hv17, _⟩ := hr15.1; rw [show v12 = Value.slice _ _ _ from hv17]; simp [Instr.build, Instr.fill, go_sem, Msg.cells]) ?_)
 refine stn (ov_store (v := .agg ((⟨4, fr, tt, vecE n L, []⟩ : Msg).cells v12 (.slice none 0 0)).toArray) (c' := ((⟨4, fr, tt, vecE n L, []⟩ : Msg).cells v12 (.slice none 0 0)).toArray) Try.sizeOf57 rfl rfl (hS14.blk (i := 1) rfl) (all1 ⟨rfl, rfl, rfl, hr15.1.one, rfl, trivial⟩) (Nat.le_of_ble_eq_true rfl) rfl ?_)
 intro w18 hp19
 have hS20 : Sep G W ((RowE (α := Int) own 3 v12 (vecE n L)) :: (Blk b9 ((⟨4, fr, tt, vecE n L, []⟩ : Msg).cells v12 (.slice none 0 0)).toArray 57) :: Rs) w18 := hS14.put (i := 1) rfl hp19
 refine st_nil ?_
 refine WP_ret ?_
 refine finc (b := b9) Try.results47 Try.isAgg57 Try.sizeOf57 rfl rfl (CellsAt.all (hS20.blk (i := 1) rfl)) ?_
 have hS21 : Sep G W ((RowE (α := Int) own 3 v12 (vecE n L)) :: Rs) w18 := hS20.sel 2 [0] (Nat.le_add_left _ _) rfl rfl
 refine ⟨v12, rfl, ?_, hS21⟩
 assumption

end Go.Proofs.Ytgjgmojjeehieaa
end

section
/- Steps of the proofs of this seat: part T2. -/
set_option linter.unusedSimpArgs false
set_option linter.unusedVariables false
set_option maxRecDepth 8000
set_option maxHeartbeats 4000000
namespace Go.Proofs.Ytgjgmojjeehieaa
open Go.Proofs Go.RowKit

def toM (f t : Int) (m : Msg) : Msg := { m with frm := f, dst := t }
def toK (f t : Int) (k : Nat) (l : List Msg) : List Msg := (l.take k).map (toM f t) ++ l.drop k
def toL (f t : Int) (l : List Msg) : List Msg := l.map (toM f t)
theorem toK_len {f t : Int} {k : Nat} {l : List Msg} : (toK f t k l).length = l.length := by unfold toK; simp; omega
theorem toK_end {f t : Int} {k : Nat} {l : List Msg} (h : k = l.length) : toK f t k l = toL f t l := by subst h; unfold toK toL; simp
theorem toK_at {f t : Int} {k : Nat} {l : List Msg} (h : k < l.length) : (toK f t k l).getD k default = l.getD k default := by
  rw [getD_at _ (by rw [toK_len]; exact h), getD_at _ h]
  unfold toK
  rw [List.getElem_append_right (by simp; omega)]
  simp only [List.length_map, List.length_take, List.getElem_drop]
  congr 1; omega
theorem toK_set {f t : Int} {k : Nat} {l : List Msg} (h : k < l.length) {x : Msg} (hx : x = toM f t (l.getD k default)) : (toK f t k l).set k x = toK f t (k + 1) l := by
  subst hx
  unfold toK
  rw [List.take_succ_eq_append_getElem h, List.map_append, List.append_assoc, List.set_append_right _ _ (by simp only [List.length_map, List.length_take]; omega), List.drop_eq_getElem_cons h]
  simp only [List.length_map, List.length_take, List.map_cons, List.map_nil, List.singleton_append]
  rw [show k - min k l.length = 0 by omega, List.set_cons_zero, getD_at _ h]
theorem to_step {f t : Int} {k : Nat} {l : List Msg} (h : k < l.length) :
    (((toK f t k l).set k { (toK f t k l).getD k default with frm := f }).set k { ((toK f t k l).set k { (toK f t k l).getD k default with frm := f }).getD k default with dst := t }) = toK f t (k + 1) l := by
  rw [List.set_set]
  refine toK_set h ?_
  rw [getD_at _ (by rw [List.length_set, toK_len]; exact h), List.getElem_set_self, toK_at h]; rfl
def chunkL (L : List Ev) (m : Msg) (c : Int) : List Ev := missL L m.vec (max 1 (min c 32))
def askQ (n : Nat) (L : List Ev) (m : Msg) : Bool := decide (m.kind = 1) && (decide (cmpV m.vec (vecE n L) = 2) || decide (cmpV m.vec (vecE n L) = 3))
def outL (n : Nat) (L : List Ev) (m : Msg) (c : Int) : List Msg := (if 0 < (chunkL L m c).length then [⟨3, 0, 0, [], chunkL L m c⟩] else []) ++ (if askQ n L m = true then [⟨2, 0, 0, vecE n L, []⟩] else [])
def ansL (n : Nat) (L : List Ev) (self : Int) (m : Msg) (c : Int) : List Msg :=
  if ((!decide (m.kind = 1)) && (!decide (m.kind = 2))) = true then [] else toL self m.frm (if (outL n L m c).length = 0 then [⟨4, self, m.frm, vecE n L, []⟩] else outL n L m c)
theorem fd57_1 {d : Option Tmp} {ty : TypeId} {pos : String} {af : Array Edge} {g : Option (Nat × Bool)} {σ : Env} {w : World} {K : Value → World → Prop} {x : Operand} {b o : Nat} (hx : ev σ x = .pointer (some ⟨b, o, none⟩)) (h : K (.pointer (some ⟨b, o + 1, none⟩)) w) : opV Try.prog ⟨d, .fieldAddr 57 x 1, ty, pos, af, g⟩ σ w K := ov_fieldAddr Try.underlying57 rfl rfl (fun w => ⟨0, Try.sizeOf3 w⟩) hx h
theorem fd57_2 {d : Option Tmp} {ty : TypeId} {pos : String} {af : Array Edge} {g : Option (Nat × Bool)} {σ : Env} {w : World} {K : Value → World → Prop} {x : Operand} {b o : Nat} (hx : ev σ x = .pointer (some ⟨b, o, none⟩)) (h : K (.pointer (some ⟨b, o + 2, none⟩)) w) : opV Try.prog ⟨d, .fieldAddr 57 x 2, ty, pos, af, g⟩ σ w K := ov_fieldAddr Try.underlying57 rfl rfl (fun w => ⟨0, Try.sizeOf3 w⟩) hx h
theorem D_to {G : Nat → Prop} {W w : World} {Rs : List HP} {f : Int} (hf : InR f) {t : Int} (ht : InR t) {vl : Value} {l : List Msg} (hS0 : Sep G W ((RowE (α := Msg) own 57 vl l) :: Rs) w) : Ret Try.prog 74 [.int .i64 (f), .int .i64 (t), vl] w (fun r w' => ∃ (v : Value), r = (v : Value) ∧ Sep G W ((RowE (α := Msg) own 57 v (toL f t l)) :: Rs) w') := by
 refine Calls_of_WP (args := [.int .i64 (f), .int .i64 (t), vl]) Try.func74 rfl rfl ?_
 have hr1 := hS0.row (i := 0) rfl
 have hr1s : l.length * 72 ≤ 140737488355328 := hr1.2
 refine WP_seq ?_
 refine WP_region0 (by kernel_rfl) (fun _ => ?_)
 refine st (ov_assign (v := (.slice none 0 0)) rfl ?_)
 refine st_nil ?_
 refine WP_seq ?_
 refine WP_seq ?_
 refine WP_region0 (by kernel_rfl) (fun _ => ?_)
 refine st (ov_move (v := vl) rfl ?_)
 refine st (ov_len (n := l.length) Try.underlying58 rfl hr1.1 ?_)
 refine st (ov_move (v := .int .i64 (0)) rfl ?_)
 refine st_nil ?_
 refine WP_block ?_
 refine WP_loop (fun mq σ wq => ∃ (k : Nat) (ρ : Env), mq = l.length - k ∧ σ = setAll ρ [(0, .int .i64 (f)), (1, .int .i64 (t)), (2, vl), (9, .int .i64 ((l.length : Nat) : Int)), (10, .int .i64 ((k : Nat) : Int))] ∧ (k ≤ l.length) ∧ Sep G W ((RowE (α := Msg) own 57 vl (toK f t k l)) :: Rs) wq) ⟨0, _, rfl, setAll_self ⟨rfl, rfl, rfl, rfl, rfl, trivial⟩, Nat.zero_le _, hS0⟩ ?_
 rintro m3 σ4 w2 ⟨k, ρl1, rfl, rfl, hk, hS5⟩
 have hr6 := hS5.row (i := 0) rfl
 have hr6s : (toK f t k l).length * 72 ≤ 140737488355328 := hr6.2
 have hln9 : (toK f t k l).length = l.length := toK_len
 refine WP_seq ?_
 refine WP_region0 (by kernel_rfl) (fun _ => ?_)
 refine st (ov_lss (k := .i64) (a := ((k : Nat) : Int)) (b := ((l.length : Nat) : Int)) rfl rfl ?_)
 refine st_nil ?_
 refine WP_seq ?_
 cases hc7 : decide (((k : Nat) : Int) < ((l.length : Nat) : Int))
 ·skip
  have hc7 := of_decide_eq_false hc7
  refine WP_cond_f rfl ?_
  refine WP_exit ?_
  refine blk_exit ?_
  refine WP_seq ?_
  refine WP_region0 (by kernel_rfl) (fun _ => ?_)
  refine st (ov_move (v := vl) rfl ?_)
  refine st (ov_assign (v := vl) rfl ?_)
  refine st_nil ?_
  refine WP_ret ?_
  refine fin1 Try.results74 (show _ = (vl : Value) from rfl) ?_
  rw [toK_end (by omega)] at hS5
  refine ⟨vl, rfl, hS5⟩
 ·skip
  have hc7 := of_decide_eq_true hc7
  refine WP_cond_t rfl ?_
  refine WP_skip ?_
  refine WP_seq ?_
  refine WP_block ?_
  refine WP_seq ?_
  refine WP_region0 (by kernel_rfl) (fun _ => ?_)
  refine st (ov_move (v := .int .i64 ((k : Nat) : Int)) rfl ?_)
  refine st (ov_assign (v := .int .i64 ((k : Nat) : Int)) rfl ?_)
  refine st_nil ?_
  refine WP_region0 (by kernel_rfl) (fun _ => ?_)
  refine st (ov_move (v := vl) rfl ?_)
  refine st (ov_move (v := .int .i64 ((k : Nat) : Int)) rfl ?_)
  refine st (ov_move (v := vl) rfl ?_)
  refine st (ov_move (v := .int .i64 ((k : Nat) : Int)) rfl ?_)
  refine st (ov_move (v := .int .i64 (f)) rfl ?_)
  refine st (ov_move (v := .int .i64 (t)) rfl ?_)
  have hi8 : k < (toK f t k l).length := (by first | omega | (simp only [lens]; omega))
  refine st (ov_indexAddrN (k := 5) (i := k) Try.underlying58 Try.sizeOf57 rfl hr6.1 rfl hi8 ?_)
  refine st (fd57_1 rfl ?_)
  have hS10 : Sep G W ((RowE (α := Msg) own 57 vl (toK f t k l)) :: Emp :: Rs) w2 := hS5.emp1
  refine stn (ov_storeS (α := Msg) (j := k) (o := 1) (u := .int .i64 (f)) (us := [.int .i64 (f)]) (x1 := ({ ((toK f t k l).getD k default) with frm := f } : Msg)) hS10 Try.sizeOf3 (by first | omega | (simp only [lens]; omega)) rfl rfl rfl (Nat.le_of_ble_eq_true rfl) (all1 ⟨rfl, trivial⟩) (fun _ _ _ hel _ => (by rw [← getD_at default (by omega)] at hel; obtain ⟨d0, d1, rfl, h0, h1, hok⟩ := hel; exact ⟨_, _, rfl, h0, h1, ⟨hok.kind, (show InR (f) from hf), hok.dst⟩⟩)) ?_)
  intro w9 hS11
  have hr12 := hS11.row (i := 0) rfl
  have hr12s : ((toK f t k l).set k ({ ((toK f t k l).getD k default) with frm := f } : Msg)).length * 72 ≤ 140737488355328 := hr12.2
  have hi13 : k < ((toK f t k l).set k ({ ((toK f t k l).getD k default) with frm := f } : Msg)).length := (by first | omega | (simp only [lens]; omega))
  refine st (ov_indexAddrN (k := 5) (i := k) Try.underlying58 Try.sizeOf57 rfl hr12.1 rfl hi13 ?_)
  refine st (fd57_2 rfl ?_)
  have hS15 : Sep G W ((RowE (α := Msg) own 57 vl ((toK f t k l).set k ({ ((toK f t k l).getD k default) with frm := f } : Msg))) :: Emp :: Rs) w9 := hS11.emp1
  refine stn (ov_storeS (α := Msg) (j := k) (o := 2) (u := .int .i64 (t)) (us := [.int .i64 (t)]) (x1 := ({ (((toK f t k l).set k ({ ((toK f t k l).getD k default) with frm := f } : Msg)).getD k default) with dst := t } : Msg)) hS15 Try.sizeOf3 (by first | omega | (simp only [lens]; omega)) rfl rfl rfl (Nat.le_of_ble_eq_true rfl) (all1 ⟨rfl, trivial⟩) (fun _ _ _ hel _ => (by rw [← getD_at default (by omega)] at hel; obtain ⟨d0, d1, rfl, h0, h1, hok⟩ := hel; exact ⟨_, _, rfl, h0, h1, ⟨hok.kind, hok.frm, (show InR (t) from ht)⟩⟩)) ?_)
  intro w14 hS16
  have hr17 := hS16.row (i := 0) rfl
  have hr17s : (((toK f t k l).set k ({ ((toK f t k l).getD k default) with frm := f } : Msg)).set k ({ (((toK f t k l).set k ({ ((toK f t k l).getD k default) with frm := f } : Msg)).getD k default) with dst := t } : Msg)).length * 72 ≤ 140737488355328 := hr17.2
  refine st_nil ?_
  refine WP_region0 (by kernel_rfl) (fun _ => ?_)
  have hr18 : InR ((k + 1 : Nat) : Int) := by first | omega | (simp only [lens]; omega)
  refine st (ov_add (r := ((k + 1 : Nat) : Int)) (k := .i64) (a := ((k : Nat) : Int)) (b := 1) rfl rfl (by rw [show (((k : Nat) : Int) + 1 : Int) = ((k + 1 : Nat) : Int) by first | omega | (simp only [lens]; omega)]; exact wrap_in hr18) ?_)
  refine st (ov_move (v := .int .i64 ((k + 1 : Nat) : Int)) rfl ?_)
  refine st_nil ?_
  rw [to_step (by omega)] at hS16
  exact ⟨_, by omega, k + 1, _, rfl, setAll_self ⟨rfl, rfl, rfl, rfl, rfl, trivial⟩, by omega, hS16⟩

section
variable {n : Nat} {L : List Ev} {self : Int} {m : Msg} {c : Int}
theorem ans_0 (hk : ((!decide (m.kind = 1)) && (!decide (m.kind = 2))) = true) : ([] : List Msg) = ansL n L self m c := by unfold ansL; rw [if_pos hk]
theorem chunk_0 (hc : ¬ (0 : Int) < (((missL L m.vec (max 1 (min c 32))).length : Nat) : Int)) : ¬ 0 < (chunkL L m c).length := by unfold chunkL; omega
theorem chunk_1 (hc : (0 : Int) < (((missL L m.vec (max 1 (min c 32))).length : Nat) : Int)) : 0 < (chunkL L m c).length := by unfold chunkL; omega
theorem ansL_k (hk : ((!decide (m.kind = 1)) && (!decide (m.kind = 2))) = false) : ansL n L self m c = toL self m.frm (if (outL n L m c).length = 0 then [⟨4, self, m.frm, vecE n L, []⟩] else outL n L m c) := by
  unfold ansL; rw [if_neg (by rw [hk]; decide)]
theorem ans_1 (hk : ((!decide (m.kind = 1)) && (!decide (m.kind = 2))) = false) (hc : ¬ (0 : Int) < (((missL L m.vec (max 1 (min c 32))).length : Nat) : Int)) (ha : askQ n L m = false) : toL self m.frm [⟨4, self, m.frm, vecE n L, []⟩] = ansL n L self m c := by
  have o : outL n L m c = [] := by unfold outL; rw [if_neg (chunk_0 hc), ha]; rfl
  rw [ansL_k hk, o]; rfl
theorem ans_2 (hk : ((!decide (m.kind = 1)) && (!decide (m.kind = 2))) = false) (hc : ¬ (0 : Int) < (((missL L m.vec (max 1 (min c 32))).length : Nat) : Int)) (ha : askQ n L m = true) : toL self m.frm [⟨2, 0, 0, vecE n L, []⟩] = ansL n L self m c := by
  have o : outL n L m c = [⟨2, 0, 0, vecE n L, []⟩] := by unfold outL; rw [if_neg (chunk_0 hc), ha]; rfl
  rw [ansL_k hk, o]; rfl
theorem ans_3 (hk : ((!decide (m.kind = 1)) && (!decide (m.kind = 2))) = false) (hc : (0 : Int) < (((missL L m.vec (max 1 (min c 32))).length : Nat) : Int)) (ha : askQ n L m = false) : toL self m.frm [⟨3, 0, 0, [], missL L m.vec (max 1 (min c 32))⟩] = ansL n L self m c := by
  have o : outL n L m c = [⟨3, 0, 0, [], missL L m.vec (max 1 (min c 32))⟩] := by unfold outL; rw [if_pos (chunk_1 hc), ha]; rfl
  rw [ansL_k hk, o]; rfl
theorem ans_4 (hk : ((!decide (m.kind = 1)) && (!decide (m.kind = 2))) = false) (hc : (0 : Int) < (((missL L m.vec (max 1 (min c 32))).length : Nat) : Int)) (ha : askQ n L m = true) : toL self m.frm ([⟨3, 0, 0, [], missL L m.vec (max 1 (min c 32))⟩] ++ [⟨2, 0, 0, vecE n L, []⟩]) = ansL n L self m c := by
  have o : outL n L m c = [⟨3, 0, 0, [], missL L m.vec (max 1 (min c 32))⟩] ++ [⟨2, 0, 0, vecE n L, []⟩] := by unfold outL; rw [if_pos (chunk_1 hc), ha]; rfl
  rw [ansL_k hk, o]; rfl
end
theorem fd57_0 {d : Option Tmp} {ty : TypeId} {pos : String} {af : Array Edge} {g : Option (Nat × Bool)} {σ : Env} {w : World} {K : Value → World → Prop} {x : Operand} {b o : Nat} (hx : ev σ x = .pointer (some ⟨b, o, none⟩)) (h : K (.pointer (some ⟨b, o + 0, none⟩)) w) : opV Try.prog ⟨d, .fieldAddr 57 x 0, ty, pos, af, g⟩ σ w K := ov_fieldAddr Try.underlying57 rfl rfl (fun w => ⟨0, Try.sizeOf3 w⟩) hx h
theorem fd57_3 {d : Option Tmp} {ty : TypeId} {pos : String} {af : Array Edge} {g : Option (Nat × Bool)} {σ : Env} {w : World} {K : Value → World → Prop} {x : Operand} {b o : Nat} (hx : ev σ x = .pointer (some ⟨b, o, none⟩)) (h : K (.pointer (some ⟨b, o + 3, none⟩)) w) : opV Try.prog ⟨d, .fieldAddr 57 x 3, ty, pos, af, g⟩ σ w K := ov_fieldAddr Try.underlying57 rfl rfl (fun w => ⟨0, Try.sizeOf34 w⟩) hx h
theorem el58 : Elem Try.prog 58 57 5 72 := ⟨Try.underlying58, _, _, rfl, rfl, rfl, rfl, rfl⟩
theorem D_Answer {G : Nat → Prop} {W w : World} {Rs : List HP} {b : Nat} {n : Nat} {L : List Ev} (hb : (SetO b n L).p W G) {self : Int} (hself : InR self) {m : Msg} {dm0 : Value} (hdm0 : RdS W G dm0 m.vec) {dm1 : Value} (hdm1 : RdS W G dm1 m.evs) (om : m.Ok) {chunk : Int} (hchunk : InR chunk) (hS0 : Sep G W Rs w) (hid : (L.map idE).Nodup) (hsr : Srt L) (hL : L.length ≤ 1000000) : Ret Try.prog 41 [.pointer (some ⟨b, 0, none⟩), .int .i64 (self), .agg (m.cells dm0 dm1).toArray, .int .i64 (chunk)] w (fun r w' => ∃ (v : Value), r = (v : Value) ∧ Sep G W ((RowE (α := Msg) own 57 v (ansL n L self m chunk)) :: Rs) w') := by
 have hdm0s : m.vec.length * 8 ≤ 140737488355328 := hdm0.small
 have hdm1s : m.evs.length * 96 ≤ 140737488355328 := hdm1.small
 refine Calls_of_WP (args := [.pointer (some ⟨b, 0, none⟩), .int .i64 (self), .agg (m.cells dm0 dm1).toArray, .int .i64 (chunk)]) Try.func41 rfl rfl ?_
 obtain ⟨vv1, m2, R3, hb4, hv5, hr6⟩ := SetO.sh hb
 have hsm7 : (vecE n L).length * 8 ≤ 140737488355328 := hv5.small
 refine WP_seq ?_
 refine WP_region0 (by kernel_rfl) (fun _ => ?_)
 refine st (ov_box (v := .agg (m.cells dm0 dm1).toArray) rfl ?_)
 intro w10 b9 hn8
 have hS11 : Sep G W ((Blk b9 (m.cells dm0 dm1).toArray 57) :: Rs) w10 := hS0.new hn8
 refine st (ov_assign (v := (.slice none 0 0)) rfl ?_)
 refine st_nil ?_
 refine WP_seq ?_
 refine WP_seq ?_
 refine WP_region (by kernel_rfl) ?_
 refine st (fd57_0 rfl ?_)
 refine st (ov_load1 (v := .int .i64 (m.kind)) Try.isAgg3 rfl (blk_cellL (hS11.blk (i := 0) rfl) rfl) ?_)
 refine st (ov_neq (k := .i64) (a := m.kind) (b := 1) rfl rfl ?_)
 refine st (ov_move (v := .bool (!decide (m.kind = 1))) rfl ?_)
 refine stc (V := .pointer (some ⟨b9, 0, none⟩)) rfl rfl (fun hb12 => ?_) ?_
 ·have hl13 := hb12
  have hl13 := ndec_true hl13
  exact fd57_0 rfl ⟨rfl, rfl⟩
 refine stc (V := .int .i64 (m.kind)) rfl rfl (fun hb14 => ?_) ?_
 ·have hl15 := hb14
  have hl15 := ndec_true hl15
  exact ov_load1 (v := .int .i64 (m.kind)) Try.isAgg3 (show _ = (.pointer (some ⟨b9, 0, none⟩) : Value) from (if_pos hb14)) (blk_cellL (hS11.blk (i := 0) rfl) rfl) ⟨rfl, rfl⟩
 refine stc (V := .bool (!decide (m.kind = 2))) rfl rfl (fun hb16 => ?_) ?_
 ·have hl17 := hb16
  have hl17 := ndec_true hl17
  exact ov_neq (k := .i64) (a := m.kind) (b := 2) (show _ = (.int .i64 (m.kind) : Value) from (if_pos hb16)) rfl ⟨rfl, rfl⟩
 refine st (ov_pick_and (b := !decide (m.kind = 1)) (b' := !decide (m.kind = 2)) rfl (fun hbp => (show _ = (.bool (!decide (m.kind = 2)) : Value) from (if_pos hbp))) ?_)
 refine st_nil ?_
 cases hc18 : (!decide (m.kind = 1)) && (!decide (m.kind = 2))
 ·skip
  have hc18r := hc18
  try simp only [bools] at hc18
  refine WP_cond_f rfl ?_
  refine WP_skip ?_
  refine WP_seq ?_
  refine WP_region0 (by kernel_rfl) (fun _ => ?_)
  refine st (ov_assign (v := (.slice none 0 0)) rfl ?_)
  refine st_nil ?_
  refine WP_seq ?_
  refine WP_seq ?_
  refine WP_region0 (by kernel_rfl) (fun _ => ?_)
  refine st (ov_move (v := .pointer (some ⟨b, 0, none⟩)) rfl ?_)
  refine st (fd57_3 rfl ?_)
  refine st (ov_load1 (v := dm0) Try.isAgg34 rfl (blk_cellL (hS11.blk (i := 0) rfl) rfl) ?_)
  refine st (ov_move (v := .int .i64 (chunk)) rfl ?_)
  refine st (ov_min (k := .i64) (a := chunk) (b := 32) rfl rfl ?_)
  refine st (ov_max (k := .i64) (a := 1) (b := min chunk 32) rfl rfl ?_)
  refine st (ov_call (f := 25) (vals := [.pointer (some ⟨b, 0, none⟩), dm0, .int .i64 (max 1 (min chunk 32))]) (cap := []) (show _ = (.func (.func 25) #[] #[] : Value) from rfl) rfl Try.call25 (D_Missing (l := m.vec) (vl := dm0) (most := max 1 (min chunk 32)) hb hdm0 (by have h1 : InR 1 := (by decide); have h2 : InR (min chunk 32) := (by have h1 : InR chunk := hchunk; have h2 : InR 32 := (by decide); omega); omega) hS11 (hid) (hsr) (hL)) ?_)
  rintro v19 w20 ⟨_, rfl, hS21⟩
  have hr22 := hS21.row (i := 0) rfl
  have hr22s : (missL L m.vec (max 1 (min chunk 32))).length * 96 ≤ 140737488355328 := hr22.2
  refine st (ov_assign (v := v19) rfl ?_)
  refine st_nil ?_
  refine WP_seq ?_
  refine WP_region0 (by kernel_rfl) (fun _ => ?_)
  refine st (ov_move (v := v19) rfl ?_)
  refine st (ov_len (n := (missL L m.vec (max 1 (min chunk 32))).length) Try.underlying22 rfl hr22.1 ?_)
  refine st (ov_gtr (k := .i64) (a := (((missL L m.vec (max 1 (min chunk 32))).length : Nat) : Int)) (b := 0) rfl rfl ?_)
  refine st_nil ?_
  cases hc23 : decide (0 < (((missL L m.vec (max 1 (min chunk 32))).length : Nat) : Int))
  ·skip
   have hc23r := hc23
   have hc23 := of_decide_eq_false hc23
   refine WP_cond_f rfl ?_
   refine WP_skip ?_
   refine WP_seq ?_
   refine WP_region0 (by kernel_rfl) (fun _ => ?_)
   refine st (ov_move (v := .pointer (some ⟨b, 0, none⟩)) rfl ?_)
   refine st (ov_call (f := 26) (vals := [.pointer (some ⟨b, 0, none⟩)]) (cap := []) (show _ = (.func (.func 26) #[] #[] : Value) from rfl) rfl Try.call26 (D_Vec  hb hS21) ?_)
   rintro v24 w25 ⟨_, rfl, hS26⟩
   have hr27 := hS26.row (i := 0) rfl
   have hr27s : (vecE n L).length * 8 ≤ 140737488355328 := hr27.2
   refine st (ov_assign (v := v24) rfl ?_)
   refine st_nil ?_
   refine WP_seq ?_
   refine WP_seq ?_
   refine WP_region0 (by kernel_rfl) (fun _ => ?_)
   refine st (fd57_3 rfl ?_)
   refine st (ov_load1 (v := dm0) Try.isAgg34 rfl (blk_cellL (hS26.blk (i := 2) rfl) rfl) ?_)
   refine st (ov_move (v := v24) rfl ?_)
   obtain ⟨G28, hA30, hB31, hS32, hk33⟩ := hS26.lend
   have hrd34 := RowE.rd hA30
   have hrd34s : (vecE n L).length * 8 ≤ 140737488355328 := hrd34.small
   refine st (ov_call (f := 73) (vals := [dm0, v24]) (cap := []) (show _ = (.func (.func 73) #[] #[] : Value) from rfl) rfl Try.call73 (D_vcmp (a := m.vec) (va := dm0) (b := vecE n L) (vb := v24) (RdS.base hdm0 hB31) hrd34 hS32) ?_)
   rintro _ w36 ⟨rfl, hin35, hS37⟩
   have hS38 : Sep G W ((RowE (α := Int) own 3 v24 (vecE n L)) :: (RowE (α := Ev) own 36 v19 (missL L m.vec (max 1 (min chunk 32)))) :: (Blk b9 (m.cells dm0 dm1).toArray 57) :: Rs) w36 := hk33 _ _ hS37
   refine st (ov_assign (v := .int .i64 ((cmpV m.vec (vecE n L)))) rfl ?_)
   refine st_nil ?_
   refine WP_seq ?_
   refine WP_region (by kernel_rfl) ?_
   refine st (fd57_0 rfl ?_)
   refine st (ov_load1 (v := .int .i64 (m.kind)) Try.isAgg3 rfl (blk_cellL (hS38.blk (i := 2) rfl) rfl) ?_)
   refine st (ov_eql (k := .i64) (a := m.kind) (b := 1) rfl rfl ?_)
   refine st (ov_move (v := .bool (decide (m.kind = 1))) rfl ?_)
   refine stc (V := .int .i64 ((cmpV m.vec (vecE n L)))) rfl rfl (fun hb39 => ?_) ?_
   ·have hl40 := hb39
    have hl40 := of_decide_eq_true hl40
    exact ov_move (v := .int .i64 ((cmpV m.vec (vecE n L)))) rfl ⟨rfl, rfl⟩
   refine stc (V := .bool (decide ((cmpV m.vec (vecE n L)) = 2))) rfl rfl (fun hb41 => ?_) ?_
   ·have hl42 := hb41
    have hl42 := of_decide_eq_true hl42
    exact ov_eql (k := .i64) (a := (cmpV m.vec (vecE n L))) (b := 2) (show _ = (.int .i64 ((cmpV m.vec (vecE n L))) : Value) from (if_pos hb41)) rfl ⟨rfl, rfl⟩
   refine stc (V := .bool (decide ((cmpV m.vec (vecE n L)) = 2))) rfl rfl (fun hb43 => ?_) ?_
   ·have hl44 := hb43
    have hl44 := of_decide_eq_true hl44
    exact ov_move (v := .bool (decide ((cmpV m.vec (vecE n L)) = 2))) (show _ = (.bool (decide ((cmpV m.vec (vecE n L)) = 2)) : Value) from (if_pos hb43)) ⟨rfl, rfl⟩
   refine stcP (V := .int .i64 ((cmpV m.vec (vecE n L)))) rfl rfl (fun hb45 => ?_) ?_
   ·have hl46 := hb45.1
    have hl46 := of_decide_eq_true hl46
    have hl47 := hb45.2
    have hl47 := of_decide_eq_false hl47
    exact ov_move (v := .int .i64 ((cmpV m.vec (vecE n L)))) rfl ⟨rfl, rfl⟩
   refine stcP (V := .bool (decide ((cmpV m.vec (vecE n L)) = 3))) rfl rfl (fun hb48 => ?_) ?_
   ·have hl49 := hb48.1
    have hl49 := of_decide_eq_true hl49
    have hl50 := hb48.2
    have hl50 := of_decide_eq_false hl50
    exact ov_eql (k := .i64) (a := (cmpV m.vec (vecE n L))) (b := 3) (show _ = (.int .i64 ((cmpV m.vec (vecE n L))) : Value) from (if_pos ⟨hb48.1, hb48.2⟩)) rfl ⟨rfl, rfl⟩
   refine stc (V := .bool ((decide ((cmpV m.vec (vecE n L)) = 2)) || (decide ((cmpV m.vec (vecE n L)) = 3)))) rfl rfl (fun hb51 => ?_) ?_
   ·have hl52 := hb51
    have hl52 := of_decide_eq_true hl52
    exact ov_pick_or (b := decide ((cmpV m.vec (vecE n L)) = 2)) (b' := decide ((cmpV m.vec (vecE n L)) = 3)) (show _ = (.bool (decide ((cmpV m.vec (vecE n L)) = 2)) : Value) from (if_pos hb51)) (fun hbp => (show _ = (.bool (decide ((cmpV m.vec (vecE n L)) = 3)) : Value) from (if_pos ⟨hb51, hbp⟩))) ⟨rfl, rfl⟩
   refine st (ov_pick_and (b := decide (m.kind = 1)) (b' := (decide ((cmpV m.vec (vecE n L)) = 2)) || (decide ((cmpV m.vec (vecE n L)) = 3))) rfl (fun hbp => (show _ = (.bool ((decide ((cmpV m.vec (vecE n L)) = 2)) || (decide ((cmpV m.vec (vecE n L)) = 3))) : Value) from (if_pos hbp))) ?_)
   refine st_nil ?_
   cases hc53 : (decide (m.kind = 1)) && ((decide ((cmpV m.vec (vecE n L)) = 2)) || (decide ((cmpV m.vec (vecE n L)) = 3)))
   ·skip
    have hc53r := hc53
    try simp only [bools] at hc53
    refine WP_cond_f rfl ?_
    refine WP_skip ?_
    refine WP_seq ?_
    refine WP_seq ?_
    refine WP_region0 (by kernel_rfl) (fun _ => ?_)
    refine st (ov_move (v := (.slice none 0 0)) rfl ?_)
    refine st (ov_len (n := 0) Try.underlying58 rfl (⟨none, 0, rfl, Nat.le_refl _, fun h => absurd h (Nat.lt_irrefl 0)⟩ : IsSl _ 0) ?_)
    refine st (ov_eql (k := .i64) (a := ((0 : Nat) : Int)) (b := 0) rfl rfl ?_)
    have hkn54 : (decide (((0 : Nat) : Int) = 0)) = true := by simp
    rw [hkn54]
    refine st_nil ?_
    refine WP_cond_t rfl ?_
    refine WP_region0 (by kernel_rfl) (fun _ => ?_)
    refine st (ov_move (v := (.slice none 0 0)) rfl ?_)
    refine st (ov_move (v := .pointer (some ⟨b, 0, none⟩)) rfl ?_)
    refine st (ov_move (v := .int .i64 (self)) rfl ?_)
    refine st (fd57_1 rfl ?_)
    refine st (ov_load1 (v := .int .i64 (m.frm)) Try.isAgg3 rfl (blk_cellL (hS38.blk (i := 2) rfl) rfl) ?_)
    refine st (ov_call (f := 47) (vals := [.pointer (some ⟨b, 0, none⟩), .int .i64 (self), .int .i64 (m.frm)]) (cap := []) (show _ = (.func (.func 47) #[] #[] : Value) from rfl) rfl Try.call47 (D_Ack (fr := self) (tt := m.frm) hb hself om.frm hS38) ?_)
    rintro _ w57 ⟨v55, rfl, hmo56, hS58⟩
    have hr59 := hS58.row (i := 0) rfl
    have hr59s : (vecE n L).length * 8 ≤ 140737488355328 := hr59.2
    refine st (ov_buildSlice (k := 5) (parts' := [(0, .agg ((⟨4, self, m.frm, vecE n L, []⟩ : Msg).cells v55 (.slice none 0 0)).toArray)]) (c := ((⟨4, self, m.frm, vecE n L, []⟩ : Msg).cells v55 (.slice none 0 0)).toArray) Try.underlying58 Try.sizeOf57 Try.zeroValue57 (by decide) rfl (by kernel_rfl) ?_)
    intro w62 b61 hn60
    have hS63 : Sep G W ((Blk b61 ((⟨4, self, m.frm, vecE n L, []⟩ : Msg).cells v55 (.slice none 0 0)).toArray 57) :: (RowE (α := Int) own 3 v55 (vecE n L)) :: (RowE (α := Int) own 3 v24 (vecE n L)) :: (RowE (α := Ev) own 36 v19 (missL L m.vec (max 1 (min chunk 32)))) :: (Blk b9 (m.cells dm0 dm1).toArray 57) :: Rs) w62 := hS58.new hn60
    have hS67 : Sep G W ((RowE (α := Msg) own 57 (.slice none 0 0) ([] : List Msg)) :: (Blk b61 ((⟨4, self, m.frm, vecE n L, []⟩ : Msg).cells v55 (.slice none 0 0)).toArray 57) :: (RowE (α := Int) own 3 v55 (vecE n L)) :: (RowE (α := Int) own 3 v24 (vecE n L)) :: (RowE (α := Ev) own 36 v19 (missL L m.vec (max 1 (min chunk 32)))) :: (Blk b9 (m.cells dm0 dm1).toArray 57) :: Rs) w62 := hS63.rowNil own 57
    have hr68 := hS67.row (i := 0) rfl
    have hr68s : ([] : List Msg).length * 72 ≤ 140737488355328 := hr68.2
    have hbk69 := hS67.blk (i := 1) rfl
    have hS70 : Sep G W ((RowE (α := Msg) own 57 (.slice none 0 0) ([] : List Msg)) :: (RowE (α := Int) own 3 v55 (vecE n L)) :: (RowE (α := Int) own 3 v24 (vecE n L)) :: (RowE (α := Ev) own 36 v19 (missL L m.vec (max 1 (min chunk 32)))) :: (Blk b9 (m.cells dm0 dm1).toArray 57) :: Rs) w62 := hS67.sel 6 [0, 2, 3, 4, 5] (Nat.le_add_left _ _) rfl rfl
    refine st (ov_append1S (src := own) (bytes := 72) (x1 := (⟨4, self, m.frm, vecE n L, []⟩ : Msg)) hS70 el58 rfl rfl hbk69 (fun _ _ hN => ⟨_, _, rfl, RowE.soft hN, (RdS.nil _ _), hmo56⟩) (by first | omega | (simp only [List.length_append, List.length_cons, List.length_nil, List.length_take, List.length_drop]; omega)) rfl ?_)
    intro v65 w64 hS66
    have hS66 : Sep G W ((RowE (α := Msg) own 57 v65 [(⟨4, self, m.frm, vecE n L, []⟩ : Msg)]) :: (RowE (α := Int) own 3 v24 (vecE n L)) :: (RowE (α := Ev) own 36 v19 (missL L m.vec (max 1 (min chunk 32)))) :: (Blk b9 (m.cells dm0 dm1).toArray 57) :: Rs) w64 := hS66
    have hr71 := hS66.row (i := 0) rfl
    have hr71s : [(⟨4, self, m.frm, vecE n L, []⟩ : Msg)].length * 72 ≤ 140737488355328 := hr71.2
    refine st (ov_assign (v := v65) rfl ?_)
    refine st_nil ?_
    refine WP_seq ?_
    refine WP_region0 (by kernel_rfl) (fun _ => ?_)
    refine st (ov_move (v := .int .i64 (self)) rfl ?_)
    refine st (fd57_1 rfl ?_)
    refine st (ov_load1 (v := .int .i64 (m.frm)) Try.isAgg3 rfl (blk_cellL (hS66.blk (i := 3) rfl) rfl) ?_)
    refine st (ov_move (v := v65) rfl ?_)
    refine st (ov_call (f := 74) (vals := [.int .i64 (self), .int .i64 (m.frm), v65]) (cap := []) (show _ = (.func (.func 74) #[] #[] : Value) from rfl) rfl Try.call74 (D_to (f := self) (t := m.frm) hself om.frm hS66) ?_)
    rintro v72 w73 ⟨_, rfl, hS74⟩
    have hr75 := hS74.row (i := 0) rfl
    have hr75s : (toL self m.frm [(⟨4, self, m.frm, vecE n L, []⟩ : Msg)]).length * 72 ≤ 140737488355328 := hr75.2
    refine st (ov_assign (v := v72) rfl ?_)
    refine st_nil ?_
    refine WP_ret ?_
    refine fin1 Try.results41 (show _ = (v72 : Value) from rfl) ?_
    have hS76 : Sep G W ((RowE (α := Msg) own 57 v72 (toL self m.frm [(⟨4, self, m.frm, vecE n L, []⟩ : Msg)])) :: Rs) w73 := hS74.sel 4 [0] (Nat.le_add_left _ _) rfl rfl
    rw [ans_1 (n := n) (L := L) (self := self) (c := chunk) hc18r hc23 (show askQ n L m = false from hc53r)] at hS76
    refine ⟨v72, rfl, hS76⟩
   ·skip
    have hc53r := hc53
    try simp only [bools] at hc53
    refine WP_cond_t rfl ?_
    refine WP_region0 (by kernel_rfl) (fun _ => ?_)
    refine st (ov_move (v := (.slice none 0 0)) rfl ?_)
    refine st (ov_move (v := v24) rfl ?_)
    have ok77 : Msg.Ok (⟨2, 0, 0, vecE n L, []⟩ : Msg) := ⟨(show InR (2) from (by decide)), (show InR (0) from (by decide)), (show InR (0) from (by decide))⟩
    refine st (ov_build (parts' := [(0, .int .i64 (2)), (3, v24)]) (v := .agg ((⟨2, 0, 0, vecE n L, []⟩ : Msg).cells v24 (.slice none 0 0)).toArray) rfl (by obtain ⟨_, _, hv78, _⟩ := hr27.1; rw [show v24 = Value.slice _ _ _ from hv78]; simp [Instr.build, Instr.fill, go_sem, Msg.cells]) ?_)
    refine st (ov_buildSlice (k := 5) (parts' := [(0, .agg ((⟨2, 0, 0, vecE n L, []⟩ : Msg).cells v24 (.slice none 0 0)).toArray)]) (c := ((⟨2, 0, 0, vecE n L, []⟩ : Msg).cells v24 (.slice none 0 0)).toArray) Try.underlying58 Try.sizeOf57 Try.zeroValue57 (by decide) rfl (by kernel_rfl) ?_)
    intro w81 b80 hn79
    have hS82 : Sep G W ((Blk b80 ((⟨2, 0, 0, vecE n L, []⟩ : Msg).cells v24 (.slice none 0 0)).toArray 57) :: (RowE (α := Int) own 3 v24 (vecE n L)) :: (RowE (α := Ev) own 36 v19 (missL L m.vec (max 1 (min chunk 32)))) :: (Blk b9 (m.cells dm0 dm1).toArray 57) :: Rs) w81 := hS38.new hn79
    have hS86 : Sep G W ((RowE (α := Msg) own 57 (.slice none 0 0) ([] : List Msg)) :: (Blk b80 ((⟨2, 0, 0, vecE n L, []⟩ : Msg).cells v24 (.slice none 0 0)).toArray 57) :: (RowE (α := Int) own 3 v24 (vecE n L)) :: (RowE (α := Ev) own 36 v19 (missL L m.vec (max 1 (min chunk 32)))) :: (Blk b9 (m.cells dm0 dm1).toArray 57) :: Rs) w81 := hS82.rowNil own 57
    have hr87 := hS86.row (i := 0) rfl
    have hr87s : ([] : List Msg).length * 72 ≤ 140737488355328 := hr87.2
    have hbk88 := hS86.blk (i := 1) rfl
    have hS89 : Sep G W ((RowE (α := Msg) own 57 (.slice none 0 0) ([] : List Msg)) :: (RowE (α := Int) own 3 v24 (vecE n L)) :: (RowE (α := Ev) own 36 v19 (missL L m.vec (max 1 (min chunk 32)))) :: (Blk b9 (m.cells dm0 dm1).toArray 57) :: Rs) w81 := hS86.sel 5 [0, 2, 3, 4] (Nat.le_add_left _ _) rfl rfl
    refine st (ov_append1S (src := own) (bytes := 72) (x1 := (⟨2, 0, 0, vecE n L, []⟩ : Msg)) hS89 el58 rfl rfl hbk88 (fun _ _ hN => ⟨_, _, rfl, RowE.soft hN, (RdS.nil _ _), ok77⟩) (by first | omega | (simp only [List.length_append, List.length_cons, List.length_nil, List.length_take, List.length_drop]; omega)) rfl ?_)
    intro v84 w83 hS85
    have hS85 : Sep G W ((RowE (α := Msg) own 57 v84 [(⟨2, 0, 0, vecE n L, []⟩ : Msg)]) :: (RowE (α := Ev) own 36 v19 (missL L m.vec (max 1 (min chunk 32)))) :: (Blk b9 (m.cells dm0 dm1).toArray 57) :: Rs) w83 := hS85
    have hr90 := hS85.row (i := 0) rfl
    have hr90s : [(⟨2, 0, 0, vecE n L, []⟩ : Msg)].length * 72 ≤ 140737488355328 := hr90.2
    refine st (ov_assign (v := v84) rfl ?_)
    refine st_nil ?_
    refine WP_seq ?_
    refine WP_seq ?_
    refine WP_region0 (by kernel_rfl) (fun _ => ?_)
    refine st (ov_move (v := v84) rfl ?_)
    refine st (ov_len (n := [(⟨2, 0, 0, vecE n L, []⟩ : Msg)].length) Try.underlying58 rfl hr90.1 ?_)
    refine st (ov_eql (k := .i64) (a := (([(⟨2, 0, 0, vecE n L, []⟩ : Msg)].length : Nat) : Int)) (b := 0) rfl rfl ?_)
    have hkn91 : (decide ((([(⟨2, 0, 0, vecE n L, []⟩ : Msg)].length : Nat) : Int) = 0)) = false := by simp
    rw [hkn91]
    refine st_nil ?_
    refine WP_cond_f rfl ?_
    refine WP_skip ?_
    refine WP_seq ?_
    refine WP_region0 (by kernel_rfl) (fun _ => ?_)
    refine st (ov_move (v := .int .i64 (self)) rfl ?_)
    refine st (fd57_1 rfl ?_)
    refine st (ov_load1 (v := .int .i64 (m.frm)) Try.isAgg3 rfl (blk_cellL (hS85.blk (i := 2) rfl) rfl) ?_)
    refine st (ov_move (v := v84) rfl ?_)
    refine st (ov_call (f := 74) (vals := [.int .i64 (self), .int .i64 (m.frm), v84]) (cap := []) (show _ = (.func (.func 74) #[] #[] : Value) from rfl) rfl Try.call74 (D_to (f := self) (t := m.frm) hself om.frm hS85) ?_)
    rintro v92 w93 ⟨_, rfl, hS94⟩
    have hr95 := hS94.row (i := 0) rfl
    have hr95s : (toL self m.frm [(⟨2, 0, 0, vecE n L, []⟩ : Msg)]).length * 72 ≤ 140737488355328 := hr95.2
    refine st (ov_assign (v := v92) rfl ?_)
    refine st_nil ?_
    refine WP_ret ?_
    refine fin1 Try.results41 (show _ = (v92 : Value) from rfl) ?_
    have hS96 : Sep G W ((RowE (α := Msg) own 57 v92 (toL self m.frm [(⟨2, 0, 0, vecE n L, []⟩ : Msg)])) :: Rs) w93 := hS94.sel 3 [0] (Nat.le_add_left _ _) rfl rfl
    rw [ans_2 (n := n) (L := L) (self := self) (c := chunk) hc18r hc23 (show askQ n L m = true from hc53r)] at hS96
    refine ⟨v92, rfl, hS96⟩
  ·skip
   have hc23r := hc23
   have hc23 := of_decide_eq_true hc23
   refine WP_cond_t rfl ?_
   refine WP_region0 (by kernel_rfl) (fun _ => ?_)
   refine st (ov_move (v := (.slice none 0 0)) rfl ?_)
   refine st (ov_move (v := v19) rfl ?_)
   have ok97 : Msg.Ok (⟨3, 0, 0, [], missL L m.vec (max 1 (min chunk 32))⟩ : Msg) := ⟨(show InR (3) from (by decide)), (show InR (0) from (by decide)), (show InR (0) from (by decide))⟩
   refine st (ov_build (parts' := [(0, .int .i64 (3)), (4, v19)]) (v := .agg ((⟨3, 0, 0, [], missL L m.vec (max 1 (min chunk 32))⟩ : Msg).cells (.slice none 0 0) v19).toArray) rfl (by obtain ⟨_, _, hv98, _⟩ := hr22.1; rw [show v19 = Value.slice _ _ _ from hv98]; simp [Instr.build, Instr.fill, go_sem, Msg.cells]) ?_)
   refine st (ov_buildSlice (k := 5) (parts' := [(0, .agg ((⟨3, 0, 0, [], missL L m.vec (max 1 (min chunk 32))⟩ : Msg).cells (.slice none 0 0) v19).toArray)]) (c := ((⟨3, 0, 0, [], missL L m.vec (max 1 (min chunk 32))⟩ : Msg).cells (.slice none 0 0) v19).toArray) Try.underlying58 Try.sizeOf57 Try.zeroValue57 (by decide) rfl (by kernel_rfl) ?_)
   intro w101 b100 hn99
   have hS102 : Sep G W ((Blk b100 ((⟨3, 0, 0, [], missL L m.vec (max 1 (min chunk 32))⟩ : Msg).cells (.slice none 0 0) v19).toArray 57) :: (RowE (α := Ev) own 36 v19 (missL L m.vec (max 1 (min chunk 32)))) :: (Blk b9 (m.cells dm0 dm1).toArray 57) :: Rs) w101 := hS21.new hn99
   have hS106 : Sep G W ((RowE (α := Msg) own 57 (.slice none 0 0) ([] : List Msg)) :: (Blk b100 ((⟨3, 0, 0, [], missL L m.vec (max 1 (min chunk 32))⟩ : Msg).cells (.slice none 0 0) v19).toArray 57) :: (RowE (α := Ev) own 36 v19 (missL L m.vec (max 1 (min chunk 32)))) :: (Blk b9 (m.cells dm0 dm1).toArray 57) :: Rs) w101 := hS102.rowNil own 57
   have hr107 := hS106.row (i := 0) rfl
   have hr107s : ([] : List Msg).length * 72 ≤ 140737488355328 := hr107.2
   have hbk108 := hS106.blk (i := 1) rfl
   have hS109 : Sep G W ((RowE (α := Msg) own 57 (.slice none 0 0) ([] : List Msg)) :: (RowE (α := Ev) own 36 v19 (missL L m.vec (max 1 (min chunk 32)))) :: (Blk b9 (m.cells dm0 dm1).toArray 57) :: Rs) w101 := hS106.sel 4 [0, 2, 3] (Nat.le_add_left _ _) rfl rfl
   refine st (ov_append1S (src := own) (bytes := 72) (x1 := (⟨3, 0, 0, [], missL L m.vec (max 1 (min chunk 32))⟩ : Msg)) hS109 el58 rfl rfl hbk108 (fun _ _ hN => ⟨_, _, rfl, (RdS.nil _ _), RowE.soft hN, ok97⟩) (by first | omega | (simp only [List.length_append, List.length_cons, List.length_nil, List.length_take, List.length_drop]; omega)) rfl ?_)
   intro v104 w103 hS105
   have hS105 : Sep G W ((RowE (α := Msg) own 57 v104 [(⟨3, 0, 0, [], missL L m.vec (max 1 (min chunk 32))⟩ : Msg)]) :: (Blk b9 (m.cells dm0 dm1).toArray 57) :: Rs) w103 := hS105
   have hr110 := hS105.row (i := 0) rfl
   have hr110s : [(⟨3, 0, 0, [], missL L m.vec (max 1 (min chunk 32))⟩ : Msg)].length * 72 ≤ 140737488355328 := hr110.2
   refine st (ov_assign (v := v104) rfl ?_)
   refine st_nil ?_
   refine WP_seq ?_
   refine WP_region0 (by kernel_rfl) (fun _ => ?_)
   refine st (ov_move (v := .pointer (some ⟨b, 0, none⟩)) rfl ?_)
   refine st (ov_call (f := 26) (vals := [.pointer (some ⟨b, 0, none⟩)]) (cap := []) (show _ = (.func (.func 26) #[] #[] : Value) from rfl) rfl Try.call26 (D_Vec  hb hS105) ?_)
   rintro v111 w112 ⟨_, rfl, hS113⟩
   have hr114 := hS113.row (i := 0) rfl
   have hr114s : (vecE n L).length * 8 ≤ 140737488355328 := hr114.2
   refine st (ov_assign (v := v111) rfl ?_)
   refine st_nil ?_
   refine WP_seq ?_
   refine WP_seq ?_
   refine WP_region0 (by kernel_rfl) (fun _ => ?_)
   refine st (fd57_3 rfl ?_)
   refine st (ov_load1 (v := dm0) Try.isAgg34 rfl (blk_cellL (hS113.blk (i := 2) rfl) rfl) ?_)
   refine st (ov_move (v := v111) rfl ?_)
   obtain ⟨G115, hA117, hB118, hS119, hk120⟩ := hS113.lend
   have hrd121 := RowE.rd hA117
   have hrd121s : (vecE n L).length * 8 ≤ 140737488355328 := hrd121.small
   refine st (ov_call (f := 73) (vals := [dm0, v111]) (cap := []) (show _ = (.func (.func 73) #[] #[] : Value) from rfl) rfl Try.call73 (D_vcmp (a := m.vec) (va := dm0) (b := vecE n L) (vb := v111) (RdS.base hdm0 hB118) hrd121 hS119) ?_)
   rintro _ w123 ⟨rfl, hin122, hS124⟩
   have hS125 : Sep G W ((RowE (α := Int) own 3 v111 (vecE n L)) :: (RowE (α := Msg) own 57 v104 [(⟨3, 0, 0, [], missL L m.vec (max 1 (min chunk 32))⟩ : Msg)]) :: (Blk b9 (m.cells dm0 dm1).toArray 57) :: Rs) w123 := hk120 _ _ hS124
   refine st (ov_assign (v := .int .i64 ((cmpV m.vec (vecE n L)))) rfl ?_)
   refine st_nil ?_
   refine WP_seq ?_
   refine WP_region (by kernel_rfl) ?_
   refine st (fd57_0 rfl ?_)
   refine st (ov_load1 (v := .int .i64 (m.kind)) Try.isAgg3 rfl (blk_cellL (hS125.blk (i := 2) rfl) rfl) ?_)
   refine st (ov_eql (k := .i64) (a := m.kind) (b := 1) rfl rfl ?_)
   refine st (ov_move (v := .bool (decide (m.kind = 1))) rfl ?_)
   refine stc (V := .int .i64 ((cmpV m.vec (vecE n L)))) rfl rfl (fun hb126 => ?_) ?_
   ·have hl127 := hb126
    have hl127 := of_decide_eq_true hl127
    exact ov_move (v := .int .i64 ((cmpV m.vec (vecE n L)))) rfl ⟨rfl, rfl⟩
   refine stc (V := .bool (decide ((cmpV m.vec (vecE n L)) = 2))) rfl rfl (fun hb128 => ?_) ?_
   ·have hl129 := hb128
    have hl129 := of_decide_eq_true hl129
    exact ov_eql (k := .i64) (a := (cmpV m.vec (vecE n L))) (b := 2) (show _ = (.int .i64 ((cmpV m.vec (vecE n L))) : Value) from (if_pos hb128)) rfl ⟨rfl, rfl⟩
   refine stc (V := .bool (decide ((cmpV m.vec (vecE n L)) = 2))) rfl rfl (fun hb130 => ?_) ?_
   ·have hl131 := hb130
    have hl131 := of_decide_eq_true hl131
    exact ov_move (v := .bool (decide ((cmpV m.vec (vecE n L)) = 2))) (show _ = (.bool (decide ((cmpV m.vec (vecE n L)) = 2)) : Value) from (if_pos hb130)) ⟨rfl, rfl⟩
   refine stcP (V := .int .i64 ((cmpV m.vec (vecE n L)))) rfl rfl (fun hb132 => ?_) ?_
   ·have hl133 := hb132.1
    have hl133 := of_decide_eq_true hl133
    have hl134 := hb132.2
    have hl134 := of_decide_eq_false hl134
    exact ov_move (v := .int .i64 ((cmpV m.vec (vecE n L)))) rfl ⟨rfl, rfl⟩
   refine stcP (V := .bool (decide ((cmpV m.vec (vecE n L)) = 3))) rfl rfl (fun hb135 => ?_) ?_
   ·have hl136 := hb135.1
    have hl136 := of_decide_eq_true hl136
    have hl137 := hb135.2
    have hl137 := of_decide_eq_false hl137
    exact ov_eql (k := .i64) (a := (cmpV m.vec (vecE n L))) (b := 3) (show _ = (.int .i64 ((cmpV m.vec (vecE n L))) : Value) from (if_pos ⟨hb135.1, hb135.2⟩)) rfl ⟨rfl, rfl⟩
   refine stc (V := .bool ((decide ((cmpV m.vec (vecE n L)) = 2)) || (decide ((cmpV m.vec (vecE n L)) = 3)))) rfl rfl (fun hb138 => ?_) ?_
   ·have hl139 := hb138
    have hl139 := of_decide_eq_true hl139
    exact ov_pick_or (b := decide ((cmpV m.vec (vecE n L)) = 2)) (b' := decide ((cmpV m.vec (vecE n L)) = 3)) (show _ = (.bool (decide ((cmpV m.vec (vecE n L)) = 2)) : Value) from (if_pos hb138)) (fun hbp => (show _ = (.bool (decide ((cmpV m.vec (vecE n L)) = 3)) : Value) from (if_pos ⟨hb138, hbp⟩))) ⟨rfl, rfl⟩
   refine st (ov_pick_and (b := decide (m.kind = 1)) (b' := (decide ((cmpV m.vec (vecE n L)) = 2)) || (decide ((cmpV m.vec (vecE n L)) = 3))) rfl (fun hbp => (show _ = (.bool ((decide ((cmpV m.vec (vecE n L)) = 2)) || (decide ((cmpV m.vec (vecE n L)) = 3))) : Value) from (if_pos hbp))) ?_)
   refine st_nil ?_
   cases hc140 : (decide (m.kind = 1)) && ((decide ((cmpV m.vec (vecE n L)) = 2)) || (decide ((cmpV m.vec (vecE n L)) = 3)))
   ·skip
    have hc140r := hc140
    try simp only [bools] at hc140
    refine WP_cond_f rfl ?_
    refine WP_skip ?_
    refine WP_seq ?_
    refine WP_seq ?_
    refine WP_region0 (by kernel_rfl) (fun _ => ?_)
    refine st (ov_move (v := v104) rfl ?_)
    refine st (ov_len (n := [(⟨3, 0, 0, [], missL L m.vec (max 1 (min chunk 32))⟩ : Msg)].length) Try.underlying58 rfl hr110.1 ?_)
    refine st (ov_eql (k := .i64) (a := (([(⟨3, 0, 0, [], missL L m.vec (max 1 (min chunk 32))⟩ : Msg)].length : Nat) : Int)) (b := 0) rfl rfl ?_)
    have hkn141 : (decide ((([(⟨3, 0, 0, [], missL L m.vec (max 1 (min chunk 32))⟩ : Msg)].length : Nat) : Int) = 0)) = false := by simp
    rw [hkn141]
    refine st_nil ?_
    refine WP_cond_f rfl ?_
    refine WP_skip ?_
    refine WP_seq ?_
    refine WP_region0 (by kernel_rfl) (fun _ => ?_)
    refine st (ov_move (v := .int .i64 (self)) rfl ?_)
    refine st (fd57_1 rfl ?_)
    refine st (ov_load1 (v := .int .i64 (m.frm)) Try.isAgg3 rfl (blk_cellL (hS125.blk (i := 2) rfl) rfl) ?_)
    refine st (ov_move (v := v104) rfl ?_)
    have hS142 : Sep G W ((RowE (α := Msg) own 57 v104 [(⟨3, 0, 0, [], missL L m.vec (max 1 (min chunk 32))⟩ : Msg)]) :: (RowE (α := Int) own 3 v111 (vecE n L)) :: (Blk b9 (m.cells dm0 dm1).toArray 57) :: Rs) w123 := hS125.sel 3 [1, 0, 2] (Nat.le_add_left _ _) rfl rfl
    refine st (ov_call (f := 74) (vals := [.int .i64 (self), .int .i64 (m.frm), v104]) (cap := []) (show _ = (.func (.func 74) #[] #[] : Value) from rfl) rfl Try.call74 (D_to (f := self) (t := m.frm) hself om.frm hS142) ?_)
    rintro v143 w144 ⟨_, rfl, hS145⟩
    have hr146 := hS145.row (i := 0) rfl
    have hr146s : (toL self m.frm [(⟨3, 0, 0, [], missL L m.vec (max 1 (min chunk 32))⟩ : Msg)]).length * 72 ≤ 140737488355328 := hr146.2
    refine st (ov_assign (v := v143) rfl ?_)
    refine st_nil ?_
    refine WP_ret ?_
    refine fin1 Try.results41 (show _ = (v143 : Value) from rfl) ?_
    have hS147 : Sep G W ((RowE (α := Msg) own 57 v143 (toL self m.frm [(⟨3, 0, 0, [], missL L m.vec (max 1 (min chunk 32))⟩ : Msg)])) :: Rs) w144 := hS145.sel 3 [0] (Nat.le_add_left _ _) rfl rfl
    rw [ans_3 (n := n) (L := L) (self := self) (c := chunk) hc18r hc23 (show askQ n L m = false from hc140r)] at hS147
    refine ⟨v143, rfl, hS147⟩
   ·skip
    have hc140r := hc140
    try simp only [bools] at hc140
    refine WP_cond_t rfl ?_
    refine WP_region0 (by kernel_rfl) (fun _ => ?_)
    refine st (ov_move (v := v104) rfl ?_)
    refine st (ov_move (v := v111) rfl ?_)
    have ok148 : Msg.Ok (⟨2, 0, 0, vecE n L, []⟩ : Msg) := ⟨(show InR (2) from (by decide)), (show InR (0) from (by decide)), (show InR (0) from (by decide))⟩
    refine st (ov_build (parts' := [(0, .int .i64 (2)), (3, v111)]) (v := .agg ((⟨2, 0, 0, vecE n L, []⟩ : Msg).cells v111 (.slice none 0 0)).toArray) rfl (by obtain ⟨_, _, hv149, _⟩ := hr114.1; rw [show v111 = Value.slice _ _ _ from hv149]; simp [Instr.build, Instr.fill, go_sem, Msg.cells]) ?_)
    refine st (ov_buildSlice (k := 5) (parts' := [(0, .agg ((⟨2, 0, 0, vecE n L, []⟩ : Msg).cells v111 (.slice none 0 0)).toArray)]) (c := ((⟨2, 0, 0, vecE n L, []⟩ : Msg).cells v111 (.slice none 0 0)).toArray) Try.underlying58 Try.sizeOf57 Try.zeroValue57 (by decide) rfl (by kernel_rfl) ?_)
    intro w152 b151 hn150
    have hS153 : Sep G W ((Blk b151 ((⟨2, 0, 0, vecE n L, []⟩ : Msg).cells v111 (.slice none 0 0)).toArray 57) :: (RowE (α := Int) own 3 v111 (vecE n L)) :: (RowE (α := Msg) own 57 v104 [(⟨3, 0, 0, [], missL L m.vec (max 1 (min chunk 32))⟩ : Msg)]) :: (Blk b9 (m.cells dm0 dm1).toArray 57) :: Rs) w152 := hS125.new hn150
    have hbk157 := hS153.blk (i := 0) rfl
    have hS158 : Sep G W ((RowE (α := Msg) own 57 v104 [(⟨3, 0, 0, [], missL L m.vec (max 1 (min chunk 32))⟩ : Msg)]) :: (RowE (α := Int) own 3 v111 (vecE n L)) :: (Blk b9 (m.cells dm0 dm1).toArray 57) :: Rs) w152 := hS153.sel 4 [2, 1, 3] (Nat.le_add_left _ _) rfl rfl
    refine st (ov_append1S (src := own) (bytes := 72) (x1 := (⟨2, 0, 0, vecE n L, []⟩ : Msg)) hS158 el58 rfl rfl hbk157 (fun _ _ hN => ⟨_, _, rfl, RowE.soft hN, (RdS.nil _ _), ok148⟩) (by first | (simp only [List.length_cons, List.length_nil]; decide) | omega) rfl ?_)
    intro v155 w154 hS156
    have hr159 := hS156.row (i := 0) rfl
    have hr159s : ([(⟨3, 0, 0, [], missL L m.vec (max 1 (min chunk 32))⟩ : Msg)] ++ [(⟨2, 0, 0, vecE n L, []⟩ : Msg)]).length * 72 ≤ 140737488355328 := hr159.2
    refine st (ov_assign (v := v155) rfl ?_)
    refine st_nil ?_
    refine WP_seq ?_
    refine WP_seq ?_
    refine WP_region0 (by kernel_rfl) (fun _ => ?_)
    refine st (ov_move (v := v155) rfl ?_)
    refine st (ov_len (n := ([(⟨3, 0, 0, [], missL L m.vec (max 1 (min chunk 32))⟩ : Msg)] ++ [(⟨2, 0, 0, vecE n L, []⟩ : Msg)]).length) Try.underlying58 rfl hr159.1 ?_)
    refine st (ov_eql (k := .i64) (a := ((([(⟨3, 0, 0, [], missL L m.vec (max 1 (min chunk 32))⟩ : Msg)] ++ [(⟨2, 0, 0, vecE n L, []⟩ : Msg)]).length : Nat) : Int)) (b := 0) rfl rfl ?_)
    have hkn160 : (decide (((([(⟨3, 0, 0, [], missL L m.vec (max 1 (min chunk 32))⟩ : Msg)] ++ [(⟨2, 0, 0, vecE n L, []⟩ : Msg)]).length : Nat) : Int) = 0)) = false := by simp
    rw [hkn160]
    refine st_nil ?_
    refine WP_cond_f rfl ?_
    refine WP_skip ?_
    refine WP_seq ?_
    refine WP_region0 (by kernel_rfl) (fun _ => ?_)
    refine st (ov_move (v := .int .i64 (self)) rfl ?_)
    refine st (fd57_1 rfl ?_)
    refine st (ov_load1 (v := .int .i64 (m.frm)) Try.isAgg3 rfl (blk_cellL (hS156.blk (i := 1) rfl) rfl) ?_)
    refine st (ov_move (v := v155) rfl ?_)
    refine st (ov_call (f := 74) (vals := [.int .i64 (self), .int .i64 (m.frm), v155]) (cap := []) (show _ = (.func (.func 74) #[] #[] : Value) from rfl) rfl Try.call74 (D_to (f := self) (t := m.frm) hself om.frm hS156) ?_)
    rintro v161 w162 ⟨_, rfl, hS163⟩
    have hr164 := hS163.row (i := 0) rfl
    have hr164s : (toL self m.frm ([(⟨3, 0, 0, [], missL L m.vec (max 1 (min chunk 32))⟩ : Msg)] ++ [(⟨2, 0, 0, vecE n L, []⟩ : Msg)])).length * 72 ≤ 140737488355328 := hr164.2
    refine st (ov_assign (v := v161) rfl ?_)
    refine st_nil ?_
    refine WP_ret ?_
    refine fin1 Try.results41 (show _ = (v161 : Value) from rfl) ?_
    have hS165 : Sep G W ((RowE (α := Msg) own 57 v161 (toL self m.frm ([(⟨3, 0, 0, [], missL L m.vec (max 1 (min chunk 32))⟩ : Msg)] ++ [(⟨2, 0, 0, vecE n L, []⟩ : Msg)]))) :: Rs) w162 := hS163.sel 2 [0] (Nat.le_add_left _ _) rfl rfl
    rw [ans_4 (n := n) (L := L) (self := self) (c := chunk) hc18r hc23 (show askQ n L m = true from hc140r)] at hS165
    refine ⟨v161, rfl, hS165⟩
 ·skip
  have hc18r := hc18
  try simp only [bools] at hc18
  refine WP_cond_t rfl ?_
  refine WP_seq ?_
  refine WP_region0 (by kernel_rfl) (fun _ => ?_)
  refine st (ov_assign (v := (.slice none 0 0)) rfl ?_)
  refine st_nil ?_
  refine WP_ret ?_
  refine fin1 Try.results41 (show _ = ((.slice none 0 0) : Value) from rfl) ?_
  have hS166 : Sep G W ((RowE (α := Msg) own 57 (.slice none 0 0) ([] : List Msg)) :: (Blk b9 (m.cells dm0 dm1).toArray 57) :: Rs) w10 := hS11.rowNil own 57
  have hS167 : Sep G W ((RowE (α := Msg) own 57 (.slice none 0 0) ([] : List Msg)) :: Rs) w10 := hS166.sel 2 [0] (Nat.le_add_left _ _) rfl rfl
  rw [ans_0 (n := n) (L := L) (self := self) (c := chunk) hc18r] at hS167
  refine ⟨(.slice none 0 0), rfl, hS167⟩

end Go.Proofs.Ytgjgmojjeehieaa
end

section
/- Steps of the proofs of this seat: part B5. -/
set_option linter.unusedSimpArgs false
set_option linter.unusedVariables false
set_option maxRecDepth 8000
set_option maxHeartbeats 4000000
namespace Go.Proofs.Ytgjgmojjeehieaa
open Go.Proofs Go.RowKit

section
variable {n : Nat} {L : List Ev} {e : Ev}
end
end Go.Proofs.Ytgjgmojjeehieaa
end

section
/- Steps of the proofs of this seat: part B8. -/
set_option linter.unusedSimpArgs false
set_option linter.unusedVariables false
set_option maxRecDepth 8000
set_option maxHeartbeats 4000000
namespace Go.Proofs.Ytgjgmojjeehieaa
open Go.Proofs Go.RowKit

section
variable {n : Nat} {S : List Ev} {j : Nat}
theorem laid_prefix (hG : Good n S) : ∀ (k : Nat), k ≤ S.length → laidL n (S.take k) = S.take k
  | 0, _ => rfl
  | k + 1, hk => by
    rw [take_snoc (by omega), laidL_snoc, laid_prefix hG k (by omega), addL_yes (hG.step (by omega) (hG.prefix k (by omega))), hG.ins_take (by omega), ← take_snoc (by omega)]
theorem add_take (hG : Good n S) (hj : j < S.length) : addE n (S.take j) (S.getD j default) = 0 ∧ addL n (S.take j) (S.getD j default) = S.take (j + 1) := by
  have h0 := hG.step hj (hG.prefix j (Nat.le_of_lt hj))
  exact ⟨h0, by rw [addL_yes h0, hG.ins_take hj]⟩
theorem cnt_take {i o : Nat} (h : j ≤ i) : cntE (S.take j) o ≤ cntE (S.take i) o := by
  unfold cntE
  have e : S.take j = (S.take i).take j := by rw [List.take_take, Nat.min_eq_left h]
  rw [e]
  exact List.Sublist.length_le ((List.take_sublist j (S.take i)).filter _)
theorem miss_at (hG : Good n S) (hj : j ≤ S.length) {i : Nat} (hi : i < S.length) : missE (vecE n (S.take j)) (S.getD i default) = decide (j ≤ i) := by
  obtain ⟨⟨h0, h1⟩, _⟩ := check_ok (hG.chk _ (getD_mem hi))
  have hv : vget (vecE n (S.take j)) (S.getD i default).origin = ((cntE (S.take j) (S.getD i default).origin.toNat : Nat) : Int) := by
    unfold vget
    rw [if_neg (by rw [vecE_len]; omega), vecE_at (by omega)]; omega
  unfold missE
  rw [hv]
  by_cases h : j ≤ i
  · have h2 := hG.seq_at hi
    have h3 := cnt_take (S := S) (o := (S.getD i default).origin.toNat) h
    rw [decide_eq_true h, decide_eq_true (by omega)]
  · have h2 := (hG.prefix j hj).seqle _ (take_mem (L := S) (i := i) (j := j) (by omega) hi)
    rw [decide_eq_false h, decide_eq_false (by omega)]
theorem miss_drop (hG : Good n S) (hj : j ≤ S.length) : S.filter (missE (vecE n (S.take j))) = S.drop j := by
  have h1 : (S.take j).filter (missE (vecE n (S.take j))) = [] := by
    rw [List.filter_eq_nil_iff]
    intro x hx
    obtain ⟨i, h1, h2, rfl⟩ := mem_take hx
    rw [miss_at hG hj h2]
    simpa using h1
  have h2 : (S.drop j).filter (missE (vecE n (S.take j))) = S.drop j := by
    rw [List.filter_eq_self]
    intro x hx
    obtain ⟨i, hi, rfl⟩ := List.getElem_of_mem hx
    rw [List.length_drop] at hi
    rw [List.getElem_drop, ← getD_at default (by omega), miss_at hG hj (by omega)]
    simp
  have key : (S.take j ++ S.drop j).filter (missE (vecE n (S.take j))) = S.drop j := by rw [List.filter_append, h1, h2, List.nil_append]
  rw [List.take_append_drop] at key; exact key
theorem missL_drop (hG : Good n S) (hj : j ≤ S.length) {most : Int} : missL S (vecE n (S.take j)) most = (S.drop j).take most.toNat := by unfold missL; rw [miss_drop hG hj]
theorem piece_at {k m : Nat} (h : k < ((S.drop j).take m).length) : ((S.drop j).take m).getD k default = S.getD (j + k) default ∧ j + k < S.length := by
  have h' := h
  rw [List.length_take, List.length_drop] at h'
  refine ⟨?_, by omega⟩
  rw [getD_at _ h, getD_at _ (by omega), List.getElem_take, List.getElem_drop]
end
end Go.Proofs.Ytgjgmojjeehieaa
end

section
/- Plain laws of answers: what is fed is what was lacking; two sets meet. -/
set_option linter.unusedSimpArgs false
set_option linter.unusedVariables false
namespace Go.Proofs.Ytgjgmojjeehieaa

section
variable {n : Nat} {A B L S T U : List Ev} {e x y : Ev} {m : Nat}
end

/-- Two sets on their way to all that either has. -/
structure Meet (n : Nat) (U A B : List Ev) : Prop where
  u : Good n U
  a : Part n U A
  b : Part n U B
  c : ∀ x ∈ U, x ∈ A ∨ x ∈ B
section
variable {n : Nat} {A B S U C D : List Ev} {m : Nat}
/-- What b gives a. -/
def giveL (n : Nat) (A B : List Ev) (m : Nat) : List Ev := (B.filter (missE (vecE n A))).take m
theorem give_self (h : Good n U) : giveL n U U m = [] := by
  have := miss_drop h (Nat.le_refl U.length)
  rw [List.take_length, List.drop_length] at this
  unfold giveL; rw [this, List.take_nil]

/-- Events of messages, one behind the other. -/
def evsM (l : List Msg) : List Ev := l.flatMap Msg.evs
end

section
variable {n : Nat} {A B L : List Ev} {m : Msg} {self c : Int}
theorem outL_evs : evsM (if (outL n L m c).length = 0 then [⟨4, self, m.frm, vecE n L, []⟩] else outL n L m c) = chunkL L m c := by
  by_cases h : 0 < (chunkL L m c).length
  · cases ha : askQ n L m
    · have o : outL n L m c = [⟨3, 0, 0, [], chunkL L m c⟩] := by unfold outL; rw [if_pos h, ha]; rfl
      rw [o]; simp [evsM]
    · have o : outL n L m c = [⟨3, 0, 0, [], chunkL L m c⟩, ⟨2, 0, 0, vecE n L, []⟩] := by unfold outL; rw [if_pos h, ha]; rfl
      rw [o]; simp [evsM]
  · have h0 : chunkL L m c = [] := List.length_eq_zero_iff.1 (by omega)
    cases ha : askQ n L m
    · have o : outL n L m c = [] := by unfold outL; rw [if_neg h, ha]; rfl
      rw [o, h0]; simp [evsM]
    · have o : outL n L m c = [⟨2, 0, 0, vecE n L, []⟩] := by unfold outL; rw [if_neg h, ha]; rfl
      rw [o, h0]; simp [evsM]
theorem ansL_cases (hk : m.kind = 1 ∨ m.kind = 2) :
    ((0 < (chunkL L m c).length ∧ (askQ n L m = false ∧ ansL n L self m c = [⟨3, self, m.frm, [], chunkL L m c⟩] ∨ askQ n L m = true ∧ ansL n L self m c = [⟨3, self, m.frm, [], chunkL L m c⟩, ⟨2, self, m.frm, vecE n L, []⟩])) ∨
    ((chunkL L m c).length = 0 ∧ (askQ n L m = false ∧ ansL n L self m c = [⟨4, self, m.frm, vecE n L, []⟩] ∨ askQ n L m = true ∧ ansL n L self m c = [⟨2, self, m.frm, vecE n L, []⟩]))) := by
  have e : ansL n L self m c = toL self m.frm (if (outL n L m c).length = 0 then [⟨4, self, m.frm, vecE n L, []⟩] else outL n L m c) := by
    unfold ansL; rw [if_neg (by rcases hk with h | h <;> simp [h])]
  rw [e]
  unfold outL
  by_cases h : 0 < (chunkL L m c).length
  · refine .inl ⟨h, ?_⟩
    rw [if_pos h]
    cases askQ n L m
    · exact .inl ⟨rfl, rfl⟩
    · exact .inr ⟨rfl, rfl⟩
  · refine .inr ⟨by omega, ?_⟩
    rw [if_neg h]
    cases askQ n L m
    · exact .inl ⟨rfl, rfl⟩
    · exact .inr ⟨rfl, rfl⟩
/-- Of one's own vector nothing is asked. -/
theorem anyL_false {a b : List Int} {k : Nat} (h : ∀ i, i < k → ¬ vget a (i : Int) < vget b (i : Int)) : anyL a b k = false := by
  unfold anyL
  rw [List.any_eq_false]
  intro i hi
  simpa using h i (List.mem_range.1 hi)
theorem cmpV_le {a b : List Int} (h : ∀ i : Nat, ¬ vget b (i : Int) < vget a (i : Int)) : cmpV a b ≠ 2 ∧ cmpV a b ≠ 3 := by
  unfold cmpV
  rw [anyL_false (fun i _ => h i)]
  unfold fl
  cases anyL a b (max a.length b.length) <;> simp
theorem ask_le (h : ∀ i : Nat, ¬ vget (vecE n L) (i : Int) < vget m.vec (i : Int)) : askQ n L m = false := by
  obtain ⟨h1, h2⟩ := cmpV_le h
  unfold askQ
  simp [h1, h2]
theorem vget_at {o : Nat} (h : o < n) : vget (vecE n L) (o : Int) = ((cntE L o : Nat) : Int) := by
  unfold vget
  rw [if_neg (by rw [vecE_len]; omega), Int.toNat_natCast, vecE_at h]; omega
theorem vget_out {o : Nat} (h : n ≤ o) : vget (vecE n L) (o : Int) = 0 := by
  unfold vget
  rw [if_pos (.inr (by rw [vecE_len]; omega))]
theorem ask_take {S : List Ev} {j : Nat} (hv : m.vec = vecE n (S.take j)) : askQ n S m = false := by
  refine ask_le fun i => ?_
  rw [hv]
  by_cases hi : i < n
  · rw [vget_at hi, vget_at hi]
    have : cntE (S.take j) i ≤ cntE S i := by
      unfold cntE
      exact List.Sublist.length_le ((List.take_sublist j S).filter _)
    omega
  · rw [vget_out (by omega), vget_out (by omega)]; omega
theorem chunk_give (hv : m.vec = vecE n A) : chunkL B m c = giveL n A B (max 1 (min c 32)).toNat := by unfold chunkL missL giveL; rw [hv]
end
section
variable {n : Nat} {A B S U : List Ev} {self f t : Int}
theorem chunk_nat {c : Nat} (h1 : 1 ≤ c) (h2 : c ≤ 32) : (max 1 (min ((c : Nat) : Int) 32)).toNat = c := by omega
/-- One that has the first events is answered by the next ones. -/
theorem once_ans (hG : Good n S) {j c : Nat} (hj : j < S.length) (h1 : 1 ≤ c) (h2 : c ≤ 32) : ansL n S self ⟨1, f, t, vecE n (S.take j), []⟩ ((c : Nat) : Int) = [⟨3, self, f, [], (S.drop j).take c⟩] := by
  have hc : chunkL S ⟨1, f, t, vecE n (S.take j), []⟩ ((c : Nat) : Int) = (S.drop j).take c := by
    unfold chunkL
    rw [missL_drop hG (Nat.le_of_lt hj), chunk_nat h1 h2]
  have hl : 0 < ((S.drop j).take c).length := by rw [List.length_take, List.length_drop]; omega
  have ha : askQ n S ⟨1, f, t, vecE n (S.take j), []⟩ = false := ask_take rfl
  rcases ansL_cases (n := n) (L := S) (self := self) (c := ((c : Nat) : Int)) (m := ⟨1, f, t, vecE n (S.take j), []⟩) (.inl rfl) with ⟨_, ⟨_, he⟩ | ⟨h, _⟩⟩ | ⟨h, _⟩
  · rw [he, hc]
  · rw [ha] at h; cases h
  · rw [hc] at h; omega
theorem self_ans (hG : Good n U) {c : Int} : ansL n U self ⟨1, f, t, vecE n U, []⟩ c = [⟨4, self, f, vecE n U, []⟩] := by
  have hc : chunkL U ⟨1, f, t, vecE n U, []⟩ c = [] := by rw [chunk_give (A := U) rfl, give_self hG]
  have ha : askQ n U ⟨1, f, t, vecE n U, []⟩ = false := ask_take (j := U.length) (by rw [List.take_length])
  rcases ansL_cases (n := n) (L := U) (self := self) (c := c) (m := ⟨1, f, t, vecE n U, []⟩) (.inl rfl) with ⟨h, _⟩ | ⟨_, ⟨_, he⟩ | ⟨h, _⟩⟩
  · rw [hc] at h; exact absurd h (Nat.lt_irrefl 0)
  · exact he
  · rw [ha] at h; cases h
theorem once_fin (hG : Good n S) {j : Nat} (hj : S.length ≤ j) {c : Int} : ansL n S self ⟨1, f, t, vecE n (S.take j), []⟩ c = [⟨4, self, f, vecE n S, []⟩] := by
  rw [List.take_of_length_le hj]; exact self_ans hG
theorem once_add (hG : Good n S) {j k c : Nat} (hk : k < ((S.drop j).take c).length) :
    addE n (S.take (j + k)) (((S.drop j).take c).getD k default) = 0 ∧ addL n (S.take (j + k)) (((S.drop j).take c).getD k default) = S.take (j + (k + 1)) ∧ ((S.drop j).take c).getD k default = S.getD (j + k) default := by
  obtain ⟨h1, h2⟩ := piece_at hk
  obtain ⟨h3, h4⟩ := add_take hG h2
  rw [h1]
  exact ⟨h3, h4, rfl⟩
end
end Go.Proofs.Ytgjgmojjeehieaa
end

section
/- Rows, of whose elements some have memory of their own, and others lie in what is lent. -/
set_option linter.unusedSimpArgs false
set_option linter.unusedVariables false
set_option linter.unusedSectionVars false
namespace Go.Proofs.Ytgjgmojjeehieaa
open Go.RowKit

theorem ov_as {P : Program} {o : Oper} {σ : Env} {w : World} {K : Value → World → Prop} {v v' : Value} (h : v = v') (hop : ∀ K' : Value → World → Prop, K' v w → opV P o σ w K') (hK : K v' w) : opV P o σ w K := by subst h; exact hop K hK
section
variable {α : Type} [Rep α] {G : Nat → Prop} {W w : World} {As : List HP} {T : TypeId} {v : Value} {l : List α}
/-- A block of two elements, whose memory goes along. -/
theorem Sep.rowOf2 {b : Nat} {c : Array Value} {N1 N2 : HP} {cs1 cs2 : List Value} {x1 x2 : α} (h : Sep G W (Blk b c T :: N1 :: N2 :: As) w) (hc : cs1 ++ (cs2 ++ []) = c.toList)
    (h1 : ∀ w f, N1.p w f → ((own (α := α)).el cs1 x1).p w f) (h2 : ∀ w f, N2.p w f → ((own (α := α)).el cs2 x2).p w f) (hs : 2 * Rep.bytes α ≤ 140737488355328) :
    Sep G W (RowE (own (α := α)) T (.slice (some ⟨b, 0, none⟩) 2 2) [x1, x2] :: As) w := by
  have hst := h.closeStar (Bs := [Blk b c T, N1, N2])
  refine hst.impl (i := 0) rfl (fun f hA => ?_)
  obtain ⟨fs, q1, q2⟩ := hA
  obtain ⟨⟨hb, hf0⟩, hl0⟩ := q1 0 _ rfl
  obtain ⟨hN1, hl1⟩ := q1 1 _ rfl
  obtain ⟨hN2, hl2⟩ := q1 2 _ rfl
  have d1 : ∀ b', fs 1 b' → b ≠ b' := fun b' hb' e => q2 0 1 (by simp) (by simp) (by decide) b hf0 (e ▸ hb')
  have d2 : ∀ b', fs 2 b' → b ≠ b' := fun b' hb' e => q2 0 2 (by simp) (by simp) (by decide) b hf0 (e ▸ hb')
  have k1 := (own (α := α)).len (h1 _ _ hN1)
  have k2 := (own (α := α)).len (h2 _ _ hN2)
  refine ⟨[cs1, cs2], ⟨((own (α := α)).el cs1 x1).weak (h1 _ _ hN1) (fun b' hb' _ => ⟨(hl1 b' hb').1, fun e => d1 b' hb' (by simpa [Value.ownBlock] using e)⟩), ((own (α := α)).el cs2 x2).weak (h2 _ _ hN2) (fun b' hb' _ => ⟨(hl2 b' hb').1, fun e => d2 b' hb' (by simpa [Value.ownBlock] using e)⟩), trivial⟩, ?_, fun b' hb' => ?_, hs⟩
  · have hl : ([cs1, cs2] : List (List Value)).flatten.length = 2 * Rep.k α := by simp [k1, k2]; omega
    refine ⟨hl, .inr ⟨b, 2, c, rfl, Nat.zero_le _, hb, Nat.le_refl _, by decide, ?_, ?_⟩⟩
    · show c.size = _
      rw [← Array.length_toList, ← hc]; exact hl
    · show c.toList.take _ = _
      rw [← hc]
      exact List.take_of_length_le (by simp [k1, k2]; omega)
  · simp only [Value.ownBlock, Option.some.injEq] at hb'; subst hb'; exact (hl0 b hf0).1
end
end Go.Proofs.Ytgjgmojjeehieaa
end

section
/- Steps of the proofs of this seat: part T3. -/
set_option linter.unusedSimpArgs false
set_option linter.unusedVariables false
set_option maxRecDepth 8000
set_option maxHeartbeats 4000000
namespace Go.Proofs.Ytgjgmojjeehieaa
open Go.Proofs Go.RowKit

theorem D_laid27 {G : Nat → Prop} {W w : World} {Rs : List HP} {n : Nat} (hn : n ≤ 1000) {vl : Value} {l : List Ev} (hl : RdS W G vl l) (hS0 : Sep G W Rs w) (hl9 : l.length ≤ 1000) : Ret Try.prog 40 [.int .i64 ((n : Nat) : Int), vl] w (fun r w' => ∃ (b : Nat), r = (.pointer (some ⟨b, 0, none⟩) : Value) ∧ Sep G W ((SetO b n (laidL n l)) :: Rs) w') := by
 have hls : l.length * 96 ≤ 140737488355328 := hl.small
 refine Calls_of_WP (args := [.int .i64 ((n : Nat) : Int), vl]) Try.func40 rfl rfl ?_
 refine WP_seq ?_
 refine WP_region0 (by kernel_rfl) (fun _ => ?_)
 refine st (ov_assign (v := .pointer none) rfl ?_)
 refine st_nil ?_
 refine WP_seq ?_
 refine WP_region0 (by kernel_rfl) (fun _ => ?_)
 refine st (ov_move (v := .int .i64 ((n : Nat) : Int)) rfl ?_)
 refine st (ov_call (f := 20) (vals := [.int .i64 ((n : Nat) : Int)]) (cap := []) (show _ = (.func (.func 20) #[] #[] : Value) from rfl) rfl Try.call20 (D_NewSet (n := n) (by first | omega | (refine ⟨?_, ?_⟩ <;> omega)) hS0) ?_)
 rintro _ w2 ⟨b1, rfl, hS3⟩
 refine st (ov_assign (v := .pointer (some ⟨b1, 0, none⟩)) rfl ?_)
 refine st_nil ?_
 refine WP_seq ?_
 refine WP_seq ?_
 refine WP_region0 (by kernel_rfl) (fun _ => ?_)
 refine st (ov_move (v := .pointer (some ⟨b1, 0, none⟩)) rfl ?_)
 refine st (ov_eqlPtr (b := b1) (o := 0) Try.underlying26 rfl ?_)
 refine st_nil ?_
 refine WP_cond_f rfl ?_
 refine WP_skip ?_
 refine WP_seq ?_
 refine WP_seq ?_
 refine WP_region0 (by kernel_rfl) (fun _ => ?_)
 refine st (ov_assign (v := .int .i64 (0)) rfl ?_)
 refine st_nil ?_
 refine WP_block ?_
 refine WP_loop (fun mq σ wq => ∃ (k : Nat) (ρ : Env), mq = l.length - k ∧ σ = setAll ρ [(0, .int .i64 ((n : Nat) : Int)), (1, vl), (5, .pointer (some ⟨b1, 0, none⟩)), (6, .int .i64 ((k : Nat) : Int))] ∧ (k ≤ l.length) ∧ Sep G W ((SetO b1 n (laidL n (l.take k))) :: Rs) wq) ⟨0, _, rfl, setAll_self ⟨rfl, rfl, rfl, rfl, trivial⟩, Nat.zero_le _, hS3⟩ ?_
 rintro m5 σ6 w4 ⟨k, ρl1, rfl, rfl, hkk, hS7⟩
 refine WP_seq ?_
 refine WP_seq ?_
 refine WP_region0 (by kernel_rfl) (fun _ => ?_)
 refine st (ov_move (v := .int .i64 ((k : Nat) : Int)) rfl ?_)
 refine st (ov_move (v := vl) rfl ?_)
 refine st (ov_len (n := l.length) Try.underlying22 rfl hl.sl ?_)
 refine st (ov_lss (k := .i64) (a := ((k : Nat) : Int)) (b := ((l.length : Nat) : Int)) rfl rfl ?_)
 refine st_nil ?_
 cases hc8 : decide (((k : Nat) : Int) < ((l.length : Nat) : Int))
 ·skip
  have hc8 := of_decide_eq_false hc8
  refine WP_cond_f rfl ?_
  refine WP_exit ?_
  refine blk_exit ?_
  refine WP_seq ?_
  refine WP_region0 (by kernel_rfl) (fun _ => ?_)
  refine st (ov_move (v := .pointer (some ⟨b1, 0, none⟩)) rfl ?_)
  refine st (ov_assign (v := .pointer (some ⟨b1, 0, none⟩)) rfl ?_)
  refine st_nil ?_
  refine WP_ret ?_
  refine fin1 Try.results40 (show _ = (.pointer (some ⟨b1, 0, none⟩) : Value) from rfl) ?_
  have hk9 : k = l.length := by omega
  rw [hk9, List.take_length] at hS7
  refine ⟨b1, rfl, hS7⟩
 ·skip
  have hc8 := of_decide_eq_true hc8
  refine WP_cond_t rfl ?_
  refine WP_skip ?_
  refine WP_seq ?_
  refine WP_block ?_
  refine WP_region0 (by kernel_rfl) (fun _ => ?_)
  refine st (ov_move (v := .pointer (some ⟨b1, 0, none⟩)) rfl ?_)
  refine st (ov_move (v := vl) rfl ?_)
  refine st (ov_move (v := .int .i64 ((k : Nat) : Int)) rfl ?_)
  have hi9 : k < l.length := (by first | omega | (simp only [lens]; omega))
  refine st (ov_indexAddrN (k := 10) (i := k) Try.underlying22 Try.sizeOf36 rfl hl.sl rfl hi9 ?_)
  have hi11 : k < l.length := (by first | omega | (simp only [lens]; omega))
  obtain ⟨hce10, hde10_0, hoke10⟩ := hl.ev hi11
  rw [← getD_at default hi11] at hce10 hde10_0 hoke10
  have hsm12 : ((l.getD k default).deps).length * 8 ≤ 140737488355328 := hde10_0.small
  have hcw13 := hS7.cells hce10 (hl.foot (ne_of_lt hi11))
  refine st (ov_loadk (k := 10) Try.isAgg36 Try.sizeOf36 rfl rfl hcw13 ?_)
  refine st (ov_call (f := 21) (vals := [.pointer (some ⟨b1, 0, none⟩), .agg ((l.getD k default).cells (cellV W (sb vl) (so vl + k * 10 + 3))).toArray]) (cap := []) (show _ = (.func (.func 21) #[] #[] : Value) from rfl) rfl Try.call21 (D_Add (e := (l.getD k default)) hde10_0 hoke10 hS7 ((Nat.le_trans laid_take (by omega))) (laidL_good.len)) ?_)
  rintro _ w16 ⟨L114, rfl, hL115, hS17⟩
  refine st_nil ?_
  refine WP_region0 (by kernel_rfl) (fun _ => ?_)
  refine st (ov_move (v := .int .i64 ((k : Nat) : Int)) rfl ?_)
  have hr18 : InR ((k + 1 : Nat) : Int) := by first | omega | (simp only [lens]; omega)
  refine st (ov_add (r := ((k + 1 : Nat) : Int)) (k := .i64) (a := ((k : Nat) : Int)) (b := 1) rfl rfl (by rw [show (((k : Nat) : Int) + 1 : Int) = ((k + 1 : Nat) : Int) by first | omega | (simp only [lens]; omega)]; exact wrap_in hr18) ?_)
  refine st (ov_assign (v := .int .i64 ((k + 1 : Nat) : Int)) rfl ?_)
  refine st_nil ?_
  have hL19 : (laidL n (l.take (k + 1))) = L114 := (by rw [hL115]; exact (laid_step (by omega)).symm)
  rw [← hL19] at hS17
  exact ⟨_, by omega, k + 1, _, rfl, setAll_self ⟨rfl, rfl, rfl, rfl, trivial⟩, by omega, hS17⟩

def evZ : Ev := ⟨0, 1, 1, [0, 0], 0, 0, 0, 1, 1, 0⟩
theorem evZ_ok : evZ.Ok := by constructor <;> decide
theorem evB_ok2 : evB.Ok := by constructor <;> decide
theorem kl27 : laidL 2 [evZ, evB] = [evZ, evB] := by decide +kernel
theorem kg27 : Good 2 [evZ, evB] := by rw [← kl27]; exact laidL_good
def an14 : List Msg := [⟨3, 0, 1, [], [evZ]⟩]
def an18 : List Msg := [⟨2, 0, 1, [1, 1], []⟩]
def an22 : List Msg := [⟨4, 0, 1, [1, 1], []⟩]
def an26 : List Msg := [⟨3, 0, 1, [], [evZ]⟩, ⟨2, 0, 1, [1, 1], []⟩]
def an30 : List Msg := []
theorem D_both {G : Nat → Prop} {W w : World} {Rs : List HP}  (hS0 : Sep G W Rs w) : Ret Try.prog 72 [] w (fun r w' => ∃ (v : Value), r = (v : Value) ∧ Sep G W ((RowE (α := Ev) own 36 v [evZ, evB]) :: Rs) w') := by
 refine Calls_of_WP (args := []) Try.func72 rfl rfl ?_
 refine WP_seq ?_
 refine WP_region0 (by kernel_rfl) (fun _ => ?_)
 refine st (ov_assign (v := (.slice none 0 0)) rfl ?_)
 refine st_nil ?_
 refine WP_seq ?_
 refine WP_region0 (by kernel_rfl) (fun _ => ?_)
 refine st (ov_build (parts' := [(0, .int .i64 (0)), (1, .int .i64 (1))]) (v := .agg #[.int .i64 (0), .int .i64 (1)]) rfl (by simp [Instr.build, Instr.fill, go_sem, Ev.cells]) ?_)
 refine st (ov_buildSlice (k := 1) (parts' := [(0, .int .i64 (0)), (1, .int .i64 (0))]) (c := #[.int .i64 (0), .int .i64 (0)]) Try.underlying34 Try.sizeOf3 Try.zeroValue3 (by decide) rfl (by kernel_rfl) ?_)
 intro w3 b2 hn1
 have hS4 : Sep G W ((Blk b2 #[.int .i64 (0), .int .i64 (0)] 3) :: Rs) w3 := hS0.new hn1
 have hS5 : Sep G W ((RowE (α := Int) own 3 (.slice (some ⟨b2, 0, none⟩) 2 2) [0, 0]) :: Rs) w3 := Sep.blkRow (src := own) (l := [0, 0]) (css := [[.int .i64 (0)], [.int .i64 (0)]]) hS4 rfl ⟨fun _ _ => ⟨rfl, (by decide)⟩, fun _ _ => ⟨rfl, (by decide)⟩, trivial⟩ (by first | decide | (simp only [List.length_cons, List.length_nil]; decide))
 have hr6 := hS5.row (i := 0) rfl
 have hr6s : [0, 0].length * 8 ≤ 140737488355328 := hr6.2
 have ok7 : Ev.Ok (⟨0, 1, 1, [0, 0], 0, 0, 0, 1, 1, 0⟩ : Ev) := ⟨(show InR (0) from (by decide)), (show InR (1) from (by decide)), (show InR (1) from (by decide)), (show InR (0) from (by decide)), (show InR (0) from (by decide)), (show InR (0) from (by decide)), (show InR (1) from (by decide)), (show InR (1) from (by decide)), (show InR (0) from (by decide))⟩
 refine st (ov_build (parts' := [(0, .agg #[.int .i64 (0), .int .i64 (1)]), (1, .int .i64 (1)), (2, (.slice (some ⟨b2, 0, none⟩) 2 2)), (6, .int .i64 (1)), (7, .int .i64 (1))]) (v := .agg ((⟨0, 1, 1, [0, 0], 0, 0, 0, 1, 1, 0⟩ : Ev).cells (.slice (some ⟨b2, 0, none⟩) 2 2)).toArray) rfl (by simp [Instr.build, Instr.fill, go_sem, Ev.cells]) ?_)
 refine st (ov_build (parts' := [(0, .int .i64 (1)), (1, .int .i64 (1))]) (v := .agg #[.int .i64 (1), .int .i64 (1)]) rfl (by simp [Instr.build, Instr.fill, go_sem, Ev.cells]) ?_)
 refine st (ov_buildSlice (k := 1) (parts' := [(0, .int .i64 (1)), (1, .int .i64 (0))]) (c := #[.int .i64 (1), .int .i64 (0)]) Try.underlying34 Try.sizeOf3 Try.zeroValue3 (by decide) rfl (by kernel_rfl) ?_)
 intro w10 b9 hn8
 have hS11 : Sep G W ((Blk b9 #[.int .i64 (1), .int .i64 (0)] 3) :: (RowE (α := Int) own 3 (.slice (some ⟨b2, 0, none⟩) 2 2) [0, 0]) :: Rs) w10 := hS5.new hn8
 have hS12 : Sep G W ((RowE (α := Int) own 3 (.slice (some ⟨b9, 0, none⟩) 2 2) [1, 0]) :: (RowE (α := Int) own 3 (.slice (some ⟨b2, 0, none⟩) 2 2) [0, 0]) :: Rs) w10 := Sep.blkRow (src := own) (l := [1, 0]) (css := [[.int .i64 (1)], [.int .i64 (0)]]) hS11 rfl ⟨fun _ _ => ⟨rfl, (by decide)⟩, fun _ _ => ⟨rfl, (by decide)⟩, trivial⟩ (by first | decide | (simp only [List.length_cons, List.length_nil]; decide))
 have hr13 := hS12.row (i := 0) rfl
 have hr13s : [1, 0].length * 8 ≤ 140737488355328 := hr13.2
 have ok14 : Ev.Ok (⟨1, 1, 2, [1, 0], 0, 0, 0, 1, 1, 0⟩ : Ev) := ⟨(show InR (1) from (by decide)), (show InR (1) from (by decide)), (show InR (2) from (by decide)), (show InR (0) from (by decide)), (show InR (0) from (by decide)), (show InR (0) from (by decide)), (show InR (1) from (by decide)), (show InR (1) from (by decide)), (show InR (0) from (by decide))⟩
 refine st (ov_build (parts' := [(0, .agg #[.int .i64 (1), .int .i64 (1)]), (1, .int .i64 (2)), (2, (.slice (some ⟨b9, 0, none⟩) 2 2)), (6, .int .i64 (1)), (7, .int .i64 (1))]) (v := .agg ((⟨1, 1, 2, [1, 0], 0, 0, 0, 1, 1, 0⟩ : Ev).cells (.slice (some ⟨b9, 0, none⟩) 2 2)).toArray) rfl (by simp [Instr.build, Instr.fill, go_sem, Ev.cells]) ?_)
 refine st (ov_buildSlice (k := 10) (parts' := [(0, .agg ((⟨0, 1, 1, [0, 0], 0, 0, 0, 1, 1, 0⟩ : Ev).cells (.slice (some ⟨b2, 0, none⟩) 2 2)).toArray), (1, .agg ((⟨1, 1, 2, [1, 0], 0, 0, 0, 1, 1, 0⟩ : Ev).cells (.slice (some ⟨b9, 0, none⟩) 2 2)).toArray)]) (c := #[.int .i64 (0), .int .i64 (1), .int .i64 (1), (.slice (some ⟨b2, 0, none⟩) 2 2), .int .i64 (0), .int .i64 (0), .int .i64 (0), .int .i64 (1), .int .i64 (1), .int .i64 (0), .int .i64 (1), .int .i64 (1), .int .i64 (2), (.slice (some ⟨b9, 0, none⟩) 2 2), .int .i64 (0), .int .i64 (0), .int .i64 (0), .int .i64 (1), .int .i64 (1), .int .i64 (0)]) Try.underlying22 Try.sizeOf36 Try.zeroValue36 (by decide) rfl (by kernel_rfl) ?_)
 intro w17 b16 hn15
 have hS18 : Sep G W ((Blk b16 #[.int .i64 (0), .int .i64 (1), .int .i64 (1), (.slice (some ⟨b2, 0, none⟩) 2 2), .int .i64 (0), .int .i64 (0), .int .i64 (0), .int .i64 (1), .int .i64 (1), .int .i64 (0), .int .i64 (1), .int .i64 (1), .int .i64 (2), (.slice (some ⟨b9, 0, none⟩) 2 2), .int .i64 (0), .int .i64 (0), .int .i64 (0), .int .i64 (1), .int .i64 (1), .int .i64 (0)] 36) :: (RowE (α := Int) own 3 (.slice (some ⟨b9, 0, none⟩) 2 2) [1, 0]) :: (RowE (α := Int) own 3 (.slice (some ⟨b2, 0, none⟩) 2 2) [0, 0]) :: Rs) w17 := hS12.new hn15
 refine st (ov_assign (v := (.slice (some ⟨b16, 0, none⟩) 2 2)) rfl ?_)
 refine st_nil ?_
 refine WP_ret ?_
 refine fin1 Try.results72 (show _ = ((.slice (some ⟨b16, 0, none⟩) 2 2) : Value) from rfl) ?_
 have hS19 : Sep G W ((Blk b16 #[.int .i64 (0), .int .i64 (1), .int .i64 (1), (.slice (some ⟨b2, 0, none⟩) 2 2), .int .i64 (0), .int .i64 (0), .int .i64 (0), .int .i64 (1), .int .i64 (1), .int .i64 (0), .int .i64 (1), .int .i64 (1), .int .i64 (2), (.slice (some ⟨b9, 0, none⟩) 2 2), .int .i64 (0), .int .i64 (0), .int .i64 (0), .int .i64 (1), .int .i64 (1), .int .i64 (0)] 36) :: (RowE (α := Int) own 3 (.slice (some ⟨b2, 0, none⟩) 2 2) [0, 0]) :: (RowE (α := Int) own 3 (.slice (some ⟨b9, 0, none⟩) 2 2) [1, 0]) :: Rs) w17 := hS18.sel 3 [0, 2, 1] (Nat.le_add_left _ _) rfl rfl
 have hS20 : Sep G W ((RowE (α := Ev) own 36 (.slice (some ⟨b16, 0, none⟩) 2 2) [evZ, evB]) :: Rs) w17 := Sep.rowOf2 (cs1 := evZ.cells (.slice (some ⟨b2, 0, none⟩) 2 2)) (cs2 := evB.cells (.slice (some ⟨b9, 0, none⟩) 2 2)) hS19 rfl (fun _ _ hN => ⟨_, rfl, RowE.soft hN, evZ_ok⟩) (fun _ _ hN => ⟨_, rfl, RowE.soft hN, evB_ok2⟩) (by decide)
 refine ⟨(.slice (some ⟨b16, 0, none⟩) 2 2), rfl, hS20⟩

theorem fd57_4 {d : Option Tmp} {ty : TypeId} {pos : String} {af : Array Edge} {g : Option (Nat × Bool)} {σ : Env} {w : World} {K : Value → World → Prop} {x : Operand} {b o : Nat} (hx : ev σ x = .pointer (some ⟨b, o, none⟩)) (h : K (.pointer (some ⟨b, o + 4, none⟩)) w) : opV Try.prog ⟨d, .fieldAddr 57 x 4, ty, pos, af, g⟩ σ w K := ov_fieldAddr Try.underlying57 rfl rfl (fun w => ⟨0, Try.sizeOf22 w⟩) hx h
theorem D_known27 {G : Nat → Prop} {W w : World} {Rs : List HP}  (hS0 : Sep G W Rs w) : Ret Try.prog 39 [] w (fun r w' => r = (.bool true : Value) ∧ Sep G W Rs w') := by
 refine Calls_of_WP (args := []) Try.func39 rfl rfl ?_
 refine WP_seq ?_
 refine WP_region0 (by kernel_rfl) (fun _ => ?_)
 refine st (ov_assign (v := .bool false) rfl ?_)
 refine st_nil ?_
 refine WP_seq ?_
 refine WP_region0 (by kernel_rfl) (fun _ => ?_)
 refine st (ov_call (f := 72) (vals := []) (cap := []) (show _ = (.func (.func 72) #[] #[] : Value) from rfl) rfl Try.call72 (D_both  hS0) ?_)
 rintro v1 w2 ⟨_, rfl, hS3⟩
 have hr4 := hS3.row (i := 0) rfl
 have hr4s : [evZ, evB].length * 96 ≤ 140737488355328 := hr4.2
 obtain ⟨G5, hA7, hB8, hS9, hk10⟩ := hS3.lend
 have hrd11 := RowE.rd hA7
 have hrd11s : [evZ, evB].length * 96 ≤ 140737488355328 := hrd11.small
 refine st (ov_call (f := 40) (vals := [.int .i64 (2), v1]) (cap := []) (show _ = (.func (.func 40) #[] #[] : Value) from rfl) rfl Try.call40 (D_laid27 (n := 2) (l := [evZ, evB]) (vl := v1) (by first | omega | (refine ⟨?_, ?_⟩ <;> omega)) hrd11 hS9 (by decide)) ?_)
 rintro _ w13 ⟨b12, rfl, hS14⟩
 have hS15 : Sep G W ((RowE (α := Ev) own 36 v1 [evZ, evB]) :: (SetO b12 2 (laidL 2 [evZ, evB])) :: Rs) w13 := hk10 _ _ hS14
 rw [kl27] at hS15
 have hS16 : Sep G W ((RowE (α := Ev) own 36 v1 [evZ, evB]) :: (SetO b12 2 [evZ, evB]) :: Rs) w13 := hS15
 refine st (ov_assign (v := .pointer (some ⟨b12, 0, none⟩)) rfl ?_)
 refine st_nil ?_
 refine WP_seq ?_
 refine WP_seq ?_
 refine WP_region0 (by kernel_rfl) (fun _ => ?_)
 refine st (ov_move (v := .pointer (some ⟨b12, 0, none⟩)) rfl ?_)
 refine st (ov_eqlPtr (b := b12) (o := 0) Try.underlying26 rfl ?_)
 refine st_nil ?_
 refine WP_cond_f rfl ?_
 refine WP_skip ?_
 refine WP_seq ?_
 refine WP_region0 (by kernel_rfl) (fun _ => ?_)
 refine st (ov_move (v := .pointer (some ⟨b12, 0, none⟩)) rfl ?_)
 refine st (ov_buildSlice (k := 1) (parts' := [(0, .int .i64 (0)), (1, .int .i64 (0))]) (c := #[.int .i64 (0), .int .i64 (0)]) Try.underlying34 Try.sizeOf3 Try.zeroValue3 (by decide) rfl (by kernel_rfl) ?_)
 intro w19 b18 hn17
 have hS20 : Sep G W ((Blk b18 #[.int .i64 (0), .int .i64 (0)] 3) :: (RowE (α := Ev) own 36 v1 [evZ, evB]) :: (SetO b12 2 [evZ, evB]) :: Rs) w19 := hS16.new hn17
 have hS21 : Sep G W ((RowE (α := Int) own 3 (.slice (some ⟨b18, 0, none⟩) 2 2) [0, 0]) :: (RowE (α := Ev) own 36 v1 [evZ, evB]) :: (SetO b12 2 [evZ, evB]) :: Rs) w19 := Sep.blkRow (src := own) (l := [0, 0]) (css := [[.int .i64 (0)], [.int .i64 (0)]]) hS20 rfl ⟨fun _ _ => ⟨rfl, (by decide)⟩, fun _ _ => ⟨rfl, (by decide)⟩, trivial⟩ (by first | decide | (simp only [List.length_cons, List.length_nil]; decide))
 have hr22 := hS21.row (i := 0) rfl
 have hr22s : [0, 0].length * 8 ≤ 140737488355328 := hr22.2
 have ok23 : Msg.Ok (⟨1, 1, 0, [0, 0], []⟩ : Msg) := ⟨(show InR (1) from (by decide)), (show InR (1) from (by decide)), (show InR (0) from (by decide))⟩
 refine st (ov_build (parts' := [(0, .int .i64 (1)), (1, .int .i64 (1)), (3, (.slice (some ⟨b18, 0, none⟩) 2 2))]) (v := .agg ((⟨1, 1, 0, [0, 0], []⟩ : Msg).cells (.slice (some ⟨b18, 0, none⟩) 2 2) (.slice none 0 0)).toArray) rfl (by simp [Instr.build, Instr.fill, go_sem, Msg.cells]) ?_)
 have hS24 : Sep G W ((SetO b12 2 [evZ, evB]) :: (RowE (α := Int) own 3 (.slice (some ⟨b18, 0, none⟩) 2 2) [0, 0]) :: (RowE (α := Ev) own 36 v1 [evZ, evB]) :: Rs) w19 := hS21.sel 3 [2, 0, 1] (Nat.le_add_left _ _) rfl rfl
 obtain ⟨G25, hA27, hB28, hS29, hk30⟩ := hS24.lend
 obtain ⟨vv31, m32, R33, hb34, hv35, hr36⟩ := SetO.sh hA27
 have hsm37 : (vecE 2 [evZ, evB]).length * 8 ≤ 140737488355328 := hv35.small
 obtain ⟨G38, hA40, hB41, hS42, hk43⟩ := hS29.lend
 have hrd44 := RowE.rd hA40
 have hrd44s : [0, 0].length * 8 ≤ 140737488355328 := hrd44.small
 refine st (ov_call (f := 41) (vals := [.pointer (some ⟨b12, 0, none⟩), .int .i64 (0), .agg ((⟨1, 1, 0, [0, 0], []⟩ : Msg).cells (.slice (some ⟨b18, 0, none⟩) 2 2) (.slice none 0 0)).toArray, .int .i64 (1)]) (cap := []) (show _ = (.func (.func 41) #[] #[] : Value) from rfl) rfl Try.call41 (D_Answer (self := 0) (m := (⟨1, 1, 0, [0, 0], []⟩ : Msg)) (chunk := 1) (HP.base hA27 hB41) (by decide) hrd44 (RdS.nil _ _) ok23 (by decide) hS42 (kg27.ids) (kg27.srt) (by decide)) ?_)
 rintro v45 w46 ⟨_, rfl, hS47⟩
 have hr48 := hS47.row (i := 0) rfl
 have hr48s : (ansL 2 [evZ, evB] 0 (⟨1, 1, 0, [0, 0], []⟩ : Msg) 1).length * 72 ≤ 140737488355328 := hr48.2
 have hS49 : Sep G25 w19 ((RowE (α := Int) own 3 (.slice (some ⟨b18, 0, none⟩) 2 2) [0, 0]) :: (RowE (α := Msg) own 57 v45 (ansL 2 [evZ, evB] 0 (⟨1, 1, 0, [0, 0], []⟩ : Msg) 1)) :: (RowE (α := Ev) own 36 v1 [evZ, evB]) :: Rs) w46 := hk43 _ _ hS47
 have hS50 : Sep G W ((SetO b12 2 [evZ, evB]) :: (RowE (α := Int) own 3 (.slice (some ⟨b18, 0, none⟩) 2 2) [0, 0]) :: (RowE (α := Msg) own 57 v45 (ansL 2 [evZ, evB] 0 (⟨1, 1, 0, [0, 0], []⟩ : Msg) 1)) :: (RowE (α := Ev) own 36 v1 [evZ, evB]) :: Rs) w46 := hk30 _ _ hS49
 rw [show ansL 2 [evZ, evB] 0 (⟨1, 1, 0, [0, 0], []⟩ : Msg) 1 = (an14 : List Msg) from by decide +kernel] at hS50
 have hS51 : Sep G W ((SetO b12 2 [evZ, evB]) :: (RowE (α := Int) own 3 (.slice (some ⟨b18, 0, none⟩) 2 2) [0, 0]) :: (RowE (α := Msg) own 57 v45 an14) :: (RowE (α := Ev) own 36 v1 [evZ, evB]) :: Rs) w46 := hS50
 have hS52 : Sep G W ((SetO b12 2 [evZ, evB]) :: (RowE (α := Msg) own 57 v45 an14) :: (RowE (α := Ev) own 36 v1 [evZ, evB]) :: Rs) w46 := hS51.sel 4 [0, 2, 3] (Nat.le_add_left _ _) rfl rfl
 have hr53 := hS52.row (i := 1) rfl
 have hr53s : an14.length * 72 ≤ 140737488355328 := hr53.2
 refine st (ov_assign (v := v45) rfl ?_)
 refine st_nil ?_
 refine WP_seq ?_
 refine WP_region0 (by kernel_rfl) (fun _ => ?_)
 refine st (ov_move (v := .pointer (some ⟨b12, 0, none⟩)) rfl ?_)
 refine st (ov_buildSlice (k := 1) (parts' := [(0, .int .i64 (1)), (1, .int .i64 (3))]) (c := #[.int .i64 (1), .int .i64 (3)]) Try.underlying34 Try.sizeOf3 Try.zeroValue3 (by decide) rfl (by kernel_rfl) ?_)
 intro w56 b55 hn54
 have hS57 : Sep G W ((Blk b55 #[.int .i64 (1), .int .i64 (3)] 3) :: (SetO b12 2 [evZ, evB]) :: (RowE (α := Msg) own 57 v45 an14) :: (RowE (α := Ev) own 36 v1 [evZ, evB]) :: Rs) w56 := hS52.new hn54
 have hS58 : Sep G W ((RowE (α := Int) own 3 (.slice (some ⟨b55, 0, none⟩) 2 2) [1, 3]) :: (SetO b12 2 [evZ, evB]) :: (RowE (α := Msg) own 57 v45 an14) :: (RowE (α := Ev) own 36 v1 [evZ, evB]) :: Rs) w56 := Sep.blkRow (src := own) (l := [1, 3]) (css := [[.int .i64 (1)], [.int .i64 (3)]]) hS57 rfl ⟨fun _ _ => ⟨rfl, (by decide)⟩, fun _ _ => ⟨rfl, (by decide)⟩, trivial⟩ (by first | decide | (simp only [List.length_cons, List.length_nil]; decide))
 have hr59 := hS58.row (i := 0) rfl
 have hr59s : [1, 3].length * 8 ≤ 140737488355328 := hr59.2
 have ok60 : Msg.Ok (⟨1, 1, 0, [1, 3], []⟩ : Msg) := ⟨(show InR (1) from (by decide)), (show InR (1) from (by decide)), (show InR (0) from (by decide))⟩
 refine st (ov_build (parts' := [(0, .int .i64 (1)), (1, .int .i64 (1)), (3, (.slice (some ⟨b55, 0, none⟩) 2 2))]) (v := .agg ((⟨1, 1, 0, [1, 3], []⟩ : Msg).cells (.slice (some ⟨b55, 0, none⟩) 2 2) (.slice none 0 0)).toArray) rfl (by simp [Instr.build, Instr.fill, go_sem, Msg.cells]) ?_)
 have hS61 : Sep G W ((SetO b12 2 [evZ, evB]) :: (RowE (α := Int) own 3 (.slice (some ⟨b55, 0, none⟩) 2 2) [1, 3]) :: (RowE (α := Msg) own 57 v45 an14) :: (RowE (α := Ev) own 36 v1 [evZ, evB]) :: Rs) w56 := hS58.sel 4 [1, 0, 2, 3] (Nat.le_add_left _ _) rfl rfl
 obtain ⟨G62, hA64, hB65, hS66, hk67⟩ := hS61.lend
 obtain ⟨vv68, m69, R70, hb71, hv72, hr73⟩ := SetO.sh hA64
 have hsm74 : (vecE 2 [evZ, evB]).length * 8 ≤ 140737488355328 := hv72.small
 obtain ⟨G75, hA77, hB78, hS79, hk80⟩ := hS66.lend
 have hrd81 := RowE.rd hA77
 have hrd81s : [1, 3].length * 8 ≤ 140737488355328 := hrd81.small
 refine st (ov_call (f := 41) (vals := [.pointer (some ⟨b12, 0, none⟩), .int .i64 (0), .agg ((⟨1, 1, 0, [1, 3], []⟩ : Msg).cells (.slice (some ⟨b55, 0, none⟩) 2 2) (.slice none 0 0)).toArray, .int .i64 (9)]) (cap := []) (show _ = (.func (.func 41) #[] #[] : Value) from rfl) rfl Try.call41 (D_Answer (self := 0) (m := (⟨1, 1, 0, [1, 3], []⟩ : Msg)) (chunk := 9) (HP.base hA64 hB78) (by decide) hrd81 (RdS.nil _ _) ok60 (by decide) hS79 (kg27.ids) (kg27.srt) (by decide)) ?_)
 rintro v82 w83 ⟨_, rfl, hS84⟩
 have hr85 := hS84.row (i := 0) rfl
 have hr85s : (ansL 2 [evZ, evB] 0 (⟨1, 1, 0, [1, 3], []⟩ : Msg) 9).length * 72 ≤ 140737488355328 := hr85.2
 have hS86 : Sep G62 w56 ((RowE (α := Int) own 3 (.slice (some ⟨b55, 0, none⟩) 2 2) [1, 3]) :: (RowE (α := Msg) own 57 v82 (ansL 2 [evZ, evB] 0 (⟨1, 1, 0, [1, 3], []⟩ : Msg) 9)) :: (RowE (α := Msg) own 57 v45 an14) :: (RowE (α := Ev) own 36 v1 [evZ, evB]) :: Rs) w83 := hk80 _ _ hS84
 have hS87 : Sep G W ((SetO b12 2 [evZ, evB]) :: (RowE (α := Int) own 3 (.slice (some ⟨b55, 0, none⟩) 2 2) [1, 3]) :: (RowE (α := Msg) own 57 v82 (ansL 2 [evZ, evB] 0 (⟨1, 1, 0, [1, 3], []⟩ : Msg) 9)) :: (RowE (α := Msg) own 57 v45 an14) :: (RowE (α := Ev) own 36 v1 [evZ, evB]) :: Rs) w83 := hk67 _ _ hS86
 rw [show ansL 2 [evZ, evB] 0 (⟨1, 1, 0, [1, 3], []⟩ : Msg) 9 = (an18 : List Msg) from by decide +kernel] at hS87
 have hS88 : Sep G W ((SetO b12 2 [evZ, evB]) :: (RowE (α := Int) own 3 (.slice (some ⟨b55, 0, none⟩) 2 2) [1, 3]) :: (RowE (α := Msg) own 57 v82 an18) :: (RowE (α := Msg) own 57 v45 an14) :: (RowE (α := Ev) own 36 v1 [evZ, evB]) :: Rs) w83 := hS87
 have hS89 : Sep G W ((SetO b12 2 [evZ, evB]) :: (RowE (α := Msg) own 57 v82 an18) :: (RowE (α := Msg) own 57 v45 an14) :: (RowE (α := Ev) own 36 v1 [evZ, evB]) :: Rs) w83 := hS88.sel 5 [0, 2, 3, 4] (Nat.le_add_left _ _) rfl rfl
 have hr90 := hS89.row (i := 1) rfl
 have hr90s : an18.length * 72 ≤ 140737488355328 := hr90.2
 refine st (ov_assign (v := v82) rfl ?_)
 refine st_nil ?_
 refine WP_seq ?_
 refine WP_region0 (by kernel_rfl) (fun _ => ?_)
 refine st (ov_move (v := .pointer (some ⟨b12, 0, none⟩)) rfl ?_)
 refine st (ov_buildSlice (k := 1) (parts' := [(0, .int .i64 (1)), (1, .int .i64 (3))]) (c := #[.int .i64 (1), .int .i64 (3)]) Try.underlying34 Try.sizeOf3 Try.zeroValue3 (by decide) rfl (by kernel_rfl) ?_)
 intro w93 b92 hn91
 have hS94 : Sep G W ((Blk b92 #[.int .i64 (1), .int .i64 (3)] 3) :: (SetO b12 2 [evZ, evB]) :: (RowE (α := Msg) own 57 v82 an18) :: (RowE (α := Msg) own 57 v45 an14) :: (RowE (α := Ev) own 36 v1 [evZ, evB]) :: Rs) w93 := hS89.new hn91
 have hS95 : Sep G W ((RowE (α := Int) own 3 (.slice (some ⟨b92, 0, none⟩) 2 2) [1, 3]) :: (SetO b12 2 [evZ, evB]) :: (RowE (α := Msg) own 57 v82 an18) :: (RowE (α := Msg) own 57 v45 an14) :: (RowE (α := Ev) own 36 v1 [evZ, evB]) :: Rs) w93 := Sep.blkRow (src := own) (l := [1, 3]) (css := [[.int .i64 (1)], [.int .i64 (3)]]) hS94 rfl ⟨fun _ _ => ⟨rfl, (by decide)⟩, fun _ _ => ⟨rfl, (by decide)⟩, trivial⟩ (by first | decide | (simp only [List.length_cons, List.length_nil]; decide))
 have hr96 := hS95.row (i := 0) rfl
 have hr96s : [1, 3].length * 8 ≤ 140737488355328 := hr96.2
 have ok97 : Msg.Ok (⟨2, 1, 0, [1, 3], []⟩ : Msg) := ⟨(show InR (2) from (by decide)), (show InR (1) from (by decide)), (show InR (0) from (by decide))⟩
 refine st (ov_build (parts' := [(0, .int .i64 (2)), (1, .int .i64 (1)), (3, (.slice (some ⟨b92, 0, none⟩) 2 2))]) (v := .agg ((⟨2, 1, 0, [1, 3], []⟩ : Msg).cells (.slice (some ⟨b92, 0, none⟩) 2 2) (.slice none 0 0)).toArray) rfl (by simp [Instr.build, Instr.fill, go_sem, Msg.cells]) ?_)
 have hS98 : Sep G W ((SetO b12 2 [evZ, evB]) :: (RowE (α := Int) own 3 (.slice (some ⟨b92, 0, none⟩) 2 2) [1, 3]) :: (RowE (α := Msg) own 57 v82 an18) :: (RowE (α := Msg) own 57 v45 an14) :: (RowE (α := Ev) own 36 v1 [evZ, evB]) :: Rs) w93 := hS95.sel 5 [1, 0, 2, 3, 4] (Nat.le_add_left _ _) rfl rfl
 obtain ⟨G99, hA101, hB102, hS103, hk104⟩ := hS98.lend
 obtain ⟨vv105, m106, R107, hb108, hv109, hr110⟩ := SetO.sh hA101
 have hsm111 : (vecE 2 [evZ, evB]).length * 8 ≤ 140737488355328 := hv109.small
 obtain ⟨G112, hA114, hB115, hS116, hk117⟩ := hS103.lend
 have hrd118 := RowE.rd hA114
 have hrd118s : [1, 3].length * 8 ≤ 140737488355328 := hrd118.small
 refine st (ov_call (f := 41) (vals := [.pointer (some ⟨b12, 0, none⟩), .int .i64 (0), .agg ((⟨2, 1, 0, [1, 3], []⟩ : Msg).cells (.slice (some ⟨b92, 0, none⟩) 2 2) (.slice none 0 0)).toArray, .int .i64 (9)]) (cap := []) (show _ = (.func (.func 41) #[] #[] : Value) from rfl) rfl Try.call41 (D_Answer (self := 0) (m := (⟨2, 1, 0, [1, 3], []⟩ : Msg)) (chunk := 9) (HP.base hA101 hB115) (by decide) hrd118 (RdS.nil _ _) ok97 (by decide) hS116 (kg27.ids) (kg27.srt) (by decide)) ?_)
 rintro v119 w120 ⟨_, rfl, hS121⟩
 have hr122 := hS121.row (i := 0) rfl
 have hr122s : (ansL 2 [evZ, evB] 0 (⟨2, 1, 0, [1, 3], []⟩ : Msg) 9).length * 72 ≤ 140737488355328 := hr122.2
 have hS123 : Sep G99 w93 ((RowE (α := Int) own 3 (.slice (some ⟨b92, 0, none⟩) 2 2) [1, 3]) :: (RowE (α := Msg) own 57 v119 (ansL 2 [evZ, evB] 0 (⟨2, 1, 0, [1, 3], []⟩ : Msg) 9)) :: (RowE (α := Msg) own 57 v82 an18) :: (RowE (α := Msg) own 57 v45 an14) :: (RowE (α := Ev) own 36 v1 [evZ, evB]) :: Rs) w120 := hk117 _ _ hS121
 have hS124 : Sep G W ((SetO b12 2 [evZ, evB]) :: (RowE (α := Int) own 3 (.slice (some ⟨b92, 0, none⟩) 2 2) [1, 3]) :: (RowE (α := Msg) own 57 v119 (ansL 2 [evZ, evB] 0 (⟨2, 1, 0, [1, 3], []⟩ : Msg) 9)) :: (RowE (α := Msg) own 57 v82 an18) :: (RowE (α := Msg) own 57 v45 an14) :: (RowE (α := Ev) own 36 v1 [evZ, evB]) :: Rs) w120 := hk104 _ _ hS123
 rw [show ansL 2 [evZ, evB] 0 (⟨2, 1, 0, [1, 3], []⟩ : Msg) 9 = (an22 : List Msg) from by decide +kernel] at hS124
 have hS125 : Sep G W ((SetO b12 2 [evZ, evB]) :: (RowE (α := Int) own 3 (.slice (some ⟨b92, 0, none⟩) 2 2) [1, 3]) :: (RowE (α := Msg) own 57 v119 an22) :: (RowE (α := Msg) own 57 v82 an18) :: (RowE (α := Msg) own 57 v45 an14) :: (RowE (α := Ev) own 36 v1 [evZ, evB]) :: Rs) w120 := hS124
 have hS126 : Sep G W ((SetO b12 2 [evZ, evB]) :: (RowE (α := Msg) own 57 v119 an22) :: (RowE (α := Msg) own 57 v82 an18) :: (RowE (α := Msg) own 57 v45 an14) :: (RowE (α := Ev) own 36 v1 [evZ, evB]) :: Rs) w120 := hS125.sel 6 [0, 2, 3, 4, 5] (Nat.le_add_left _ _) rfl rfl
 have hr127 := hS126.row (i := 1) rfl
 have hr127s : an22.length * 72 ≤ 140737488355328 := hr127.2
 refine st (ov_assign (v := v119) rfl ?_)
 refine st_nil ?_
 refine WP_seq ?_
 refine WP_region0 (by kernel_rfl) (fun _ => ?_)
 refine st (ov_move (v := .pointer (some ⟨b12, 0, none⟩)) rfl ?_)
 refine st (ov_buildSlice (k := 1) (parts' := [(0, .int .i64 (0)), (1, .int .i64 (2))]) (c := #[.int .i64 (0), .int .i64 (2)]) Try.underlying34 Try.sizeOf3 Try.zeroValue3 (by decide) rfl (by kernel_rfl) ?_)
 intro w130 b129 hn128
 have hS131 : Sep G W ((Blk b129 #[.int .i64 (0), .int .i64 (2)] 3) :: (SetO b12 2 [evZ, evB]) :: (RowE (α := Msg) own 57 v119 an22) :: (RowE (α := Msg) own 57 v82 an18) :: (RowE (α := Msg) own 57 v45 an14) :: (RowE (α := Ev) own 36 v1 [evZ, evB]) :: Rs) w130 := hS126.new hn128
 have hS132 : Sep G W ((RowE (α := Int) own 3 (.slice (some ⟨b129, 0, none⟩) 2 2) [0, 2]) :: (SetO b12 2 [evZ, evB]) :: (RowE (α := Msg) own 57 v119 an22) :: (RowE (α := Msg) own 57 v82 an18) :: (RowE (α := Msg) own 57 v45 an14) :: (RowE (α := Ev) own 36 v1 [evZ, evB]) :: Rs) w130 := Sep.blkRow (src := own) (l := [0, 2]) (css := [[.int .i64 (0)], [.int .i64 (2)]]) hS131 rfl ⟨fun _ _ => ⟨rfl, (by decide)⟩, fun _ _ => ⟨rfl, (by decide)⟩, trivial⟩ (by first | decide | (simp only [List.length_cons, List.length_nil]; decide))
 have hr133 := hS132.row (i := 0) rfl
 have hr133s : [0, 2].length * 8 ≤ 140737488355328 := hr133.2
 have ok134 : Msg.Ok (⟨1, 1, 0, [0, 2], []⟩ : Msg) := ⟨(show InR (1) from (by decide)), (show InR (1) from (by decide)), (show InR (0) from (by decide))⟩
 refine st (ov_build (parts' := [(0, .int .i64 (1)), (1, .int .i64 (1)), (3, (.slice (some ⟨b129, 0, none⟩) 2 2))]) (v := .agg ((⟨1, 1, 0, [0, 2], []⟩ : Msg).cells (.slice (some ⟨b129, 0, none⟩) 2 2) (.slice none 0 0)).toArray) rfl (by simp [Instr.build, Instr.fill, go_sem, Msg.cells]) ?_)
 have hS135 : Sep G W ((SetO b12 2 [evZ, evB]) :: (RowE (α := Int) own 3 (.slice (some ⟨b129, 0, none⟩) 2 2) [0, 2]) :: (RowE (α := Msg) own 57 v119 an22) :: (RowE (α := Msg) own 57 v82 an18) :: (RowE (α := Msg) own 57 v45 an14) :: (RowE (α := Ev) own 36 v1 [evZ, evB]) :: Rs) w130 := hS132.sel 6 [1, 0, 2, 3, 4, 5] (Nat.le_add_left _ _) rfl rfl
 obtain ⟨G136, hA138, hB139, hS140, hk141⟩ := hS135.lend
 obtain ⟨vv142, m143, R144, hb145, hv146, hr147⟩ := SetO.sh hA138
 have hsm148 : (vecE 2 [evZ, evB]).length * 8 ≤ 140737488355328 := hv146.small
 obtain ⟨G149, hA151, hB152, hS153, hk154⟩ := hS140.lend
 have hrd155 := RowE.rd hA151
 have hrd155s : [0, 2].length * 8 ≤ 140737488355328 := hrd155.small
 refine st (ov_call (f := 41) (vals := [.pointer (some ⟨b12, 0, none⟩), .int .i64 (0), .agg ((⟨1, 1, 0, [0, 2], []⟩ : Msg).cells (.slice (some ⟨b129, 0, none⟩) 2 2) (.slice none 0 0)).toArray, .int .i64 (9)]) (cap := []) (show _ = (.func (.func 41) #[] #[] : Value) from rfl) rfl Try.call41 (D_Answer (self := 0) (m := (⟨1, 1, 0, [0, 2], []⟩ : Msg)) (chunk := 9) (HP.base hA138 hB152) (by decide) hrd155 (RdS.nil _ _) ok134 (by decide) hS153 (kg27.ids) (kg27.srt) (by decide)) ?_)
 rintro v156 w157 ⟨_, rfl, hS158⟩
 have hr159 := hS158.row (i := 0) rfl
 have hr159s : (ansL 2 [evZ, evB] 0 (⟨1, 1, 0, [0, 2], []⟩ : Msg) 9).length * 72 ≤ 140737488355328 := hr159.2
 have hS160 : Sep G136 w130 ((RowE (α := Int) own 3 (.slice (some ⟨b129, 0, none⟩) 2 2) [0, 2]) :: (RowE (α := Msg) own 57 v156 (ansL 2 [evZ, evB] 0 (⟨1, 1, 0, [0, 2], []⟩ : Msg) 9)) :: (RowE (α := Msg) own 57 v119 an22) :: (RowE (α := Msg) own 57 v82 an18) :: (RowE (α := Msg) own 57 v45 an14) :: (RowE (α := Ev) own 36 v1 [evZ, evB]) :: Rs) w157 := hk154 _ _ hS158
 have hS161 : Sep G W ((SetO b12 2 [evZ, evB]) :: (RowE (α := Int) own 3 (.slice (some ⟨b129, 0, none⟩) 2 2) [0, 2]) :: (RowE (α := Msg) own 57 v156 (ansL 2 [evZ, evB] 0 (⟨1, 1, 0, [0, 2], []⟩ : Msg) 9)) :: (RowE (α := Msg) own 57 v119 an22) :: (RowE (α := Msg) own 57 v82 an18) :: (RowE (α := Msg) own 57 v45 an14) :: (RowE (α := Ev) own 36 v1 [evZ, evB]) :: Rs) w157 := hk141 _ _ hS160
 rw [show ansL 2 [evZ, evB] 0 (⟨1, 1, 0, [0, 2], []⟩ : Msg) 9 = (an26 : List Msg) from by decide +kernel] at hS161
 have hS162 : Sep G W ((SetO b12 2 [evZ, evB]) :: (RowE (α := Int) own 3 (.slice (some ⟨b129, 0, none⟩) 2 2) [0, 2]) :: (RowE (α := Msg) own 57 v156 an26) :: (RowE (α := Msg) own 57 v119 an22) :: (RowE (α := Msg) own 57 v82 an18) :: (RowE (α := Msg) own 57 v45 an14) :: (RowE (α := Ev) own 36 v1 [evZ, evB]) :: Rs) w157 := hS161
 have hS163 : Sep G W ((SetO b12 2 [evZ, evB]) :: (RowE (α := Msg) own 57 v156 an26) :: (RowE (α := Msg) own 57 v119 an22) :: (RowE (α := Msg) own 57 v82 an18) :: (RowE (α := Msg) own 57 v45 an14) :: (RowE (α := Ev) own 36 v1 [evZ, evB]) :: Rs) w157 := hS162.sel 7 [0, 2, 3, 4, 5, 6] (Nat.le_add_left _ _) rfl rfl
 have hr164 := hS163.row (i := 1) rfl
 have hr164s : an26.length * 72 ≤ 140737488355328 := hr164.2
 refine st (ov_assign (v := v156) rfl ?_)
 refine st_nil ?_
 refine WP_seq ?_
 refine WP_region0 (by kernel_rfl) (fun _ => ?_)
 refine st (ov_move (v := .pointer (some ⟨b12, 0, none⟩)) rfl ?_)
 refine st (ov_buildSlice (k := 1) (parts' := [(0, .int .i64 (0)), (1, .int .i64 (0))]) (c := #[.int .i64 (0), .int .i64 (0)]) Try.underlying34 Try.sizeOf3 Try.zeroValue3 (by decide) rfl (by kernel_rfl) ?_)
 intro w167 b166 hn165
 have hS168 : Sep G W ((Blk b166 #[.int .i64 (0), .int .i64 (0)] 3) :: (SetO b12 2 [evZ, evB]) :: (RowE (α := Msg) own 57 v156 an26) :: (RowE (α := Msg) own 57 v119 an22) :: (RowE (α := Msg) own 57 v82 an18) :: (RowE (α := Msg) own 57 v45 an14) :: (RowE (α := Ev) own 36 v1 [evZ, evB]) :: Rs) w167 := hS163.new hn165
 have hS169 : Sep G W ((RowE (α := Int) own 3 (.slice (some ⟨b166, 0, none⟩) 2 2) [0, 0]) :: (SetO b12 2 [evZ, evB]) :: (RowE (α := Msg) own 57 v156 an26) :: (RowE (α := Msg) own 57 v119 an22) :: (RowE (α := Msg) own 57 v82 an18) :: (RowE (α := Msg) own 57 v45 an14) :: (RowE (α := Ev) own 36 v1 [evZ, evB]) :: Rs) w167 := Sep.blkRow (src := own) (l := [0, 0]) (css := [[.int .i64 (0)], [.int .i64 (0)]]) hS168 rfl ⟨fun _ _ => ⟨rfl, (by decide)⟩, fun _ _ => ⟨rfl, (by decide)⟩, trivial⟩ (by first | decide | (simp only [List.length_cons, List.length_nil]; decide))
 have hr170 := hS169.row (i := 0) rfl
 have hr170s : [0, 0].length * 8 ≤ 140737488355328 := hr170.2
 have ok171 : Msg.Ok (⟨4, 1, 0, [0, 0], []⟩ : Msg) := ⟨(show InR (4) from (by decide)), (show InR (1) from (by decide)), (show InR (0) from (by decide))⟩
 refine st (ov_build (parts' := [(0, .int .i64 (4)), (1, .int .i64 (1)), (3, (.slice (some ⟨b166, 0, none⟩) 2 2))]) (v := .agg ((⟨4, 1, 0, [0, 0], []⟩ : Msg).cells (.slice (some ⟨b166, 0, none⟩) 2 2) (.slice none 0 0)).toArray) rfl (by simp [Instr.build, Instr.fill, go_sem, Msg.cells]) ?_)
 have hS172 : Sep G W ((SetO b12 2 [evZ, evB]) :: (RowE (α := Int) own 3 (.slice (some ⟨b166, 0, none⟩) 2 2) [0, 0]) :: (RowE (α := Msg) own 57 v156 an26) :: (RowE (α := Msg) own 57 v119 an22) :: (RowE (α := Msg) own 57 v82 an18) :: (RowE (α := Msg) own 57 v45 an14) :: (RowE (α := Ev) own 36 v1 [evZ, evB]) :: Rs) w167 := hS169.sel 7 [1, 0, 2, 3, 4, 5, 6] (Nat.le_add_left _ _) rfl rfl
 obtain ⟨G173, hA175, hB176, hS177, hk178⟩ := hS172.lend
 obtain ⟨vv179, m180, R181, hb182, hv183, hr184⟩ := SetO.sh hA175
 have hsm185 : (vecE 2 [evZ, evB]).length * 8 ≤ 140737488355328 := hv183.small
 obtain ⟨G186, hA188, hB189, hS190, hk191⟩ := hS177.lend
 have hrd192 := RowE.rd hA188
 have hrd192s : [0, 0].length * 8 ≤ 140737488355328 := hrd192.small
 refine st (ov_call (f := 41) (vals := [.pointer (some ⟨b12, 0, none⟩), .int .i64 (0), .agg ((⟨4, 1, 0, [0, 0], []⟩ : Msg).cells (.slice (some ⟨b166, 0, none⟩) 2 2) (.slice none 0 0)).toArray, .int .i64 (9)]) (cap := []) (show _ = (.func (.func 41) #[] #[] : Value) from rfl) rfl Try.call41 (D_Answer (self := 0) (m := (⟨4, 1, 0, [0, 0], []⟩ : Msg)) (chunk := 9) (HP.base hA175 hB189) (by decide) hrd192 (RdS.nil _ _) ok171 (by decide) hS190 (kg27.ids) (kg27.srt) (by decide)) ?_)
 rintro v193 w194 ⟨_, rfl, hS195⟩
 have hr196 := hS195.row (i := 0) rfl
 have hr196s : (ansL 2 [evZ, evB] 0 (⟨4, 1, 0, [0, 0], []⟩ : Msg) 9).length * 72 ≤ 140737488355328 := hr196.2
 have hS197 : Sep G173 w167 ((RowE (α := Int) own 3 (.slice (some ⟨b166, 0, none⟩) 2 2) [0, 0]) :: (RowE (α := Msg) own 57 v193 (ansL 2 [evZ, evB] 0 (⟨4, 1, 0, [0, 0], []⟩ : Msg) 9)) :: (RowE (α := Msg) own 57 v156 an26) :: (RowE (α := Msg) own 57 v119 an22) :: (RowE (α := Msg) own 57 v82 an18) :: (RowE (α := Msg) own 57 v45 an14) :: (RowE (α := Ev) own 36 v1 [evZ, evB]) :: Rs) w194 := hk191 _ _ hS195
 have hS198 : Sep G W ((SetO b12 2 [evZ, evB]) :: (RowE (α := Int) own 3 (.slice (some ⟨b166, 0, none⟩) 2 2) [0, 0]) :: (RowE (α := Msg) own 57 v193 (ansL 2 [evZ, evB] 0 (⟨4, 1, 0, [0, 0], []⟩ : Msg) 9)) :: (RowE (α := Msg) own 57 v156 an26) :: (RowE (α := Msg) own 57 v119 an22) :: (RowE (α := Msg) own 57 v82 an18) :: (RowE (α := Msg) own 57 v45 an14) :: (RowE (α := Ev) own 36 v1 [evZ, evB]) :: Rs) w194 := hk178 _ _ hS197
 rw [show ansL 2 [evZ, evB] 0 (⟨4, 1, 0, [0, 0], []⟩ : Msg) 9 = (an30 : List Msg) from by decide +kernel] at hS198
 have hS199 : Sep G W ((SetO b12 2 [evZ, evB]) :: (RowE (α := Int) own 3 (.slice (some ⟨b166, 0, none⟩) 2 2) [0, 0]) :: (RowE (α := Msg) own 57 v193 an30) :: (RowE (α := Msg) own 57 v156 an26) :: (RowE (α := Msg) own 57 v119 an22) :: (RowE (α := Msg) own 57 v82 an18) :: (RowE (α := Msg) own 57 v45 an14) :: (RowE (α := Ev) own 36 v1 [evZ, evB]) :: Rs) w194 := hS198
 have hS200 : Sep G W ((SetO b12 2 [evZ, evB]) :: (RowE (α := Msg) own 57 v193 an30) :: (RowE (α := Msg) own 57 v156 an26) :: (RowE (α := Msg) own 57 v119 an22) :: (RowE (α := Msg) own 57 v82 an18) :: (RowE (α := Msg) own 57 v45 an14) :: (RowE (α := Ev) own 36 v1 [evZ, evB]) :: Rs) w194 := hS199.sel 8 [0, 2, 3, 4, 5, 6, 7] (Nat.le_add_left _ _) rfl rfl
 have hr201 := hS200.row (i := 1) rfl
 have hr201s : an30.length * 72 ≤ 140737488355328 := hr201.2
 refine st (ov_assign (v := v193) rfl ?_)
 refine st_nil ?_
 refine WP_seq ?_
 have hS202 : Sep G W ((RowE (α := Msg) own 57 v193 an30) :: (SetO b12 2 [evZ, evB]) :: (RowE (α := Msg) own 57 v156 an26) :: (RowE (α := Msg) own 57 v119 an22) :: (RowE (α := Msg) own 57 v82 an18) :: (RowE (α := Msg) own 57 v45 an14) :: (RowE (α := Ev) own 36 v1 [evZ, evB]) :: Rs) w194 := hS200.sel 7 [1, 0, 2, 3, 4, 5, 6] (Nat.le_add_left _ _) rfl rfl
 obtain ⟨G203, hA205, hB206, hS207, hk208⟩ := hS202.lend
 have hrd209 := RowE.rd hA205
 have hrd209s : an30.length * 72 ≤ 140737488355328 := hrd209.small
 have hS210 : Sep G203 w194 ((RowE (α := Msg) own 57 v156 an26) :: (SetO b12 2 [evZ, evB]) :: (RowE (α := Msg) own 57 v119 an22) :: (RowE (α := Msg) own 57 v82 an18) :: (RowE (α := Msg) own 57 v45 an14) :: (RowE (α := Ev) own 36 v1 [evZ, evB]) :: Rs) w194 := hS207.sel 6 [1, 0, 2, 3, 4, 5] (Nat.le_add_left _ _) rfl rfl
 obtain ⟨G211, hA213, hB214, hS215, hk216⟩ := hS210.lend
 have hrd217 := RowE.rd hA213
 have hrd217s : an26.length * 72 ≤ 140737488355328 := hrd217.small
 have hS218 : Sep G211 w194 ((RowE (α := Msg) own 57 v119 an22) :: (SetO b12 2 [evZ, evB]) :: (RowE (α := Msg) own 57 v82 an18) :: (RowE (α := Msg) own 57 v45 an14) :: (RowE (α := Ev) own 36 v1 [evZ, evB]) :: Rs) w194 := hS215.sel 5 [1, 0, 2, 3, 4] (Nat.le_add_left _ _) rfl rfl
 obtain ⟨G219, hA221, hB222, hS223, hk224⟩ := hS218.lend
 have hrd225 := RowE.rd hA221
 have hrd225s : an22.length * 72 ≤ 140737488355328 := hrd225.small
 have hS226 : Sep G219 w194 ((RowE (α := Msg) own 57 v82 an18) :: (SetO b12 2 [evZ, evB]) :: (RowE (α := Msg) own 57 v45 an14) :: (RowE (α := Ev) own 36 v1 [evZ, evB]) :: Rs) w194 := hS223.sel 4 [1, 0, 2, 3] (Nat.le_add_left _ _) rfl rfl
 obtain ⟨G227, hA229, hB230, hS231, hk232⟩ := hS226.lend
 have hrd233 := RowE.rd hA229
 have hrd233s : an18.length * 72 ≤ 140737488355328 := hrd233.small
 have hS234 : Sep G227 w194 ((RowE (α := Msg) own 57 v45 an14) :: (SetO b12 2 [evZ, evB]) :: (RowE (α := Ev) own 36 v1 [evZ, evB]) :: Rs) w194 := hS231.sel 3 [1, 0, 2] (Nat.le_add_left _ _) rfl rfl
 obtain ⟨G235, hA237, hB238, hS239, hk240⟩ := hS234.lend
 have hrd241 := RowE.rd hA237
 have hrd241s : an14.length * 72 ≤ 140737488355328 := hrd241.small
 have hla9 : an14.length = 1 ∧ an18.length = 1 ∧ an22.length = 1 ∧ an26.length = 2 := ⟨rfl, rfl, rfl, rfl⟩
 refine WP_region (by kernel_rfl) ?_
 refine st (ov_move (v := v45) rfl ?_)
 refine st (ov_len (n := an14.length) Try.underlying58 rfl hrd241.sl ?_)
 have hkn242 : (decide (((an14.length : Nat) : Int) = 1)) = true := by decide +kernel
 refine st (ov_as (congrArg Value.bool hkn242) (fun K9 h9 => ov_eql (k := .i64) (a := ((an14.length : Nat) : Int)) (b := 1) rfl rfl h9) ?_)
 refine st (ov_move (v := .bool true) rfl ?_)
 refine sty rfl rfl (ov_move (v := v45) rfl ?_)
 have hi243 : 0 < an14.length := (by first | omega | (simp only [lens]; omega))
 refine sty rfl rfl (ov_indexAddrN (k := 5) (i := 0) Try.underlying58 Try.sizeOf57 rfl hrd241.sl rfl hi243 ?_)
 refine sty rfl rfl (fd57_0 rfl ?_)
 have hi245 : 0 < an14.length := (by first | omega | (simp only [lens]; omega))
 obtain ⟨hce244, hde244_0, hde244_1, hoke244⟩ := hrd241.msg hi245
 rw [← getD_at default hi245] at hce244 hde244_0 hde244_1 hoke244
 have hsm246 : ((an14.getD 0 default).vec).length * 8 ≤ 140737488355328 := hde244_0.small
 have hsm247 : ((an14.getD 0 default).evs).length * 96 ≤ 140737488355328 := hde244_1.small
 have hcw248 := hS239.cells hce244 (hrd241.foot (ne_of_lt hi245))
 refine sty rfl rfl (ov_load1 (v := .int .i64 ((an14.getD 0 default).kind)) Try.isAgg3 rfl (hcw248.get (j := 0) rfl) ?_)
 have hkn249 : (decide (((an14.getD 0 default).kind) = 3)) = true := by decide +kernel
 refine sty rfl rfl (ov_as (congrArg Value.bool hkn249) (fun K9 h9 => ov_eql (k := .i64) (a := (an14.getD 0 default).kind) (b := 3) rfl rfl h9) ?_)
 refine st (ov_pick_t (v := .bool true) rfl rfl ?_)
 refine st (ov_move (v := .bool true) rfl ?_)
 refine sty rfl rfl (ov_move (v := v45) rfl ?_)
 have hi250 : 0 < an14.length := (by first | omega | (simp only [lens]; omega))
 refine sty rfl rfl (ov_indexAddrN (k := 5) (i := 0) Try.underlying58 Try.sizeOf57 rfl hrd241.sl rfl hi250 ?_)
 refine sty rfl rfl (fd57_2 rfl ?_)
 have hcw252 := hS239.cells hce244 (hrd241.foot (ne_of_lt hi245))
 refine sty rfl rfl (ov_load1 (v := .int .i64 ((an14.getD 0 default).dst)) Try.isAgg3 rfl (hcw252.get (j := 2) rfl) ?_)
 have hkn253 : (decide (((an14.getD 0 default).dst) = 1)) = true := by decide +kernel
 refine sty rfl rfl (ov_as (congrArg Value.bool hkn253) (fun K9 h9 => ov_eql (k := .i64) (a := (an14.getD 0 default).dst) (b := 1) rfl rfl h9) ?_)
 refine st (ov_pick_t (v := .bool true) rfl rfl ?_)
 refine st (ov_move (v := .bool true) rfl ?_)
 refine sty rfl rfl (ov_move (v := v45) rfl ?_)
 have hi254 : 0 < an14.length := (by first | omega | (simp only [lens]; omega))
 refine sty rfl rfl (ov_indexAddrN (k := 5) (i := 0) Try.underlying58 Try.sizeOf57 rfl hrd241.sl rfl hi254 ?_)
 refine sty rfl rfl (fd57_4 rfl ?_)
 have hcw256 := hS239.cells hce244 (hrd241.foot (ne_of_lt hi245))
 refine sty rfl rfl (ov_load1 (v := (cellV w194 (sb v45) (so v45 + 0 * 5 + 4))) Try.isAgg22 rfl (hcw256.get (j := 4) rfl) ?_)
 refine sty rfl rfl (ov_len (n := ((an14.getD 0 default).evs).length) Try.underlying22 rfl hde244_1.sl ?_)
 have hkn257 : (decide (((((an14.getD 0 default).evs).length : Nat) : Int) = 1)) = true := by decide +kernel
 refine sty rfl rfl (ov_as (congrArg Value.bool hkn257) (fun K9 h9 => ov_eql (k := .i64) (a := ((((an14.getD 0 default).evs).length : Nat) : Int)) (b := 1) rfl rfl h9) ?_)
 refine st (ov_pick_t (v := .bool true) rfl rfl ?_)
 refine st (ov_move (v := .bool true) rfl ?_)
 refine sty rfl rfl (ov_move (v := v82) rfl ?_)
 refine sty rfl rfl (ov_len (n := an18.length) Try.underlying58 rfl (RdS.base hrd233 hB238).sl ?_)
 have hkn258 : (decide (((an18.length : Nat) : Int) = 1)) = true := by decide +kernel
 refine sty rfl rfl (ov_as (congrArg Value.bool hkn258) (fun K9 h9 => ov_eql (k := .i64) (a := ((an18.length : Nat) : Int)) (b := 1) rfl rfl h9) ?_)
 refine st (ov_pick_t (v := .bool true) rfl rfl ?_)
 refine st (ov_move (v := .bool true) rfl ?_)
 refine sty rfl rfl (ov_move (v := v82) rfl ?_)
 have hi259 : 0 < an18.length := (by first | omega | (simp only [lens]; omega))
 refine sty rfl rfl (ov_indexAddrN (k := 5) (i := 0) Try.underlying58 Try.sizeOf57 rfl (RdS.base hrd233 hB238).sl rfl hi259 ?_)
 refine sty rfl rfl (fd57_0 rfl ?_)
 have hi261 : 0 < an18.length := (by first | omega | (simp only [lens]; omega))
 obtain ⟨hce260, hde260_0, hde260_1, hoke260⟩ := (RdS.base hrd233 hB238).msg hi261
 rw [← getD_at default hi261] at hce260 hde260_0 hde260_1 hoke260
 have hsm262 : ((an18.getD 0 default).vec).length * 8 ≤ 140737488355328 := hde260_0.small
 have hsm263 : ((an18.getD 0 default).evs).length * 96 ≤ 140737488355328 := hde260_1.small
 have hcw264 := hS239.cells hce260 ((RdS.base hrd233 hB238).foot (ne_of_lt hi261))
 refine sty rfl rfl (ov_load1 (v := .int .i64 ((an18.getD 0 default).kind)) Try.isAgg3 rfl (hcw264.get (j := 0) rfl) ?_)
 have hkn265 : (decide (((an18.getD 0 default).kind) = 2)) = true := by decide +kernel
 refine sty rfl rfl (ov_as (congrArg Value.bool hkn265) (fun K9 h9 => ov_eql (k := .i64) (a := (an18.getD 0 default).kind) (b := 2) rfl rfl h9) ?_)
 refine st (ov_pick_t (v := .bool true) rfl rfl ?_)
 refine st (ov_move (v := .bool true) rfl ?_)
 refine sty rfl rfl (ov_move (v := v82) rfl ?_)
 have hi266 : 0 < an18.length := (by first | omega | (simp only [lens]; omega))
 refine sty rfl rfl (ov_indexAddrN (k := 5) (i := 0) Try.underlying58 Try.sizeOf57 rfl (RdS.base hrd233 hB238).sl rfl hi266 ?_)
 refine sty rfl rfl (fd57_3 rfl ?_)
 have hcw268 := hS239.cells hce260 ((RdS.base hrd233 hB238).foot (ne_of_lt hi261))
 refine sty rfl rfl (ov_load1 (v := (cellV w194 (sb v82) (so v82 + 0 * 5 + 3))) Try.isAgg34 rfl (hcw268.get (j := 3) rfl) ?_)
 refine sty rfl rfl (ov_buildSlice (k := 1) (parts' := [(0, .int .i64 (1)), (1, .int .i64 (1))]) (c := #[.int .i64 (1), .int .i64 (1)]) Try.underlying34 Try.sizeOf3 Try.zeroValue3 (by decide) rfl (by kernel_rfl) ?_)
 intro w271 b270 hn269
 have hS272 : Sep G235 w194 ((Blk b270 #[.int .i64 (1), .int .i64 (1)] 3) :: (SetO b12 2 [evZ, evB]) :: (RowE (α := Ev) own 36 v1 [evZ, evB]) :: Rs) w271 := hS239.new hn269
 have hS273 : Sep G235 w194 ((RowE (α := Int) own 3 (.slice (some ⟨b270, 0, none⟩) 2 2) [1, 1]) :: (SetO b12 2 [evZ, evB]) :: (RowE (α := Ev) own 36 v1 [evZ, evB]) :: Rs) w271 := Sep.blkRow (src := own) (l := [1, 1]) (css := [[.int .i64 (1)], [.int .i64 (1)]]) hS272 rfl ⟨fun _ _ => ⟨rfl, (by decide)⟩, fun _ _ => ⟨rfl, (by decide)⟩, trivial⟩ (by first | decide | (simp only [List.length_cons, List.length_nil]; decide))
 have hr274 := hS273.row (i := 0) rfl
 have hr274s : [1, 1].length * 8 ≤ 140737488355328 := hr274.2
 obtain ⟨G275, hA277, hB278, hS279, hk280⟩ := hS273.lend
 have hrd281 := RowE.rd hA277
 have hrd281s : [1, 1].length * 8 ≤ 140737488355328 := hrd281.small
 refine sty rfl rfl (ov_call (f := 27) (vals := [(cellV w194 (sb v82) (so v82 + 0 * 5 + 3)), (.slice (some ⟨b270, 0, none⟩) 2 2)]) (cap := []) (show _ = (.func (.func 27) #[] #[] : Value) from rfl) rfl Try.call27 (D_SameInts (a := (an18.getD 0 default).vec) (va := (cellV w194 (sb v82) (so v82 + 0 * 5 + 3))) (b := [1, 1]) (vb := (.slice (some ⟨b270, 0, none⟩) 2 2)) (RdS.base hde260_0 hB278) hrd281 hS279) ?_)
 rintro _ w282 ⟨rfl, hS283⟩
 have hS284 : Sep G235 w194 ((RowE (α := Int) own 3 (.slice (some ⟨b270, 0, none⟩) 2 2) [1, 1]) :: (SetO b12 2 [evZ, evB]) :: (RowE (α := Ev) own 36 v1 [evZ, evB]) :: Rs) w282 := hk280 _ _ hS283
 have hkn285 : (decide (((an18.getD 0 default).vec) = [1, 1])) = true := by decide +kernel
 rw [hkn285]
 refine st (ov_pick_t (v := .bool true) rfl rfl ?_)
 refine st (ov_move (v := .bool true) rfl ?_)
 refine sty rfl rfl (ov_move (v := v119) rfl ?_)
 refine sty rfl rfl (ov_len (n := an22.length) Try.underlying58 rfl (RdS.base (RdS.base hrd225 hB230) hB238).sl ?_)
 have hkn286 : (decide (((an22.length : Nat) : Int) = 1)) = true := by decide +kernel
 refine sty rfl rfl (ov_as (congrArg Value.bool hkn286) (fun K9 h9 => ov_eql (k := .i64) (a := ((an22.length : Nat) : Int)) (b := 1) rfl rfl h9) ?_)
 refine st (ov_pick_t (v := .bool true) rfl rfl ?_)
 refine st (ov_move (v := .bool true) rfl ?_)
 refine sty rfl rfl (ov_move (v := v119) rfl ?_)
 have hi287 : 0 < an22.length := (by first | omega | (simp only [lens]; omega))
 refine sty rfl rfl (ov_indexAddrN (k := 5) (i := 0) Try.underlying58 Try.sizeOf57 rfl (RdS.base (RdS.base hrd225 hB230) hB238).sl rfl hi287 ?_)
 refine sty rfl rfl (fd57_0 rfl ?_)
 have hi289 : 0 < an22.length := (by first | omega | (simp only [lens]; omega))
 obtain ⟨hce288, hde288_0, hde288_1, hoke288⟩ := (RdS.base (RdS.base hrd225 hB230) hB238).msg hi289
 rw [← getD_at default hi289] at hce288 hde288_0 hde288_1 hoke288
 have hsm290 : ((an22.getD 0 default).vec).length * 8 ≤ 140737488355328 := hde288_0.small
 have hsm291 : ((an22.getD 0 default).evs).length * 96 ≤ 140737488355328 := hde288_1.small
 have hcw292 := hS284.cells hce288 ((RdS.base (RdS.base hrd225 hB230) hB238).foot (ne_of_lt hi289))
 refine sty rfl rfl (ov_load1 (v := .int .i64 ((an22.getD 0 default).kind)) Try.isAgg3 rfl (hcw292.get (j := 0) rfl) ?_)
 have hkn293 : (decide (((an22.getD 0 default).kind) = 4)) = true := by decide +kernel
 refine sty rfl rfl (ov_as (congrArg Value.bool hkn293) (fun K9 h9 => ov_eql (k := .i64) (a := (an22.getD 0 default).kind) (b := 4) rfl rfl h9) ?_)
 refine st (ov_pick_t (v := .bool true) rfl rfl ?_)
 refine st (ov_move (v := .bool true) rfl ?_)
 refine sty rfl rfl (ov_move (v := v156) rfl ?_)
 refine sty rfl rfl (ov_len (n := an26.length) Try.underlying58 rfl (RdS.base (RdS.base (RdS.base hrd217 hB222) hB230) hB238).sl ?_)
 have hkn294 : (decide (((an26.length : Nat) : Int) = 2)) = true := by decide +kernel
 refine sty rfl rfl (ov_as (congrArg Value.bool hkn294) (fun K9 h9 => ov_eql (k := .i64) (a := ((an26.length : Nat) : Int)) (b := 2) rfl rfl h9) ?_)
 refine st (ov_pick_t (v := .bool true) rfl rfl ?_)
 refine st (ov_move (v := .bool true) rfl ?_)
 refine sty rfl rfl (ov_move (v := v156) rfl ?_)
 have hi295 : 0 < an26.length := (by first | omega | (simp only [lens]; omega))
 refine sty rfl rfl (ov_indexAddrN (k := 5) (i := 0) Try.underlying58 Try.sizeOf57 rfl (RdS.base (RdS.base (RdS.base hrd217 hB222) hB230) hB238).sl rfl hi295 ?_)
 refine sty rfl rfl (fd57_0 rfl ?_)
 have hi297 : 0 < an26.length := (by first | omega | (simp only [lens]; omega))
 obtain ⟨hce296, hde296_0, hde296_1, hoke296⟩ := (RdS.base (RdS.base (RdS.base hrd217 hB222) hB230) hB238).msg hi297
 rw [← getD_at default hi297] at hce296 hde296_0 hde296_1 hoke296
 have hsm298 : ((an26.getD 0 default).vec).length * 8 ≤ 140737488355328 := hde296_0.small
 have hsm299 : ((an26.getD 0 default).evs).length * 96 ≤ 140737488355328 := hde296_1.small
 have hcw300 := hS284.cells hce296 ((RdS.base (RdS.base (RdS.base hrd217 hB222) hB230) hB238).foot (ne_of_lt hi297))
 refine sty rfl rfl (ov_load1 (v := .int .i64 ((an26.getD 0 default).kind)) Try.isAgg3 rfl (hcw300.get (j := 0) rfl) ?_)
 have hkn301 : (decide (((an26.getD 0 default).kind) = 3)) = true := by decide +kernel
 refine sty rfl rfl (ov_as (congrArg Value.bool hkn301) (fun K9 h9 => ov_eql (k := .i64) (a := (an26.getD 0 default).kind) (b := 3) rfl rfl h9) ?_)
 refine st (ov_pick_t (v := .bool true) rfl rfl ?_)
 refine st (ov_move (v := .bool true) rfl ?_)
 refine sty rfl rfl (ov_move (v := v156) rfl ?_)
 have hi302 : 1 < an26.length := (by first | omega | (simp only [lens]; omega))
 refine sty rfl rfl (ov_indexAddrN (k := 5) (i := 1) Try.underlying58 Try.sizeOf57 rfl (RdS.base (RdS.base (RdS.base hrd217 hB222) hB230) hB238).sl rfl hi302 ?_)
 refine sty rfl rfl (fd57_0 rfl ?_)
 have hi304 : 1 < an26.length := (by first | omega | (simp only [lens]; omega))
 obtain ⟨hce303, hde303_0, hde303_1, hoke303⟩ := (RdS.base (RdS.base (RdS.base hrd217 hB222) hB230) hB238).msg hi304
 rw [← getD_at default hi304] at hce303 hde303_0 hde303_1 hoke303
 have hsm305 : ((an26.getD 1 default).vec).length * 8 ≤ 140737488355328 := hde303_0.small
 have hsm306 : ((an26.getD 1 default).evs).length * 96 ≤ 140737488355328 := hde303_1.small
 have hcw307 := hS284.cells hce303 ((RdS.base (RdS.base (RdS.base hrd217 hB222) hB230) hB238).foot (ne_of_lt hi304))
 refine sty rfl rfl (ov_load1 (v := .int .i64 ((an26.getD 1 default).kind)) Try.isAgg3 rfl (hcw307.get (j := 0) rfl) ?_)
 have hkn308 : (decide (((an26.getD 1 default).kind) = 2)) = true := by decide +kernel
 refine sty rfl rfl (ov_as (congrArg Value.bool hkn308) (fun K9 h9 => ov_eql (k := .i64) (a := (an26.getD 1 default).kind) (b := 2) rfl rfl h9) ?_)
 refine st (ov_pick_t (v := .bool true) rfl rfl ?_)
 refine st (ov_move (v := .bool true) rfl ?_)
 refine sty rfl rfl (ov_move (v := v193) rfl ?_)
 refine sty rfl rfl (ov_len (n := an30.length) Try.underlying58 rfl (RdS.base (RdS.base (RdS.base (RdS.base hrd209 hB214) hB222) hB230) hB238).sl ?_)
 have hkn309 : (decide (((an30.length : Nat) : Int) = 0)) = true := by decide +kernel
 refine sty rfl rfl (ov_as (congrArg Value.bool hkn309) (fun K9 h9 => ov_eql (k := .i64) (a := ((an30.length : Nat) : Int)) (b := 0) rfl rfl h9) ?_)
 refine st (ov_pick_t (v := .bool true) rfl rfl ?_)
 refine st (ov_assign (v := .bool true) rfl ?_)
 refine st_nil ?_
 refine WP_ret ?_
 refine fin1 Try.results39 (show _ = (.bool true : Value) from rfl) ?_
 have hS310 : Sep G227 w194 ((RowE (α := Msg) own 57 v45 an14) :: (RowE (α := Int) own 3 (.slice (some ⟨b270, 0, none⟩) 2 2) [1, 1]) :: (SetO b12 2 [evZ, evB]) :: (RowE (α := Ev) own 36 v1 [evZ, evB]) :: Rs) w282 := hk240 _ _ hS284
 have hS311 : Sep G219 w194 ((RowE (α := Msg) own 57 v82 an18) :: (RowE (α := Msg) own 57 v45 an14) :: (RowE (α := Int) own 3 (.slice (some ⟨b270, 0, none⟩) 2 2) [1, 1]) :: (SetO b12 2 [evZ, evB]) :: (RowE (α := Ev) own 36 v1 [evZ, evB]) :: Rs) w282 := hk232 _ _ hS310
 have hS312 : Sep G211 w194 ((RowE (α := Msg) own 57 v119 an22) :: (RowE (α := Msg) own 57 v82 an18) :: (RowE (α := Msg) own 57 v45 an14) :: (RowE (α := Int) own 3 (.slice (some ⟨b270, 0, none⟩) 2 2) [1, 1]) :: (SetO b12 2 [evZ, evB]) :: (RowE (α := Ev) own 36 v1 [evZ, evB]) :: Rs) w282 := hk224 _ _ hS311
 have hS313 : Sep G203 w194 ((RowE (α := Msg) own 57 v156 an26) :: (RowE (α := Msg) own 57 v119 an22) :: (RowE (α := Msg) own 57 v82 an18) :: (RowE (α := Msg) own 57 v45 an14) :: (RowE (α := Int) own 3 (.slice (some ⟨b270, 0, none⟩) 2 2) [1, 1]) :: (SetO b12 2 [evZ, evB]) :: (RowE (α := Ev) own 36 v1 [evZ, evB]) :: Rs) w282 := hk216 _ _ hS312
 have hS314 : Sep G W ((RowE (α := Msg) own 57 v193 an30) :: (RowE (α := Msg) own 57 v156 an26) :: (RowE (α := Msg) own 57 v119 an22) :: (RowE (α := Msg) own 57 v82 an18) :: (RowE (α := Msg) own 57 v45 an14) :: (RowE (α := Int) own 3 (.slice (some ⟨b270, 0, none⟩) 2 2) [1, 1]) :: (SetO b12 2 [evZ, evB]) :: (RowE (α := Ev) own 36 v1 [evZ, evB]) :: Rs) w282 := hk208 _ _ hS313
 have hS315 : Sep G W Rs w282 := hS314.sel 8 [] (Nat.le_add_left _ _) rfl rfl
 refine ⟨rfl, hS315⟩

end Go.Proofs.Ytgjgmojjeehieaa
end
