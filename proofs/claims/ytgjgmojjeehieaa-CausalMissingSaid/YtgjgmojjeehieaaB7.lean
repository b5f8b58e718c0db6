/- Steps of the proofs of this seat: part B7. -/
import Derived.Test.YtgjgmojjeehieaaB6
set_option linter.unusedSimpArgs false
set_option linter.unusedVariables false
set_option maxRecDepth 8000
set_option maxHeartbeats 4000000
namespace Go.Proofs.Ytgjgmojjeehieaa
open Go.Proofs Go.RowKit

/-- What Pick gives. -/
def pickI (x : Int) (n : Nat) : Nat := if x.tmod n < 0 then (x.tmod n + n).toNat else (x.tmod n).toNat
theorem pick_eq {q n : Nat} {x : Int} (h : (q : Int) = if x.tmod n < 0 then x.tmod n + n else x.tmod n) : q = pickI x n := by
  unfold pickI
  split <;> rename_i h1
  · rw [if_pos h1] at h; omega
  · rw [if_neg h1] at h; omega
theorem D_PickF {G : Nat → Prop} {W w : World} {Rs : List HP} {x : Int} (hx : InR x) {n : Nat} (hn : 1 ≤ n ∧ n ≤ 281474976710656) (hS0 : Sep G W Rs w) : Ret Try.prog 17 [.int .i64 (x), .int .i64 ((n : Nat) : Int)] w (fun r w' => ∃ (q : Nat), r = (.int .i64 ((q : Nat) : Int) : Value) ∧ (q < n) ∧ (q = pickI x n) ∧ Sep G W Rs w') := by
 refine Calls_of_WP (args := [.int .i64 (x), .int .i64 ((n : Nat) : Int)]) Try.func17 rfl rfl ?_
 refine WP_seq ?_
 refine WP_region0 (by kernel_rfl) (fun _ => ?_)
 refine st (ov_assign (v := .int .i64 (0)) rfl ?_)
 refine st_nil ?_
 refine WP_seq ?_
 refine WP_seq ?_
 refine WP_region0 (by kernel_rfl) (fun _ => ?_)
 refine st (ov_move (v := .int .i64 ((n : Nat) : Int)) rfl ?_)
 refine st (ov_lss (k := .i64) (a := ((n : Nat) : Int)) (b := 1) rfl rfl ?_)
 refine st_nil ?_
 cases hc1 : decide (((n : Nat) : Int) < 1)
 ·skip
  have hc1 := of_decide_eq_false hc1
  refine WP_cond_f rfl ?_
  refine WP_skip ?_
  refine WP_seq ?_
  refine WP_region0 (by kernel_rfl) (fun _ => ?_)
  refine st (ov_move (v := .int .i64 (x)) rfl ?_)
  refine st (ov_move (v := .int .i64 ((n : Nat) : Int)) rfl ?_)
  have h03 : (0 : Int) < ((n : Nat) : Int) := by omega
  have hr4 := Int.tmod_lt_of_pos x h03; have hr5 := Int.lt_tmod_of_pos x h03
  obtain ⟨rm2, hr6⟩ : ∃ z, Int.tmod x ((n : Nat) : Int) = z := ⟨_, rfl⟩; rw [hr6] at hr4 hr5
  refine st (ov_rem (r := rm2) rfl rfl h03 hr6 ?_)
  refine st (ov_assign (v := .int .i64 (rm2)) rfl ?_)
  refine st_nil ?_
  refine WP_seq ?_
  refine WP_seq ?_
  refine WP_region0 (by kernel_rfl) (fun _ => ?_)
  refine st (ov_move (v := .int .i64 (rm2)) rfl ?_)
  refine st (ov_lss (k := .i64) (a := rm2) (b := 0) rfl rfl ?_)
  refine st_nil ?_
  cases hc7 : decide (rm2 < 0)
  ·skip
   have hc7 := of_decide_eq_false hc7
   refine WP_cond_f rfl ?_
   refine WP_skip ?_
   refine WP_seq ?_
   refine WP_region0 (by kernel_rfl) (fun _ => ?_)
   refine st (ov_move (v := .int .i64 (rm2)) rfl ?_)
   refine st (ov_assign (v := .int .i64 (rm2)) rfl ?_)
   refine st_nil ?_
   refine WP_ret ?_
   refine fin1 Try.results17 (show _ = (.int .i64 (rm2) : Value) from rfl) ?_
   refine ⟨(rm2).toNat, ?_, ?_, ?_, hS0⟩
   · rw [Int.toNat_of_nonneg (by omega)]
   · omega
   · refine pick_eq ?_
     first | (rw [if_pos (by omega)]; omega) | (rw [if_neg (by omega)]; omega)
  ·skip
   have hc7 := of_decide_eq_true hc7
   refine WP_cond_t rfl ?_
   refine WP_region0 (by kernel_rfl) (fun _ => ?_)
   refine st (ov_move (v := .int .i64 (rm2)) rfl ?_)
   refine st (ov_move (v := .int .i64 ((n : Nat) : Int)) rfl ?_)
   have hr8 : InR (rm2 + ((n : Nat) : Int)) := by omega
   refine st (ov_add (r := rm2 + ((n : Nat) : Int)) (k := .i64) (a := rm2) (b := ((n : Nat) : Int)) rfl rfl (wrap_in hr8) ?_)
   refine st (ov_assign (v := .int .i64 (rm2 + ((n : Nat) : Int))) rfl ?_)
   refine st_nil ?_
   refine WP_seq ?_
   refine WP_region0 (by kernel_rfl) (fun _ => ?_)
   refine st (ov_move (v := .int .i64 (rm2 + ((n : Nat) : Int))) rfl ?_)
   refine st (ov_assign (v := .int .i64 (rm2 + ((n : Nat) : Int))) rfl ?_)
   refine st_nil ?_
   refine WP_ret ?_
   refine fin1 Try.results17 (show _ = (.int .i64 (rm2 + ((n : Nat) : Int)) : Value) from rfl) ?_
   refine ⟨(rm2 + ((n : Nat) : Int)).toNat, ?_, ?_, ?_, hS0⟩
   · rw [Int.toNat_of_nonneg (by omega)]
   · omega
   · refine pick_eq ?_
     first | (rw [if_pos (by omega)]; omega) | (rw [if_neg (by omega)]; omega)
 ·skip
  have hc1 := of_decide_eq_true hc1
  refine WP_cond_t rfl ?_
  refine WP_seq ?_
  refine WP_region0 (by kernel_rfl) (fun _ => ?_)
  refine st (ov_assign (v := .int .i64 (0)) rfl ?_)
  refine st_nil ?_
  refine WP_ret ?_
  refine fin1 Try.results17 (show _ = (.int .i64 (0) : Value) from rfl) ?_
  refine ⟨0, ?_, ?_, ?_, hS0⟩
  · exfalso; omega
  · exfalso; omega
  · exfalso; omega

/-- A part of a set. -/
def Part (n : Nat) (S T : List Ev) : Prop := Good n T ∧ ∀ x ∈ T, x ∈ S
section
variable {n : Nat} {S T : List Ev} {e x : Ev} {i k f len : Nat}
theorem Part.nil : Part n S [] := ⟨Good.nil, fun _ h => by simp at h⟩
theorem addL_mem : x ∈ addL n T e → x = e ∨ x ∈ T := by
  unfold addL
  split
  · exact insE_mem.1
  · exact .inr
theorem addL_keep (h : x ∈ T) : x ∈ addL n T e := by
  unfold addL
  split
  · exact insE_mem.2 (.inr h)
  · exact h
theorem Part.add (h : Part n S T) (he : e ∈ S) : Part n S (addL n T e) := ⟨h.1.addL, fun x hx => by
  rcases addL_mem hx with rfl | hx
  · exact he
  · exact h.2 x hx⟩
theorem Part.has (hG : Good n S) (h : Part n S T) (hk : k < S.length) (hK : ∀ x ∈ S.take k, x ∈ T) : S.getD k default ∈ addL n T (S.getD k default) := by
  by_cases hm : S.getD k default ∈ T
  · exact addL_keep hm
  · have h0 : addE n T (S.getD k default) = 0 := by
      refine hG.sub_add h.1 h.2 (getD_mem hk) hm (fun x hx hlt => ?_)
      obtain ⟨j, hj, rfl⟩ := List.getElem_of_mem hx
      rw [← getD_at default hj] at hlt ⊢
      rcases Nat.lt_trichotomy j k with h1 | h1 | h1
      · exact hK _ (take_mem h1 hj)
      · subst h1; rw [cmpE_neg] at hlt; omega
      · exact absurd (hG.at_lt h1 hj) (cmp_asym hlt)
    rw [addL_yes h0]
    exact insE_mem.2 (.inl rfl)
theorem Part.code (hG : Good n S) (he : e ∈ S) : addE n T e = 0 ∨ addE n T e = 16 ∨ addE n T e = 9 := by
  unfold addE
  rw [if_neg (by simpa using hG.chk e he)]
  split
  · exact .inr (.inl rfl)
  · split
    · exact .inr (.inr rfl)
    · split
      · exact .inl rfl
      · exact .inr (.inr rfl)
theorem Part.all (hG : Good n S) (h : Part n S T) (hK : ∀ x ∈ S.take k, x ∈ T) (hk : S.length ≤ k) : T = S := by
  rw [List.take_of_length_le hk] at hK
  exact hG.of_mem h.1 (fun x => ⟨h.2 x, hK x⟩)
def idxB (b : Bool) (len f j : Nat) : Nat := if b then len - 1 - (f + j) % len else (f + j) % len
theorem idx_surj {b : Bool} {m : Nat} (hm : m < len) (hf : f ≤ len) : ∃ j, j < len ∧ idxB b len f j = m := by
  have key : ∀ t, t < len → ∃ j, j < len ∧ (f + j) % len = t := fun t ht => by
    refine ⟨(t + (len - f)) % len, Nat.mod_lt _ (by omega), ?_⟩
    rw [Nat.add_mod_mod, show f + (t + (len - f)) = t + len by omega, Nat.add_mod_right, Nat.mod_eq_of_lt ht]
  cases b with
  | false => exact key m hm
  | true =>
    obtain ⟨j, h1, h2⟩ := key (len - 1 - m) (by omega)
    exact ⟨j, h1, by show len - 1 - (f + j) % len = m; rw [h2]; omega⟩
theorem turn_hit {j : Nat} (hG : Good n S) (hP : Part n S T) (hK : ∀ x ∈ S.take i, x ∈ T) (hi : j = i) (hlt : j < S.length) : S.getD i default ∈ addL n T (S.getD j default) := by
  subst hi; exact hP.has hG hlt hK
theorem turn_step {b : Bool} {T' : List Ev} {c : Ev} (hJ : ∀ j, j < k → idxB b len f j = i → c ∈ T) (hs : ∀ x ∈ T, x ∈ T') (hk : idxB b len f k = i → c ∈ T') : ∀ j, j < k + 1 → idxB b len f j = i → c ∈ T' := fun j hj he => by
  rcases Nat.lt_or_ge j k with h | h
  · exact hs _ (hJ j h he)
  · obtain rfl : j = k := by omega
    exact hk he
theorem turn_end {b : Bool} (hK : ∀ x ∈ S.take i, x ∈ T) (hJ : ∀ j, j < S.length → idxB b S.length f j = i → S.getD i default ∈ T) (hf : f ≤ S.length) : ∀ x ∈ S.take (i + 1), x ∈ T := fun x hx => by
  by_cases hi : i < S.length
  · rw [take_snoc hi] at hx
    rcases List.mem_append.1 hx with h | h
    · exact hK x h
    · obtain rfl := List.mem_singleton.1 h
      obtain ⟨j, h1, h2⟩ := idx_surj (b := b) hi hf
      exact hJ j h1 h2
  · rw [List.take_of_length_le (by omega)] at hx hK
    exact hK x hx
end
theorem nodup_len : ∀ {S T : List Ev}, T.Nodup → (∀ x ∈ T, x ∈ S) → T.length ≤ S.length
  | _, [], _, _ => Nat.zero_le _
  | S, x :: T, hn, hs => by
    have hn2 := List.nodup_cons.1 hn
    have h1 := nodup_len (S := S.erase x) (T := T) hn2.2 (fun y hy => (List.mem_erase_of_ne (fun e => hn2.1 (by rw [← e]; exact hy))).2 (hs y (List.mem_cons_of_mem _ hy)))
    have hx := hs x (List.mem_cons_self ..)
    rw [List.length_erase_of_mem hx] at h1
    have := List.length_pos_of_mem hx
    simp only [List.length_cons]; omega
theorem part_len {n : Nat} {S T : List Ev} (h : Part n S T) : T.length ≤ S.length := nodup_len h.1.nodup h.2
theorem D_CausalTurned {G : Nat → Prop} {W w : World} {Rs : List HP} {n : Int} (hn : InR n) {vl : Value} {l : List Ev} (hl : RdS W G vl l) {a : Int} (ha : InR a) {c : Int} (hc : InR c) (hS0 : Sep G W Rs w) : Ret Try.prog 3 [.int .i64 (n), vl, .int .i64 (a), .int .i64 (c)] w (fun r w' => r = (.bool true : Value) ∧ Sep G W Rs w') := by
 have hls : l.length * 96 ≤ 140737488355328 := hl.small
 refine Calls_of_WP (args := [.int .i64 (n), vl, .int .i64 (a), .int .i64 (c)]) Try.func3 rfl rfl ?_
 refine WP_seq ?_
 refine WP_region0 (by kernel_rfl) (fun _ => ?_)
 refine st (ov_assign (v := .bool false) rfl ?_)
 refine st_nil ?_
 refine WP_seq ?_
 refine WP_seq ?_
 refine WP_region0 (by kernel_rfl) (fun _ => ?_)
 refine st (ov_move (v := vl) rfl ?_)
 refine st (ov_call (f := 15) (vals := [vl]) (cap := []) (show _ = (.func (.func 15) #[] #[] : Value) from rfl) rfl Try.call15 (D_long (l := l) (vl := vl) hl hS0) ?_)
 rintro _ w3 ⟨b1, rfl, hb2, hS4⟩
 refine st_nil ?_
 cases hc5 : b1
 ·skip
  have hc5r := hc5
  obtain ⟨hf9, _⟩ := hb2 hc5r
  refine WP_cond_f rfl ?_
  refine WP_skip ?_
  refine WP_seq ?_
  refine WP_region0 (by kernel_rfl) (fun _ => ?_)
  refine st (ov_move (v := .int .i64 (n)) rfl ?_)
  refine st (ov_call (f := 17) (vals := [.int .i64 (n), .int .i64 (64)]) (cap := []) (show _ = (.func (.func 17) #[] #[] : Value) from rfl) rfl Try.call17 (D_PickF (x := n) (n := 64) hn (by first | omega | (refine ⟨?_, ?_⟩ <;> omega)) hS4) ?_)
  rintro _ w9 ⟨q6, rfl, hq7, hqe8, hS10⟩
  have hr11 : InR ((1 + q6 : Nat) : Int) := by first | omega | (simp only [lens]; omega)
  refine st (ov_add (r := ((1 + q6 : Nat) : Int)) (k := .i64) (a := 1) (b := ((q6 : Nat) : Int)) rfl rfl (by rw [show (1 + ((q6 : Nat) : Int) : Int) = ((1 + q6 : Nat) : Int) by first | omega | (simp only [lens]; omega)]; exact wrap_in hr11) ?_)
  refine st (ov_assign (v := .int .i64 ((1 + q6 : Nat) : Int)) rfl ?_)
  refine st_nil ?_
  refine WP_seq ?_
  refine WP_region0 (by kernel_rfl) (fun _ => ?_)
  refine st (ov_move (v := .int .i64 ((1 + q6 : Nat) : Int)) rfl ?_)
  refine st (ov_move (v := vl) rfl ?_)
  refine st (ov_call (f := 18) (vals := [.int .i64 ((1 + q6 : Nat) : Int), vl]) (cap := []) (show _ = (.func (.func 18) #[] #[] : Value) from rfl) rfl Try.call18 (D_laid (n := 1 + q6) (l := l) (vl := vl) (by first | omega | (refine ⟨?_, ?_⟩ <;> omega)) hl hS10 (by first | omega | (simp only [lens]; omega))) ?_)
  rintro _ w13 ⟨b12, rfl, hS14⟩
  refine st (ov_assign (v := .pointer (some ⟨b12, 0, none⟩)) rfl ?_)
  refine st_nil ?_
  refine WP_seq ?_
  refine WP_seq ?_
  refine WP_region0 (by kernel_rfl) (fun _ => ?_)
  refine st (ov_move (v := .pointer (some ⟨b12, 0, none⟩)) rfl ?_)
  refine st (ov_eqlPtr (b := b12) (o := 0) Try.underlying26 rfl ?_)
  refine st_nil ?_
  refine WP_cond_f rfl ?_
  refine WP_skip ?_
  refine WP_seq ?_
  refine WP_region0 (by kernel_rfl) (fun _ => ?_)
  refine st (ov_move (v := .pointer (some ⟨b12, 0, none⟩)) rfl ?_)
  obtain ⟨G15, hA17, hB18, hS19, hk20⟩ := hS14.lend
  obtain ⟨vv21, m22, R23, hb24, hv25, hr26⟩ := SetO.sh hA17
  have hsm27 : (vecE (1 + q6) (laidL (1 + q6) l)).length * 8 ≤ 140737488355328 := hv25.small
  refine st (ov_call (f := 19) (vals := [.pointer (some ⟨b12, 0, none⟩)]) (cap := []) (show _ = (.func (.func 19) #[] #[] : Value) from rfl) rfl Try.call19 (D_All  hA17 hS19 (by first | exact laidL_good.ids | exact hP9.1.ids) (by first | exact laidL_good.srt | exact hP9.1.srt) (by first | exact (Nat.le_trans laidL_len (by omega)) | (rw [hTS9]; exact (Nat.le_trans laidL_len (by omega))))) ?_)
  rintro v28 w29 ⟨_, rfl, hS30⟩
  have hr31 := hS30.row (i := 0) rfl
  have hr31s : (laidL (1 + q6) l).length * 96 ≤ 140737488355328 := hr31.2
  have hS32 : Sep G W ((SetO b12 (1 + q6) (laidL (1 + q6) l)) :: (RowE (α := Ev) own 36 v28 (laidL (1 + q6) l)) :: Rs) w29 := hk20 _ _ hS30
  refine st (ov_assign (v := v28) rfl ?_)
  refine st_nil ?_
  refine WP_seq ?_
  refine WP_region0 (by kernel_rfl) (fun _ => ?_)
  refine st (ov_move (v := .int .i64 ((1 + q6 : Nat) : Int)) rfl ?_)
  refine st (ov_call (f := 20) (vals := [.int .i64 ((1 + q6 : Nat) : Int)]) (cap := []) (show _ = (.func (.func 20) #[] #[] : Value) from rfl) rfl Try.call20 (D_NewSet (n := 1 + q6) (by first | omega | (refine ⟨?_, ?_⟩ <;> omega)) hS32) ?_)
  rintro _ w34 ⟨b33, rfl, hS35⟩
  refine st (ov_assign (v := .pointer (some ⟨b33, 0, none⟩)) rfl ?_)
  refine st_nil ?_
  refine WP_seq ?_
  refine WP_seq ?_
  refine WP_region0 (by kernel_rfl) (fun _ => ?_)
  refine st (ov_move (v := .pointer (some ⟨b33, 0, none⟩)) rfl ?_)
  refine st (ov_eqlPtr (b := b33) (o := 0) Try.underlying26 rfl ?_)
  refine st_nil ?_
  refine WP_cond_f rfl ?_
  refine WP_skip ?_
  refine WP_seq ?_
  refine WP_region0 (by kernel_rfl) (fun _ => ?_)
  refine st (ov_move (v := .int .i64 (a)) rfl ?_)
  refine st (ov_move (v := v28) rfl ?_)
  refine st (ov_len (n := (laidL (1 + q6) l).length) Try.underlying22 rfl hr31.1 ?_)
  have hr36 : InR (((laidL (1 + q6) l).length + 1 : Nat) : Int) := by first | omega | (simp only [lens]; omega)
  refine st (ov_add (r := (((laidL (1 + q6) l).length + 1 : Nat) : Int)) (k := .i64) (a := (((laidL (1 + q6) l).length : Nat) : Int)) (b := 1) rfl rfl (by rw [show ((((laidL (1 + q6) l).length : Nat) : Int) + 1 : Int) = (((laidL (1 + q6) l).length + 1 : Nat) : Int) by first | omega | (simp only [lens]; omega)]; exact wrap_in hr36) ?_)
  refine st (ov_call (f := 17) (vals := [.int .i64 (a), .int .i64 (((laidL (1 + q6) l).length + 1 : Nat) : Int)]) (cap := []) (show _ = (.func (.func 17) #[] #[] : Value) from rfl) rfl Try.call17 (D_PickF (x := a) (n := (laidL (1 + q6) l).length + 1) ha (by first | omega | (refine ⟨?_, ?_⟩ <;> omega)) hS35) ?_)
  rintro _ w40 ⟨q37, rfl, hq38, hqe39, hS41⟩
  refine st (ov_assign (v := .int .i64 ((q37 : Nat) : Int)) rfl ?_)
  refine st_nil ?_
  refine WP_seq ?_
  refine WP_region0 (by kernel_rfl) (fun _ => ?_)
  refine st (ov_move (v := .int .i64 (c)) rfl ?_)
  refine st (ov_call (f := 17) (vals := [.int .i64 (c), .int .i64 (2)]) (cap := []) (show _ = (.func (.func 17) #[] #[] : Value) from rfl) rfl Try.call17 (D_PickF (x := c) (n := 2) hc (by first | omega | (refine ⟨?_, ?_⟩ <;> omega)) hS41) ?_)
  rintro _ w45 ⟨q42, rfl, hq43, hqe44, hS46⟩
  refine st (ov_eql (k := .i64) (a := ((q42 : Nat) : Int)) (b := 1) rfl rfl ?_)
  refine st (ov_assign (v := .bool (decide (((q42 : Nat) : Int) = 1))) rfl ?_)
  refine st_nil ?_
  refine WP_seq ?_
  refine WP_seq ?_
  have hS47 : Sep G W ((RowE (α := Ev) own 36 v28 (laidL (1 + q6) l)) :: (SetO b33 (1 + q6) ([] : List Ev)) :: (SetO b12 (1 + q6) (laidL (1 + q6) l)) :: Rs) w45 := hS46.sel 3 [2, 0, 1] (Nat.le_add_left _ _) rfl rfl
  obtain ⟨G48, hA50, hB51, hS52, hk53⟩ := hS47.lend
  have hrd54 := RowE.rd hA50
  have hrd54s : (laidL (1 + q6) l).length * 96 ≤ 140737488355328 := hrd54.small
  have hG9 : Good (1 + q6) (laidL (1 + q6) l) := laidL_good
  obtain ⟨B9, hB9⟩ : ∃ z : Bool, z = (decide (((q42 : Nat) : Int) = 1)) := ⟨_, rfl⟩
  refine WP_region0 (by kernel_rfl) (fun _ => ?_)
  refine st (ov_assign (v := .int .i64 (0)) rfl ?_)
  refine st_nil ?_
  refine WP_block ?_
  refine WP_loop (fun mq σ wq => ∃ (i9 : Nat) (T9 : List Ev) (ρ : Env), mq = (laidL (1 + q6) l).length + 1 - i9 ∧ σ = setAll ρ [(2, .int .i64 ((q37 : Nat) : Int)), (9, .pointer (some ⟨b12, 0, none⟩)), (10, v28), (11, .pointer (some ⟨b33, 0, none⟩)), (12, .bool (decide (((q42 : Nat) : Int) = 1))), (13, .int .i64 ((i9 : Nat) : Int))] ∧ (i9 ≤ (laidL (1 + q6) l).length + 1) ∧ (Part (1 + q6) (laidL (1 + q6) l) T9) ∧ (∀ x ∈ (laidL (1 + q6) l).take i9, x ∈ T9) ∧ Sep G48 w45 ((SetO b33 (1 + q6) T9) :: (SetO b12 (1 + q6) (laidL (1 + q6) l)) :: Rs) wq) ⟨0, ([] : List Ev), _, rfl, setAll_self ⟨rfl, rfl, rfl, rfl, rfl, rfl, trivial⟩, Nat.zero_le _, Part.nil, (fun x hx => by simp at hx), hS52⟩ ?_
  rintro m56 σ57 w55 ⟨i9, T9, ρl1, rfl, rfl, hi9, hP9, hK9, hS58⟩
  refine WP_seq ?_
  refine WP_seq ?_
  refine WP_region0 (by kernel_rfl) (fun _ => ?_)
  refine st (ov_move (v := .int .i64 ((i9 : Nat) : Int)) rfl ?_)
  refine st (ov_move (v := v28) rfl ?_)
  refine st (ov_len (n := (laidL (1 + q6) l).length) Try.underlying22 rfl hrd54.sl ?_)
  refine st (ov_leq (k := .i64) (a := ((i9 : Nat) : Int)) (b := (((laidL (1 + q6) l).length : Nat) : Int)) rfl rfl ?_)
  refine st_nil ?_
  cases hc59 : decide (((i9 : Nat) : Int) ≤ (((laidL (1 + q6) l).length : Nat) : Int))
  ·skip
   have hc59r := hc59
   have hc59 := of_decide_eq_false hc59
   refine WP_cond_f rfl ?_
   refine WP_exit ?_
   refine blk_exit ?_
   refine WP_seq ?_
   have hTS9 := Part.all hG9 hP9 hK9 (by omega)
   refine WP_region (by kernel_rfl) ?_
   refine st (ov_move (v := .pointer (some ⟨b33, 0, none⟩)) rfl ?_)
   obtain ⟨G60, hA62, hB63, hS64, hk65⟩ := hS58.lend
   obtain ⟨vv66, m67, R68, hb69, hv70, hr71⟩ := SetO.sh hA62
   have hsm72 : (vecE (1 + q6) T9).length * 8 ≤ 140737488355328 := hv70.small
   refine st (ov_call (f := 19) (vals := [.pointer (some ⟨b33, 0, none⟩)]) (cap := []) (show _ = (.func (.func 19) #[] #[] : Value) from rfl) rfl Try.call19 (D_All  hA62 hS64 (by first | exact laidL_good.ids | exact hP9.1.ids) (by first | exact laidL_good.srt | exact hP9.1.srt) (by first | exact (Nat.le_trans laidL_len (by omega)) | (rw [hTS9]; exact (Nat.le_trans laidL_len (by omega))))) ?_)
   rintro v73 w74 ⟨_, rfl, hS75⟩
   have hr76 := hS75.row (i := 0) rfl
   have hr76s : T9.length * 96 ≤ 140737488355328 := hr76.2
   have hS77 : Sep G48 w45 ((SetO b33 (1 + q6) T9) :: (RowE (α := Ev) own 36 v73 T9) :: (SetO b12 (1 + q6) (laidL (1 + q6) l)) :: Rs) w74 := hk65 _ _ hS75
   refine st (ov_move (v := v28) rfl ?_)
   have hS78 : Sep G48 w45 ((RowE (α := Ev) own 36 v73 T9) :: (SetO b33 (1 + q6) T9) :: (SetO b12 (1 + q6) (laidL (1 + q6) l)) :: Rs) w74 := hS77.sel 3 [1, 0, 2] (Nat.le_add_left _ _) rfl rfl
   obtain ⟨G79, hA81, hB82, hS83, hk84⟩ := hS78.lend
   have hrd85 := RowE.rd hA81
   have hrd85s : T9.length * 96 ≤ 140737488355328 := hrd85.small
   refine st (ov_call (f := 22) (vals := [v73, v28]) (cap := []) (show _ = (.func (.func 22) #[] #[] : Value) from rfl) rfl Try.call22 (D_sameEvents (a := T9) (va := v73) (b := (laidL (1 + q6) l)) (vb := v28) hrd85 (RdS.base hrd54 hB82) hS83) ?_)
   rintro _ w86 ⟨rfl, hS87⟩
   have hS88 : Sep G48 w45 ((RowE (α := Ev) own 36 v73 T9) :: (SetO b33 (1 + q6) T9) :: (SetO b12 (1 + q6) (laidL (1 + q6) l)) :: Rs) w86 := hk84 _ _ hS87
   have hkn89 : (decide (T9 = (laidL (1 + q6) l))) = true := decide_eq_true hTS9
   rw [hkn89]
   refine st (ov_move (v := .bool true) rfl ?_)
   refine sty rfl rfl (ov_move (v := .pointer (some ⟨b33, 0, none⟩)) rfl ?_)
   have hS90 : Sep G48 w45 ((SetO b33 (1 + q6) T9) :: (RowE (α := Ev) own 36 v73 T9) :: (SetO b12 (1 + q6) (laidL (1 + q6) l)) :: Rs) w86 := hS88.sel 3 [1, 0, 2] (Nat.le_add_left _ _) rfl rfl
   obtain ⟨G91, hA93, hB94, hS95, hk96⟩ := hS90.lend
   obtain ⟨vv97, m98, R99, hb100, hv101, hr102⟩ := SetO.sh hA93
   have hsm103 : (vecE (1 + q6) T9).length * 8 ≤ 140737488355328 := hv101.small
   refine sty rfl rfl (ov_call (f := 23) (vals := [.pointer (some ⟨b33, 0, none⟩)]) (cap := []) (show _ = (.func (.func 23) #[] #[] : Value) from rfl) rfl Try.call23 (D_Top  hA93 hS95) ?_)
   rintro _ w104 ⟨rfl, hS105⟩
   have hS106 : Sep G48 w45 ((SetO b33 (1 + q6) T9) :: (RowE (α := Ev) own 36 v73 T9) :: (SetO b12 (1 + q6) (laidL (1 + q6) l)) :: Rs) w104 := hk96 _ _ hS105
   refine sty rfl rfl (ov_move (v := .pointer (some ⟨b12, 0, none⟩)) rfl ?_)
   have hS107 : Sep G48 w45 ((SetO b12 (1 + q6) (laidL (1 + q6) l)) :: (SetO b33 (1 + q6) T9) :: (RowE (α := Ev) own 36 v73 T9) :: Rs) w104 := hS106.sel 3 [2, 0, 1] (Nat.le_add_left _ _) rfl rfl
   obtain ⟨G108, hA110, hB111, hS112, hk113⟩ := hS107.lend
   obtain ⟨vv114, m115, R116, hb117, hv118, hr119⟩ := SetO.sh hA110
   have hsm120 : (vecE (1 + q6) (laidL (1 + q6) l)).length * 8 ≤ 140737488355328 := hv118.small
   refine sty rfl rfl (ov_call (f := 23) (vals := [.pointer (some ⟨b12, 0, none⟩)]) (cap := []) (show _ = (.func (.func 23) #[] #[] : Value) from rfl) rfl Try.call23 (D_Top  hA110 hS112) ?_)
   rintro _ w121 ⟨rfl, hS122⟩
   have hS123 : Sep G48 w45 ((SetO b12 (1 + q6) (laidL (1 + q6) l)) :: (SetO b33 (1 + q6) T9) :: (RowE (α := Ev) own 36 v73 T9) :: Rs) w121 := hk113 _ _ hS122
   refine sty rfl rfl (ov_eql (k := .i64) (a := topE T9) (b := topE (laidL (1 + q6) l)) rfl rfl ?_)
   have hkn124 : (decide ((topE T9) = (topE (laidL (1 + q6) l)))) = true := by rw [hTS9]; simp
   rw [hkn124]
   refine st (ov_pick_t (v := .bool true) rfl rfl ?_)
   refine st (ov_move (v := .bool true) rfl ?_)
   refine sty rfl rfl (ov_call (f := 16) (vals := []) (cap := []) (show _ = (.func (.func 16) #[] #[] : Value) from rfl) rfl Try.call16 (D_known9  hS123) ?_)
   rintro _ w125 ⟨rfl, hS126⟩
   refine st (ov_pick_t (v := .bool true) rfl rfl ?_)
   refine st (ov_assign (v := .bool true) rfl ?_)
   refine st_nil ?_
   refine WP_ret ?_
   refine fin1 Try.results3 (show _ = (.bool true : Value) from rfl) ?_
   have hS127 : Sep G W ((RowE (α := Ev) own 36 v28 (laidL (1 + q6) l)) :: (SetO b12 (1 + q6) (laidL (1 + q6) l)) :: (SetO b33 (1 + q6) T9) :: (RowE (α := Ev) own 36 v73 T9) :: Rs) w125 := hk53 _ _ hS126
   have hS128 : Sep G W Rs w125 := hS127.sel 4 [] (Nat.le_add_left _ _) rfl rfl
   refine ⟨rfl, hS128⟩
  ·skip
   have hc59r := hc59
   have hc59 := of_decide_eq_true hc59
   refine WP_cond_t rfl ?_
   refine WP_skip ?_
   refine WP_seq ?_
   refine WP_block ?_
   refine WP_seq ?_
   refine WP_region0 (by kernel_rfl) (fun _ => ?_)
   refine st (ov_assign (v := .int .i64 (0)) rfl ?_)
   refine st_nil ?_
   refine WP_block ?_
   refine WP_loop (fun mq σ wq => ∃ (k9 : Nat) (T8 : List Ev) (ρ : Env), mq = (laidL (1 + q6) l).length - k9 ∧ σ = setAll ρ [(2, .int .i64 ((q37 : Nat) : Int)), (9, .pointer (some ⟨b12, 0, none⟩)), (10, v28), (11, .pointer (some ⟨b33, 0, none⟩)), (12, .bool (decide (((q42 : Nat) : Int) = 1))), (13, .int .i64 ((i9 : Nat) : Int)), (14, .int .i64 ((k9 : Nat) : Int))] ∧ (k9 ≤ (laidL (1 + q6) l).length) ∧ (Part (1 + q6) (laidL (1 + q6) l) T8) ∧ (∀ x ∈ (laidL (1 + q6) l).take i9, x ∈ T8) ∧ (∀ j, j < k9 → idxB B9 (laidL (1 + q6) l).length q37 j = i9 → (laidL (1 + q6) l).getD i9 default ∈ T8) ∧ Sep G48 w45 ((SetO b33 (1 + q6) T8) :: (SetO b12 (1 + q6) (laidL (1 + q6) l)) :: Rs) wq) ⟨0, T9, _, rfl, setAll_self ⟨rfl, rfl, rfl, rfl, rfl, rfl, rfl, trivial⟩, Nat.zero_le _, hP9, hK9, (fun j h => absurd h (Nat.not_lt_zero j)), hS58⟩ ?_
   rintro m130 σ131 w129 ⟨k9, T8, ρl2, rfl, rfl, hk9, hP8, hK8, hJ8, hS132⟩
   refine WP_seq ?_
   refine WP_seq ?_
   refine WP_region0 (by kernel_rfl) (fun _ => ?_)
   refine st (ov_move (v := .int .i64 ((k9 : Nat) : Int)) rfl ?_)
   refine st (ov_move (v := v28) rfl ?_)
   refine st (ov_len (n := (laidL (1 + q6) l).length) Try.underlying22 rfl hrd54.sl ?_)
   refine st (ov_lss (k := .i64) (a := ((k9 : Nat) : Int)) (b := (((laidL (1 + q6) l).length : Nat) : Int)) rfl rfl ?_)
   refine st_nil ?_
   cases hc133 : decide (((k9 : Nat) : Int) < (((laidL (1 + q6) l).length : Nat) : Int))
   ·skip
    have hc133r := hc133
    have hc133 := of_decide_eq_false hc133
    refine WP_cond_f rfl ?_
    refine WP_exit ?_
    refine blk_exit ?_
    refine WP_region0 (by kernel_rfl) (fun _ => ?_)
    refine st (ov_move (v := .int .i64 ((i9 : Nat) : Int)) rfl ?_)
    have hr134 : InR ((i9 + 1 : Nat) : Int) := by first | omega | (simp only [lens]; omega)
    refine st (ov_add (r := ((i9 + 1 : Nat) : Int)) (k := .i64) (a := ((i9 : Nat) : Int)) (b := 1) rfl rfl (by rw [show (((i9 : Nat) : Int) + 1 : Int) = ((i9 + 1 : Nat) : Int) by first | omega | (simp only [lens]; omega)]; exact wrap_in hr134) ?_)
    refine st (ov_assign (v := .int .i64 ((i9 + 1 : Nat) : Int)) rfl ?_)
    refine st_nil ?_
    exact ⟨_, by omega, i9 + 1, T8, _, rfl, setAll_self ⟨rfl, rfl, rfl, rfl, rfl, rfl, trivial⟩, by omega, hP8, (turn_end hK8 (fun j hj => hJ8 j (by omega)) (by omega)), hS132⟩
   ·skip
    have hc133r := hc133
    have hc133 := of_decide_eq_true hc133
    refine WP_cond_t rfl ?_
    refine WP_skip ?_
    refine WP_seq ?_
    refine WP_block ?_
    refine WP_seq ?_
    refine WP_region0 (by kernel_rfl) (fun _ => ?_)
    refine st (ov_move (v := .int .i64 ((q37 : Nat) : Int)) rfl ?_)
    refine st (ov_move (v := .int .i64 ((k9 : Nat) : Int)) rfl ?_)
    have hr135 : InR ((q37 + k9 : Nat) : Int) := by first | omega | (simp only [lens]; omega)
    refine st (ov_add (r := ((q37 + k9 : Nat) : Int)) (k := .i64) (a := ((q37 : Nat) : Int)) (b := ((k9 : Nat) : Int)) rfl rfl (by rw [show (((q37 : Nat) : Int) + ((k9 : Nat) : Int) : Int) = ((q37 + k9 : Nat) : Int) by first | omega | (simp only [lens]; omega)]; exact wrap_in hr135) ?_)
    refine st (ov_move (v := v28) rfl ?_)
    refine st (ov_len (n := (laidL (1 + q6) l).length) Try.underlying22 rfl hrd54.sl ?_)
    have h0136 : (0 : Int) < (((laidL (1 + q6) l).length : Nat) : Int) := by omega
    have h0136m : (q37 + k9) % ((laidL (1 + q6) l).length) < ((laidL (1 + q6) l).length) := Nat.mod_lt _ (by omega)
    refine st (ov_rem (r := (((q37 + k9) % ((laidL (1 + q6) l).length) : Nat) : Int)) rfl rfl h0136 (Int.ofNat_tmod _ _).symm ?_)
    refine st (ov_assign (v := .int .i64 (((q37 + k9) % ((laidL (1 + q6) l).length) : Nat) : Int)) rfl ?_)
    refine st_nil ?_
    refine WP_seq ?_
    refine WP_seq ?_
    refine WP_region0 (by kernel_rfl) (fun _ => ?_)
    refine st (ov_move (v := .bool (decide (((q42 : Nat) : Int) = 1))) rfl ?_)
    refine st_nil ?_
    cases hc137 : decide (((q42 : Nat) : Int) = 1)
    ·skip
     have hc137r := hc137
     have hc137 := of_decide_eq_false hc137
     refine WP_cond_f rfl ?_
     refine WP_skip ?_
     refine WP_seq ?_
     refine WP_region0 (by kernel_rfl) (fun _ => ?_)
     refine st (ov_move (v := .pointer (some ⟨b33, 0, none⟩)) rfl ?_)
     refine st (ov_move (v := v28) rfl ?_)
     refine st (ov_move (v := .int .i64 (((q37 + k9) % ((laidL (1 + q6) l).length) : Nat) : Int)) rfl ?_)
     have hi138 : (q37 + k9) % ((laidL (1 + q6) l).length) < (laidL (1 + q6) l).length := (by first | omega | (simp only [lens]; omega))
     refine st (ov_indexAddrN (k := 10) (i := (q37 + k9) % ((laidL (1 + q6) l).length)) Try.underlying22 Try.sizeOf36 rfl hrd54.sl rfl hi138 ?_)
     have hi140 : (q37 + k9) % ((laidL (1 + q6) l).length) < (laidL (1 + q6) l).length := (by first | omega | (simp only [lens]; omega))
     obtain ⟨hce139, hde139_0, hoke139⟩ := hrd54.ev hi140
     rw [← getD_at default hi140] at hce139 hde139_0 hoke139
     have hsm141 : (((laidL (1 + q6) l).getD ((q37 + k9) % ((laidL (1 + q6) l).length)) default).deps).length * 8 ≤ 140737488355328 := hde139_0.small
     have hcw142 := hS132.cells hce139 (hrd54.foot (ne_of_lt hi140))
     refine st (ov_loadk (k := 10) Try.isAgg36 Try.sizeOf36 rfl rfl hcw142 ?_)
     refine st (ov_call (f := 21) (vals := [.pointer (some ⟨b33, 0, none⟩), .agg (((laidL (1 + q6) l).getD ((q37 + k9) % ((laidL (1 + q6) l).length)) default).cells (cellV w45 (sb v28) (so v28 + ((q37 + k9) % ((laidL (1 + q6) l).length)) * 10 + 3))).toArray]) (cap := []) (show _ = (.func (.func 21) #[] #[] : Value) from rfl) rfl Try.call21 (D_Add (e := ((laidL (1 + q6) l).getD ((q37 + k9) % ((laidL (1 + q6) l).length)) default)) hde139_0 hoke139 hS132 ((Nat.le_trans (part_len hP8) (Nat.le_trans laidL_len (by omega)))) (hP8.1.len)) ?_)
     rintro _ w145 ⟨L1143, rfl, hL1144, hS146⟩
     refine st (ov_assign (v := .int .i64 ((addE (1 + q6) T8 ((laidL (1 + q6) l).getD ((q37 + k9) % ((laidL (1 + q6) l).length)) default)))) rfl ?_)
     refine st_nil ?_
     refine WP_seq ?_
     refine WP_region (by kernel_rfl) ?_
     refine st (ov_move (v := .int .i64 ((addE (1 + q6) T8 ((laidL (1 + q6) l).getD ((q37 + k9) % ((laidL (1 + q6) l).length)) default)))) rfl ?_)
     refine st (ov_neq (k := .i64) (a := (addE (1 + q6) T8 ((laidL (1 + q6) l).getD ((q37 + k9) % ((laidL (1 + q6) l).length)) default))) (b := 0) rfl rfl ?_)
     refine st (ov_move (v := .bool (!decide ((addE (1 + q6) T8 ((laidL (1 + q6) l).getD ((q37 + k9) % ((laidL (1 + q6) l).length)) default)) = 0))) rfl ?_)
     refine stc (V := .int .i64 ((addE (1 + q6) T8 ((laidL (1 + q6) l).getD ((q37 + k9) % ((laidL (1 + q6) l).length)) default)))) rfl rfl (fun hb147 => ?_) ?_
     ·have hl148 := hb147
      have hl148 := ndec_true hl148
      exact ov_move (v := .int .i64 ((addE (1 + q6) T8 ((laidL (1 + q6) l).getD ((q37 + k9) % ((laidL (1 + q6) l).length)) default)))) rfl ⟨rfl, rfl⟩
     refine stc (V := .bool (!decide ((addE (1 + q6) T8 ((laidL (1 + q6) l).getD ((q37 + k9) % ((laidL (1 + q6) l).length)) default)) = 16))) rfl rfl (fun hb149 => ?_) ?_
     ·have hl150 := hb149
      have hl150 := ndec_true hl150
      exact ov_neq (k := .i64) (a := (addE (1 + q6) T8 ((laidL (1 + q6) l).getD ((q37 + k9) % ((laidL (1 + q6) l).length)) default))) (b := 16) (show _ = (.int .i64 ((addE (1 + q6) T8 ((laidL (1 + q6) l).getD ((q37 + k9) % ((laidL (1 + q6) l).length)) default))) : Value) from (if_pos hb149)) rfl ⟨rfl, rfl⟩
     refine st (ov_pick_and (b := !decide ((addE (1 + q6) T8 ((laidL (1 + q6) l).getD ((q37 + k9) % ((laidL (1 + q6) l).length)) default)) = 0)) (b' := !decide ((addE (1 + q6) T8 ((laidL (1 + q6) l).getD ((q37 + k9) % ((laidL (1 + q6) l).length)) default)) = 16)) rfl (fun hbp => (show _ = (.bool (!decide ((addE (1 + q6) T8 ((laidL (1 + q6) l).getD ((q37 + k9) % ((laidL (1 + q6) l).length)) default)) = 16)) : Value) from (if_pos hbp))) ?_)
     refine st (ov_move (v := .bool ((!decide ((addE (1 + q6) T8 ((laidL (1 + q6) l).getD ((q37 + k9) % ((laidL (1 + q6) l).length)) default)) = 0)) && (!decide ((addE (1 + q6) T8 ((laidL (1 + q6) l).getD ((q37 + k9) % ((laidL (1 + q6) l).length)) default)) = 16)))) rfl ?_)
     refine stc (V := .int .i64 ((addE (1 + q6) T8 ((laidL (1 + q6) l).getD ((q37 + k9) % ((laidL (1 + q6) l).length)) default)))) rfl rfl (fun hb151 => ?_) ?_
     ·have hl152 := hb151
      try simp only [bools] at hl152
      exact ov_move (v := .int .i64 ((addE (1 + q6) T8 ((laidL (1 + q6) l).getD ((q37 + k9) % ((laidL (1 + q6) l).length)) default)))) rfl ⟨rfl, rfl⟩
     refine stc (V := .bool (!decide ((addE (1 + q6) T8 ((laidL (1 + q6) l).getD ((q37 + k9) % ((laidL (1 + q6) l).length)) default)) = 9))) rfl rfl (fun hb153 => ?_) ?_
     ·have hl154 := hb153
      try simp only [bools] at hl154
      exact ov_neq (k := .i64) (a := (addE (1 + q6) T8 ((laidL (1 + q6) l).getD ((q37 + k9) % ((laidL (1 + q6) l).length)) default))) (b := 9) (show _ = (.int .i64 ((addE (1 + q6) T8 ((laidL (1 + q6) l).getD ((q37 + k9) % ((laidL (1 + q6) l).length)) default))) : Value) from (if_pos hb153)) rfl ⟨rfl, rfl⟩
     refine st (ov_pick_and (b := (!decide ((addE (1 + q6) T8 ((laidL (1 + q6) l).getD ((q37 + k9) % ((laidL (1 + q6) l).length)) default)) = 0)) && (!decide ((addE (1 + q6) T8 ((laidL (1 + q6) l).getD ((q37 + k9) % ((laidL (1 + q6) l).length)) default)) = 16))) (b' := !decide ((addE (1 + q6) T8 ((laidL (1 + q6) l).getD ((q37 + k9) % ((laidL (1 + q6) l).length)) default)) = 9)) rfl (fun hbp => (show _ = (.bool (!decide ((addE (1 + q6) T8 ((laidL (1 + q6) l).getD ((q37 + k9) % ((laidL (1 + q6) l).length)) default)) = 9)) : Value) from (if_pos hbp))) ?_)
     refine st_nil ?_
     cases hc155 : ((!decide ((addE (1 + q6) T8 ((laidL (1 + q6) l).getD ((q37 + k9) % ((laidL (1 + q6) l).length)) default)) = 0)) && (!decide ((addE (1 + q6) T8 ((laidL (1 + q6) l).getD ((q37 + k9) % ((laidL (1 + q6) l).length)) default)) = 16))) && (!decide ((addE (1 + q6) T8 ((laidL (1 + q6) l).getD ((q37 + k9) % ((laidL (1 + q6) l).length)) default)) = 9))
     ·skip
      have hc155r := hc155
      try simp only [bools] at hc155
      refine WP_cond_f rfl ?_
      refine WP_skip ?_
      refine WP_region0 (by kernel_rfl) (fun _ => ?_)
      refine st (ov_move (v := .int .i64 ((k9 : Nat) : Int)) rfl ?_)
      have hr156 : InR ((k9 + 1 : Nat) : Int) := by first | omega | (simp only [lens]; omega)
      refine st (ov_add (r := ((k9 + 1 : Nat) : Int)) (k := .i64) (a := ((k9 : Nat) : Int)) (b := 1) rfl rfl (by rw [show (((k9 : Nat) : Int) + 1 : Int) = ((k9 + 1 : Nat) : Int) by first | omega | (simp only [lens]; omega)]; exact wrap_in hr156) ?_)
      refine st (ov_assign (v := .int .i64 ((k9 + 1 : Nat) : Int)) rfl ?_)
      refine st_nil ?_
      exact ⟨_, by omega, k9 + 1, L1143, _, rfl, setAll_self ⟨rfl, rfl, rfl, rfl, rfl, rfl, rfl, trivial⟩, by omega, (hL1144 ▸ hP8.add (getD_mem (by omega))), (fun x hx => hL1144 ▸ addL_keep (hK8 x hx)), (turn_step hJ8 (fun x hx => hL1144 ▸ addL_keep hx) (fun he => hL1144 ▸ turn_hit (j := (q37 + k9) % ((laidL (1 + q6) l).length)) hG9 hP8 hK8 (by rw [hB9, hc137r] at he; exact he) (by omega))), hS146⟩
     ·skip
      have hc155r := hc155
      try simp only [bools] at hc155
      exact absurd hc155r (by rcases Part.code (T := T8) hG9 (getD_mem (i := (q37 + k9) % ((laidL (1 + q6) l).length)) (by omega)) with h9 | h9 | h9 <;> (rw [h9]; decide))
    ·skip
     have hc137r := hc137
     have hc137 := of_decide_eq_true hc137
     refine WP_cond_t rfl ?_
     refine WP_region0 (by kernel_rfl) (fun _ => ?_)
     refine st (ov_move (v := v28) rfl ?_)
     refine st (ov_len (n := (laidL (1 + q6) l).length) Try.underlying22 rfl hrd54.sl ?_)
     have hr157 : InR ((((laidL (1 + q6) l).length) - 1 : Nat) : Int) := by first | omega | (simp only [lens]; omega)
     refine st (ov_sub (r := ((((laidL (1 + q6) l).length) - 1 : Nat) : Int)) (k := .i64) (a := (((laidL (1 + q6) l).length : Nat) : Int)) (b := 1) rfl rfl (by rw [show ((((laidL (1 + q6) l).length : Nat) : Int) - 1 : Int) = ((((laidL (1 + q6) l).length) - 1 : Nat) : Int) by first | omega | (simp only [lens]; omega)]; exact wrap_in hr157) ?_)
     refine st (ov_move (v := .int .i64 (((q37 + k9) % ((laidL (1 + q6) l).length) : Nat) : Int)) rfl ?_)
     have hr158 : InR (((((laidL (1 + q6) l).length) - 1) - ((q37 + k9) % ((laidL (1 + q6) l).length)) : Nat) : Int) := by first | omega | (simp only [lens]; omega)
     refine st (ov_sub (r := (((((laidL (1 + q6) l).length) - 1) - ((q37 + k9) % ((laidL (1 + q6) l).length)) : Nat) : Int)) (k := .i64) (a := ((((laidL (1 + q6) l).length) - 1 : Nat) : Int)) (b := (((q37 + k9) % ((laidL (1 + q6) l).length) : Nat) : Int)) rfl rfl (by rw [show (((((laidL (1 + q6) l).length) - 1 : Nat) : Int) - (((q37 + k9) % ((laidL (1 + q6) l).length) : Nat) : Int) : Int) = (((((laidL (1 + q6) l).length) - 1) - ((q37 + k9) % ((laidL (1 + q6) l).length)) : Nat) : Int) by first | omega | (simp only [lens]; omega)]; exact wrap_in hr158) ?_)
     refine st (ov_assign (v := .int .i64 (((((laidL (1 + q6) l).length) - 1) - ((q37 + k9) % ((laidL (1 + q6) l).length)) : Nat) : Int)) rfl ?_)
     refine st_nil ?_
     refine WP_seq ?_
     refine WP_region0 (by kernel_rfl) (fun _ => ?_)
     refine st (ov_move (v := .pointer (some ⟨b33, 0, none⟩)) rfl ?_)
     refine st (ov_move (v := v28) rfl ?_)
     refine st (ov_move (v := .int .i64 (((((laidL (1 + q6) l).length) - 1) - ((q37 + k9) % ((laidL (1 + q6) l).length)) : Nat) : Int)) rfl ?_)
     have hi159 : (((laidL (1 + q6) l).length) - 1) - ((q37 + k9) % ((laidL (1 + q6) l).length)) < (laidL (1 + q6) l).length := (by first | omega | (simp only [lens]; omega))
     refine st (ov_indexAddrN (k := 10) (i := (((laidL (1 + q6) l).length) - 1) - ((q37 + k9) % ((laidL (1 + q6) l).length))) Try.underlying22 Try.sizeOf36 rfl hrd54.sl rfl hi159 ?_)
     have hi161 : (((laidL (1 + q6) l).length) - 1) - ((q37 + k9) % ((laidL (1 + q6) l).length)) < (laidL (1 + q6) l).length := (by first | omega | (simp only [lens]; omega))
     obtain ⟨hce160, hde160_0, hoke160⟩ := hrd54.ev hi161
     rw [← getD_at default hi161] at hce160 hde160_0 hoke160
     have hsm162 : (((laidL (1 + q6) l).getD ((((laidL (1 + q6) l).length) - 1) - ((q37 + k9) % ((laidL (1 + q6) l).length))) default).deps).length * 8 ≤ 140737488355328 := hde160_0.small
     have hcw163 := hS132.cells hce160 (hrd54.foot (ne_of_lt hi161))
     refine st (ov_loadk (k := 10) Try.isAgg36 Try.sizeOf36 rfl rfl hcw163 ?_)
     refine st (ov_call (f := 21) (vals := [.pointer (some ⟨b33, 0, none⟩), .agg (((laidL (1 + q6) l).getD ((((laidL (1 + q6) l).length) - 1) - ((q37 + k9) % ((laidL (1 + q6) l).length))) default).cells (cellV w45 (sb v28) (so v28 + ((((laidL (1 + q6) l).length) - 1) - ((q37 + k9) % ((laidL (1 + q6) l).length))) * 10 + 3))).toArray]) (cap := []) (show _ = (.func (.func 21) #[] #[] : Value) from rfl) rfl Try.call21 (D_Add (e := ((laidL (1 + q6) l).getD ((((laidL (1 + q6) l).length) - 1) - ((q37 + k9) % ((laidL (1 + q6) l).length))) default)) hde160_0 hoke160 hS132 ((Nat.le_trans (part_len hP8) (Nat.le_trans laidL_len (by omega)))) (hP8.1.len)) ?_)
     rintro _ w166 ⟨L1164, rfl, hL1165, hS167⟩
     refine st (ov_assign (v := .int .i64 ((addE (1 + q6) T8 ((laidL (1 + q6) l).getD ((((laidL (1 + q6) l).length) - 1) - ((q37 + k9) % ((laidL (1 + q6) l).length))) default)))) rfl ?_)
     refine st_nil ?_
     refine WP_seq ?_
     refine WP_region (by kernel_rfl) ?_
     refine st (ov_move (v := .int .i64 ((addE (1 + q6) T8 ((laidL (1 + q6) l).getD ((((laidL (1 + q6) l).length) - 1) - ((q37 + k9) % ((laidL (1 + q6) l).length))) default)))) rfl ?_)
     refine st (ov_neq (k := .i64) (a := (addE (1 + q6) T8 ((laidL (1 + q6) l).getD ((((laidL (1 + q6) l).length) - 1) - ((q37 + k9) % ((laidL (1 + q6) l).length))) default))) (b := 0) rfl rfl ?_)
     refine st (ov_move (v := .bool (!decide ((addE (1 + q6) T8 ((laidL (1 + q6) l).getD ((((laidL (1 + q6) l).length) - 1) - ((q37 + k9) % ((laidL (1 + q6) l).length))) default)) = 0))) rfl ?_)
     refine stc (V := .int .i64 ((addE (1 + q6) T8 ((laidL (1 + q6) l).getD ((((laidL (1 + q6) l).length) - 1) - ((q37 + k9) % ((laidL (1 + q6) l).length))) default)))) rfl rfl (fun hb168 => ?_) ?_
     ·have hl169 := hb168
      have hl169 := ndec_true hl169
      exact ov_move (v := .int .i64 ((addE (1 + q6) T8 ((laidL (1 + q6) l).getD ((((laidL (1 + q6) l).length) - 1) - ((q37 + k9) % ((laidL (1 + q6) l).length))) default)))) rfl ⟨rfl, rfl⟩
     refine stc (V := .bool (!decide ((addE (1 + q6) T8 ((laidL (1 + q6) l).getD ((((laidL (1 + q6) l).length) - 1) - ((q37 + k9) % ((laidL (1 + q6) l).length))) default)) = 16))) rfl rfl (fun hb170 => ?_) ?_
     ·have hl171 := hb170
      have hl171 := ndec_true hl171
      exact ov_neq (k := .i64) (a := (addE (1 + q6) T8 ((laidL (1 + q6) l).getD ((((laidL (1 + q6) l).length) - 1) - ((q37 + k9) % ((laidL (1 + q6) l).length))) default))) (b := 16) (show _ = (.int .i64 ((addE (1 + q6) T8 ((laidL (1 + q6) l).getD ((((laidL (1 + q6) l).length) - 1) - ((q37 + k9) % ((laidL (1 + q6) l).length))) default))) : Value) from (if_pos hb170)) rfl ⟨rfl, rfl⟩
     refine st (ov_pick_and (b := !decide ((addE (1 + q6) T8 ((laidL (1 + q6) l).getD ((((laidL (1 + q6) l).length) - 1) - ((q37 + k9) % ((laidL (1 + q6) l).length))) default)) = 0)) (b' := !decide ((addE (1 + q6) T8 ((laidL (1 + q6) l).getD ((((laidL (1 + q6) l).length) - 1) - ((q37 + k9) % ((laidL (1 + q6) l).length))) default)) = 16)) rfl (fun hbp => (show _ = (.bool (!decide ((addE (1 + q6) T8 ((laidL (1 + q6) l).getD ((((laidL (1 + q6) l).length) - 1) - ((q37 + k9) % ((laidL (1 + q6) l).length))) default)) = 16)) : Value) from (if_pos hbp))) ?_)
     refine st (ov_move (v := .bool ((!decide ((addE (1 + q6) T8 ((laidL (1 + q6) l).getD ((((laidL (1 + q6) l).length) - 1) - ((q37 + k9) % ((laidL (1 + q6) l).length))) default)) = 0)) && (!decide ((addE (1 + q6) T8 ((laidL (1 + q6) l).getD ((((laidL (1 + q6) l).length) - 1) - ((q37 + k9) % ((laidL (1 + q6) l).length))) default)) = 16)))) rfl ?_)
     refine stc (V := .int .i64 ((addE (1 + q6) T8 ((laidL (1 + q6) l).getD ((((laidL (1 + q6) l).length) - 1) - ((q37 + k9) % ((laidL (1 + q6) l).length))) default)))) rfl rfl (fun hb172 => ?_) ?_
     ·have hl173 := hb172
      try simp only [bools] at hl173
      exact ov_move (v := .int .i64 ((addE (1 + q6) T8 ((laidL (1 + q6) l).getD ((((laidL (1 + q6) l).length) - 1) - ((q37 + k9) % ((laidL (1 + q6) l).length))) default)))) rfl ⟨rfl, rfl⟩
     refine stc (V := .bool (!decide ((addE (1 + q6) T8 ((laidL (1 + q6) l).getD ((((laidL (1 + q6) l).length) - 1) - ((q37 + k9) % ((laidL (1 + q6) l).length))) default)) = 9))) rfl rfl (fun hb174 => ?_) ?_
     ·have hl175 := hb174
      try simp only [bools] at hl175
      exact ov_neq (k := .i64) (a := (addE (1 + q6) T8 ((laidL (1 + q6) l).getD ((((laidL (1 + q6) l).length) - 1) - ((q37 + k9) % ((laidL (1 + q6) l).length))) default))) (b := 9) (show _ = (.int .i64 ((addE (1 + q6) T8 ((laidL (1 + q6) l).getD ((((laidL (1 + q6) l).length) - 1) - ((q37 + k9) % ((laidL (1 + q6) l).length))) default))) : Value) from (if_pos hb174)) rfl ⟨rfl, rfl⟩
     refine st (ov_pick_and (b := (!decide ((addE (1 + q6) T8 ((laidL (1 + q6) l).getD ((((laidL (1 + q6) l).length) - 1) - ((q37 + k9) % ((laidL (1 + q6) l).length))) default)) = 0)) && (!decide ((addE (1 + q6) T8 ((laidL (1 + q6) l).getD ((((laidL (1 + q6) l).length) - 1) - ((q37 + k9) % ((laidL (1 + q6) l).length))) default)) = 16))) (b' := !decide ((addE (1 + q6) T8 ((laidL (1 + q6) l).getD ((((laidL (1 + q6) l).length) - 1) - ((q37 + k9) % ((laidL (1 + q6) l).length))) default)) = 9)) rfl (fun hbp => (show _ = (.bool (!decide ((addE (1 + q6) T8 ((laidL (1 + q6) l).getD ((((laidL (1 + q6) l).length) - 1) - ((q37 + k9) % ((laidL (1 + q6) l).length))) default)) = 9)) : Value) from (if_pos hbp))) ?_)
     refine st_nil ?_
     cases hc176 : ((!decide ((addE (1 + q6) T8 ((laidL (1 + q6) l).getD ((((laidL (1 + q6) l).length) - 1) - ((q37 + k9) % ((laidL (1 + q6) l).length))) default)) = 0)) && (!decide ((addE (1 + q6) T8 ((laidL (1 + q6) l).getD ((((laidL (1 + q6) l).length) - 1) - ((q37 + k9) % ((laidL (1 + q6) l).length))) default)) = 16))) && (!decide ((addE (1 + q6) T8 ((laidL (1 + q6) l).getD ((((laidL (1 + q6) l).length) - 1) - ((q37 + k9) % ((laidL (1 + q6) l).length))) default)) = 9))
     ·skip
      have hc176r := hc176
      try simp only [bools] at hc176
      refine WP_cond_f rfl ?_
      refine WP_skip ?_
      refine WP_region0 (by kernel_rfl) (fun _ => ?_)
      refine st (ov_move (v := .int .i64 ((k9 : Nat) : Int)) rfl ?_)
      have hr177 : InR ((k9 + 1 : Nat) : Int) := by first | omega | (simp only [lens]; omega)
      refine st (ov_add (r := ((k9 + 1 : Nat) : Int)) (k := .i64) (a := ((k9 : Nat) : Int)) (b := 1) rfl rfl (by rw [show (((k9 : Nat) : Int) + 1 : Int) = ((k9 + 1 : Nat) : Int) by first | omega | (simp only [lens]; omega)]; exact wrap_in hr177) ?_)
      refine st (ov_assign (v := .int .i64 ((k9 + 1 : Nat) : Int)) rfl ?_)
      refine st_nil ?_
      exact ⟨_, by omega, k9 + 1, L1164, _, rfl, setAll_self ⟨rfl, rfl, rfl, rfl, rfl, rfl, rfl, trivial⟩, by omega, (hL1165 ▸ hP8.add (getD_mem (by omega))), (fun x hx => hL1165 ▸ addL_keep (hK8 x hx)), (turn_step hJ8 (fun x hx => hL1165 ▸ addL_keep hx) (fun he => hL1165 ▸ turn_hit (j := (((laidL (1 + q6) l).length) - 1) - ((q37 + k9) % ((laidL (1 + q6) l).length))) hG9 hP8 hK8 (by rw [hB9, hc137r] at he; exact he) (by omega))), hS167⟩
     ·skip
      have hc176r := hc176
      try simp only [bools] at hc176
      exact absurd hc176r (by rcases Part.code (T := T8) hG9 (getD_mem (i := (((laidL (1 + q6) l).length) - 1) - ((q37 + k9) % ((laidL (1 + q6) l).length))) (by omega)) with h9 | h9 | h9 <;> (rw [h9]; decide))
 ·skip
  have hc5r := hc5
  refine WP_cond_t rfl ?_
  refine WP_seq ?_
  refine WP_region0 (by kernel_rfl) (fun _ => ?_)
  refine st (ov_call (f := 16) (vals := []) (cap := []) (show _ = (.func (.func 16) #[] #[] : Value) from rfl) rfl Try.call16 (D_known9  hS4) ?_)
  rintro _ w178 ⟨rfl, hS179⟩
  refine st (ov_assign (v := .bool true) rfl ?_)
  refine st_nil ?_
  refine WP_ret ?_
  refine fin1 Try.results3 (show _ = (.bool true : Value) from rfl) ?_
  refine ⟨rfl, hS179⟩

end Go.Proofs.Ytgjgmojjeehieaa
