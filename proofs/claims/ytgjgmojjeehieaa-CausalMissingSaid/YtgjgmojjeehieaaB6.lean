/- Steps of the proofs of this seat: part B6. -/
import Derived.Test.YtgjgmojjeehieaaB2
set_option linter.unusedSimpArgs false
set_option linter.unusedVariables false
set_option maxRecDepth 8000
set_option maxHeartbeats 4000000
namespace Go.Proofs.Ytgjgmojjeehieaa
open Go.Proofs Go.RowKit

section
variable {n : Nat} {L T : List Ev} {e x : Ev}
theorem ins_end : ∀ {T : List Ev}, (∀ x ∈ T, cmpE x e < 0) → insE e T = T ++ [e]
  | [], _ => rfl
  | x :: l, h => by
    have h1 := h x (List.mem_cons_self ..)
    have h2 : ¬ ltE e x = true := fun h3 => cmp_asym h1 (lt_cmp.1 h3)
    simp only [insE]
    rw [if_neg h2, ins_end fun y hy => h y (List.mem_cons_of_mem _ hy)]; rfl
theorem Good.at_lt (h : Good n L) {i j : Nat} (hij : i < j) (hj : j < L.length) : cmpE (L.getD i default) (L.getD j default) < 0 := by
  rw [getD_at _ (by omega), getD_at _ hj]
  exact List.pairwise_iff_getElem.1 h.srt i j (by omega) hj hij
theorem mem_take {i : Nat} (hx : x ∈ L.take i) : ∃ j, j < i ∧ j < L.length ∧ x = L.getD j default := by
  obtain ⟨j, hj, rfl⟩ := List.getElem_of_mem hx
  rw [List.length_take] at hj
  refine ⟨j, by omega, by omega, ?_⟩
  rw [getD_at _ (by omega), List.getElem_take]
theorem getD_mem {i : Nat} (hi : i < L.length) : L.getD i default ∈ L := by rw [getD_at _ hi]; exact List.getElem_mem hi
theorem take_mem {i j : Nat} (hi : i < j) (hj : i < L.length) : L.getD i default ∈ L.take j := by
  rw [getD_at _ hj]
  exact List.mem_take_iff_getElem.2 ⟨i, by omega, rfl⟩
theorem Good.step (h : Good n L) {i : Nat} (hi : i < L.length) (ht : Good n (L.take i)) : addE n (L.take i) (L.getD i default) = 0 := by
  refine h.sub_add ht (fun x hx => List.mem_of_mem_take hx) (getD_mem hi) (fun hm => ?_) (fun x hx hlt => ?_)
  · obtain ⟨j, h1, h2, h3⟩ := mem_take hm
    have := h.at_lt h1 hi
    rw [← h3] at this
    rw [cmpE_neg] at this; omega
  · obtain ⟨j, hj, rfl⟩ := List.getElem_of_mem hx
    rw [← getD_at default hj] at hlt ⊢
    rcases Nat.lt_trichotomy j i with h1 | h1 | h1
    · exact take_mem h1 hj
    · subst h1; rw [cmpE_neg] at hlt; omega
    · exact absurd (h.at_lt h1 hj) (cmp_asym hlt)
theorem take_snoc {i : Nat} (hi : i < L.length) : L.take (i + 1) = L.take i ++ [L.getD i default] := by
  rw [List.take_succ_eq_append_getElem hi, getD_at _ hi]
theorem Good.ins_take (h : Good n L) {i : Nat} (hi : i < L.length) : insE (L.getD i default) (L.take i) = L.take (i + 1) := by
  rw [take_snoc hi]
  refine ins_end fun x hx => ?_
  obtain ⟨j, h1, h2, rfl⟩ := mem_take hx
  exact h.at_lt h1 hi
theorem Good.prefix (h : Good n L) : ∀ (i : Nat), i ≤ L.length → Good n (L.take i)
  | 0, _ => Good.nil
  | i + 1, hi => by
    have ht := h.prefix i (by omega)
    rw [← h.ins_take hi]
    exact ht.add (h.step hi ht)
theorem Good.seq_at (h : Good n L) {i : Nat} (hi : i < L.length) : (L.getD i default).seq = ((cntE (L.take i) (L.getD i default).origin.toNat : Nat) : Int) + 1 := (add_zero (h.step hi (h.prefix i (Nat.le_of_lt hi)))).2.2.1
theorem Good.dep_at (h : Good n L) {i : Nat} (hi : i < L.length) {o : Nat} (ho : o < n) : (L.getD i default).deps.getD o 0 ≤ ((cntE (L.take i) o : Nat) : Int) := by
  have ht := h.prefix i (Nat.le_of_lt hi)
  have hk := (add_zero (h.step hi ht)).2.2.2 o ho
  rw [knew_iff] at hk
  rcases hk with hk | ⟨x, hx, _, _⟩
  · rw [hk]; omega
  · obtain ⟨h1, h2, h3⟩ := getE_mem hx
    have := ht.seqle x h1
    rw [h2, h3] at this
    simpa using this
theorem vec_snoc (h : Good n L) {i : Nat} (hi : i < L.length) : (vecE n (L.take i)).set (L.getD i default).origin.toNat ((vecE n (L.take i)).getD (L.getD i default).origin.toNat 0 + 1) = vecE n (L.take (i + 1)) := by
  obtain ⟨⟨h0, h1⟩, _⟩ := check_ok (h.chk _ (getD_mem hi))
  rw [vecE_at (by omega), vec_ins h0 h1, h.ins_take hi]
theorem prev_ok {b : Bool} {k : Nat} (h : 0 < k → b = true) : (decide (0 < ((k : Nat) : Int)) && !b) = false := by
  cases k with
  | zero => simp
  | succ k => rw [h (Nat.succ_pos _)]; simp
theorem Good.seq_now (h : Good n L) {i : Nat} (hi : i < L.length) : (L.getD i default).seq = (vecE n (L.take (i + 1))).getD (L.getD i default).origin.toNat 0 := by
  obtain ⟨⟨h0, h1⟩, _⟩ := check_ok (h.chk _ (getD_mem hi))
  have := h.seq_at hi
  rw [vecE_at (n := n) (by omega), ← h.ins_take hi, cnt_ins, if_pos (by omega)]
  omega
theorem Good.chk_at (h : Good n L) {i : Nat} (hi : i < L.length) : (0 ≤ (L.getD i default).origin ∧ (L.getD i default).origin < n) ∧ (L.getD i default).deps.length = n := by
  obtain ⟨h0, _, h2, _⟩ := check_ok (h.chk _ (getD_mem hi))
  exact ⟨h0, h2⟩
theorem Good.get_at (h : Good n L) {i : Nat} (hi : i < L.length) : getE L ((L.getD i default).origin, (L.getD i default).seq) = some (L.getD i default) := h.get (getD_mem hi)
end
theorem D_CausalClosed {G : Nat → Prop} {W w : World} {Rs : List HP} {n : Int} (hn : InR n) {vl : Value} {l : List Ev} (hl : RdS W G vl l) (hS0 : Sep G W Rs w) : Ret Try.prog 6 [.int .i64 (n), vl] w (fun r w' => r = (.bool true : Value) ∧ Sep G W Rs w') := by
 have hls : l.length * 96 ≤ 140737488355328 := hl.small
 refine Calls_of_WP (args := [.int .i64 (n), vl]) Try.func6 rfl rfl ?_
 refine WP_seq ?_
 refine WP_region0 (by kernel_rfl) (fun _ => ?_)
 refine st (ov_assign (v := .bool false) rfl ?_)
 refine st_nil ?_
 refine WP_seq ?_
 refine WP_seq ?_
 refine WP_region0 (by kernel_rfl) (fun _ => ?_)
 refine st (ov_move (v := vl) rfl ?_)
 refine st (ov_call (f := 15) (vals := [vl]) (cap := []) (show _ = (.func (.func 15) #[] #[] : Value) from rfl) rfl Try.call15 (D_long (l := l) (vl := vl) hl hS0) ?_)
 rintro _ w3 ⟨b1, rfl, hb2, hS4⟩
 refine st_nil ?_
 cases hc5 : b1
 ·skip
  have hc5r := hc5
  obtain ⟨hf9, _⟩ := hb2 hc5r
  refine WP_cond_f rfl ?_
  refine WP_skip ?_
  refine WP_seq ?_
  refine WP_region0 (by kernel_rfl) (fun _ => ?_)
  refine st (ov_move (v := .int .i64 (n)) rfl ?_)
  refine st (ov_call (f := 17) (vals := [.int .i64 (n), .int .i64 (64)]) (cap := []) (show _ = (.func (.func 17) #[] #[] : Value) from rfl) rfl Try.call17 (D_Pick (x := n) (n := 64) hn (by first | omega | (refine ⟨?_, ?_⟩ <;> omega)) hS4) ?_)
  rintro _ w8 ⟨q6, rfl, hq7, hS9⟩
  have hr10 : InR ((1 + q6 : Nat) : Int) := by first | omega | (simp only [lens]; omega)
  refine st (ov_add (r := ((1 + q6 : Nat) : Int)) (k := .i64) (a := 1) (b := ((q6 : Nat) : Int)) rfl rfl (by rw [show (1 + ((q6 : Nat) : Int) : Int) = ((1 + q6 : Nat) : Int) by first | omega | (simp only [lens]; omega)]; exact wrap_in hr10) ?_)
  refine st (ov_assign (v := .int .i64 ((1 + q6 : Nat) : Int)) rfl ?_)
  refine st_nil ?_
  refine WP_seq ?_
  refine WP_region0 (by kernel_rfl) (fun _ => ?_)
  refine st (ov_move (v := .int .i64 ((1 + q6 : Nat) : Int)) rfl ?_)
  refine st (ov_move (v := vl) rfl ?_)
  refine st (ov_call (f := 18) (vals := [.int .i64 ((1 + q6 : Nat) : Int), vl]) (cap := []) (show _ = (.func (.func 18) #[] #[] : Value) from rfl) rfl Try.call18 (D_laid (n := 1 + q6) (l := l) (vl := vl) (by first | omega | (refine ⟨?_, ?_⟩ <;> omega)) hl hS9 (by first | omega | (simp only [lens]; omega))) ?_)
  rintro _ w12 ⟨b11, rfl, hS13⟩
  refine st (ov_assign (v := .pointer (some ⟨b11, 0, none⟩)) rfl ?_)
  refine st_nil ?_
  refine WP_seq ?_
  refine WP_seq ?_
  refine WP_region0 (by kernel_rfl) (fun _ => ?_)
  refine st (ov_move (v := .pointer (some ⟨b11, 0, none⟩)) rfl ?_)
  refine st (ov_eqlPtr (b := b11) (o := 0) Try.underlying26 rfl ?_)
  refine st_nil ?_
  refine WP_cond_f rfl ?_
  refine WP_skip ?_
  refine WP_seq ?_
  refine WP_region0 (by kernel_rfl) (fun _ => ?_)
  refine st (ov_move (v := .pointer (some ⟨b11, 0, none⟩)) rfl ?_)
  obtain ⟨G14, hA16, hB17, hS18, hk19⟩ := hS13.lend
  obtain ⟨vv20, m21, R22, hb23, hv24, hr25⟩ := SetO.sh hA16
  have hsm26 : (vecE (1 + q6) (laidL (1 + q6) l)).length * 8 ≤ 140737488355328 := hv24.small
  refine st (ov_call (f := 19) (vals := [.pointer (some ⟨b11, 0, none⟩)]) (cap := []) (show _ = (.func (.func 19) #[] #[] : Value) from rfl) rfl Try.call19 (D_All  hA16 hS18 (laidL_good.ids) (laidL_good.srt) ((Nat.le_trans laidL_len (by omega)))) ?_)
  rintro v27 w28 ⟨_, rfl, hS29⟩
  have hr30 := hS29.row (i := 0) rfl
  have hr30s : (laidL (1 + q6) l).length * 96 ≤ 140737488355328 := hr30.2
  have hS31 : Sep G W ((SetO b11 (1 + q6) (laidL (1 + q6) l)) :: (RowE (α := Ev) own 36 v27 (laidL (1 + q6) l)) :: Rs) w28 := hk19 _ _ hS29
  refine st (ov_assign (v := v27) rfl ?_)
  refine st_nil ?_
  refine WP_seq ?_
  refine WP_region0 (by kernel_rfl) (fun _ => ?_)
  refine st (ov_move (v := .pointer (some ⟨b11, 0, none⟩)) rfl ?_)
  obtain ⟨G32, hA34, hB35, hS36, hk37⟩ := hS31.lend
  obtain ⟨vv38, m39, R40, hb41, hv42, hr43⟩ := SetO.sh hA34
  have hsm44 : (vecE (1 + q6) (laidL (1 + q6) l)).length * 8 ≤ 140737488355328 := hv42.small
  refine st (ov_call (f := 26) (vals := [.pointer (some ⟨b11, 0, none⟩)]) (cap := []) (show _ = (.func (.func 26) #[] #[] : Value) from rfl) rfl Try.call26 (D_Vec  hA34 hS36) ?_)
  rintro v45 w46 ⟨_, rfl, hS47⟩
  have hr48 := hS47.row (i := 0) rfl
  have hr48s : (vecE (1 + q6) (laidL (1 + q6) l)).length * 8 ≤ 140737488355328 := hr48.2
  have hS49 : Sep G W ((SetO b11 (1 + q6) (laidL (1 + q6) l)) :: (RowE (α := Int) own 3 v45 (vecE (1 + q6) (laidL (1 + q6) l))) :: (RowE (α := Ev) own 36 v27 (laidL (1 + q6) l)) :: Rs) w46 := hk37 _ _ hS47
  refine st (ov_assign (v := v45) rfl ?_)
  refine st_nil ?_
  refine WP_seq ?_
  refine WP_region0 (by kernel_rfl) (fun _ => ?_)
  refine st (ov_move (v := .int .i64 ((1 + q6 : Nat) : Int)) rfl ?_)
  refine st (ov_makeSlice (α := Int) (T := 3) (bytes := 8) (n := 1 + q6) (x1 := (0 : Int)) Try.underlying34 ⟨_, _, rfl, rfl, rfl, rfl, rfl, fun _ _ => ⟨rfl, by decide⟩⟩ rfl rfl rfl (by show (1 + q6) * 8 ≤ 140737488355328; omega) ?_)
  intro w55 b50 hx51 he52 hl53 ho54
  have hS56 : Sep G W ((RowE (α := Int) own 3 (.slice (some ⟨b50, 0, none⟩) (1 + q6) (1 + q6)) (List.replicate (1 + q6) (0 : Int))) :: (SetO b11 (1 + q6) (laidL (1 + q6) l)) :: (RowE (α := Int) own 3 v45 (vecE (1 + q6) (laidL (1 + q6) l))) :: (RowE (α := Ev) own 36 v27 (laidL (1 + q6) l)) :: Rs) w55 := hS49.made hx51 ho54
  have hr57 := hS56.row (i := 0) rfl
  have hr57s : (List.replicate (1 + q6) (0 : Int)).length * 8 ≤ 140737488355328 := hr57.2
  refine st (ov_assign (v := (.slice (some ⟨b50, 0, none⟩) (1 + q6) (1 + q6))) rfl ?_)
  refine st_nil ?_
  refine WP_seq ?_
  refine WP_seq ?_
  refine WP_region (by kernel_rfl) ?_
  refine st (ov_move (v := v27) rfl ?_)
  refine st (ov_len (n := (laidL (1 + q6) l).length) Try.underlying22 rfl hr30.1 ?_)
  refine st (ov_move (v := .pointer (some ⟨b11, 0, none⟩)) rfl ?_)
  have hS58 : Sep G W ((SetO b11 (1 + q6) (laidL (1 + q6) l)) :: (RowE (α := Int) own 3 (.slice (some ⟨b50, 0, none⟩) (1 + q6) (1 + q6)) (List.replicate (1 + q6) (0 : Int))) :: (RowE (α := Int) own 3 v45 (vecE (1 + q6) (laidL (1 + q6) l))) :: (RowE (α := Ev) own 36 v27 (laidL (1 + q6) l)) :: Rs) w55 := hS56.sel 4 [1, 0, 2, 3] (Nat.le_add_left _ _) rfl rfl
  obtain ⟨G59, hA61, hB62, hS63, hk64⟩ := hS58.lend
  obtain ⟨vv65, m66, R67, hb68, hv69, hr70⟩ := SetO.sh hA61
  have hsm71 : (vecE (1 + q6) (laidL (1 + q6) l)).length * 8 ≤ 140737488355328 := hv69.small
  refine st (ov_call (f := 24) (vals := [.pointer (some ⟨b11, 0, none⟩)]) (cap := []) (show _ = (.func (.func 24) #[] #[] : Value) from rfl) rfl Try.call24 (D_Len  hA61 hS63 (laidL_good.ids)) ?_)
  rintro _ w72 ⟨rfl, hS73⟩
  have hS74 : Sep G W ((SetO b11 (1 + q6) (laidL (1 + q6) l)) :: (RowE (α := Int) own 3 (.slice (some ⟨b50, 0, none⟩) (1 + q6) (1 + q6)) (List.replicate (1 + q6) (0 : Int))) :: (RowE (α := Int) own 3 v45 (vecE (1 + q6) (laidL (1 + q6) l))) :: (RowE (α := Ev) own 36 v27 (laidL (1 + q6) l)) :: Rs) w72 := hk64 _ _ hS73
  refine st (ov_neq (k := .i64) (a := (((laidL (1 + q6) l).length : Nat) : Int)) (b := (((laidL (1 + q6) l).length : Nat) : Int)) rfl rfl ?_)
  have hkn75 : (!decide ((((laidL (1 + q6) l).length : Nat) : Int) = (((laidL (1 + q6) l).length : Nat) : Int))) = false := by simp
  rw [hkn75]
  refine st (ov_move (v := .bool false) rfl ?_)
  refine sty rfl rfl (ov_move (v := v45) rfl ?_)
  refine sty rfl rfl (ov_len (n := (vecE (1 + q6) (laidL (1 + q6) l)).length) Try.underlying34 rfl hr48.1 ?_)
  refine sty rfl rfl (ov_move (v := .int .i64 ((1 + q6 : Nat) : Int)) rfl ?_)
  refine sty rfl rfl (ov_neq (k := .i64) (a := (((vecE (1 + q6) (laidL (1 + q6) l)).length : Nat) : Int)) (b := ((1 + q6 : Nat) : Int)) rfl rfl ?_)
  have hkn76 : (!decide ((((vecE (1 + q6) (laidL (1 + q6) l)).length : Nat) : Int) = ((1 + q6 : Nat) : Int))) = false := by rw [vecE_len]; simp
  rw [hkn76]
  refine st (ov_pick_f (v := .bool false) rfl rfl ?_)
  refine st_nil ?_
  refine WP_cond_f rfl ?_
  refine WP_skip ?_
  refine WP_seq ?_
  refine WP_seq ?_
  have hS77 : Sep G W ((RowE (α := Ev) own 36 v27 (laidL (1 + q6) l)) :: (SetO b11 (1 + q6) (laidL (1 + q6) l)) :: (RowE (α := Int) own 3 (.slice (some ⟨b50, 0, none⟩) (1 + q6) (1 + q6)) (List.replicate (1 + q6) (0 : Int))) :: (RowE (α := Int) own 3 v45 (vecE (1 + q6) (laidL (1 + q6) l))) :: Rs) w72 := hS74.sel 4 [3, 0, 1, 2] (Nat.le_add_left _ _) rfl rfl
  obtain ⟨G78, hA80, hB81, hS82, hk83⟩ := hS77.lend
  have hrd84 := RowE.rd hA80
  have hrd84s : (laidL (1 + q6) l).length * 96 ≤ 140737488355328 := hrd84.small
  rw [vecE_nil] at hS82
  have hS85 : Sep G78 w72 ((SetO b11 (1 + q6) (laidL (1 + q6) l)) :: (RowE (α := Int) own 3 (.slice (some ⟨b50, 0, none⟩) (1 + q6) (1 + q6)) (vecE (1 + q6) [])) :: (RowE (α := Int) own 3 v45 (vecE (1 + q6) (laidL (1 + q6) l))) :: Rs) w72 := hS82
  have hG9 : Good (1 + q6) (laidL (1 + q6) l) := laidL_good
  refine WP_region0 (by kernel_rfl) (fun _ => ?_)
  refine st (ov_assign (v := .int .i64 (0)) rfl ?_)
  refine st_nil ?_
  refine WP_block ?_
  refine WP_loop (fun mq σ wq => ∃ (k : Nat) (vo : Value) (ρ : Env), mq = (laidL (1 + q6) l).length - k ∧ σ = setAll ρ [(0, .int .i64 ((1 + q6 : Nat) : Int)), (5, .pointer (some ⟨b11, 0, none⟩)), (6, v27), (7, v45), (9, .int .i64 ((k : Nat) : Int)), (8, vo)] ∧ (k ≤ (laidL (1 + q6) l).length) ∧ Sep G78 w72 ((SetO b11 (1 + q6) (laidL (1 + q6) l)) :: (RowE (α := Int) own 3 vo (vecE (1 + q6) ((laidL (1 + q6) l).take k))) :: (RowE (α := Int) own 3 v45 (vecE (1 + q6) (laidL (1 + q6) l))) :: Rs) wq) ⟨0, (.slice (some ⟨b50, 0, none⟩) (1 + q6) (1 + q6)), _, rfl, setAll_self ⟨rfl, rfl, rfl, rfl, rfl, rfl, trivial⟩, Nat.zero_le _, hS85⟩ ?_
  rintro m87 σ88 w86 ⟨k, vo, ρl1, rfl, rfl, hkk, hS89⟩
  have hr90 := hS89.row (i := 1) rfl
  have hr90s : (vecE (1 + q6) ((laidL (1 + q6) l).take k)).length * 8 ≤ 140737488355328 := hr90.2
  refine WP_seq ?_
  refine WP_seq ?_
  refine WP_region0 (by kernel_rfl) (fun _ => ?_)
  refine st (ov_move (v := .int .i64 ((k : Nat) : Int)) rfl ?_)
  refine st (ov_move (v := v27) rfl ?_)
  refine st (ov_len (n := (laidL (1 + q6) l).length) Try.underlying22 rfl hrd84.sl ?_)
  refine st (ov_lss (k := .i64) (a := ((k : Nat) : Int)) (b := (((laidL (1 + q6) l).length : Nat) : Int)) rfl rfl ?_)
  refine st_nil ?_
  cases hc91 : decide (((k : Nat) : Int) < (((laidL (1 + q6) l).length : Nat) : Int))
  ·skip
   have hc91r := hc91
   have hc91 := of_decide_eq_false hc91
   refine WP_cond_f rfl ?_
   refine WP_exit ?_
   refine blk_exit ?_
   refine WP_seq ?_
   refine WP_region (by kernel_rfl) ?_
   refine st (ov_move (v := v45) rfl ?_)
   refine st (ov_move (v := vo) rfl ?_)
   have hS92 : Sep G78 w72 ((RowE (α := Int) own 3 v45 (vecE (1 + q6) (laidL (1 + q6) l))) :: (SetO b11 (1 + q6) (laidL (1 + q6) l)) :: (RowE (α := Int) own 3 vo (vecE (1 + q6) ((laidL (1 + q6) l).take k))) :: Rs) w86 := hS89.sel 3 [2, 0, 1] (Nat.le_add_left _ _) rfl rfl
   obtain ⟨G93, hA95, hB96, hS97, hk98⟩ := hS92.lend
   have hrd99 := RowE.rd hA95
   have hrd99s : (vecE (1 + q6) (laidL (1 + q6) l)).length * 8 ≤ 140737488355328 := hrd99.small
   have hS100 : Sep G93 w86 ((RowE (α := Int) own 3 vo (vecE (1 + q6) ((laidL (1 + q6) l).take k))) :: (SetO b11 (1 + q6) (laidL (1 + q6) l)) :: Rs) w86 := hS97.sel 2 [1, 0] (Nat.le_add_left _ _) rfl rfl
   obtain ⟨G101, hA103, hB104, hS105, hk106⟩ := hS100.lend
   have hrd107 := RowE.rd hA103
   have hrd107s : (vecE (1 + q6) ((laidL (1 + q6) l).take k)).length * 8 ≤ 140737488355328 := hrd107.small
   refine st (ov_call (f := 27) (vals := [v45, vo]) (cap := []) (show _ = (.func (.func 27) #[] #[] : Value) from rfl) rfl Try.call27 (D_SameInts (a := vecE (1 + q6) (laidL (1 + q6) l)) (va := v45) (b := (vecE (1 + q6) ((laidL (1 + q6) l).take k))) (vb := vo) (RdS.base hrd99 hB104) hrd107 hS105) ?_)
   rintro _ w108 ⟨rfl, hS109⟩
   have hS110 : Sep G93 w86 ((RowE (α := Int) own 3 vo (vecE (1 + q6) ((laidL (1 + q6) l).take k))) :: (SetO b11 (1 + q6) (laidL (1 + q6) l)) :: Rs) w108 := hk106 _ _ hS109
   have hS111 : Sep G78 w72 ((RowE (α := Int) own 3 v45 (vecE (1 + q6) (laidL (1 + q6) l))) :: (RowE (α := Int) own 3 vo (vecE (1 + q6) ((laidL (1 + q6) l).take k))) :: (SetO b11 (1 + q6) (laidL (1 + q6) l)) :: Rs) w108 := hk98 _ _ hS110
   have hkn112 : (decide ((vecE (1 + q6) (laidL (1 + q6) l)) = (vecE (1 + q6) ((laidL (1 + q6) l).take k)))) = true := decide_eq_true (by rw [show k = (laidL (1 + q6) l).length by omega, List.take_length])
   rw [hkn112]
   refine st (ov_move (v := .bool true) rfl ?_)
   refine sty rfl rfl (ov_call (f := 16) (vals := []) (cap := []) (show _ = (.func (.func 16) #[] #[] : Value) from rfl) rfl Try.call16 (D_known9  hS111) ?_)
   rintro _ w113 ⟨rfl, hS114⟩
   refine st (ov_pick_t (v := .bool true) rfl rfl ?_)
   refine st (ov_assign (v := .bool true) rfl ?_)
   refine st_nil ?_
   refine WP_ret ?_
   refine fin1 Try.results6 (show _ = (.bool true : Value) from rfl) ?_
   have hS115 : Sep G W ((RowE (α := Ev) own 36 v27 (laidL (1 + q6) l)) :: (RowE (α := Int) own 3 v45 (vecE (1 + q6) (laidL (1 + q6) l))) :: (RowE (α := Int) own 3 vo (vecE (1 + q6) ((laidL (1 + q6) l).take k))) :: (SetO b11 (1 + q6) (laidL (1 + q6) l)) :: Rs) w113 := hk83 _ _ hS114
   have hS116 : Sep G W Rs w113 := hS115.sel 4 [] (Nat.le_add_left _ _) rfl rfl
   refine ⟨rfl, hS116⟩
  ·skip
   have hc91r := hc91
   have hc91 := of_decide_eq_true hc91
   refine WP_cond_t rfl ?_
   refine WP_skip ?_
   refine WP_seq ?_
   refine WP_block ?_
   refine WP_seq ?_
   refine WP_region0 (by kernel_rfl) (fun _ => ?_)
   refine st (ov_move (v := v27) rfl ?_)
   refine st (ov_move (v := .int .i64 ((k : Nat) : Int)) rfl ?_)
   have hi117 : k < (laidL (1 + q6) l).length := (by first | omega | (simp only [lens]; omega))
   refine st (ov_indexAddrN (k := 10) (i := k) Try.underlying22 Try.sizeOf36 rfl hrd84.sl rfl hi117 ?_)
   have hi119 : k < (laidL (1 + q6) l).length := (by first | omega | (simp only [lens]; omega))
   obtain ⟨hce118, hde118_0, hoke118⟩ := hrd84.ev hi119
   rw [← getD_at default hi119] at hce118 hde118_0 hoke118
   have hsm120 : (((laidL (1 + q6) l).getD k default).deps).length * 8 ≤ 140737488355328 := hde118_0.small
   have hcw121 := hS89.cells hce118 (hrd84.foot (ne_of_lt hi119))
   refine st (ov_loadk (k := 10) Try.isAgg36 Try.sizeOf36 rfl rfl hcw121 ?_)
   refine st (ov_alloc Try.zeroValue36 ?_)
   intro w124 b123 hn122
   have hS125 : Sep G78 w72 ((Blk b123 #[.int .i64 (0), .int .i64 (0), .int .i64 (0), (.slice none 0 0), .int .i64 (0), .int .i64 (0), .int .i64 (0), .int .i64 (0), .int .i64 (0), .int .i64 (0)] 36) :: (SetO b11 (1 + q6) (laidL (1 + q6) l)) :: (RowE (α := Int) own 3 vo (vecE (1 + q6) ((laidL (1 + q6) l).take k))) :: (RowE (α := Int) own 3 v45 (vecE (1 + q6) (laidL (1 + q6) l))) :: Rs) w124 := hS89.new hn122
   refine stn (ov_store (v := .agg (((laidL (1 + q6) l).getD k default).cells (cellV w72 (sb v27) (so v27 + k * 10 + 3))).toArray) (c' := (((laidL (1 + q6) l).getD k default).cells (cellV w72 (sb v27) (so v27 + k * 10 + 3))).toArray) Try.sizeOf36 rfl rfl (hS125.blk (i := 0) rfl) (all1 ⟨rfl, rfl, rfl, hde118_0.sl.one, rfl, rfl, rfl, rfl, rfl, rfl, trivial⟩) (Nat.le_of_ble_eq_true rfl) rfl ?_)
   intro w126 hp127
   have hS128 : Sep G78 w72 ((Blk b123 (((laidL (1 + q6) l).getD k default).cells (cellV w72 (sb v27) (so v27 + k * 10 + 3))).toArray 36) :: (SetO b11 (1 + q6) (laidL (1 + q6) l)) :: (RowE (α := Int) own 3 vo (vecE (1 + q6) ((laidL (1 + q6) l).take k))) :: (RowE (α := Int) own 3 v45 (vecE (1 + q6) (laidL (1 + q6) l))) :: Rs) w126 := hS125.put (i := 0) rfl hp127
   refine st_nil ?_
   refine WP_seq ?_
   refine WP_seq ?_
   obtain ⟨⟨ho9, ho9'⟩, hd9⟩ := hG9.chk_at (i := k) (by omega)
   have hp9 : 0 < k → ltE ((laidL (1 + q6) l).getD (k - 1) default) ((laidL (1 + q6) l).getD k default) = true := fun h => lt_cmp.2 (hG9.at_lt (by omega) (by omega))
   have hvl9 : (vecE (1 + q6) ((laidL (1 + q6) l).take k)).length = (1 + q6) := vecE_len
   have hcl9 := cntE_le (L := (laidL (1 + q6) l).take k) (o := ((laidL (1 + q6) l).getD k default).origin.toNat)
   rw [List.length_take] at hcl9
   have hva9 : (vecE (1 + q6) ((laidL (1 + q6) l).take k)).getD ((laidL (1 + q6) l).getD k default).origin.toNat 0 = _ := vecE_at (by omega)
   refine WP_draw4 (WF [fun vals wq => Sep G78 w72 ((Blk b123 (((laidL (1 + q6) l).getD k default).cells (cellV w72 (sb v27) (so v27 + k * 10 + 3))).toArray 36) :: (SetO b11 (1 + q6) (laidL (1 + q6) l)) :: (RowE (α := Int) own 3 vo (vecE (1 + q6) ((laidL (1 + q6) l).take k))) :: (RowE (α := Int) own 3 v45 (vecE (1 + q6) (laidL (1 + q6) l))) :: Rs) wq, fun vals wq => (vals 28 = (if (decide (0 < ((k : Nat) : Int))) = true then (.bool ((ltE ((laidL (1 + q6) l).getD (k - 1) default) ((laidL (1 + q6) l).getD k default))) : Value) else undef)) ∧ Sep G78 w72 ((Blk b123 (((laidL (1 + q6) l).getD k default).cells (cellV w72 (sb v27) (so v27 + k * 10 + 3))).toArray 36) :: (SetO b11 (1 + q6) (laidL (1 + q6) l)) :: (RowE (α := Int) own 3 vo (vecE (1 + q6) ((laidL (1 + q6) l).take k))) :: (RowE (α := Int) own 3 v45 (vecE (1 + q6) (laidL (1 + q6) l))) :: Rs) wq]) (AF [Vl 0 (.pointer (some ⟨b123, 3, none⟩)), Vl 1 ((cellV w72 (sb v27) (so v27 + k * 10 + 3))), Vl 2 (.int .i64 (((((laidL (1 + q6) l).getD k default).deps).length : Nat) : Int)), Vl 3 (.int .i64 ((1 + q6 : Nat) : Int)), Vl 4 (.bool false), Vl 5 (.bool false), Vl 6 (.pointer (some ⟨b123, 0, none⟩)), Vl 7 (.pointer (some ⟨b123, 0, none⟩)), Vl 8 (.int .i64 (((laidL (1 + q6) l).getD k default).origin)), Vl 9 (.bool false), Vl 10 (.bool false), Vl 11 (.bool false), Vl 12 (.pointer (some ⟨b123, 0, none⟩)), Vl 13 (.pointer (some ⟨b123, 0, none⟩)), Vl 14 (.int .i64 (((laidL (1 + q6) l).getD k default).origin)), Vl 15 (.int .i64 ((1 + q6 : Nat) : Int)), Vl 16 (.bool false), Vl 17 (.bool false), Vl 18 (.bool false), Vl 19 (.int .i64 ((k : Nat) : Int)), Vl 20 (.bool (decide (0 < ((k : Nat) : Int)))), Vl 21 (.bool (decide (0 < ((k : Nat) : Int)))), Vl 22 (if (decide (0 < ((k : Nat) : Int))) = true then v27 else undef), Vl 23 (if (decide (0 < ((k : Nat) : Int))) = true then .int .i64 ((k : Nat) : Int) else undef), Vl 24 (if (decide (0 < ((k : Nat) : Int))) = true then .int .i64 ((k - 1 : Nat) : Int) else undef), Vl 25 (if (decide (0 < ((k : Nat) : Int))) = true then .pointer (some ⟨sb v27, so v27 + (k - 1) * 10, none⟩) else undef), Vl 26 (if (decide (0 < ((k : Nat) : Int))) = true then .agg (((laidL (1 + q6) l).getD (k - 1) default).cells (cellV w72 (sb v27) (so v27 + (k - 1) * 10 + 3))).toArray else undef), Vl 27 (if (decide (0 < ((k : Nat) : Int))) = true then .agg (((laidL (1 + q6) l).getD k default).cells (cellV w72 (sb v27) (so v27 + k * 10 + 3))).toArray else undef), fun _ => True, Vl 29 (if (decide (0 < ((k : Nat) : Int))) = true then .bool (!(ltE ((laidL (1 + q6) l).getD (k - 1) default) ((laidL (1 + q6) l).getD k default))) else undef), Vl 30 (.bool false), Vl 31 (.bool false)]) [[], [0], [0, 1], [], [0, 1, 2, 3], [0, 1, 2, 3, 4], [0, 1, 2, 3, 4, 5], [0, 1, 2, 3, 4, 5, 6], [0, 1, 2, 3, 4, 5, 6, 7], [0, 1, 2, 3, 4, 5, 6, 7, 8], [0, 1, 2, 3, 4, 5, 6, 7, 8, 9], [0, 1, 2, 3, 4, 5, 6, 7, 8, 9, 10], [0, 1, 2, 3, 4, 5, 6, 7, 8, 9, 10, 11], [0, 1, 2, 3, 4, 5, 6, 7, 8, 9, 10, 11, 12], [0, 1, 2, 3, 4, 5, 6, 7, 8, 9, 10, 11, 12, 13], [0, 1, 2, 3, 4, 5, 6, 7, 8, 9, 10, 11], [0, 1, 2, 3, 4, 5, 6, 7, 8, 9, 10, 11, 12, 13, 14, 15], [0, 1, 2, 3, 4, 5, 6, 7, 8, 9, 10, 11, 12, 13, 14, 15, 16], [0, 1, 2, 3, 4, 5, 6, 7, 8, 9, 10, 11, 12, 13, 14, 15, 16, 17], [0, 1, 2, 3, 4, 5, 6, 7, 8, 9, 10, 11, 12, 13, 14, 15, 16, 17, 18], [0, 1, 2, 3, 4, 5, 6, 7, 8, 9, 10, 11, 12, 13, 14, 15, 16, 17, 18, 19], [0, 1, 2, 3, 4, 5, 6, 7, 8, 9, 10, 11, 12, 13, 14, 15, 16, 17, 18, 19, 20], [0, 1, 2, 3, 4, 5, 6, 7, 8, 9, 10, 11, 12, 13, 14, 15, 16, 17, 18, 19, 20, 21], [0, 1, 2, 3, 4, 5, 6, 7, 8, 9, 10, 11, 12, 13, 14, 15, 16, 17, 18, 19, 20, 21], [0, 1, 2, 3, 4, 5, 6, 7, 8, 9, 10, 11, 12, 13, 14, 15, 16, 17, 18, 19, 20, 21, 23], [0, 1, 2, 3, 4, 5, 6, 7, 8, 9, 10, 11, 12, 13, 14, 15, 16, 17, 18, 19, 20, 21, 22, 23, 24], [0, 1, 2, 3, 4, 5, 6, 7, 8, 9, 10, 11, 12, 13, 14, 15, 16, 17, 18, 19, 20, 21, 22, 23, 24, 25], [0, 1, 2, 3, 4, 5, 6, 7, 8, 9, 10, 11, 12, 13, 14, 15, 16, 17, 18, 19, 20, 21], [0, 1, 2, 3, 4, 5, 6, 7, 8, 9, 10, 11, 12, 13, 14, 15, 16, 17, 18, 19, 20, 21, 22, 23, 24, 25, 26, 27], [0, 1, 2, 3, 4, 5, 6, 7, 8, 9, 10, 11, 12, 13, 14, 15, 16, 17, 18, 19, 20, 21, 22, 23, 24, 25, 26, 27, 28], [0, 1, 2, 3, 4, 5, 6, 7, 8, 9, 10, 11, 12, 13, 14, 15, 16, 17, 18, 19, 20, 21, 22, 23, 24, 25, 26, 27, 28, 29], [0, 1, 2, 3, 4, 5, 6, 7, 8, 9, 10, 11, 12, 13, 14, 15, 16, 17, 18, 19, 20, 21, 22, 23, 24, 25, 26, 27, 28, 29, 30]] [28] [(0, 0), (0, 0), (0, 0), (0, 0), (0, 0), (0, 0), (0, 0), (0, 0), (0, 0), (0, 0), (0, 0), (0, 0), (0, 0), (0, 0), (0, 0), (0, 0), (0, 0), (0, 0), (0, 0), (0, 0), (0, 0), (0, 0), (0, 0), (0, 0), (0, 0), (0, 0), (0, 0), (0, 0), (0, 0), (1, 1), (1, 1), (1, 1)] (by kernel_rfl) (by kernel_rfl) (by kernel_rfl) rfl (by kernel_rfl) (by kernel_rfl) (fun _ h1 h2 h3 h4 _ => hS128.same h1 h2 h3 h4) ?_ (AF_loc ⟨dA, dA, dA, dA, dA, dA, dA, dA, dA, dA, dA, dA, dA, dA, dA, dA, dA, dA, dA, dA, dA, dA, dA, dA, dA, dA, dA, dA, dT, dA, dA, dA, trivial⟩) ⟨?_, ?_, ?_, ?_, ?_, ?_, ?_, ?_, ?_, ?_, ?_, ?_, ?_, ?_, ?_, ?_, ?_, ?_, ?_, ?_, ?_, ?_, ?_, ?_, ?_, ?_, ?_, ?_, ?_, ?_, ?_, ?_, trivial⟩ ?_
   ·intro k vals vals' w hv h
    have e : ∀ j ∈ ([28] : List Nat), vals' j = vals j := hv
    match k, h with
    | 0, h => exact h
    | 1, h => exact (by simpa only [WF, List.getElem?_cons_zero, List.getElem?_cons_succ, e 28 (by decide)] using h)
    | _ + 2, _ => trivial
   ·intro k419 vals w420 h423 h424 hW422 hA421
    refine obl rfl ?_
    exact fd36_2 rfl (fun vals' hv _ => ⟨rfl, hv⟩)
   ·intro k425 vals w426 h429 h430 hW428 hA427
    obtain rfl : k425 = 0 := Nat.le_antisymm h430 h429
    have hS431 : Sep G78 w72 ((Blk b123 (((laidL (1 + q6) l).getD k default).cells (cellV w72 (sb v27) (so v27 + k * 10 + 3))).toArray 36) :: (SetO b11 (1 + q6) (laidL (1 + q6) l)) :: (RowE (α := Int) own 3 vo (vecE (1 + q6) ((laidL (1 + q6) l).take k))) :: (RowE (α := Int) own 3 v45 (vecE (1 + q6) (laidL (1 + q6) l))) :: Rs) w426 := hW428
    have e432 := hA427 0 (by decide)
    refine obl rfl ?_
    exact ov_load1 (v := (cellV w72 (sb v27) (so v27 + k * 10 + 3))) Try.isAgg34 e432 (blk_cellL (hS431.blk (i := 0) rfl) rfl) (fun vals' hv _ => ⟨rfl, hv⟩)
   ·intro k433 vals w434 h437 h438 hW436 hA435
    obtain rfl : k433 = 0 := Nat.le_antisymm h438 h437
    have hS439 : Sep G78 w72 ((Blk b123 (((laidL (1 + q6) l).getD k default).cells (cellV w72 (sb v27) (so v27 + k * 10 + 3))).toArray 36) :: (SetO b11 (1 + q6) (laidL (1 + q6) l)) :: (RowE (α := Int) own 3 vo (vecE (1 + q6) ((laidL (1 + q6) l).take k))) :: (RowE (α := Int) own 3 v45 (vecE (1 + q6) (laidL (1 + q6) l))) :: Rs) w434 := hW436
    have e440 := hA435 1 (by decide)
    refine obl rfl ?_
    exact ov_len (n := (((laidL (1 + q6) l).getD k default).deps).length) Try.underlying34 e440 hde118_0.sl (fun vals' hv _ => ⟨rfl, hv⟩)
   ·intro k441 vals w442 h445 h446 hW444 hA443
    refine obl rfl ?_
    exact ov_move (v := .int .i64 ((1 + q6 : Nat) : Int)) rfl (fun vals' hv _ => ⟨rfl, hv⟩)
   ·intro k447 vals w448 h451 h452 hW450 hA449
    obtain rfl : k447 = 0 := Nat.le_antisymm h452 h451
    have hS453 : Sep G78 w72 ((Blk b123 (((laidL (1 + q6) l).getD k default).cells (cellV w72 (sb v27) (so v27 + k * 10 + 3))).toArray 36) :: (SetO b11 (1 + q6) (laidL (1 + q6) l)) :: (RowE (α := Int) own 3 vo (vecE (1 + q6) ((laidL (1 + q6) l).take k))) :: (RowE (α := Int) own 3 v45 (vecE (1 + q6) (laidL (1 + q6) l))) :: Rs) w448 := hW450
    have e454 := hA449 2 (by decide)
    have e455 := hA449 3 (by decide)
    refine obl rfl ?_
    have hl456 : (!decide ((((((laidL (1 + q6) l).getD k default).deps).length : Nat) : Int) = ((1 + q6 : Nat) : Int))) = false := by rw [hd9]; simp
    exact ov_neq (k := .i64) (a := (((((laidL (1 + q6) l).getD k default).deps).length : Nat) : Int)) (b := ((1 + q6 : Nat) : Int)) e454 e455 (fun vals' hv _ => ⟨rfl, hv.trans (congrArg Value.bool hl456)⟩)
   ·intro k457 vals w458 h461 h462 hW460 hA459
    have e463 := hA459 4 (by decide)
    refine obl rfl ?_
    exact ov_move (v := .bool false) e463 (fun vals' hv _ => ⟨rfl, hv⟩)
   ·intro k464 vals w465 h468 h469 hW467 hA466
    have e470 := hA466 5 (by decide)
    refine oblc rfl rfl e470 (fun _ => ?_) (fun hb => absurd rfl hb)
    exact fd36_0 rfl (fun vals' hv _ => ⟨rfl, hv⟩)
   ·intro k471 vals w472 h475 h476 hW474 hA473
    have e477 := hA473 5 (by decide)
    have e478 := hA473 6 (by decide)
    refine oblc rfl rfl e477 (fun _ => ?_) (fun hb => absurd rfl hb)
    exact fd33_0 e478 (fun vals' hv _ => ⟨rfl, hv⟩)
   ·intro k479 vals w480 h483 h484 hW482 hA481
    obtain rfl : k479 = 0 := Nat.le_antisymm h484 h483
    have hS485 : Sep G78 w72 ((Blk b123 (((laidL (1 + q6) l).getD k default).cells (cellV w72 (sb v27) (so v27 + k * 10 + 3))).toArray 36) :: (SetO b11 (1 + q6) (laidL (1 + q6) l)) :: (RowE (α := Int) own 3 vo (vecE (1 + q6) ((laidL (1 + q6) l).take k))) :: (RowE (α := Int) own 3 v45 (vecE (1 + q6) (laidL (1 + q6) l))) :: Rs) w480 := hW482
    have e486 := hA481 5 (by decide)
    have e487 := hA481 7 (by decide)
    refine oblc rfl rfl e486 (fun _ => ?_) (fun hb => absurd rfl hb)
    exact ov_load1 (v := .int .i64 (((laidL (1 + q6) l).getD k default).origin)) Try.isAgg3 e487 (blk_cellL (hS485.blk (i := 0) rfl) rfl) (fun vals' hv _ => ⟨rfl, hv⟩)
   ·intro k488 vals w489 h492 h493 hW491 hA490
    obtain rfl : k488 = 0 := Nat.le_antisymm h493 h492
    have hS494 : Sep G78 w72 ((Blk b123 (((laidL (1 + q6) l).getD k default).cells (cellV w72 (sb v27) (so v27 + k * 10 + 3))).toArray 36) :: (SetO b11 (1 + q6) (laidL (1 + q6) l)) :: (RowE (α := Int) own 3 vo (vecE (1 + q6) ((laidL (1 + q6) l).take k))) :: (RowE (α := Int) own 3 v45 (vecE (1 + q6) (laidL (1 + q6) l))) :: Rs) w489 := hW491
    have e495 := hA490 5 (by decide)
    have e496 := hA490 8 (by decide)
    refine oblc rfl rfl e495 (fun _ => ?_) (fun hb => absurd rfl hb)
    have hl497 : (decide ((((laidL (1 + q6) l).getD k default).origin) < 0)) = false := decide_eq_false (by omega)
    exact ov_lss (k := .i64) (a := ((laidL (1 + q6) l).getD k default).origin) (b := 0) e496 rfl (fun vals' hv _ => ⟨rfl, hv.trans (congrArg Value.bool hl497)⟩)
   ·intro k498 vals w499 h502 h503 hW501 hA500
    have e504 := hA500 5 (by decide)
    have e505 := hA500 9 (by decide)
    refine obl rfl ?_
    exact ov_pick_f (v := .bool false) e504 e505 (fun vals' hv _ => ⟨rfl, hv⟩)
   ·intro k506 vals w507 h510 h511 hW509 hA508
    have e512 := hA508 10 (by decide)
    refine obl rfl ?_
    exact ov_move (v := .bool false) e512 (fun vals' hv _ => ⟨rfl, hv⟩)
   ·intro k513 vals w514 h517 h518 hW516 hA515
    have e519 := hA515 11 (by decide)
    refine oblc rfl rfl e519 (fun _ => ?_) (fun hb => absurd rfl hb)
    exact fd36_0 rfl (fun vals' hv _ => ⟨rfl, hv⟩)
   ·intro k520 vals w521 h524 h525 hW523 hA522
    have e526 := hA522 11 (by decide)
    have e527 := hA522 12 (by decide)
    refine oblc rfl rfl e526 (fun _ => ?_) (fun hb => absurd rfl hb)
    exact fd33_0 e527 (fun vals' hv _ => ⟨rfl, hv⟩)
   ·intro k528 vals w529 h532 h533 hW531 hA530
    obtain rfl : k528 = 0 := Nat.le_antisymm h533 h532
    have hS534 : Sep G78 w72 ((Blk b123 (((laidL (1 + q6) l).getD k default).cells (cellV w72 (sb v27) (so v27 + k * 10 + 3))).toArray 36) :: (SetO b11 (1 + q6) (laidL (1 + q6) l)) :: (RowE (α := Int) own 3 vo (vecE (1 + q6) ((laidL (1 + q6) l).take k))) :: (RowE (α := Int) own 3 v45 (vecE (1 + q6) (laidL (1 + q6) l))) :: Rs) w529 := hW531
    have e535 := hA530 11 (by decide)
    have e536 := hA530 13 (by decide)
    refine oblc rfl rfl e535 (fun _ => ?_) (fun hb => absurd rfl hb)
    exact ov_load1 (v := .int .i64 (((laidL (1 + q6) l).getD k default).origin)) Try.isAgg3 e536 (blk_cellL (hS534.blk (i := 0) rfl) rfl) (fun vals' hv _ => ⟨rfl, hv⟩)
   ·intro k537 vals w538 h541 h542 hW540 hA539
    have e543 := hA539 11 (by decide)
    refine oblc rfl rfl e543 (fun _ => ?_) (fun hb => absurd rfl hb)
    exact ov_move (v := .int .i64 ((1 + q6 : Nat) : Int)) rfl (fun vals' hv _ => ⟨rfl, hv⟩)
   ·intro k544 vals w545 h548 h549 hW547 hA546
    obtain rfl : k544 = 0 := Nat.le_antisymm h549 h548
    have hS550 : Sep G78 w72 ((Blk b123 (((laidL (1 + q6) l).getD k default).cells (cellV w72 (sb v27) (so v27 + k * 10 + 3))).toArray 36) :: (SetO b11 (1 + q6) (laidL (1 + q6) l)) :: (RowE (α := Int) own 3 vo (vecE (1 + q6) ((laidL (1 + q6) l).take k))) :: (RowE (α := Int) own 3 v45 (vecE (1 + q6) (laidL (1 + q6) l))) :: Rs) w545 := hW547
    have e551 := hA546 11 (by decide)
    have e552 := hA546 14 (by decide)
    have e553 := hA546 15 (by decide)
    refine oblc rfl rfl e551 (fun _ => ?_) (fun hb => absurd rfl hb)
    have hl554 : (decide (((1 + q6 : Nat) : Int) ≤ (((laidL (1 + q6) l).getD k default).origin))) = false := decide_eq_false (by omega)
    exact ov_geq (k := .i64) (a := ((laidL (1 + q6) l).getD k default).origin) (b := ((1 + q6 : Nat) : Int)) e552 e553 (fun vals' hv _ => ⟨rfl, hv.trans (congrArg Value.bool hl554)⟩)
   ·intro k555 vals w556 h559 h560 hW558 hA557
    have e561 := hA557 11 (by decide)
    have e562 := hA557 16 (by decide)
    refine obl rfl ?_
    exact ov_pick_f (v := .bool false) e561 e562 (fun vals' hv _ => ⟨rfl, hv⟩)
   ·intro k563 vals w564 h567 h568 hW566 hA565
    have e569 := hA565 17 (by decide)
    refine obl rfl ?_
    exact ov_move (v := .bool false) e569 (fun vals' hv _ => ⟨rfl, hv⟩)
   ·intro k570 vals w571 h574 h575 hW573 hA572
    have e576 := hA572 18 (by decide)
    refine oblc rfl rfl e576 (fun _ => ?_) (fun hb => absurd rfl hb)
    exact ov_move (v := .int .i64 ((k : Nat) : Int)) rfl (fun vals' hv _ => ⟨rfl, hv⟩)
   ·intro k577 vals w578 h581 h582 hW580 hA579
    obtain rfl : k577 = 0 := Nat.le_antisymm h582 h581
    have hS583 : Sep G78 w72 ((Blk b123 (((laidL (1 + q6) l).getD k default).cells (cellV w72 (sb v27) (so v27 + k * 10 + 3))).toArray 36) :: (SetO b11 (1 + q6) (laidL (1 + q6) l)) :: (RowE (α := Int) own 3 vo (vecE (1 + q6) ((laidL (1 + q6) l).take k))) :: (RowE (α := Int) own 3 v45 (vecE (1 + q6) (laidL (1 + q6) l))) :: Rs) w578 := hW580
    have e584 := hA579 18 (by decide)
    have e585 := hA579 19 (by decide)
    refine oblc rfl rfl e584 (fun _ => ?_) (fun hb => absurd rfl hb)
    exact ov_gtr (k := .i64) (a := ((k : Nat) : Int)) (b := 0) e585 rfl (fun vals' hv _ => ⟨rfl, hv⟩)
   ·intro k586 vals w587 h590 h591 hW589 hA588
    have e592 := hA588 18 (by decide)
    have e593 := hA588 20 (by decide)
    refine oblc rfl rfl e592 (fun _ => ?_) (fun hb => absurd rfl hb)
    exact ov_move (v := .bool (decide (0 < ((k : Nat) : Int)))) e593 (fun vals' hv _ => ⟨rfl, hv⟩)
   ·intro k594 vals w595 h598 h599 hW597 hA596
    have e600 := hA596 21 (by decide)
    refine oblc rfl rfl e600 (fun hb601 => ?_) (fun hb601 => fun vals' hv _ => ⟨trivial, hv.trans (if_neg hb601).symm⟩)
    have hl602 := hb601
    have hl602 := of_decide_eq_true hl602
    exact ov_move (v := v27) rfl (fun vals' hv _ => ⟨rfl, hv.trans (if_pos hb601).symm⟩)
   ·intro k603 vals w604 h607 h608 hW606 hA605
    have e609 := hA605 21 (by decide)
    refine oblc rfl rfl e609 (fun hb610 => ?_) (fun hb610 => fun vals' hv _ => ⟨trivial, hv.trans (if_neg hb610).symm⟩)
    have hl611 := hb610
    have hl611 := of_decide_eq_true hl611
    exact ov_move (v := .int .i64 ((k : Nat) : Int)) rfl (fun vals' hv _ => ⟨rfl, hv.trans (if_pos hb610).symm⟩)
   ·intro k612 vals w613 h616 h617 hW615 hA614
    obtain rfl : k612 = 0 := Nat.le_antisymm h617 h616
    have hS618 : Sep G78 w72 ((Blk b123 (((laidL (1 + q6) l).getD k default).cells (cellV w72 (sb v27) (so v27 + k * 10 + 3))).toArray 36) :: (SetO b11 (1 + q6) (laidL (1 + q6) l)) :: (RowE (α := Int) own 3 vo (vecE (1 + q6) ((laidL (1 + q6) l).take k))) :: (RowE (α := Int) own 3 v45 (vecE (1 + q6) (laidL (1 + q6) l))) :: Rs) w613 := hW615
    have e619 := hA614 21 (by decide)
    have e620 : vals 23 = (if (decide (0 < ((k : Nat) : Int))) = true then (.int .i64 ((k : Nat) : Int) : Value) else undef) := hA614 23 (by decide)
    refine oblc rfl rfl e619 (fun hb621 => ?_) (fun hb621 => fun vals' hv _ => ⟨trivial, hv.trans (if_neg hb621).symm⟩)
    have hl622 := hb621
    have hl622 := of_decide_eq_true hl622
    have hr623 : InR ((k - 1 : Nat) : Int) := by first | omega | (simp only [lens]; omega)
    exact ov_sub (r := ((k - 1 : Nat) : Int)) (k := .i64) (a := ((k : Nat) : Int)) (b := 1) (show _ = (.int .i64 ((k : Nat) : Int) : Value) from (Eq.trans e620 (if_pos hb621))) rfl (by rw [show (((k : Nat) : Int) - 1 : Int) = ((k - 1 : Nat) : Int) by first | omega | (simp only [lens]; omega)]; exact wrap_in hr623) (fun vals' hv _ => ⟨rfl, hv.trans (if_pos hb621).symm⟩)
   ·intro k624 vals w625 h628 h629 hW627 hA626
    obtain rfl : k624 = 0 := Nat.le_antisymm h629 h628
    have hS630 : Sep G78 w72 ((Blk b123 (((laidL (1 + q6) l).getD k default).cells (cellV w72 (sb v27) (so v27 + k * 10 + 3))).toArray 36) :: (SetO b11 (1 + q6) (laidL (1 + q6) l)) :: (RowE (α := Int) own 3 vo (vecE (1 + q6) ((laidL (1 + q6) l).take k))) :: (RowE (α := Int) own 3 v45 (vecE (1 + q6) (laidL (1 + q6) l))) :: Rs) w625 := hW627
    have e631 := hA626 21 (by decide)
    have e632 : vals 22 = (if (decide (0 < ((k : Nat) : Int))) = true then (v27 : Value) else undef) := hA626 22 (by decide)
    have e633 : vals 24 = (if (decide (0 < ((k : Nat) : Int))) = true then (.int .i64 ((k - 1 : Nat) : Int) : Value) else undef) := hA626 24 (by decide)
    refine oblc rfl rfl e631 (fun hb634 => ?_) (fun hb634 => fun vals' hv _ => ⟨trivial, hv.trans (if_neg hb634).symm⟩)
    have hl635 := hb634
    have hl635 := of_decide_eq_true hl635
    have hi636 : k - 1 < (laidL (1 + q6) l).length := (by first | omega | (simp only [lens]; omega))
    exact ov_indexAddrN (k := 10) (i := k - 1) Try.underlying22 Try.sizeOf36 (show _ = (v27 : Value) from (Eq.trans e632 (if_pos hb634))) hrd84.sl (show _ = (.int .i64 ((k - 1 : Nat) : Int) : Value) from (Eq.trans e633 (if_pos hb634))) hi636 (fun vals' hv _ => ⟨rfl, hv.trans (if_pos hb634).symm⟩)
   ·intro k637 vals w638 h641 h642 hW640 hA639
    obtain rfl : k637 = 0 := Nat.le_antisymm h642 h641
    have hS643 : Sep G78 w72 ((Blk b123 (((laidL (1 + q6) l).getD k default).cells (cellV w72 (sb v27) (so v27 + k * 10 + 3))).toArray 36) :: (SetO b11 (1 + q6) (laidL (1 + q6) l)) :: (RowE (α := Int) own 3 vo (vecE (1 + q6) ((laidL (1 + q6) l).take k))) :: (RowE (α := Int) own 3 v45 (vecE (1 + q6) (laidL (1 + q6) l))) :: Rs) w638 := hW640
    have e644 := hA639 21 (by decide)
    have e645 : vals 25 = (if (decide (0 < ((k : Nat) : Int))) = true then (.pointer (some ⟨sb v27, so v27 + (k - 1) * 10, none⟩) : Value) else undef) := hA639 25 (by decide)
    refine oblc rfl rfl e644 (fun hb646 => ?_) (fun hb646 => fun vals' hv _ => ⟨trivial, hv.trans (if_neg hb646).symm⟩)
    have hl647 := hb646
    have hl647 := of_decide_eq_true hl647
    have hi649 : k - 1 < (laidL (1 + q6) l).length := (by first | omega | (simp only [lens]; omega))
    obtain ⟨hce648, hde648_0, hoke648⟩ := hrd84.ev hi649
    rw [← getD_at default hi649] at hce648 hde648_0 hoke648
    have hsm650 : (((laidL (1 + q6) l).getD (k - 1) default).deps).length * 8 ≤ 140737488355328 := hde648_0.small
    have hcw651 := hS643.cells hce648 (hrd84.foot (ne_of_lt hi649))
    exact ov_loadk (k := 10) Try.isAgg36 Try.sizeOf36 rfl (show _ = (.pointer (some ⟨sb v27, so v27 + (k - 1) * 10, none⟩) : Value) from (Eq.trans e645 (if_pos hb646))) hcw651 (fun vals' hv _ => ⟨rfl, hv.trans (if_pos hb646).symm⟩)
   ·intro k652 vals w653 h656 h657 hW655 hA654
    obtain rfl : k652 = 0 := Nat.le_antisymm h657 h656
    have hS658 : Sep G78 w72 ((Blk b123 (((laidL (1 + q6) l).getD k default).cells (cellV w72 (sb v27) (so v27 + k * 10 + 3))).toArray 36) :: (SetO b11 (1 + q6) (laidL (1 + q6) l)) :: (RowE (α := Int) own 3 vo (vecE (1 + q6) ((laidL (1 + q6) l).take k))) :: (RowE (α := Int) own 3 v45 (vecE (1 + q6) (laidL (1 + q6) l))) :: Rs) w653 := hW655
    have e659 := hA654 21 (by decide)
    refine oblc rfl rfl e659 (fun hb660 => ?_) (fun hb660 => fun vals' hv _ => ⟨trivial, hv.trans (if_neg hb660).symm⟩)
    have hl661 := hb660
    have hl661 := of_decide_eq_true hl661
    exact ov_loadk (k := 10) Try.isAgg36 Try.sizeOf36 rfl rfl (CellsAt.all (hS658.blk (i := 0) rfl)) (fun vals' hv _ => ⟨rfl, hv.trans (if_pos hb660).symm⟩)
   ·intro k372 vals w373 h376 h377 hW375 hA374
    obtain rfl : k372 = 0 := Nat.le_antisymm h377 h376
    have hS378 : Sep G78 w72 ((Blk b123 (((laidL (1 + q6) l).getD k default).cells (cellV w72 (sb v27) (so v27 + k * 10 + 3))).toArray 36) :: (SetO b11 (1 + q6) (laidL (1 + q6) l)) :: (RowE (α := Int) own 3 vo (vecE (1 + q6) ((laidL (1 + q6) l).take k))) :: (RowE (α := Int) own 3 v45 (vecE (1 + q6) (laidL (1 + q6) l))) :: Rs) w373 := hW375
    have e379 := hA374 21 (by decide)
    have e380 : vals 26 = (if (decide (0 < ((k : Nat) : Int))) = true then (.agg (((laidL (1 + q6) l).getD (k - 1) default).cells (cellV w72 (sb v27) (so v27 + (k - 1) * 10 + 3))).toArray : Value) else undef) := hA374 26 (by decide)
    have e381 : vals 27 = (if (decide (0 < ((k : Nat) : Int))) = true then (.agg (((laidL (1 + q6) l).getD k default).cells (cellV w72 (sb v27) (so v27 + k * 10 + 3))).toArray : Value) else undef) := hA374 27 (by decide)
    refine oblc rfl rfl e379 (fun hb382 => ?_) (fun hb382 vals' hv hv' => ?_)
    ·skip
     have hl383 := hb382
     have hl383 := of_decide_eq_true hl383
     have hi385 : k - 1 < (laidL (1 + q6) l).length := (by first | omega | (simp only [lens]; omega))
     obtain ⟨hce384, hde384_0, hoke384⟩ := hrd84.ev hi385
     rw [← getD_at default hi385] at hce384 hde384_0 hoke384
     have hsm386 : (((laidL (1 + q6) l).getD (k - 1) default).deps).length * 8 ≤ 140737488355328 := hde384_0.small
     have hcw387 := hS378.cells hce384 (hrd84.foot (ne_of_lt hi385))
     refine (ov_call (f := 28) (vals := [.agg (((laidL (1 + q6) l).getD (k - 1) default).cells (cellV w72 (sb v27) (so v27 + (k - 1) * 10 + 3))).toArray, .agg (((laidL (1 + q6) l).getD k default).cells (cellV w72 (sb v27) (so v27 + k * 10 + 3))).toArray]) (cap := []) (show _ = (.func (.func 28) #[] #[] : Value) from rfl) (mapL ⟨(show _ = (.agg (((laidL (1 + q6) l).getD (k - 1) default).cells (cellV w72 (sb v27) (so v27 + (k - 1) * 10 + 3))).toArray : Value) from (Eq.trans e380 (if_pos hb382))), (show _ = (.agg (((laidL (1 + q6) l).getD k default).cells (cellV w72 (sb v27) (so v27 + k * 10 + 3))).toArray : Value) from (Eq.trans e381 (if_pos hb382))), trivial⟩) Try.call28 (D_ahead (a := ((laidL (1 + q6) l).getD (k - 1) default)) (b := ((laidL (1 + q6) l).getD k default)) hde384_0 hoke384 hde118_0 hoke118 hS378) ?_)
     rintro _ w388 ⟨rfl, hS389⟩
     intro vals' hv hv'
     refine ⟨?_, trivial⟩
     show (vals' 28 = (if (decide (0 < ((k : Nat) : Int))) = true then (.bool ((ltE ((laidL (1 + q6) l).getD (k - 1) default) ((laidL (1 + q6) l).getD k default))) : Value) else undef)) ∧ Sep G78 w72 ((Blk b123 (((laidL (1 + q6) l).getD k default).cells (cellV w72 (sb v27) (so v27 + k * 10 + 3))).toArray 36) :: (SetO b11 (1 + q6) (laidL (1 + q6) l)) :: (RowE (α := Int) own 3 vo (vecE (1 + q6) ((laidL (1 + q6) l).take k))) :: (RowE (α := Int) own 3 v45 (vecE (1 + q6) (laidL (1 + q6) l))) :: Rs) w388
     exact ⟨(hv.trans (if_pos hb382).symm), hS389⟩
    ·skip
     refine ⟨?_, trivial⟩
     show (vals' 28 = (if (decide (0 < ((k : Nat) : Int))) = true then (.bool ((ltE ((laidL (1 + q6) l).getD (k - 1) default) ((laidL (1 + q6) l).getD k default))) : Value) else undef)) ∧ Sep G78 w72 ((Blk b123 (((laidL (1 + q6) l).getD k default).cells (cellV w72 (sb v27) (so v27 + k * 10 + 3))).toArray 36) :: (SetO b11 (1 + q6) (laidL (1 + q6) l)) :: (RowE (α := Int) own 3 vo (vecE (1 + q6) ((laidL (1 + q6) l).take k))) :: (RowE (α := Int) own 3 v45 (vecE (1 + q6) (laidL (1 + q6) l))) :: Rs) w373
     exact ⟨(hv.trans (if_neg hb382).symm), hS378⟩
   ·intro k662 vals w663 h666 h667 hW665 hA664
    obtain rfl : k662 = 1 := Nat.le_antisymm h667 h666
    obtain ⟨he390, hS668⟩ := hW665
    have e669 := hA664 21 (by decide)
    refine oblc rfl rfl e669 (fun hb670 => ?_) (fun hb670 => fun vals' hv _ => ⟨trivial, hv.trans (if_neg hb670).symm⟩)
    have hl671 := hb670
    have hl671 := of_decide_eq_true hl671
    exact ov_not (a := (ltE ((laidL (1 + q6) l).getD (k - 1) default) ((laidL (1 + q6) l).getD k default))) (show _ = (.bool ((ltE ((laidL (1 + q6) l).getD (k - 1) default) ((laidL (1 + q6) l).getD k default))) : Value) from (Eq.trans he390 (if_pos hb670))) (fun vals' hv _ => ⟨rfl, hv.trans (if_pos hb670).symm⟩)
   ·intro k672 vals w673 h676 h677 hW675 hA674
    have e678 := hA674 18 (by decide)
    have e679 := hA674 21 (by decide)
    have e680 : vals 29 = (if (decide (0 < ((k : Nat) : Int))) = true then (.bool (!(ltE ((laidL (1 + q6) l).getD (k - 1) default) ((laidL (1 + q6) l).getD k default))) : Value) else undef) := hA674 29 (by decide)
    refine oblc rfl rfl e678 (fun _ => ?_) (fun hb => absurd rfl hb)
    have hl681 : ((decide (0 < ((k : Nat) : Int))) && (!(ltE ((laidL (1 + q6) l).getD (k - 1) default) ((laidL (1 + q6) l).getD k default)))) = false := prev_ok hp9
    exact ov_pick_and (b := decide (0 < ((k : Nat) : Int))) (b' := !(ltE ((laidL (1 + q6) l).getD (k - 1) default) ((laidL (1 + q6) l).getD k default))) e679 (fun hbp => (show _ = (.bool (!(ltE ((laidL (1 + q6) l).getD (k - 1) default) ((laidL (1 + q6) l).getD k default))) : Value) from (Eq.trans e680 (if_pos hbp)))) (fun vals' hv _ => ⟨rfl, hv.trans (congrArg Value.bool hl681)⟩)
   ·intro k682 vals w683 h686 h687 hW685 hA684
    have e688 := hA684 18 (by decide)
    have e689 := hA684 30 (by decide)
    refine obl rfl ?_
    exact ov_pick_f (v := .bool false) e688 e689 (fun vals' hv _ => ⟨rfl, hv⟩)
   intro vals w690 hW691 hA692
   obtain ⟨he390, hS693⟩ := hW691
   have e694 := hA692 31 (by decide)
   refine st_env (kv := [(0, .int .i64 ((1 + q6 : Nat) : Int)), (5, .pointer (some ⟨b11, 0, none⟩)), (6, v27), (7, v45), (9, .int .i64 ((k : Nat) : Int)), (8, vo), (42, .int .i64 ((k : Nat) : Int)), (43, v27), (44, .int .i64 (((laidL (1 + q6) l).length : Nat) : Int)), (45, .bool true), (48, v27), (49, .int .i64 ((k : Nat) : Int)), (50, .pointer (some ⟨sb v27, so v27 + k * 10, none⟩)), (51, .agg (((laidL (1 + q6) l).getD k default).cells (cellV w72 (sb v27) (so v27 + k * 10 + 3))).toArray), (10, .pointer (some ⟨b123, 0, none⟩)), (83, .bool false)]) ⟨rfl, rfl, rfl, rfl, rfl, rfl, rfl, rfl, rfl, rfl, rfl, rfl, rfl, rfl, rfl, (by exact e694), trivial⟩ (fun ρw690 => ?_)
   refine st_nil ?_
   refine WP_cond_f rfl ?_
   refine WP_skip ?_
   refine WP_seq ?_
   refine WP_seq ?_
   refine WP_region0 (by kernel_rfl) (fun _ => ?_)
   refine st (ov_assign (v := .int .i64 (0)) rfl ?_)
   refine st_nil ?_
   refine WP_block ?_
   refine WP_loop (fun mq σ wq => ∃ (o9 : Nat) (ρ : Env), mq = (1 + q6) - o9 ∧ σ = setAll ρ [(0, .int .i64 ((1 + q6 : Nat) : Int)), (5, .pointer (some ⟨b11, 0, none⟩)), (6, v27), (7, v45), (8, vo), (9, .int .i64 ((k : Nat) : Int)), (10, .pointer (some ⟨b123, 0, none⟩)), (11, .int .i64 ((o9 : Nat) : Int))] ∧ (o9 ≤ (1 + q6)) ∧ Sep G78 w72 ((Blk b123 (((laidL (1 + q6) l).getD k default).cells (cellV w72 (sb v27) (so v27 + k * 10 + 3))).toArray 36) :: (SetO b11 (1 + q6) (laidL (1 + q6) l)) :: (RowE (α := Int) own 3 vo (vecE (1 + q6) ((laidL (1 + q6) l).take k))) :: (RowE (α := Int) own 3 v45 (vecE (1 + q6) (laidL (1 + q6) l))) :: Rs) wq) ⟨0, _, rfl, setAll_self ⟨rfl, rfl, rfl, rfl, rfl, rfl, rfl, rfl, trivial⟩, Nat.zero_le _, hS693⟩ ?_
   rintro m696 σ697 w695 ⟨o9, ρl2, rfl, rfl, ho9n, hS698⟩
   refine WP_seq ?_
   refine WP_seq ?_
   refine WP_region0 (by kernel_rfl) (fun _ => ?_)
   refine st (ov_move (v := .int .i64 ((o9 : Nat) : Int)) rfl ?_)
   refine st (ov_move (v := .int .i64 ((1 + q6 : Nat) : Int)) rfl ?_)
   refine st (ov_lss (k := .i64) (a := ((o9 : Nat) : Int)) (b := ((1 + q6 : Nat) : Int)) rfl rfl ?_)
   refine st_nil ?_
   cases hc699 : decide (((o9 : Nat) : Int) < ((1 + q6 : Nat) : Int))
   ·skip
    have hc699r := hc699
    have hc699 := of_decide_eq_false hc699
    refine WP_cond_f rfl ?_
    refine WP_exit ?_
    refine blk_exit ?_
    refine WP_seq ?_
    refine WP_draw4 (WF [fun vals wq => Sep G78 w72 ((Blk b123 (((laidL (1 + q6) l).getD k default).cells (cellV w72 (sb v27) (so v27 + k * 10 + 3))).toArray 36) :: (SetO b11 (1 + q6) (laidL (1 + q6) l)) :: (RowE (α := Int) own 3 vo (vecE (1 + q6) ((laidL (1 + q6) l).take k))) :: (RowE (α := Int) own 3 v45 (vecE (1 + q6) (laidL (1 + q6) l))) :: Rs) wq, fun vals wq => Sep G78 w72 ((RowE (α := Int) own 3 vo ((vecE (1 + q6) ((laidL (1 + q6) l).take k)).set ((((laidL (1 + q6) l).getD k default).origin).toNat) (((vecE (1 + q6) ((laidL (1 + q6) l).take k)).getD ((((laidL (1 + q6) l).getD k default).origin).toNat) 0) + 1))) :: (Blk b123 (((laidL (1 + q6) l).getD k default).cells (cellV w72 (sb v27) (so v27 + k * 10 + 3))).toArray 36) :: (SetO b11 (1 + q6) (laidL (1 + q6) l)) :: (RowE (α := Int) own 3 v45 (vecE (1 + q6) (laidL (1 + q6) l))) :: Rs) wq]) (AF [Vl 0 (vo), Vl 1 (.pointer (some ⟨b123, 0, none⟩)), Vl 2 (.pointer (some ⟨b123, 0, none⟩)), Vl 3 (.int .i64 (((laidL (1 + q6) l).getD k default).origin)), Vl 4 (vo), Vl 5 (.pointer (some ⟨b123, 0, none⟩)), Vl 6 (.pointer (some ⟨b123, 0, none⟩)), Vl 7 (.int .i64 (((laidL (1 + q6) l).getD k default).origin)), Vl 8 (.pointer (some ⟨sb vo, so vo + ((((laidL (1 + q6) l).getD k default).origin).toNat) * 1, none⟩)), Vl 9 (.int .i64 (((vecE (1 + q6) ((laidL (1 + q6) l).take k)).getD ((((laidL (1 + q6) l).getD k default).origin).toNat) 0))), Vl 10 (.int .i64 (((vecE (1 + q6) ((laidL (1 + q6) l).take k)).getD ((((laidL (1 + q6) l).getD k default).origin).toNat) 0) + 1)), Vl 11 (.pointer (some ⟨sb vo, so vo + ((((laidL (1 + q6) l).getD k default).origin).toNat) * 1, none⟩)), fun _ => True]) [[], [], [1], [1, 2], [], [], [5], [5, 6], [4, 5, 6, 7], [4, 5, 6, 7, 8], [4, 5, 6, 7, 8, 9], [0, 1, 2, 3, 4, 5, 6, 7, 8, 9, 10], [0, 1, 2, 3, 4, 5, 6, 7, 8, 9, 10, 11]] [12] [(0, 0), (0, 0), (0, 0), (0, 0), (0, 0), (0, 0), (0, 0), (0, 0), (0, 0), (0, 0), (0, 0), (0, 0), (0, 0)] (by kernel_rfl) (by kernel_rfl) (by kernel_rfl) rfl (by kernel_rfl) (by kernel_rfl) (fun _ h1 h2 h3 h4 _ => hS698.same h1 h2 h3 h4) ?_ (AF_loc ⟨dA, dA, dA, dA, dA, dA, dA, dA, dA, dA, dA, dA, dT, trivial⟩) ⟨?_, ?_, ?_, ?_, ?_, ?_, ?_, ?_, ?_, ?_, ?_, ?_, ?_, trivial⟩ ?_
    ·intro k vals vals' w hv h
     have e : ∀ j ∈ ([12] : List Nat), vals' j = vals j := hv
     match k, h with
     | 0, h => exact h
     | 1, h => exact h
     | _ + 2, _ => trivial
    ·intro k807 vals w808 h811 h812 hW810 hA809
     refine obl rfl ?_
     exact ov_move (v := vo) rfl (fun vals' hv _ => ⟨rfl, hv⟩)
    ·intro k813 vals w814 h817 h818 hW816 hA815
     refine obl rfl ?_
     exact fd36_0 rfl (fun vals' hv _ => ⟨rfl, hv⟩)
    ·intro k819 vals w820 h823 h824 hW822 hA821
     have e825 := hA821 1 (by decide)
     refine obl rfl ?_
     exact fd33_0 e825 (fun vals' hv _ => ⟨rfl, hv⟩)
    ·intro k826 vals w827 h830 h831 hW829 hA828
     obtain rfl : k826 = 0 := Nat.le_antisymm h831 h830
     have hS832 : Sep G78 w72 ((Blk b123 (((laidL (1 + q6) l).getD k default).cells (cellV w72 (sb v27) (so v27 + k * 10 + 3))).toArray 36) :: (SetO b11 (1 + q6) (laidL (1 + q6) l)) :: (RowE (α := Int) own 3 vo (vecE (1 + q6) ((laidL (1 + q6) l).take k))) :: (RowE (α := Int) own 3 v45 (vecE (1 + q6) (laidL (1 + q6) l))) :: Rs) w827 := hW829
     have e833 := hA828 2 (by decide)
     refine obl rfl ?_
     exact ov_load1 (v := .int .i64 (((laidL (1 + q6) l).getD k default).origin)) Try.isAgg3 e833 (blk_cellL (hS832.blk (i := 0) rfl) rfl) (fun vals' hv _ => ⟨rfl, hv⟩)
    ·intro k834 vals w835 h838 h839 hW837 hA836
     refine obl rfl ?_
     exact ov_move (v := vo) rfl (fun vals' hv _ => ⟨rfl, hv⟩)
    ·intro k840 vals w841 h844 h845 hW843 hA842
     refine obl rfl ?_
     exact fd36_0 rfl (fun vals' hv _ => ⟨rfl, hv⟩)
    ·intro k846 vals w847 h850 h851 hW849 hA848
     have e852 := hA848 5 (by decide)
     refine obl rfl ?_
     exact fd33_0 e852 (fun vals' hv _ => ⟨rfl, hv⟩)
    ·intro k853 vals w854 h857 h858 hW856 hA855
     obtain rfl : k853 = 0 := Nat.le_antisymm h858 h857
     have hS859 : Sep G78 w72 ((Blk b123 (((laidL (1 + q6) l).getD k default).cells (cellV w72 (sb v27) (so v27 + k * 10 + 3))).toArray 36) :: (SetO b11 (1 + q6) (laidL (1 + q6) l)) :: (RowE (α := Int) own 3 vo (vecE (1 + q6) ((laidL (1 + q6) l).take k))) :: (RowE (α := Int) own 3 v45 (vecE (1 + q6) (laidL (1 + q6) l))) :: Rs) w854 := hW856
     have e860 := hA855 6 (by decide)
     refine obl rfl ?_
     exact ov_load1 (v := .int .i64 (((laidL (1 + q6) l).getD k default).origin)) Try.isAgg3 e860 (blk_cellL (hS859.blk (i := 0) rfl) rfl) (fun vals' hv _ => ⟨rfl, hv⟩)
    ·intro k861 vals w862 h865 h866 hW864 hA863
     obtain rfl : k861 = 0 := Nat.le_antisymm h866 h865
     have hS867 : Sep G78 w72 ((Blk b123 (((laidL (1 + q6) l).getD k default).cells (cellV w72 (sb v27) (so v27 + k * 10 + 3))).toArray 36) :: (SetO b11 (1 + q6) (laidL (1 + q6) l)) :: (RowE (α := Int) own 3 vo (vecE (1 + q6) ((laidL (1 + q6) l).take k))) :: (RowE (α := Int) own 3 v45 (vecE (1 + q6) (laidL (1 + q6) l))) :: Rs) w862 := hW864
     have e868 := hA863 4 (by decide)
     have e869 := hA863 7 (by decide)
     refine obl rfl ?_
     have hi870 : (((laidL (1 + q6) l).getD k default).origin).toNat < (vecE (1 + q6) ((laidL (1 + q6) l).take k)).length := (by first | omega | (simp only [lens]; omega))
     exact ov_indexAddr (k := 1) (i := ((laidL (1 + q6) l).getD k default).origin) Try.underlying34 Try.sizeOf3 e868 hr90.1 e869 ⟨by omega, by omega⟩ (fun vals' hv _ => ⟨rfl, hv⟩)
    ·intro k871 vals w872 h875 h876 hW874 hA873
     obtain rfl : k871 = 0 := Nat.le_antisymm h876 h875
     have hS877 : Sep G78 w72 ((Blk b123 (((laidL (1 + q6) l).getD k default).cells (cellV w72 (sb v27) (so v27 + k * 10 + 3))).toArray 36) :: (SetO b11 (1 + q6) (laidL (1 + q6) l)) :: (RowE (α := Int) own 3 vo (vecE (1 + q6) ((laidL (1 + q6) l).take k))) :: (RowE (α := Int) own 3 v45 (vecE (1 + q6) (laidL (1 + q6) l))) :: Rs) w872 := hW874
     have e878 := hA873 8 (by decide)
     refine obl rfl ?_
     have hi880 : (((laidL (1 + q6) l).getD k default).origin).toNat < (vecE (1 + q6) ((laidL (1 + q6) l).take k)).length := (by first | omega | (simp only [lens]; omega))
     obtain ⟨_, _, hce879, rfl, hxe879⟩ := hS877.rowAt (i := 2) (j := (((laidL (1 + q6) l).getD k default).origin).toNat) rfl hi880
     rw [← getD_at 0 hi880] at hce879 hxe879
     exact ov_load1 (v := .int .i64 (((vecE (1 + q6) ((laidL (1 + q6) l).take k)).getD ((((laidL (1 + q6) l).getD k default).origin).toNat) 0))) Try.isAgg3 e878 (hce879.get (j := 0) rfl) (fun vals' hv _ => ⟨rfl, hv⟩)
    ·intro k881 vals w882 h885 h886 hW884 hA883
     obtain rfl : k881 = 0 := Nat.le_antisymm h886 h885
     have hS887 : Sep G78 w72 ((Blk b123 (((laidL (1 + q6) l).getD k default).cells (cellV w72 (sb v27) (so v27 + k * 10 + 3))).toArray 36) :: (SetO b11 (1 + q6) (laidL (1 + q6) l)) :: (RowE (α := Int) own 3 vo (vecE (1 + q6) ((laidL (1 + q6) l).take k))) :: (RowE (α := Int) own 3 v45 (vecE (1 + q6) (laidL (1 + q6) l))) :: Rs) w882 := hW884
     have e888 := hA883 9 (by decide)
     refine obl rfl ?_
     have hr889 : InR (((vecE (1 + q6) ((laidL (1 + q6) l).take k)).getD ((((laidL (1 + q6) l).getD k default).origin).toNat) 0) + 1) := by omega
     exact ov_add (r := ((vecE (1 + q6) ((laidL (1 + q6) l).take k)).getD ((((laidL (1 + q6) l).getD k default).origin).toNat) 0) + 1) (k := .i64) (a := ((vecE (1 + q6) ((laidL (1 + q6) l).take k)).getD ((((laidL (1 + q6) l).getD k default).origin).toNat) 0)) (b := 1) e888 rfl (wrap_in hr889) (fun vals' hv _ => ⟨rfl, hv⟩)
    ·intro k890 vals w891 h894 h895 hW893 hA892
     obtain rfl : k890 = 0 := Nat.le_antisymm h895 h894
     have hS896 : Sep G78 w72 ((Blk b123 (((laidL (1 + q6) l).getD k default).cells (cellV w72 (sb v27) (so v27 + k * 10 + 3))).toArray 36) :: (SetO b11 (1 + q6) (laidL (1 + q6) l)) :: (RowE (α := Int) own 3 vo (vecE (1 + q6) ((laidL (1 + q6) l).take k))) :: (RowE (α := Int) own 3 v45 (vecE (1 + q6) (laidL (1 + q6) l))) :: Rs) w891 := hW893
     have e897 := hA892 0 (by decide)
     have e898 := hA892 3 (by decide)
     refine obl rfl ?_
     have hi899 : (((laidL (1 + q6) l).getD k default).origin).toNat < (vecE (1 + q6) ((laidL (1 + q6) l).take k)).length := (by first | omega | (simp only [lens]; omega))
     exact ov_indexAddr (k := 1) (i := ((laidL (1 + q6) l).getD k default).origin) Try.underlying34 Try.sizeOf3 e897 hr90.1 e898 ⟨by omega, by omega⟩ (fun vals' hv _ => ⟨rfl, hv⟩)
    ·intro k793 vals w794 h797 h798 hW796 hA795
     obtain rfl : k793 = 0 := Nat.le_antisymm h798 h797
     have hS799 : Sep G78 w72 ((Blk b123 (((laidL (1 + q6) l).getD k default).cells (cellV w72 (sb v27) (so v27 + k * 10 + 3))).toArray 36) :: (SetO b11 (1 + q6) (laidL (1 + q6) l)) :: (RowE (α := Int) own 3 vo (vecE (1 + q6) ((laidL (1 + q6) l).take k))) :: (RowE (α := Int) own 3 v45 (vecE (1 + q6) (laidL (1 + q6) l))) :: Rs) w794 := hW796
     have e800 := hA795 10 (by decide)
     have e801 := hA795 11 (by decide)
     refine obl rfl ?_
     have hS803 : Sep G78 w72 ((RowE (α := Int) own 3 vo (vecE (1 + q6) ((laidL (1 + q6) l).take k))) :: (Blk b123 (((laidL (1 + q6) l).getD k default).cells (cellV w72 (sb v27) (so v27 + k * 10 + 3))).toArray 36) :: (SetO b11 (1 + q6) (laidL (1 + q6) l)) :: (RowE (α := Int) own 3 v45 (vecE (1 + q6) (laidL (1 + q6) l))) :: Rs) w794 := hS799.sel 4 [2, 0, 1, 3] (Nat.le_add_left _ _) rfl rfl
     have hS804 : Sep G78 w72 ((RowE (α := Int) own 3 vo (vecE (1 + q6) ((laidL (1 + q6) l).take k))) :: Emp :: (Blk b123 (((laidL (1 + q6) l).getD k default).cells (cellV w72 (sb v27) (so v27 + k * 10 + 3))).toArray 36) :: (SetO b11 (1 + q6) (laidL (1 + q6) l)) :: (RowE (α := Int) own 3 v45 (vecE (1 + q6) (laidL (1 + q6) l))) :: Rs) w794 := hS803.emp1
     refine (ov_storeS (α := Int) (j := (((laidL (1 + q6) l).getD k default).origin).toNat) (o := 0) (u := .int .i64 (((vecE (1 + q6) ((laidL (1 + q6) l).take k)).getD ((((laidL (1 + q6) l).getD k default).origin).toNat) 0) + 1)) (us := [.int .i64 (((vecE (1 + q6) ((laidL (1 + q6) l).take k)).getD ((((laidL (1 + q6) l).getD k default).origin).toNat) 0) + 1)]) (x1 := ((vecE (1 + q6) ((laidL (1 + q6) l).take k)).getD ((((laidL (1 + q6) l).getD k default).origin).toNat) 0) + 1) hS804 Try.sizeOf3 (by first | omega | (simp only [lens]; omega)) e801 e800 rfl (Nat.le_of_ble_eq_true rfl) (all1 ⟨rfl, trivial⟩) (fun _ _ cs0 hel _ => (by have hl0 := Src.len _ hel; have e0 : cs0.take 0 ++ (([.int .i64 (((vecE (1 + q6) ((laidL (1 + q6) l).take k)).getD ((((laidL (1 + q6) l).getD k default).origin).toNat) 0) + 1)] : List Value)) ++ cs0.drop (0 + (([.int .i64 (((vecE (1 + q6) ((laidL (1 + q6) l).take k)).getD ((((laidL (1 + q6) l).getD k default).origin).toNat) 0) + 1)] : List Value)).length) = (([.int .i64 (((vecE (1 + q6) ((laidL (1 + q6) l).take k)).getD ((((laidL (1 + q6) l).getD k default).origin).toNat) 0) + 1)] : List Value)) := (by rw [List.drop_eq_nil_of_le (by rw [hl0]; exact Nat.le_of_ble_eq_true rfl)]; simp); rw [e0]; exact (show _ from ⟨rfl, (by omega)⟩))) ?_)
     intro w802 hS805
     have hr806 := hS805.row (i := 0) rfl
     have hr806s : ((vecE (1 + q6) ((laidL (1 + q6) l).take k)).set ((((laidL (1 + q6) l).getD k default).origin).toNat) (((vecE (1 + q6) ((laidL (1 + q6) l).take k)).getD ((((laidL (1 + q6) l).getD k default).origin).toNat) 0) + 1)).length * 8 ≤ 140737488355328 := hr806.2
     intro vals' hv hv'
     refine ⟨?_, trivial⟩
     show Sep G78 w72 ((RowE (α := Int) own 3 vo ((vecE (1 + q6) ((laidL (1 + q6) l).take k)).set ((((laidL (1 + q6) l).getD k default).origin).toNat) (((vecE (1 + q6) ((laidL (1 + q6) l).take k)).getD ((((laidL (1 + q6) l).getD k default).origin).toNat) 0) + 1))) :: (Blk b123 (((laidL (1 + q6) l).getD k default).cells (cellV w72 (sb v27) (so v27 + k * 10 + 3))).toArray 36) :: (SetO b11 (1 + q6) (laidL (1 + q6) l)) :: (RowE (α := Int) own 3 v45 (vecE (1 + q6) (laidL (1 + q6) l))) :: Rs) w802
     exact hS805
    intro vals w900 hW901 hA902
    have hS903 : Sep G78 w72 ((RowE (α := Int) own 3 vo ((vecE (1 + q6) ((laidL (1 + q6) l).take k)).set ((((laidL (1 + q6) l).getD k default).origin).toNat) (((vecE (1 + q6) ((laidL (1 + q6) l).take k)).getD ((((laidL (1 + q6) l).getD k default).origin).toNat) 0) + 1))) :: (Blk b123 (((laidL (1 + q6) l).getD k default).cells (cellV w72 (sb v27) (so v27 + k * 10 + 3))).toArray 36) :: (SetO b11 (1 + q6) (laidL (1 + q6) l)) :: (RowE (α := Int) own 3 v45 (vecE (1 + q6) (laidL (1 + q6) l))) :: Rs) w900 := hW901
    refine st_env (kv := [(0, .int .i64 ((1 + q6 : Nat) : Int)), (5, .pointer (some ⟨b11, 0, none⟩)), (6, v27), (7, v45), (8, vo), (9, .int .i64 ((k : Nat) : Int)), (10, .pointer (some ⟨b123, 0, none⟩)), (11, .int .i64 ((o9 : Nat) : Int)), (84, .int .i64 ((o9 : Nat) : Int)), (85, .int .i64 ((1 + q6 : Nat) : Int)), (86, .bool false)]) ⟨rfl, rfl, rfl, rfl, rfl, rfl, rfl, rfl, rfl, rfl, rfl, trivial⟩ (fun ρw900 => ?_)
    refine st_nil ?_
    refine WP_seq ?_
    refine WP_seq ?_
    rw [vec_snoc hG9 (by omega)] at hS903
    have hS904 : Sep G78 w72 ((RowE (α := Int) own 3 vo (vecE (1 + q6) ((laidL (1 + q6) l).take (k + 1)))) :: (Blk b123 (((laidL (1 + q6) l).getD k default).cells (cellV w72 (sb v27) (so v27 + k * 10 + 3))).toArray 36) :: (SetO b11 (1 + q6) (laidL (1 + q6) l)) :: (RowE (α := Int) own 3 v45 (vecE (1 + q6) (laidL (1 + q6) l))) :: Rs) w900 := hS903
    have hr905 := hS904.row (i := 0) rfl
    have hr905s : (vecE (1 + q6) ((laidL (1 + q6) l).take (k + 1))).length * 8 ≤ 140737488355328 := hr905.2
    have hvm9 : (vecE (1 + q6) ((laidL (1 + q6) l).take (k + 1))).length = (1 + q6) := vecE_len
    have hsq9 := hG9.seq_now (i := k) (by omega)
    refine WP_draw4 (WF [fun vals wq => Sep G78 w72 ((RowE (α := Int) own 3 vo (vecE (1 + q6) ((laidL (1 + q6) l).take (k + 1)))) :: (Blk b123 (((laidL (1 + q6) l).getD k default).cells (cellV w72 (sb v27) (so v27 + k * 10 + 3))).toArray 36) :: (SetO b11 (1 + q6) (laidL (1 + q6) l)) :: (RowE (α := Int) own 3 v45 (vecE (1 + q6) (laidL (1 + q6) l))) :: Rs) wq]) (AF [Vl 0 (.pointer (some ⟨b123, 0, none⟩)), Vl 1 (.pointer (some ⟨b123, 1, none⟩)), Vl 2 (.int .i64 (((laidL (1 + q6) l).getD k default).seq)), Vl 3 (vo), Vl 4 (.pointer (some ⟨b123, 0, none⟩)), Vl 5 (.pointer (some ⟨b123, 0, none⟩)), Vl 6 (.int .i64 (((laidL (1 + q6) l).getD k default).origin)), Vl 7 (.pointer (some ⟨sb vo, so vo + ((((laidL (1 + q6) l).getD k default).origin).toNat) * 1, none⟩)), Vl 8 (.int .i64 (((vecE (1 + q6) ((laidL (1 + q6) l).take (k + 1))).getD ((((laidL (1 + q6) l).getD k default).origin).toNat) 0))), Vl 9 (.bool (!decide ((((laidL (1 + q6) l).getD k default).seq) = ((vecE (1 + q6) ((laidL (1 + q6) l).take (k + 1))).getD ((((laidL (1 + q6) l).getD k default).origin).toNat) 0))))]) [[], [0], [0, 1], [], [], [4], [4, 5], [3, 4, 5, 6], [3, 4, 5, 6, 7], [0, 1, 2, 3, 4, 5, 6, 7, 8]] [] [(0, 0), (0, 0), (0, 0), (0, 0), (0, 0), (0, 0), (0, 0), (0, 0), (0, 0), (0, 0)] (by kernel_rfl) (by kernel_rfl) (by kernel_rfl) rfl (by kernel_rfl) (by kernel_rfl) (fun _ h1 h2 h3 h4 _ => hS904.same h1 h2 h3 h4) ?_ (AF_loc ⟨dA, dA, dA, dA, dA, dA, dA, dA, dA, dA, trivial⟩) ⟨?_, ?_, ?_, ?_, ?_, ?_, ?_, ?_, ?_, ?_, trivial⟩ ?_
    ·intro k vals vals' w hv h
     match k, h with
     | 0, h => exact h
     | _ + 1, _ => trivial
    ·intro k983 vals w984 h987 h988 hW986 hA985
     refine obl rfl ?_
     exact fd36_0 rfl (fun vals' hv _ => ⟨rfl, hv⟩)
    ·intro k989 vals w990 h993 h994 hW992 hA991
     have e995 := hA991 0 (by decide)
     refine obl rfl ?_
     exact fd33_1 e995 (fun vals' hv _ => ⟨rfl, hv⟩)
    ·intro k996 vals w997 h1000 h1001 hW999 hA998
     obtain rfl : k996 = 0 := Nat.le_antisymm h1001 h1000
     have hS1002 : Sep G78 w72 ((RowE (α := Int) own 3 vo (vecE (1 + q6) ((laidL (1 + q6) l).take (k + 1)))) :: (Blk b123 (((laidL (1 + q6) l).getD k default).cells (cellV w72 (sb v27) (so v27 + k * 10 + 3))).toArray 36) :: (SetO b11 (1 + q6) (laidL (1 + q6) l)) :: (RowE (α := Int) own 3 v45 (vecE (1 + q6) (laidL (1 + q6) l))) :: Rs) w997 := hW999
     have e1003 := hA998 1 (by decide)
     refine obl rfl ?_
     exact ov_load1 (v := .int .i64 (((laidL (1 + q6) l).getD k default).seq)) Try.isAgg3 e1003 (blk_cellL (hS1002.blk (i := 1) rfl) rfl) (fun vals' hv _ => ⟨rfl, hv⟩)
    ·intro k1004 vals w1005 h1008 h1009 hW1007 hA1006
     refine obl rfl ?_
     exact ov_move (v := vo) rfl (fun vals' hv _ => ⟨rfl, hv⟩)
    ·intro k1010 vals w1011 h1014 h1015 hW1013 hA1012
     refine obl rfl ?_
     exact fd36_0 rfl (fun vals' hv _ => ⟨rfl, hv⟩)
    ·intro k1016 vals w1017 h1020 h1021 hW1019 hA1018
     have e1022 := hA1018 4 (by decide)
     refine obl rfl ?_
     exact fd33_0 e1022 (fun vals' hv _ => ⟨rfl, hv⟩)
    ·intro k1023 vals w1024 h1027 h1028 hW1026 hA1025
     obtain rfl : k1023 = 0 := Nat.le_antisymm h1028 h1027
     have hS1029 : Sep G78 w72 ((RowE (α := Int) own 3 vo (vecE (1 + q6) ((laidL (1 + q6) l).take (k + 1)))) :: (Blk b123 (((laidL (1 + q6) l).getD k default).cells (cellV w72 (sb v27) (so v27 + k * 10 + 3))).toArray 36) :: (SetO b11 (1 + q6) (laidL (1 + q6) l)) :: (RowE (α := Int) own 3 v45 (vecE (1 + q6) (laidL (1 + q6) l))) :: Rs) w1024 := hW1026
     have e1030 := hA1025 5 (by decide)
     refine obl rfl ?_
     exact ov_load1 (v := .int .i64 (((laidL (1 + q6) l).getD k default).origin)) Try.isAgg3 e1030 (blk_cellL (hS1029.blk (i := 1) rfl) rfl) (fun vals' hv _ => ⟨rfl, hv⟩)
    ·intro k1031 vals w1032 h1035 h1036 hW1034 hA1033
     obtain rfl : k1031 = 0 := Nat.le_antisymm h1036 h1035
     have hS1037 : Sep G78 w72 ((RowE (α := Int) own 3 vo (vecE (1 + q6) ((laidL (1 + q6) l).take (k + 1)))) :: (Blk b123 (((laidL (1 + q6) l).getD k default).cells (cellV w72 (sb v27) (so v27 + k * 10 + 3))).toArray 36) :: (SetO b11 (1 + q6) (laidL (1 + q6) l)) :: (RowE (α := Int) own 3 v45 (vecE (1 + q6) (laidL (1 + q6) l))) :: Rs) w1032 := hW1034
     have e1038 := hA1033 3 (by decide)
     have e1039 := hA1033 6 (by decide)
     refine obl rfl ?_
     have hi1040 : (((laidL (1 + q6) l).getD k default).origin).toNat < (vecE (1 + q6) ((laidL (1 + q6) l).take (k + 1))).length := (by first | omega | (simp only [lens]; omega))
     exact ov_indexAddr (k := 1) (i := ((laidL (1 + q6) l).getD k default).origin) Try.underlying34 Try.sizeOf3 e1038 hr905.1 e1039 ⟨by omega, by omega⟩ (fun vals' hv _ => ⟨rfl, hv⟩)
    ·intro k1041 vals w1042 h1045 h1046 hW1044 hA1043
     obtain rfl : k1041 = 0 := Nat.le_antisymm h1046 h1045
     have hS1047 : Sep G78 w72 ((RowE (α := Int) own 3 vo (vecE (1 + q6) ((laidL (1 + q6) l).take (k + 1)))) :: (Blk b123 (((laidL (1 + q6) l).getD k default).cells (cellV w72 (sb v27) (so v27 + k * 10 + 3))).toArray 36) :: (SetO b11 (1 + q6) (laidL (1 + q6) l)) :: (RowE (α := Int) own 3 v45 (vecE (1 + q6) (laidL (1 + q6) l))) :: Rs) w1042 := hW1044
     have e1048 := hA1043 7 (by decide)
     refine obl rfl ?_
     have hi1050 : (((laidL (1 + q6) l).getD k default).origin).toNat < (vecE (1 + q6) ((laidL (1 + q6) l).take (k + 1))).length := (by first | omega | (simp only [lens]; omega))
     obtain ⟨_, _, hce1049, rfl, hxe1049⟩ := hS1047.rowAt (i := 0) (j := (((laidL (1 + q6) l).getD k default).origin).toNat) rfl hi1050
     rw [← getD_at 0 hi1050] at hce1049 hxe1049
     exact ov_load1 (v := .int .i64 (((vecE (1 + q6) ((laidL (1 + q6) l).take (k + 1))).getD ((((laidL (1 + q6) l).getD k default).origin).toNat) 0))) Try.isAgg3 e1048 (hce1049.get (j := 0) rfl) (fun vals' hv _ => ⟨rfl, hv⟩)
    ·intro k1051 vals w1052 h1055 h1056 hW1054 hA1053
     obtain rfl : k1051 = 0 := Nat.le_antisymm h1056 h1055
     have hS1057 : Sep G78 w72 ((RowE (α := Int) own 3 vo (vecE (1 + q6) ((laidL (1 + q6) l).take (k + 1)))) :: (Blk b123 (((laidL (1 + q6) l).getD k default).cells (cellV w72 (sb v27) (so v27 + k * 10 + 3))).toArray 36) :: (SetO b11 (1 + q6) (laidL (1 + q6) l)) :: (RowE (α := Int) own 3 v45 (vecE (1 + q6) (laidL (1 + q6) l))) :: Rs) w1052 := hW1054
     have e1058 := hA1053 2 (by decide)
     have e1059 := hA1053 8 (by decide)
     refine obl rfl ?_
     exact ov_neq (k := .i64) (a := ((laidL (1 + q6) l).getD k default).seq) (b := ((vecE (1 + q6) ((laidL (1 + q6) l).take (k + 1))).getD ((((laidL (1 + q6) l).getD k default).origin).toNat) 0)) e1058 e1059 (fun vals' hv _ => ⟨rfl, hv⟩)
    intro vals w1060 hW1061 hA1062
    have hS1063 : Sep G78 w72 ((RowE (α := Int) own 3 vo (vecE (1 + q6) ((laidL (1 + q6) l).take (k + 1)))) :: (Blk b123 (((laidL (1 + q6) l).getD k default).cells (cellV w72 (sb v27) (so v27 + k * 10 + 3))).toArray 36) :: (SetO b11 (1 + q6) (laidL (1 + q6) l)) :: (RowE (α := Int) own 3 v45 (vecE (1 + q6) (laidL (1 + q6) l))) :: Rs) w1060 := hW1061
    have e1064 := hA1062 9 (by decide)
    refine st_env (kv := [(0, .int .i64 ((1 + q6 : Nat) : Int)), (5, .pointer (some ⟨b11, 0, none⟩)), (6, v27), (7, v45), (8, vo), (9, .int .i64 ((k : Nat) : Int)), (10, .pointer (some ⟨b123, 0, none⟩)), (11, .int .i64 ((o9 : Nat) : Int)), (84, .int .i64 ((o9 : Nat) : Int)), (85, .int .i64 ((1 + q6 : Nat) : Int)), (86, .bool false), (120, .bool (!decide ((((laidL (1 + q6) l).getD k default).seq) = ((vecE (1 + q6) ((laidL (1 + q6) l).take (k + 1))).getD ((((laidL (1 + q6) l).getD k default).origin).toNat) 0))))]) ⟨rfl, rfl, rfl, rfl, rfl, rfl, rfl, rfl, rfl, rfl, rfl, (by exact e1064), trivial⟩ (fun ρw1060 => ?_)
    refine st_nil ?_
    cases hc1065 : !decide ((((laidL (1 + q6) l).getD k default).seq) = ((vecE (1 + q6) ((laidL (1 + q6) l).take (k + 1))).getD ((((laidL (1 + q6) l).getD k default).origin).toNat) 0))
    ·skip
     have hc1065r := hc1065
     have hc1065 := ndec_false hc1065
     refine WP_cond_f rfl ?_
     refine WP_skip ?_
     refine WP_seq ?_
     refine WP_region0 (by kernel_rfl) (fun _ => ?_)
     refine st (ov_move (v := .pointer (some ⟨b11, 0, none⟩)) rfl ?_)
     refine st (fd36_0 rfl ?_)
     refine st (ov_loadk (k := 2) (cs := [.int .i64 (((laidL (1 + q6) l).getD k default).origin), .int .i64 (((laidL (1 + q6) l).getD k default).seq)]) Try.isAgg33 Try.sizeOf33 rfl rfl (CellsAt.sub (CellsAt.all (hS1063.blk (i := 1) rfl)) 0 (cs2 := [.int .i64 (((laidL (1 + q6) l).getD k default).origin), .int .i64 (((laidL (1 + q6) l).getD k default).seq)]) rfl) ?_)
     have hS1066 : Sep G78 w72 ((SetO b11 (1 + q6) (laidL (1 + q6) l)) :: (RowE (α := Int) own 3 vo (vecE (1 + q6) ((laidL (1 + q6) l).take (k + 1)))) :: (Blk b123 (((laidL (1 + q6) l).getD k default).cells (cellV w72 (sb v27) (so v27 + k * 10 + 3))).toArray 36) :: (RowE (α := Int) own 3 v45 (vecE (1 + q6) (laidL (1 + q6) l))) :: Rs) w1060 := hS1063.sel 4 [2, 0, 1, 3] (Nat.le_add_left _ _) rfl rfl
     obtain ⟨G1067, hA1069, hB1070, hS1071, hk1072⟩ := hS1066.lend
     obtain ⟨vv1073, m1074, R1075, hb1076, hv1077, hr1078⟩ := SetO.sh hA1069
     have hsm1079 : (vecE (1 + q6) (laidL (1 + q6) l)).length * 8 ≤ 140737488355328 := hv1077.small
     refine st (ov_call (f := 29) (vals := [.pointer (some ⟨b11, 0, none⟩), .agg #[.int .i64 (((laidL (1 + q6) l).getD k default).origin), .int .i64 (((laidL (1 + q6) l).getD k default).seq)]]) (cap := []) (show _ = (.func (.func 29) #[] #[] : Value) from rfl) rfl Try.call29 (D_Get  hA1069 hoke118.origin hoke118.seq hS1071) ?_)
     rintro _ w1082 ⟨v1080, rfl, hgo1081, hS1083⟩
     have hr1084 := hS1083.row (i := 0) rfl
     have hr1084s : (((getE (laidL (1 + q6) l) ((((laidL (1 + q6) l).getD k default).origin), (((laidL (1 + q6) l).getD k default).seq))).getD default).deps).length * 8 ≤ 140737488355328 := hr1084.2
     have hS1085 : Sep G78 w72 ((SetO b11 (1 + q6) (laidL (1 + q6) l)) :: (RowE (α := Int) own 3 v1080 (((getE (laidL (1 + q6) l) ((((laidL (1 + q6) l).getD k default).origin), (((laidL (1 + q6) l).getD k default).seq))).getD default).deps)) :: (RowE (α := Int) own 3 vo (vecE (1 + q6) ((laidL (1 + q6) l).take (k + 1)))) :: (Blk b123 (((laidL (1 + q6) l).getD k default).cells (cellV w72 (sb v27) (so v27 + k * 10 + 3))).toArray 36) :: (RowE (α := Int) own 3 v45 (vecE (1 + q6) (laidL (1 + q6) l))) :: Rs) w1082 := hk1072 _ _ hS1083
     refine st (ov_move (v := .tuple #[.agg (((getE (laidL (1 + q6) l) ((((laidL (1 + q6) l).getD k default).origin), (((laidL (1 + q6) l).getD k default).seq))).getD default).cells v1080).toArray, .bool (getE (laidL (1 + q6) l) ((((laidL (1 + q6) l).getD k default).origin), (((laidL (1 + q6) l).getD k default).seq))).isSome]) rfl ?_)
     refine st (ov_extract (vs := [.agg (((getE (laidL (1 + q6) l) ((((laidL (1 + q6) l).getD k default).origin), (((laidL (1 + q6) l).getD k default).seq))).getD default).cells v1080).toArray, .bool ((getE (laidL (1 + q6) l) ((((laidL (1 + q6) l).getD k default).origin), (((laidL (1 + q6) l).getD k default).seq))).isSome)]) (i := 0) (v := .agg (((getE (laidL (1 + q6) l) ((((laidL (1 + q6) l).getD k default).origin), (((laidL (1 + q6) l).getD k default).seq))).getD default).cells v1080).toArray) rfl rfl ?_)
     refine st (ov_extract (vs := [.agg (((getE (laidL (1 + q6) l) ((((laidL (1 + q6) l).getD k default).origin), (((laidL (1 + q6) l).getD k default).seq))).getD default).cells v1080).toArray, .bool ((getE (laidL (1 + q6) l) ((((laidL (1 + q6) l).getD k default).origin), (((laidL (1 + q6) l).getD k default).seq))).isSome)]) (i := 1) (v := .bool ((getE (laidL (1 + q6) l) ((((laidL (1 + q6) l).getD k default).origin), (((laidL (1 + q6) l).getD k default).seq))).isSome)) rfl rfl ?_)
     refine st (ov_alloc Try.zeroValue36 ?_)
     intro w1088 b1087 hn1086
     have hS1089 : Sep G78 w72 ((Blk b1087 #[.int .i64 (0), .int .i64 (0), .int .i64 (0), (.slice none 0 0), .int .i64 (0), .int .i64 (0), .int .i64 (0), .int .i64 (0), .int .i64 (0), .int .i64 (0)] 36) :: (SetO b11 (1 + q6) (laidL (1 + q6) l)) :: (RowE (α := Int) own 3 v1080 (((getE (laidL (1 + q6) l) ((((laidL (1 + q6) l).getD k default).origin), (((laidL (1 + q6) l).getD k default).seq))).getD default).deps)) :: (RowE (α := Int) own 3 vo (vecE (1 + q6) ((laidL (1 + q6) l).take (k + 1)))) :: (Blk b123 (((laidL (1 + q6) l).getD k default).cells (cellV w72 (sb v27) (so v27 + k * 10 + 3))).toArray 36) :: (RowE (α := Int) own 3 v45 (vecE (1 + q6) (laidL (1 + q6) l))) :: Rs) w1088 := hS1085.new hn1086
     refine stn (ov_store (v := .agg (((getE (laidL (1 + q6) l) ((((laidL (1 + q6) l).getD k default).origin), (((laidL (1 + q6) l).getD k default).seq))).getD default).cells v1080).toArray) (c' := (((getE (laidL (1 + q6) l) ((((laidL (1 + q6) l).getD k default).origin), (((laidL (1 + q6) l).getD k default).seq))).getD default).cells v1080).toArray) Try.sizeOf36 rfl rfl (hS1089.blk (i := 0) rfl) (all1 ⟨rfl, rfl, rfl, hr1084.1.one, rfl, rfl, rfl, rfl, rfl, rfl, trivial⟩) (Nat.le_of_ble_eq_true rfl) rfl ?_)
     intro w1090 hp1091
     have hS1092 : Sep G78 w72 ((Blk b1087 (((getE (laidL (1 + q6) l) ((((laidL (1 + q6) l).getD k default).origin), (((laidL (1 + q6) l).getD k default).seq))).getD default).cells v1080).toArray 36) :: (SetO b11 (1 + q6) (laidL (1 + q6) l)) :: (RowE (α := Int) own 3 v1080 (((getE (laidL (1 + q6) l) ((((laidL (1 + q6) l).getD k default).origin), (((laidL (1 + q6) l).getD k default).seq))).getD default).deps)) :: (RowE (α := Int) own 3 vo (vecE (1 + q6) ((laidL (1 + q6) l).take (k + 1)))) :: (Blk b123 (((laidL (1 + q6) l).getD k default).cells (cellV w72 (sb v27) (so v27 + k * 10 + 3))).toArray 36) :: (RowE (α := Int) own 3 v45 (vecE (1 + q6) (laidL (1 + q6) l))) :: Rs) w1090 := hS1089.put (i := 0) rfl hp1091
     refine st (ov_assign (v := .bool ((getE (laidL (1 + q6) l) ((((laidL (1 + q6) l).getD k default).origin), (((laidL (1 + q6) l).getD k default).seq))).isSome)) rfl ?_)
     refine st_nil ?_
     refine WP_seq ?_
     refine WP_region (by kernel_rfl) ?_
     refine st (ov_move (v := .bool ((getE (laidL (1 + q6) l) ((((laidL (1 + q6) l).getD k default).origin), (((laidL (1 + q6) l).getD k default).seq))).isSome)) rfl ?_)
     refine st (ov_not (a := (getE (laidL (1 + q6) l) ((((laidL (1 + q6) l).getD k default).origin), (((laidL (1 + q6) l).getD k default).seq))).isSome) rfl ?_)
     have hkn1093 : (!((getE (laidL (1 + q6) l) ((((laidL (1 + q6) l).getD k default).origin), (((laidL (1 + q6) l).getD k default).seq))).isSome)) = false := by rw [hG9.get_at (by omega)]; rfl
     rw [hkn1093]
     refine st (ov_move (v := .bool false) rfl ?_)
     refine sty rfl rfl (ov_loadk (k := 10) Try.isAgg36 Try.sizeOf36 rfl rfl (CellsAt.all (hS1092.blk (i := 0) rfl)) ?_)
     refine sty rfl rfl (ov_loadk (k := 10) Try.isAgg36 Try.sizeOf36 rfl rfl (CellsAt.all (hS1092.blk (i := 4) rfl)) ?_)
     have hS1094 : Sep G78 w72 ((RowE (α := Int) own 3 v1080 (((getE (laidL (1 + q6) l) ((((laidL (1 + q6) l).getD k default).origin), (((laidL (1 + q6) l).getD k default).seq))).getD default).deps)) :: (Blk b1087 (((getE (laidL (1 + q6) l) ((((laidL (1 + q6) l).getD k default).origin), (((laidL (1 + q6) l).getD k default).seq))).getD default).cells v1080).toArray 36) :: (SetO b11 (1 + q6) (laidL (1 + q6) l)) :: (RowE (α := Int) own 3 vo (vecE (1 + q6) ((laidL (1 + q6) l).take (k + 1)))) :: (Blk b123 (((laidL (1 + q6) l).getD k default).cells (cellV w72 (sb v27) (so v27 + k * 10 + 3))).toArray 36) :: (RowE (α := Int) own 3 v45 (vecE (1 + q6) (laidL (1 + q6) l))) :: Rs) w1090 := hS1092.sel 6 [2, 0, 1, 3, 4, 5] (Nat.le_add_left _ _) rfl rfl
     obtain ⟨G1095, hA1097, hB1098, hS1099, hk1100⟩ := hS1094.lend
     have hrd1101 := RowE.rd hA1097
     have hrd1101s : (((getE (laidL (1 + q6) l) ((((laidL (1 + q6) l).getD k default).origin), (((laidL (1 + q6) l).getD k default).seq))).getD default).deps).length * 8 ≤ 140737488355328 := hrd1101.small
     refine sty rfl rfl (ov_call (f := 30) (vals := [.agg (((getE (laidL (1 + q6) l) ((((laidL (1 + q6) l).getD k default).origin), (((laidL (1 + q6) l).getD k default).seq))).getD default).cells v1080).toArray, .agg (((laidL (1 + q6) l).getD k default).cells (cellV w72 (sb v27) (so v27 + k * 10 + 3))).toArray]) (cap := []) (show _ = (.func (.func 30) #[] #[] : Value) from rfl) rfl Try.call30 (D_sameEvent (a := ((getE (laidL (1 + q6) l) ((((laidL (1 + q6) l).getD k default).origin), (((laidL (1 + q6) l).getD k default).seq))).getD default)) (b := ((laidL (1 + q6) l).getD k default)) hrd1101 hgo1081 (RdS.base hde118_0 hB1098) hoke118 hS1099) ?_)
     rintro _ w1102 ⟨rfl, hS1103⟩
     have hS1104 : Sep G78 w72 ((RowE (α := Int) own 3 v1080 (((getE (laidL (1 + q6) l) ((((laidL (1 + q6) l).getD k default).origin), (((laidL (1 + q6) l).getD k default).seq))).getD default).deps)) :: (Blk b1087 (((getE (laidL (1 + q6) l) ((((laidL (1 + q6) l).getD k default).origin), (((laidL (1 + q6) l).getD k default).seq))).getD default).cells v1080).toArray 36) :: (SetO b11 (1 + q6) (laidL (1 + q6) l)) :: (RowE (α := Int) own 3 vo (vecE (1 + q6) ((laidL (1 + q6) l).take (k + 1)))) :: (Blk b123 (((laidL (1 + q6) l).getD k default).cells (cellV w72 (sb v27) (so v27 + k * 10 + 3))).toArray 36) :: (RowE (α := Int) own 3 v45 (vecE (1 + q6) (laidL (1 + q6) l))) :: Rs) w1102 := hk1100 _ _ hS1103
     have hkn1105 : (decide (((getE (laidL (1 + q6) l) ((((laidL (1 + q6) l).getD k default).origin), (((laidL (1 + q6) l).getD k default).seq))).getD default) = ((laidL (1 + q6) l).getD k default))) = true := by rw [hG9.get_at (by omega)]; simp
     rw [hkn1105]
     refine sty rfl rfl (ov_not (a := true) rfl ?_)
     refine st (ov_pick_f (v := .bool false) rfl rfl ?_)
     refine st_nil ?_
     refine WP_cond_f rfl ?_
     refine WP_skip ?_
     refine WP_region0 (by kernel_rfl) (fun _ => ?_)
     refine st (ov_move (v := .int .i64 ((k : Nat) : Int)) rfl ?_)
     have hr1106 : InR ((k + 1 : Nat) : Int) := by first | omega | (simp only [lens]; omega)
     refine st (ov_add (r := ((k + 1 : Nat) : Int)) (k := .i64) (a := ((k : Nat) : Int)) (b := 1) rfl rfl (by rw [show (((k : Nat) : Int) + 1 : Int) = ((k + 1 : Nat) : Int) by first | omega | (simp only [lens]; omega)]; exact wrap_in hr1106) ?_)
     refine st (ov_assign (v := .int .i64 ((k + 1 : Nat) : Int)) rfl ?_)
     refine st_nil ?_
     have hS1107 : Sep G78 w72 ((SetO b11 (1 + q6) (laidL (1 + q6) l)) :: (RowE (α := Int) own 3 vo (vecE (1 + q6) ((laidL (1 + q6) l).take (k + 1)))) :: (RowE (α := Int) own 3 v45 (vecE (1 + q6) (laidL (1 + q6) l))) :: Rs) w1102 := hS1104.sel 6 [2, 3, 5] (Nat.le_add_left _ _) rfl rfl
     have hL1108 : (vecE (1 + q6) ((laidL (1 + q6) l).take (k + 1))) = vecE (1 + q6) ((laidL (1 + q6) l).take (k + 1)) := rfl
     rw [← hL1108] at hS1107
     exact ⟨_, by omega, k + 1, vo, _, rfl, setAll_self ⟨rfl, rfl, rfl, rfl, rfl, rfl, trivial⟩, by omega, hS1107⟩
    ·skip
     have hc1065r := hc1065
     have hc1065 := ndec_true hc1065
     exact absurd hsq9 hc1065
   ·skip
    have hc699r := hc699
    have hc699 := of_decide_eq_true hc699
    refine WP_cond_t rfl ?_
    refine WP_skip ?_
    refine WP_seq ?_
    refine WP_block ?_
    refine WP_seq ?_
    refine WP_draw4 (WF [fun vals wq => Sep G78 w72 ((Blk b123 (((laidL (1 + q6) l).getD k default).cells (cellV w72 (sb v27) (so v27 + k * 10 + 3))).toArray 36) :: (SetO b11 (1 + q6) (laidL (1 + q6) l)) :: (RowE (α := Int) own 3 vo (vecE (1 + q6) ((laidL (1 + q6) l).take k))) :: (RowE (α := Int) own 3 v45 (vecE (1 + q6) (laidL (1 + q6) l))) :: Rs) wq]) (AF [Vl 0 (.pointer (some ⟨b123, 3, none⟩)), Vl 1 ((cellV w72 (sb v27) (so v27 + k * 10 + 3))), Vl 2 (.int .i64 ((o9 : Nat) : Int)), Vl 3 (.pointer (some ⟨sb (cellV w72 (sb v27) (so v27 + k * 10 + 3)), so (cellV w72 (sb v27) (so v27 + k * 10 + 3)) + o9 * 1, none⟩)), Vl 4 (.int .i64 (((((laidL (1 + q6) l).getD k default).deps).getD o9 0))), Vl 5 (vo), Vl 6 (.int .i64 ((o9 : Nat) : Int)), Vl 7 (.pointer (some ⟨sb vo, so vo + o9 * 1, none⟩)), Vl 8 (.int .i64 (((vecE (1 + q6) ((laidL (1 + q6) l).take k)).getD o9 0))), Vl 9 (.bool (decide (((vecE (1 + q6) ((laidL (1 + q6) l).take k)).getD o9 0) < ((((laidL (1 + q6) l).getD k default).deps).getD o9 0))))]) [[], [0], [], [0, 1, 2], [0, 1, 2, 3], [], [], [5, 6], [5, 6, 7], [0, 1, 2, 3, 4, 5, 6, 7, 8]] [] [(0, 0), (0, 0), (0, 0), (0, 0), (0, 0), (0, 0), (0, 0), (0, 0), (0, 0), (0, 0)] (by kernel_rfl) (by kernel_rfl) (by kernel_rfl) rfl (by kernel_rfl) (by kernel_rfl) (fun _ h1 h2 h3 h4 _ => hS698.same h1 h2 h3 h4) ?_ (AF_loc ⟨dA, dA, dA, dA, dA, dA, dA, dA, dA, dA, trivial⟩) ⟨?_, ?_, ?_, ?_, ?_, ?_, ?_, ?_, ?_, ?_, trivial⟩ ?_
    ·intro k vals vals' w hv h
     match k, h with
     | 0, h => exact h
     | _ + 1, _ => trivial
    ·intro k1191 vals w1192 h1195 h1196 hW1194 hA1193
     refine obl rfl ?_
     exact fd36_2 rfl (fun vals' hv _ => ⟨rfl, hv⟩)
    ·intro k1197 vals w1198 h1201 h1202 hW1200 hA1199
     obtain rfl : k1197 = 0 := Nat.le_antisymm h1202 h1201
     have hS1203 : Sep G78 w72 ((Blk b123 (((laidL (1 + q6) l).getD k default).cells (cellV w72 (sb v27) (so v27 + k * 10 + 3))).toArray 36) :: (SetO b11 (1 + q6) (laidL (1 + q6) l)) :: (RowE (α := Int) own 3 vo (vecE (1 + q6) ((laidL (1 + q6) l).take k))) :: (RowE (α := Int) own 3 v45 (vecE (1 + q6) (laidL (1 + q6) l))) :: Rs) w1198 := hW1200
     have e1204 := hA1199 0 (by decide)
     refine obl rfl ?_
     exact ov_load1 (v := (cellV w72 (sb v27) (so v27 + k * 10 + 3))) Try.isAgg34 e1204 (blk_cellL (hS1203.blk (i := 0) rfl) rfl) (fun vals' hv _ => ⟨rfl, hv⟩)
    ·intro k1205 vals w1206 h1209 h1210 hW1208 hA1207
     refine obl rfl ?_
     exact ov_move (v := .int .i64 ((o9 : Nat) : Int)) rfl (fun vals' hv _ => ⟨rfl, hv⟩)
    ·intro k1211 vals w1212 h1215 h1216 hW1214 hA1213
     obtain rfl : k1211 = 0 := Nat.le_antisymm h1216 h1215
     have hS1217 : Sep G78 w72 ((Blk b123 (((laidL (1 + q6) l).getD k default).cells (cellV w72 (sb v27) (so v27 + k * 10 + 3))).toArray 36) :: (SetO b11 (1 + q6) (laidL (1 + q6) l)) :: (RowE (α := Int) own 3 vo (vecE (1 + q6) ((laidL (1 + q6) l).take k))) :: (RowE (α := Int) own 3 v45 (vecE (1 + q6) (laidL (1 + q6) l))) :: Rs) w1212 := hW1214
     have e1218 := hA1213 1 (by decide)
     have e1219 := hA1213 2 (by decide)
     refine obl rfl ?_
     have hi1220 : o9 < (((laidL (1 + q6) l).getD k default).deps).length := (by first | omega | (simp only [lens]; omega))
     exact ov_indexAddrN (k := 1) (i := o9) Try.underlying34 Try.sizeOf3 e1218 hde118_0.sl e1219 hi1220 (fun vals' hv _ => ⟨rfl, hv⟩)
    ·intro k1221 vals w1222 h1225 h1226 hW1224 hA1223
     obtain rfl : k1221 = 0 := Nat.le_antisymm h1226 h1225
     have hS1227 : Sep G78 w72 ((Blk b123 (((laidL (1 + q6) l).getD k default).cells (cellV w72 (sb v27) (so v27 + k * 10 + 3))).toArray 36) :: (SetO b11 (1 + q6) (laidL (1 + q6) l)) :: (RowE (α := Int) own 3 vo (vecE (1 + q6) ((laidL (1 + q6) l).take k))) :: (RowE (α := Int) own 3 v45 (vecE (1 + q6) (laidL (1 + q6) l))) :: Rs) w1222 := hW1224
     have e1228 := hA1223 3 (by decide)
     refine obl rfl ?_
     have hi1230 : o9 < (((laidL (1 + q6) l).getD k default).deps).length := (by first | omega | (simp only [lens]; omega))
     obtain ⟨hce1229, hxe1229⟩ := hde118_0.int hi1230
     rw [← getD_at 0 hi1230] at hce1229 hxe1229
     have hcw1231 := hS1227.cells hce1229 (hde118_0.foot (ne_of_lt hi1230))
     exact ov_load1 (v := .int .i64 (((((laidL (1 + q6) l).getD k default).deps).getD o9 0))) Try.isAgg3 e1228 (hcw1231.get (j := 0) rfl) (fun vals' hv _ => ⟨rfl, hv⟩)
    ·intro k1232 vals w1233 h1236 h1237 hW1235 hA1234
     refine obl rfl ?_
     exact ov_move (v := vo) rfl (fun vals' hv _ => ⟨rfl, hv⟩)
    ·intro k1238 vals w1239 h1242 h1243 hW1241 hA1240
     refine obl rfl ?_
     exact ov_move (v := .int .i64 ((o9 : Nat) : Int)) rfl (fun vals' hv _ => ⟨rfl, hv⟩)
    ·intro k1244 vals w1245 h1248 h1249 hW1247 hA1246
     obtain rfl : k1244 = 0 := Nat.le_antisymm h1249 h1248
     have hS1250 : Sep G78 w72 ((Blk b123 (((laidL (1 + q6) l).getD k default).cells (cellV w72 (sb v27) (so v27 + k * 10 + 3))).toArray 36) :: (SetO b11 (1 + q6) (laidL (1 + q6) l)) :: (RowE (α := Int) own 3 vo (vecE (1 + q6) ((laidL (1 + q6) l).take k))) :: (RowE (α := Int) own 3 v45 (vecE (1 + q6) (laidL (1 + q6) l))) :: Rs) w1245 := hW1247
     have e1251 := hA1246 5 (by decide)
     have e1252 := hA1246 6 (by decide)
     refine obl rfl ?_
     have hi1253 : o9 < (vecE (1 + q6) ((laidL (1 + q6) l).take k)).length := (by first | omega | (simp only [lens]; omega))
     exact ov_indexAddrN (k := 1) (i := o9) Try.underlying34 Try.sizeOf3 e1251 hr90.1 e1252 hi1253 (fun vals' hv _ => ⟨rfl, hv⟩)
    ·intro k1254 vals w1255 h1258 h1259 hW1257 hA1256
     obtain rfl : k1254 = 0 := Nat.le_antisymm h1259 h1258
     have hS1260 : Sep G78 w72 ((Blk b123 (((laidL (1 + q6) l).getD k default).cells (cellV w72 (sb v27) (so v27 + k * 10 + 3))).toArray 36) :: (SetO b11 (1 + q6) (laidL (1 + q6) l)) :: (RowE (α := Int) own 3 vo (vecE (1 + q6) ((laidL (1 + q6) l).take k))) :: (RowE (α := Int) own 3 v45 (vecE (1 + q6) (laidL (1 + q6) l))) :: Rs) w1255 := hW1257
     have e1261 := hA1256 7 (by decide)
     refine obl rfl ?_
     have hi1263 : o9 < (vecE (1 + q6) ((laidL (1 + q6) l).take k)).length := (by first | omega | (simp only [lens]; omega))
     obtain ⟨_, _, hce1262, rfl, hxe1262⟩ := hS1260.rowAt (i := 2) (j := o9) rfl hi1263
     rw [← getD_at 0 hi1263] at hce1262 hxe1262
     exact ov_load1 (v := .int .i64 (((vecE (1 + q6) ((laidL (1 + q6) l).take k)).getD o9 0))) Try.isAgg3 e1261 (hce1262.get (j := 0) rfl) (fun vals' hv _ => ⟨rfl, hv⟩)
    ·intro k1264 vals w1265 h1268 h1269 hW1267 hA1266
     obtain rfl : k1264 = 0 := Nat.le_antisymm h1269 h1268
     have hS1270 : Sep G78 w72 ((Blk b123 (((laidL (1 + q6) l).getD k default).cells (cellV w72 (sb v27) (so v27 + k * 10 + 3))).toArray 36) :: (SetO b11 (1 + q6) (laidL (1 + q6) l)) :: (RowE (α := Int) own 3 vo (vecE (1 + q6) ((laidL (1 + q6) l).take k))) :: (RowE (α := Int) own 3 v45 (vecE (1 + q6) (laidL (1 + q6) l))) :: Rs) w1265 := hW1267
     have e1271 := hA1266 4 (by decide)
     have e1272 := hA1266 8 (by decide)
     refine obl rfl ?_
     exact ov_gtr (k := .i64) (a := ((((laidL (1 + q6) l).getD k default).deps).getD o9 0)) (b := ((vecE (1 + q6) ((laidL (1 + q6) l).take k)).getD o9 0)) e1271 e1272 (fun vals' hv _ => ⟨rfl, hv⟩)
    intro vals w1273 hW1274 hA1275
    have hS1276 : Sep G78 w72 ((Blk b123 (((laidL (1 + q6) l).getD k default).cells (cellV w72 (sb v27) (so v27 + k * 10 + 3))).toArray 36) :: (SetO b11 (1 + q6) (laidL (1 + q6) l)) :: (RowE (α := Int) own 3 vo (vecE (1 + q6) ((laidL (1 + q6) l).take k))) :: (RowE (α := Int) own 3 v45 (vecE (1 + q6) (laidL (1 + q6) l))) :: Rs) w1273 := hW1274
    have e1277 := hA1275 9 (by decide)
    refine st_env (kv := [(0, .int .i64 ((1 + q6 : Nat) : Int)), (5, .pointer (some ⟨b11, 0, none⟩)), (6, v27), (7, v45), (8, vo), (9, .int .i64 ((k : Nat) : Int)), (10, .pointer (some ⟨b123, 0, none⟩)), (11, .int .i64 ((o9 : Nat) : Int)), (84, .int .i64 ((o9 : Nat) : Int)), (85, .int .i64 ((1 + q6 : Nat) : Int)), (86, .bool true), (98, .bool (decide (((vecE (1 + q6) ((laidL (1 + q6) l).take k)).getD o9 0) < ((((laidL (1 + q6) l).getD k default).deps).getD o9 0))))]) ⟨rfl, rfl, rfl, rfl, rfl, rfl, rfl, rfl, rfl, rfl, rfl, (by exact e1277), trivial⟩ (fun ρw1273 => ?_)
    refine st_nil ?_
    cases hc1278 : decide (((vecE (1 + q6) ((laidL (1 + q6) l).take k)).getD o9 0) < ((((laidL (1 + q6) l).getD k default).deps).getD o9 0))
    ·skip
     have hc1278r := hc1278
     have hc1278 := of_decide_eq_false hc1278
     refine WP_cond_f rfl ?_
     refine WP_skip ?_
     refine WP_region0 (by kernel_rfl) (fun _ => ?_)
     refine st (ov_move (v := .int .i64 ((o9 : Nat) : Int)) rfl ?_)
     have hr1279 : InR ((o9 + 1 : Nat) : Int) := by first | omega | (simp only [lens]; omega)
     refine st (ov_add (r := ((o9 + 1 : Nat) : Int)) (k := .i64) (a := ((o9 : Nat) : Int)) (b := 1) rfl rfl (by rw [show (((o9 : Nat) : Int) + 1 : Int) = ((o9 + 1 : Nat) : Int) by first | omega | (simp only [lens]; omega)]; exact wrap_in hr1279) ?_)
     refine st (ov_assign (v := .int .i64 ((o9 + 1 : Nat) : Int)) rfl ?_)
     refine st_nil ?_
     exact ⟨_, by omega, o9 + 1, _, rfl, setAll_self ⟨rfl, rfl, rfl, rfl, rfl, rfl, rfl, rfl, trivial⟩, by omega, hS1276⟩
    ·skip
     have hc1278r := hc1278
     have hc1278 := of_decide_eq_true hc1278
     exfalso
     have h9 := hG9.dep_at (i := k) (by omega) (o := o9) (by omega)
     rw [← vecE_at (n := (1 + q6)) (by omega)] at h9
     omega
 ·skip
  have hc5r := hc5
  refine WP_cond_t rfl ?_
  refine WP_seq ?_
  refine WP_region0 (by kernel_rfl) (fun _ => ?_)
  refine st (ov_call (f := 16) (vals := []) (cap := []) (show _ = (.func (.func 16) #[] #[] : Value) from rfl) rfl Try.call16 (D_known9  hS4) ?_)
  rintro _ w1280 ⟨rfl, hS1281⟩
  refine st (ov_assign (v := .bool true) rfl ?_)
  refine st_nil ?_
  refine WP_ret ?_
  refine fin1 Try.results6 (show _ = (.bool true : Value) from rfl) ?_
  refine ⟨rfl, hS1281⟩

end Go.Proofs.Ytgjgmojjeehieaa
