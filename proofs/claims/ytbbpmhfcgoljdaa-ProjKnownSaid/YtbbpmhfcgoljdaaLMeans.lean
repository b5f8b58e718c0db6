/- Steps of the proofs of this seat: part LMeans. -/
import Derived.Test.YtbbpmhfcgoljdaaL0
set_option linter.unusedSimpArgs false
set_option linter.unusedVariables false
namespace Go.Proofs.Ytbbpmhfcgoljdaa
open Go.Proofs Go.RowKit

def nv (p : Prj) (l : List Ent) (g : List Int) (G : Int) (i : Nat) : Int × Int := stF p (argsP p G ((pairs l g).take i))
theorem args_step {p : Prj} {l : List Ent} {g : List Int} {G : Int} {i : Nat} (hk : i < l.length) : argsP p G ((pairs l g).take (i + 1)) = argsP p G ((pairs l g).take i) ++ (if cntD p (l.getD i default) G (regI g i) = true then [(l.getD i default).ev.arg] else []) := by
  rw [getD_at _ hk, pairs_take hk]
  unfold argsP cntD
  rw [List.filter_append, List.map_append]
  by_cases hc : cntB p G (l[i], regI g i) = true <;> simp [hc]
theorem nv_no {p : Prj} {l : List Ent} {g : List Int} {G : Int} {i : Nat} (hk : i < l.length) (h : cntD p (l.getD i default) G (regI g i) = false) : nv p l g G (i + 1) = nv p l g G i := by
  unfold nv; rw [args_step hk, h]; simp
theorem nv_yes {p : Prj} {l : List Ent} {g : List Int} {G : Int} {i : Nat} (hk : i < l.length) (h : cntD p (l.getD i default) G (regI g i) = true) : nv p l g G (i + 1) = stepV p (nv p l g G i) (l.getD i default).ev.arg := by
  unfold nv; rw [args_step hk, h, if_pos rfl, stF_app]
theorem nv_zero (p : Prj) (l : List Ent) (g : List Int) (G : Int) : nv p l g G 0 = (0, 0) := rfl
theorem mean_row {p : Prj} {l : List Ent} {g : List Int} {k : Nat} (hk : k < (rowsL p l g).length) {n v : Int} {i : Nat} (hi : l.length ≤ i) (h : (n, v) = nv p l g ((rowsL p l g).getD k default).group i) : ¬ n = 0 ∧ ((rowsL p l g).getD k default).count = n ∧ ((rowsL p l g).getD k default).value = v := by
  rw [getD_at _ hk] at h ⊢
  have hm : (rowsL p l g)[k] ∈ rowsP p (pairs l g) := by rw [← rowsL_eq]; exact List.getElem_mem hk
  have hr := row_mem.1 hm
  have e : (pairs l g).take i = pairs l g := List.take_of_length_le (by rw [pairs_length]; exact hi)
  unfold nv at h
  rw [e] at h
  generalize (rowsL p l g)[k] = x at hr h
  unfold rowOf at hr
  split at hr
  · cases hr
  · rename_i h0
    have hx := Option.some.inj hr
    have h1 : n = (stF p (argsP p x.group (pairs l g))).1 := congrArg Prod.fst h
    have h2 : v = (stF p (argsP p x.group (pairs l g))).2 := congrArg Prod.snd h
    rw [stF_fst] at h1
    have h3 : 0 < (argsP p x.group (pairs l g)).length := List.length_pos_iff.2 h0
    have h4 := congrArg Row.count hx
    have h5 := congrArg Row.value hx
    simp only [] at h4 h5
    exact ⟨by omega, by rw [← h4, h1], by rw [← h5, h2]⟩
theorem rows_lt {p : Prj} {l : List Ent} {g : List Int} {k : Nat} (h0 : 0 < k) (hk : k < (rowsL p l g).length) : ((rowsL p l g).getD (k - 1) default).group < ((rowsL p l g).getD k default).group := by
  rw [getD_at _ hk, getD_at _ (show k - 1 < _ by omega)]
  have h := rows_strict p (pairs l g)
  rw [← rowsL_eq] at h
  exact List.pairwise_iff_getElem.1 h (k - 1) k (by omega) hk (by omega)
theorem rowsL_len (p : Prj) (l : List Ent) (g : List Int) : (rowsL p l g).length ≤ l.length := by
  unfold rowsL
  rw [(srtR_perm _).length_eq, List.length_map]
  exact (adds_good p l g l.length).len
def sumC : List Row → Int
  | [] => 0
  | x :: l => x.count + sumC l
theorem sumC_app : ∀ (a b : List Row), sumC (a ++ b) = sumC a + sumC b
  | [], b => by simp [sumC]
  | x :: a, b => by simp only [List.cons_append, sumC, sumC_app a b]; omega
theorem sumC_take {l : List Row} {k : Nat} (hk : k < l.length) : sumC (l.take (k + 1)) = sumC (l.take k) + (l.getD k default).count := by
  rw [List.take_succ_eq_append_getElem hk, sumC_app, getD_at _ hk]; simp [sumC]
theorem sumC_perm {a b : List Row} (h : a.Perm b) : sumC a = sumC b := by
  induction h with
  | nil => rfl
  | cons x _ ih => simp only [sumC, ih]
  | swap x y l => simp only [sumC]; omega
  | trans _ _ h1 h2 => rw [h1, h2]
theorem updM_cons {α : Type} (q : Int × α) (L : List (Int × α)) (k : Int) (x : α) : updM (q :: L) k x = if q.1 = k then (k, x) :: L else q :: updM L k x := by
  unfold updM
  rw [List.findIdx?_cons]
  by_cases h : q.1 = k
  · simp [h]
  · have : (q.1 == k) = false := by simpa using h
    simp only [this, h, if_false, Bool.false_eq_true]
    cases L.findIdx? (fun p => p.1 == k) <;> simp
theorem lookM_cons {α : Type} (q : Int × α) (L : List (Int × α)) (k : Int) : lookM (q :: L) k = if q.1 = k then some q.2 else lookM L k := by
  unfold lookM
  rw [List.find?_cons]
  by_cases h : q.1 = k
  · simp [h]
  · have : (q.1 == k) = false := by simpa using h
    simp [this, h]
theorem sum_upd (k : Int) (x : Row) : ∀ (L : List (Int × Row)), sumC ((updM L k x).map (·.2)) = sumC (L.map (·.2)) + x.count - ((lookM L k).getD (⟨0, 0, 0⟩ : Row)).count
  | [] => by simp [updM, lookM, sumC]
  | q :: L => by
    rw [updM_cons, lookM_cons]
    split
    · simp only [List.map_cons, sumC, Option.getD_some]; omega
    · simp only [List.map_cons, sumC, sum_upd k x L]; omega
def keepC (p : Prj) (l : List Ent) : Nat → Int
  | 0 => 0
  | i + 1 => keepC p l i + (if keepB p (l.getD i default) = true then 1 else 0)
theorem keepC_le (p : Prj) (l : List Ent) : ∀ i, 0 ≤ keepC p l i ∧ keepC p l i ≤ i
  | 0 => by simp [keepC]
  | i + 1 => by have := keepC_le p l i; unfold keepC; split <;> omega
theorem sum_adds {p : Prj} (hg : 1 ≤ p.pgroup ∧ p.pgroup ≤ 3) (l : List Ent) (g : List Int) : ∀ k, sumC ((addsM p l g k).map (·.2)) = keepC p l k
  | 0 => rfl
  | k + 1 => by
    have ih := sum_adds hg l g k
    rw [addsM, keepC, ← ih]
    have hs : ∃ G, grpI p (l.getD k default).ev (regI g k) = some G := by
      unfold grpI
      split
      · exact ⟨_, rfl⟩
      · split
        · exact ⟨_, rfl⟩
        · split
          · exact ⟨_, rfl⟩
          · omega
    obtain ⟨G, hG⟩ := hs
    unfold addM
    rw [hG]
    simp only []
    by_cases hk : keepB p (l.getD k default) = true
    · obtain ⟨⟨h1, h2⟩, h3⟩ := keep_iff.1 hk
      rw [if_neg (by rintro (h | h | h); rw [h1] at h; cases h; exact h h2; exact h h3), if_pos hk, sum_upd]
      simp only []
      omega
    · rw [if_pos (by
        by_cases h1 : (l.getD k default).void = true
        · exact .inl h1
        · by_cases h2 : (l.getD k default).ev.typ = p.ptyp
          · exact .inr (.inr (fun h3 => hk (keep_iff.2 ⟨⟨by simpa using h1, h2⟩, h3⟩)))
          · exact .inr (.inl h2)), if_neg hk]
      omega
theorem sum_rows {p : Prj} (hg : 1 ≤ p.pgroup ∧ p.pgroup ≤ 3) (l : List Ent) (g : List Int) : sumC (rowsL p l g) = keepC p l l.length := by
  unfold rowsL
  rw [sumC_perm (srtR_perm _), sum_adds hg]

set_option maxHeartbeats 4000000 in
theorem C_ProjMeans {w : World} {p : Prj} (op : p.Ok) {Fl : Nat → Prop} {vl : Value} {l : List Ent} (hl0 : RdS w Fl vl l) {Fg : Nat → Prop} {vg : Value} {g : List Int} (hg : RdS w Fg vg g) : Ret Try.prog 3 [.agg (p.cells).toArray, vl, vg] w (fun r w' => r = .bool true ∧ Ext w w') := by
  have hgs : g.length * 8 ≤ 140737488355328 := hg.small
  have hl := hl0.bnd
  have hls : l.length * 120 ≤ 140737488355328 := hl.small
  refine Calls_of_WP (args := [.agg (p.cells).toArray, vl, vg]) Try.func3 rfl rfl ?_
  refine WP_seq ?_
  refine WP_region0 (by kernel_rfl) (fun _ => ?_)
  refine st (ov_box (v := .agg (p.cells).toArray) rfl (fun w1 b2 hn1 => ?_))
  have hb3 : w1.heap[b2]? = some (.cells (p.cells).toArray 23) := hn1.at_
  have hs4 := hn1.size; have hs4e := hn1.eq
  refine st (ov_assign (v := .bool false) rfl ?_)
  refine st_nil ?_
  refine WP_seq ?_
  refine WP_seq ?_
  refine WP_region (by kernel_rfl) ?_
  refine st (ov_move (v := vl) rfl ?_)
  have h8 := hl.ext hn1.ext
  refine st (ov_call (f := 9) (vals := [vl]) (cap := []) (show _ = (.func (.func 9) #[] #[] : Value) from rfl) rfl Try.call9 (C_Long h8) ?_)
  rintro _ w2 ⟨bb5, rfl, hlong7, hx6⟩
  have hx6s := hx6.size
  refine st (ov_move (v := .bool bb5) rfl ?_)
  refine stc (V := vg) rfl rfl (fun hb9 => ?_) ?_
  · have hl10 : bb5 = false := hb9
    exact ov_move (v := vg) rfl ⟨rfl, rfl⟩
  refine stc (V := .int .i64 ((g.length : Nat) : Int)) rfl rfl (fun hb11 => ?_) ?_
  · have hl12 : bb5 = false := hb11
    exact ov_len (n := g.length) Try.underlying25 (show _ = (vg : Value) from (if_pos hb11)) hg.sl ⟨rfl, rfl⟩
  refine stc (V := .bool (decide (100 < ((g.length : Nat) : Int)))) rfl rfl (fun hb13 => ?_) ?_
  · have hl14 : bb5 = false := hb13
    exact ov_gtr (k := .i64) (a := ((g.length : Nat) : Int)) (b := 100) (show _ = (.int .i64 ((g.length : Nat) : Int) : Value) from (if_pos hb13)) rfl ⟨rfl, rfl⟩
  refine st (ov_pick_or (b := bb5) (b' := decide (100 < ((g.length : Nat) : Int))) rfl (fun hbp => (show _ = (.bool (decide (100 < ((g.length : Nat) : Int))) : Value) from (if_pos hbp))) ?_)
  refine st (ov_move (v := .bool (bb5 || (decide (100 < ((g.length : Nat) : Int))))) rfl ?_)
  refine stc (V := .pointer (some ⟨b2, 2, none⟩)) rfl rfl (fun hb15 => ?_) ?_
  · have hl16 : (bb5 || (decide (100 < ((g.length : Nat) : Int)))) = false := hb15
    simp only [Bool.and_eq_true, Bool.or_eq_true, Bool.and_eq_false_iff, Bool.or_eq_false_iff, decide_eq_true_eq, decide_eq_false_iff_not, Bool.not_eq_true', Bool.not_eq_false', Int.not_lt, Int.not_le] at hl16
    exact fa23_2 rfl ⟨rfl, rfl⟩
  refine stc (V := .int .i64 (p.pgroup)) rfl rfl (fun hb17 => ?_) ?_
  · have hl18 : (bb5 || (decide (100 < ((g.length : Nat) : Int)))) = false := hb17
    simp only [Bool.and_eq_true, Bool.or_eq_true, Bool.and_eq_false_iff, Bool.or_eq_false_iff, decide_eq_true_eq, decide_eq_false_iff_not, Bool.not_eq_true', Bool.not_eq_false', Int.not_lt, Int.not_le] at hl18
    have h19 := hx6.keep hb3 (fun h => h)
    exact ov_load1 (v := .int .i64 (p.pgroup)) Try.isAgg3 (show _ = (.pointer (some ⟨b2, 2, none⟩) : Value) from (if_pos hb17)) (blk_cellL h19 rfl) ⟨rfl, rfl⟩
  refine stc (V := .bool (decide (p.pgroup < 1))) rfl rfl (fun hb20 => ?_) ?_
  · have hl21 : (bb5 || (decide (100 < ((g.length : Nat) : Int)))) = false := hb20
    simp only [Bool.and_eq_true, Bool.or_eq_true, Bool.and_eq_false_iff, Bool.or_eq_false_iff, decide_eq_true_eq, decide_eq_false_iff_not, Bool.not_eq_true', Bool.not_eq_false', Int.not_lt, Int.not_le] at hl21
    exact ov_lss (k := .i64) (a := p.pgroup) (b := 1) (show _ = (.int .i64 (p.pgroup) : Value) from (if_pos hb20)) rfl ⟨rfl, rfl⟩
  refine st (ov_pick_or (b := bb5 || (decide (100 < ((g.length : Nat) : Int)))) (b' := decide (p.pgroup < 1)) rfl (fun hbp => (show _ = (.bool (decide (p.pgroup < 1)) : Value) from (if_pos hbp))) ?_)
  refine st (ov_move (v := .bool ((bb5 || (decide (100 < ((g.length : Nat) : Int)))) || (decide (p.pgroup < 1)))) rfl ?_)
  refine stc (V := .pointer (some ⟨b2, 2, none⟩)) rfl rfl (fun hb22 => ?_) ?_
  · have hl23 : ((bb5 || (decide (100 < ((g.length : Nat) : Int)))) || (decide (p.pgroup < 1))) = false := hb22
    simp only [Bool.and_eq_true, Bool.or_eq_true, Bool.and_eq_false_iff, Bool.or_eq_false_iff, decide_eq_true_eq, decide_eq_false_iff_not, Bool.not_eq_true', Bool.not_eq_false', Int.not_lt, Int.not_le] at hl23
    exact fa23_2 rfl ⟨rfl, rfl⟩
  refine stc (V := .int .i64 (p.pgroup)) rfl rfl (fun hb24 => ?_) ?_
  · have hl25 : ((bb5 || (decide (100 < ((g.length : Nat) : Int)))) || (decide (p.pgroup < 1))) = false := hb24
    simp only [Bool.and_eq_true, Bool.or_eq_true, Bool.and_eq_false_iff, Bool.or_eq_false_iff, decide_eq_true_eq, decide_eq_false_iff_not, Bool.not_eq_true', Bool.not_eq_false', Int.not_lt, Int.not_le] at hl25
    have h26 := hx6.keep hb3 (fun h => h)
    exact ov_load1 (v := .int .i64 (p.pgroup)) Try.isAgg3 (show _ = (.pointer (some ⟨b2, 2, none⟩) : Value) from (if_pos hb24)) (blk_cellL h26 rfl) ⟨rfl, rfl⟩
  refine stc (V := .bool (decide (3 < p.pgroup))) rfl rfl (fun hb27 => ?_) ?_
  · have hl28 : ((bb5 || (decide (100 < ((g.length : Nat) : Int)))) || (decide (p.pgroup < 1))) = false := hb27
    simp only [Bool.and_eq_true, Bool.or_eq_true, Bool.and_eq_false_iff, Bool.or_eq_false_iff, decide_eq_true_eq, decide_eq_false_iff_not, Bool.not_eq_true', Bool.not_eq_false', Int.not_lt, Int.not_le] at hl28
    exact ov_gtr (k := .i64) (a := p.pgroup) (b := 3) (show _ = (.int .i64 (p.pgroup) : Value) from (if_pos hb27)) rfl ⟨rfl, rfl⟩
  refine st (ov_pick_or (b := (bb5 || (decide (100 < ((g.length : Nat) : Int)))) || (decide (p.pgroup < 1))) (b' := decide (3 < p.pgroup)) rfl (fun hbp => (show _ = (.bool (decide (3 < p.pgroup)) : Value) from (if_pos hbp))) ?_)
  refine st (ov_move (v := .bool (((bb5 || (decide (100 < ((g.length : Nat) : Int)))) || (decide (p.pgroup < 1))) || (decide (3 < p.pgroup)))) rfl ?_)
  refine stc (V := .pointer (some ⟨b2, 4, none⟩)) rfl rfl (fun hb29 => ?_) ?_
  · have hl30 : (((bb5 || (decide (100 < ((g.length : Nat) : Int)))) || (decide (p.pgroup < 1))) || (decide (3 < p.pgroup))) = false := hb29
    simp only [Bool.and_eq_true, Bool.or_eq_true, Bool.and_eq_false_iff, Bool.or_eq_false_iff, decide_eq_true_eq, decide_eq_false_iff_not, Bool.not_eq_true', Bool.not_eq_false', Int.not_lt, Int.not_le] at hl30
    exact fa23_4 rfl ⟨rfl, rfl⟩
  refine stc (V := .int .i64 (p.pmake)) rfl rfl (fun hb31 => ?_) ?_
  · have hl32 : (((bb5 || (decide (100 < ((g.length : Nat) : Int)))) || (decide (p.pgroup < 1))) || (decide (3 < p.pgroup))) = false := hb31
    simp only [Bool.and_eq_true, Bool.or_eq_true, Bool.and_eq_false_iff, Bool.or_eq_false_iff, decide_eq_true_eq, decide_eq_false_iff_not, Bool.not_eq_true', Bool.not_eq_false', Int.not_lt, Int.not_le] at hl32
    have h33 := hx6.keep hb3 (fun h => h)
    exact ov_load1 (v := .int .i64 (p.pmake)) Try.isAgg3 (show _ = (.pointer (some ⟨b2, 4, none⟩) : Value) from (if_pos hb31)) (blk_cellL h33 rfl) ⟨rfl, rfl⟩
  refine stc (V := .bool (decide (p.pmake < 1))) rfl rfl (fun hb34 => ?_) ?_
  · have hl35 : (((bb5 || (decide (100 < ((g.length : Nat) : Int)))) || (decide (p.pgroup < 1))) || (decide (3 < p.pgroup))) = false := hb34
    simp only [Bool.and_eq_true, Bool.or_eq_true, Bool.and_eq_false_iff, Bool.or_eq_false_iff, decide_eq_true_eq, decide_eq_false_iff_not, Bool.not_eq_true', Bool.not_eq_false', Int.not_lt, Int.not_le] at hl35
    exact ov_lss (k := .i64) (a := p.pmake) (b := 1) (show _ = (.int .i64 (p.pmake) : Value) from (if_pos hb34)) rfl ⟨rfl, rfl⟩
  refine st (ov_pick_or (b := ((bb5 || (decide (100 < ((g.length : Nat) : Int)))) || (decide (p.pgroup < 1))) || (decide (3 < p.pgroup))) (b' := decide (p.pmake < 1)) rfl (fun hbp => (show _ = (.bool (decide (p.pmake < 1)) : Value) from (if_pos hbp))) ?_)
  refine st (ov_move (v := .bool ((((bb5 || (decide (100 < ((g.length : Nat) : Int)))) || (decide (p.pgroup < 1))) || (decide (3 < p.pgroup))) || (decide (p.pmake < 1)))) rfl ?_)
  refine stc (V := .pointer (some ⟨b2, 4, none⟩)) rfl rfl (fun hb36 => ?_) ?_
  · have hl37 : ((((bb5 || (decide (100 < ((g.length : Nat) : Int)))) || (decide (p.pgroup < 1))) || (decide (3 < p.pgroup))) || (decide (p.pmake < 1))) = false := hb36
    simp only [Bool.and_eq_true, Bool.or_eq_true, Bool.and_eq_false_iff, Bool.or_eq_false_iff, decide_eq_true_eq, decide_eq_false_iff_not, Bool.not_eq_true', Bool.not_eq_false', Int.not_lt, Int.not_le] at hl37
    exact fa23_4 rfl ⟨rfl, rfl⟩
  refine stc (V := .int .i64 (p.pmake)) rfl rfl (fun hb38 => ?_) ?_
  · have hl39 : ((((bb5 || (decide (100 < ((g.length : Nat) : Int)))) || (decide (p.pgroup < 1))) || (decide (3 < p.pgroup))) || (decide (p.pmake < 1))) = false := hb38
    simp only [Bool.and_eq_true, Bool.or_eq_true, Bool.and_eq_false_iff, Bool.or_eq_false_iff, decide_eq_true_eq, decide_eq_false_iff_not, Bool.not_eq_true', Bool.not_eq_false', Int.not_lt, Int.not_le] at hl39
    have h40 := hx6.keep hb3 (fun h => h)
    exact ov_load1 (v := .int .i64 (p.pmake)) Try.isAgg3 (show _ = (.pointer (some ⟨b2, 4, none⟩) : Value) from (if_pos hb38)) (blk_cellL h40 rfl) ⟨rfl, rfl⟩
  refine stc (V := .bool (decide (5 < p.pmake))) rfl rfl (fun hb41 => ?_) ?_
  · have hl42 : ((((bb5 || (decide (100 < ((g.length : Nat) : Int)))) || (decide (p.pgroup < 1))) || (decide (3 < p.pgroup))) || (decide (p.pmake < 1))) = false := hb41
    simp only [Bool.and_eq_true, Bool.or_eq_true, Bool.and_eq_false_iff, Bool.or_eq_false_iff, decide_eq_true_eq, decide_eq_false_iff_not, Bool.not_eq_true', Bool.not_eq_false', Int.not_lt, Int.not_le] at hl42
    exact ov_gtr (k := .i64) (a := p.pmake) (b := 5) (show _ = (.int .i64 (p.pmake) : Value) from (if_pos hb41)) rfl ⟨rfl, rfl⟩
  refine st (ov_pick_or (b := (((bb5 || (decide (100 < ((g.length : Nat) : Int)))) || (decide (p.pgroup < 1))) || (decide (3 < p.pgroup))) || (decide (p.pmake < 1))) (b' := decide (5 < p.pmake)) rfl (fun hbp => (show _ = (.bool (decide (5 < p.pmake)) : Value) from (if_pos hbp))) ?_)
  refine st_nil ?_
  cases hc43 : ((((bb5 || (decide (100 < ((g.length : Nat) : Int)))) || (decide (p.pgroup < 1))) || (decide (3 < p.pgroup))) || (decide (p.pmake < 1))) || (decide (5 < p.pmake))
  · skip
    simp only [Bool.and_eq_true, Bool.or_eq_true, Bool.and_eq_false_iff, Bool.or_eq_false_iff, decide_eq_true_eq, decide_eq_false_iff_not, Bool.not_eq_true', Bool.not_eq_false', Int.not_lt, Int.not_le] at hc43
    have hl300 := hlong7 hc43.1.1.1.1.1
    refine WP_cond_f rfl ?_
    refine WP_skip ?_
    refine WP_seq ?_
    refine WP_region0 (by kernel_rfl) (fun _ => ?_)
    have h44 := hx6.keep hb3 (fun h => h)
    refine st (ov_loadk (k := 5) Try.isAgg23 Try.sizeOf23 rfl rfl (CellsAt.all h44) ?_)
    refine st (ov_move (v := vl) rfl ?_)
    refine st (ov_move (v := vg) rfl ?_)
    have h45 := h8.ext hx6
    have h46 := hg.ext (Chg.trans hn1.ext hx6)
    refine st (ov_call (f := 11) (vals := [.agg (p.cells).toArray, vl, vg]) (cap := []) (show _ = (.func (.func 11) #[] #[] : Value) from rfl) rfl Try.call11 (C_all op h45 h46 (by omega)) ?_)
    rintro v49 w3 ⟨hx47, hf48⟩
    have hx47s := hx47.size
    have hf48r := hf48.rd
    refine st (ov_assign (v := v49) rfl ?_)
    refine st_nil ?_
    refine WP_seq ?_
    refine WP_region0 (by kernel_rfl) (fun _ => ?_)
    refine st (ov_assign (v := .int .i64 (0)) rfl ?_)
    refine st_nil ?_
    refine WP_seq ?_
    refine WP_seq ?_
    refine WP_region0 (by kernel_rfl) (fun _ => ?_)
    refine st (ov_assign (v := .int .i64 (0)) rfl ?_)
    refine st_nil ?_
    refine WP_block ?_
    have hRl := Nat.le_trans (rowsL_len p l g) hl300
    refine WP_loop (fun mq σ wq => ∃ (k : Nat) (tot : Int) (ρ : Env), mq = (rowsL p l g).length - k ∧ σ = setAll ρ [(1, vl), (2, vg), (3, .pointer (some ⟨b2, 0, none⟩)), (7, v49), (8, .int .i64 (tot)), (9, .int .i64 ((k : Nat) : Int))] ∧ (Ext w3 wq) ∧ (k ≤ (rowsL p l g).length) ∧ (0 ≤ tot ∧ tot ≤ 300 * (k : Int)) ∧ (tot = sumC ((rowsL p l g).take k))) ⟨0, 0, _, rfl, setAll_self ⟨rfl, rfl, rfl, rfl, rfl, rfl, trivial⟩, (Chg.refl _ _), Nat.zero_le _, by omega, rfl⟩ ?_
    rintro m50 σ51 w4 ⟨k, tot, ρ4, rfl, rfl, hxO, hkO, htb, htot⟩
    have hxOs := hxO.size
    refine WP_seq ?_
    refine WP_seq ?_
    refine WP_region0 (by kernel_rfl) (fun _ => ?_)
    refine st (ov_move (v := .int .i64 ((k : Nat) : Int)) rfl ?_)
    refine st (ov_move (v := v49) rfl ?_)
    refine st (ov_len (n := (rowsL p l g).length) Try.underlying28 rfl hf48r.sl ?_)
    refine st (ov_lss (k := .i64) (a := ((k : Nat) : Int)) (b := (((rowsL p l g).length : Nat) : Int)) rfl rfl ?_)
    refine st_nil ?_
    cases hc52 : decide (((k : Nat) : Int) < (((rowsL p l g).length : Nat) : Int))
    · skip
      have hc52 := of_decide_eq_false hc52
      refine WP_cond_f rfl ?_
      refine WP_exit ?_
      refine blk_exit ?_
      refine WP_seq ?_
      refine WP_region0 (by kernel_rfl) (fun _ => ?_)
      refine st (ov_assign (v := .int .i64 (0)) rfl ?_)
      refine st_nil ?_
      refine WP_seq ?_
      refine WP_seq ?_
      refine WP_region0 (by kernel_rfl) (fun _ => ?_)
      refine st (ov_assign (v := .int .i64 (0)) rfl ?_)
      refine st_nil ?_
      refine WP_block ?_
      refine WP_loop (fun mq σ wq => ∃ (j : Nat) (c : Int) (ρ : Env), mq = l.length - j ∧ σ = setAll ρ [(1, vl), (3, .pointer (some ⟨b2, 0, none⟩)), (8, .int .i64 (tot)), (14, .int .i64 (c)), (15, .int .i64 ((j : Nat) : Int))] ∧ (Ext w4 wq) ∧ (j ≤ l.length) ∧ (c = keepC p l j)) ⟨0, 0, _, rfl, setAll_self ⟨rfl, rfl, rfl, rfl, rfl, trivial⟩, (Chg.refl _ _), Nat.zero_le _, rfl⟩ ?_
      rintro m53 σ54 w5 ⟨j, c, ρ5, rfl, rfl, hxK, hjK, hcK⟩
      have hxKs := hxK.size; have hkc := keepC_le p l j
      refine WP_seq ?_
      refine WP_seq ?_
      refine WP_region0 (by kernel_rfl) (fun _ => ?_)
      refine st (ov_move (v := .int .i64 ((j : Nat) : Int)) rfl ?_)
      refine st (ov_move (v := vl) rfl ?_)
      refine st (ov_len (n := l.length) Try.underlying24 rfl h45.sl ?_)
      refine st (ov_lss (k := .i64) (a := ((j : Nat) : Int)) (b := ((l.length : Nat) : Int)) rfl rfl ?_)
      refine st_nil ?_
      cases hc55 : decide (((j : Nat) : Int) < ((l.length : Nat) : Int))
      · skip
        have hc55 := of_decide_eq_false hc55
        refine WP_cond_f rfl ?_
        refine WP_exit ?_
        refine blk_exit ?_
        refine WP_seq ?_
        refine WP_region (by kernel_rfl) ?_
        refine st (ov_move (v := .int .i64 (tot)) rfl ?_)
        refine st (ov_move (v := .int .i64 (c)) rfl ?_)
        refine st (ov_eql (k := .i64) (a := tot) (b := c) rfl rfl ?_)
        refine st (ov_move (v := .bool (decide (tot = c))) rfl ?_)
        refine stcw (V := .bool true) Ext (Chg.refl _ _) rfl rfl (fun hb56 => ?_) (fun w6 hx58 => ?_)
        · have hl57 : (decide (tot = c)) = true := hb56
          have hl57 := of_decide_eq_true hl57
          exact ov_call (f := 10) (vals := []) (cap := []) (show _ = (.func (.func 10) #[] #[] : Value) from rfl) rfl Try.call10 (C_works ) (fun _ _ h => h)
        have hs59 := hx58.size
        refine st (ov_pick_and (b := decide (tot = c)) (b' := true) rfl (fun hbp => (show _ = (.bool true : Value) from (if_pos hbp))) ?_)
        refine st (ov_assign (v := .bool ((decide (tot = c)) && true)) rfl ?_)
        refine st_nil ?_
        refine WP_ret ?_
        refine fin1 Try.results3 (show _ = (.bool ((decide (tot = c)) && true) : Value) from rfl) ?_
        refine ⟨?_, (Chg.trans (Chg.trans (Chg.trans (Chg.trans (Chg.trans hn1.ext hx6) hx47) hxO) hxK) hx58)⟩
        have h8 : tot = c := by
          have hj : j = l.length := by omega
          rw [htot, hcK, List.take_of_length_le (by omega), sum_rows ⟨by omega, by omega⟩, hj]
        simp [h8]
      · skip
        have hc55 := of_decide_eq_true hc55
        refine WP_cond_t rfl ?_
        refine WP_skip ?_
        refine WP_seq ?_
        refine WP_block ?_
        refine WP_seq ?_
        refine WP_draw Ext (AL [fun v w => v = (vl : Value), fun v w => v = (.int .i64 ((j : Nat) : Int) : Value), fun v w => v = (.pointer (some ⟨sb vl, so vl + j * 13, none⟩) : Value), fun v w => v = (.pointer (some ⟨sb vl, so vl + j * 13 + 10, none⟩) : Value), fun v w => v = (.bool ((l.getD j default).void) : Value), fun v w => v = (.bool (!((l.getD j default).void)) : Value), fun v w => v = (.bool (!((l.getD j default).void)) : Value), fun v w => v = (if (!((l.getD j default).void)) = true then (vl : Value) else undef), fun v w => v = (if (!((l.getD j default).void)) = true then (.int .i64 ((j : Nat) : Int) : Value) else undef), fun v w => v = (if (!((l.getD j default).void)) = true then (.pointer (some ⟨sb vl, so vl + j * 13, none⟩) : Value) else undef), fun v w => v = (if (!((l.getD j default).void)) = true then (.pointer (some ⟨sb vl, so vl + j * 13, none⟩) : Value) else undef), fun v w => v = (if (!((l.getD j default).void)) = true then (.pointer (some ⟨sb vl, so vl + j * 13 + 4, none⟩) : Value) else undef), fun v w => v = (if (!((l.getD j default).void)) = true then (.int .i64 ((l.getD j default).ev.typ) : Value) else undef), fun v w => v = (if (!((l.getD j default).void)) = true then (.pointer (some ⟨b2, 0, none⟩) : Value) else undef), fun v w => v = (if (!((l.getD j default).void)) = true then (.int .i64 (p.ptyp) : Value) else undef), fun v w => v = (if (!((l.getD j default).void)) = true then (.bool (decide (((l.getD j default).ev.typ) = p.ptyp)) : Value) else undef), fun v w => v = (.bool ((!((l.getD j default).void)) && (decide (((l.getD j default).ev.typ) = p.ptyp))) : Value), fun v w => v = (.bool ((!((l.getD j default).void)) && (decide (((l.getD j default).ev.typ) = p.ptyp))) : Value), fun v w => v = (if ((!((l.getD j default).void)) && (decide (((l.getD j default).ev.typ) = p.ptyp))) = true then (vl : Value) else undef), fun v w => v = (if ((!((l.getD j default).void)) && (decide (((l.getD j default).ev.typ) = p.ptyp))) = true then (.int .i64 ((j : Nat) : Int) : Value) else undef), fun v w => v = (if ((!((l.getD j default).void)) && (decide (((l.getD j default).ev.typ) = p.ptyp))) = true then (.pointer (some ⟨sb vl, so vl + j * 13, none⟩) : Value) else undef), fun v w => v = (if ((!((l.getD j default).void)) && (decide (((l.getD j default).ev.typ) = p.ptyp))) = true then (.pointer (some ⟨sb vl, so vl + j * 13, none⟩) : Value) else undef), fun v w => v = (if ((!((l.getD j default).void)) && (decide (((l.getD j default).ev.typ) = p.ptyp))) = true then (.pointer (some ⟨sb vl, so vl + j * 13 + 6, none⟩) : Value) else undef), fun v w => v = (if ((!((l.getD j default).void)) && (decide (((l.getD j default).ev.typ) = p.ptyp))) = true then (.int .i64 ((l.getD j default).ev.field) : Value) else undef), fun v w => v = (if ((!((l.getD j default).void)) && (decide (((l.getD j default).ev.typ) = p.ptyp))) = true then (.pointer (some ⟨b2, 1, none⟩) : Value) else undef), fun v w => v = (if ((!((l.getD j default).void)) && (decide (((l.getD j default).ev.typ) = p.ptyp))) = true then (.int .i64 (p.pfield) : Value) else undef), fun v w => v = (if ((!((l.getD j default).void)) && (decide (((l.getD j default).ev.typ) = p.ptyp))) = true then (.bool (decide (((l.getD j default).ev.field) = p.pfield)) : Value) else undef), fun v w => v = (.bool (((!((l.getD j default).void)) && (decide (((l.getD j default).ev.typ) = p.ptyp))) && (decide (((l.getD j default).ev.field) = p.pfield))) : Value)]) [[], [], [0, 1], [0, 1, 2], [0, 1, 2, 3], [0, 1, 2, 3, 4], [0, 1, 2, 3, 4, 5], [0, 1, 2, 3, 4, 5, 6], [0, 1, 2, 3, 4, 5, 6], [0, 1, 2, 3, 4, 5, 6, 7, 8], [0, 1, 2, 3, 4, 5, 6, 7, 8, 9], [0, 1, 2, 3, 4, 5, 6, 7, 8, 9, 10], [0, 1, 2, 3, 4, 5, 6, 7, 8, 9, 10, 11], [0, 1, 2, 3, 4, 5, 6], [0, 1, 2, 3, 4, 5, 6, 13], [0, 1, 2, 3, 4, 5, 6, 7, 8, 9, 10, 11, 12, 13, 14], [0, 1, 2, 3, 4, 5, 6, 7, 8, 9, 10, 11, 12, 13, 14, 15], [0, 1, 2, 3, 4, 5, 6, 7, 8, 9, 10, 11, 12, 13, 14, 15, 16], [0, 1, 2, 3, 4, 5, 6, 7, 8, 9, 10, 11, 12, 13, 14, 15, 16, 17], [0, 1, 2, 3, 4, 5, 6, 7, 8, 9, 10, 11, 12, 13, 14, 15, 16, 17], [0, 1, 2, 3, 4, 5, 6, 7, 8, 9, 10, 11, 12, 13, 14, 15, 16, 17, 18, 19], [0, 1, 2, 3, 4, 5, 6, 7, 8, 9, 10, 11, 12, 13, 14, 15, 16, 17, 18, 19, 20], [0, 1, 2, 3, 4, 5, 6, 7, 8, 9, 10, 11, 12, 13, 14, 15, 16, 17, 18, 19, 20, 21], [0, 1, 2, 3, 4, 5, 6, 7, 8, 9, 10, 11, 12, 13, 14, 15, 16, 17, 18, 19, 20, 21, 22], [0, 1, 2, 3, 4, 5, 6, 7, 8, 9, 10, 11, 12, 13, 14, 15, 16, 17], [0, 1, 2, 3, 4, 5, 6, 7, 8, 9, 10, 11, 12, 13, 14, 15, 16, 17, 24], [0, 1, 2, 3, 4, 5, 6, 7, 8, 9, 10, 11, 12, 13, 14, 15, 16, 17, 18, 19, 20, 21, 22, 23, 24, 25], [0, 1, 2, 3, 4, 5, 6, 7, 8, 9, 10, 11, 12, 13, 14, 15, 16, 17, 18, 19, 20, 21, 22, 23, 24, 25, 26]] 28 (by kernel_rfl) (by kernel_rfl) (by kernel_rfl) (fun w => Chg.refl _ w) (fun _ _ _ h1 h2 => h1.trans h2) (stabL ⟨fun _ _ _ _ h => h, fun _ _ _ _ h => h, fun _ _ _ _ h => h, fun _ _ _ _ h => h, fun _ _ _ _ h => h, fun _ _ _ _ h => h, fun _ _ _ _ h => h, fun _ _ _ _ h => h, fun _ _ _ _ h => h, fun _ _ _ _ h => h, fun _ _ _ _ h => h, fun _ _ _ _ h => h, fun _ _ _ _ h => h, fun _ _ _ _ h => h, fun _ _ _ _ h => h, fun _ _ _ _ h => h, fun _ _ _ _ h => h, fun _ _ _ _ h => h, fun _ _ _ _ h => h, fun _ _ _ _ h => h, fun _ _ _ _ h => h, fun _ _ _ _ h => h, fun _ _ _ _ h => h, fun _ _ _ _ h => h, fun _ _ _ _ h => h, fun _ _ _ _ h => h, fun _ _ _ _ h => h, fun _ _ _ _ h => h, trivial⟩) ?_
        intro w7 qh1 qh2 qh3 qh4
        have hx60 := ext_same qh1 qh2 qh3 qh4
        refine ⟨⟨?_, ?_, ?_, ?_, ?_, ?_, ?_, ?_, ?_, ?_, ?_, ?_, ?_, ?_, ?_, ?_, ?_, ?_, ?_, ?_, ?_, ?_, ?_, ?_, ?_, ?_, ?_, ?_, trivial⟩, ?_⟩
        · intro vals w8 hR61 hA
          have hs62 := hR61.size
          refine obl rfl ?_
          exact ov_move (v := vl) rfl ⟨Chg.refl _ _, rfl⟩
        · intro vals w9 hR63 hA
          have hs64 := hR63.size
          refine obl rfl ?_
          exact ov_move (v := .int .i64 ((j : Nat) : Int)) rfl ⟨Chg.refl _ _, rfl⟩
        · intro vals w10 hR65 hA
          have hs66 := hR65.size
          have e0 : (vals 0) = (vl : Value) := hA 0 (by decide)
          have e1 : (vals 1) = (.int .i64 ((j : Nat) : Int) : Value) := hA 1 (by decide)
          refine obl rfl ?_
          have hi67 : j < l.length := by omega
          have h69 := h45.ext (Chg.trans (Chg.trans hx47 hxO) hxK)
          have hi68 : j < l.length := by omega
          obtain ⟨hc68, hd68_0, hok68⟩ := h69.ent hi68
          rw [← getD_at default hi68] at hc68 hd68_0 hok68
          exact ov_indexAddrN (k := 13) (i := j) Try.underlying24 Try.sizeOf38 (show _ = (vl : Value) from e0) h45.sl (show _ = (.int .i64 ((j : Nat) : Int) : Value) from e1) hi67 ⟨Chg.refl _ _, rfl⟩
        · intro vals w11 hR70 hA
          have hs71 := hR70.size
          have e2 : (vals 2) = (.pointer (some ⟨sb vl, so vl + j * 13, none⟩) : Value) := hA 2 (by decide)
          refine obl rfl ?_
          exact fa38_1 (show _ = (.pointer (some ⟨sb vl, so vl + j * 13, none⟩) : Value) from e2) ⟨Chg.refl _ _, rfl⟩
        · intro vals w12 hR72 hA
          have hs73 := hR72.size
          have e3 : (vals 3) = (.pointer (some ⟨sb vl, so vl + j * 13 + 10, none⟩) : Value) := hA 3 (by decide)
          refine obl rfl ?_
          have h75 := h45.ext (Chg.trans (Chg.trans hx47 hxO) hxK)
          have hi74 : j < l.length := by omega
          obtain ⟨hc74, hd74_0, hok74⟩ := h75.ent hi74
          rw [← getD_at default hi74] at hc74 hd74_0 hok74
          have h76 := hc74.mono (fun hb => (Chg.trans hx60 hR72).block _ hb (fun h => h))
          exact ov_load1 (v := .bool ((l.getD j default).void)) Try.isAgg4 (show _ = (.pointer (some ⟨sb vl, so vl + j * 13 + 10, none⟩) : Value) from e3) (h76.get (j := 10) rfl) ⟨Chg.refl _ _, rfl⟩
        · intro vals w13 hR77 hA
          have hs78 := hR77.size
          have e4 : (vals 4) = (.bool ((l.getD j default).void) : Value) := hA 4 (by decide)
          refine obl rfl ?_
          exact ov_not (a := (l.getD j default).void) (show _ = (.bool ((l.getD j default).void) : Value) from e4) ⟨Chg.refl _ _, rfl⟩
        · intro vals w14 hR79 hA
          have hs80 := hR79.size
          have e5 : (vals 5) = (.bool (!((l.getD j default).void)) : Value) := hA 5 (by decide)
          refine obl rfl ?_
          exact ov_move (v := .bool (!((l.getD j default).void))) (show _ = (.bool (!((l.getD j default).void)) : Value) from e5) ⟨Chg.refl _ _, rfl⟩
        · intro vals w15 hR81 hA
          have hs82 := hR81.size
          have e6 : (vals 6) = (.bool (!((l.getD j default).void)) : Value) := hA 6 (by decide)
          refine oblc rfl rfl (show _ = (.bool (!((l.getD j default).void)) : Value) from e6) (fun hb83 => ?_) (fun hb83 => (if_neg hb83).symm)
          have hl84 : (!((l.getD j default).void)) = true := hb83
          simp only [Bool.and_eq_true, Bool.or_eq_true, Bool.and_eq_false_iff, Bool.or_eq_false_iff, decide_eq_true_eq, decide_eq_false_iff_not, Bool.not_eq_true', Bool.not_eq_false', Int.not_lt, Int.not_le] at hl84
          exact ov_move (v := vl) rfl ⟨Chg.refl _ _, (if_pos hb83).symm⟩
        · intro vals w16 hR85 hA
          have hs86 := hR85.size
          have e6 : (vals 6) = (.bool (!((l.getD j default).void)) : Value) := hA 6 (by decide)
          refine oblc rfl rfl (show _ = (.bool (!((l.getD j default).void)) : Value) from e6) (fun hb87 => ?_) (fun hb87 => (if_neg hb87).symm)
          have hl88 : (!((l.getD j default).void)) = true := hb87
          simp only [Bool.and_eq_true, Bool.or_eq_true, Bool.and_eq_false_iff, Bool.or_eq_false_iff, decide_eq_true_eq, decide_eq_false_iff_not, Bool.not_eq_true', Bool.not_eq_false', Int.not_lt, Int.not_le] at hl88
          exact ov_move (v := .int .i64 ((j : Nat) : Int)) rfl ⟨Chg.refl _ _, (if_pos hb87).symm⟩
        · intro vals w17 hR89 hA
          have hs90 := hR89.size
          have e6 : (vals 6) = (.bool (!((l.getD j default).void)) : Value) := hA 6 (by decide)
          have e7 : (vals 7) = (if (!((l.getD j default).void)) = true then (vl : Value) else undef) := hA 7 (by decide)
          have e8 : (vals 8) = (if (!((l.getD j default).void)) = true then (.int .i64 ((j : Nat) : Int) : Value) else undef) := hA 8 (by decide)
          refine oblc rfl rfl (show _ = (.bool (!((l.getD j default).void)) : Value) from e6) (fun hb91 => ?_) (fun hb91 => (if_neg hb91).symm)
          have hl92 : (!((l.getD j default).void)) = true := hb91
          simp only [Bool.and_eq_true, Bool.or_eq_true, Bool.and_eq_false_iff, Bool.or_eq_false_iff, decide_eq_true_eq, decide_eq_false_iff_not, Bool.not_eq_true', Bool.not_eq_false', Int.not_lt, Int.not_le] at hl92
          have hi93 : j < l.length := by omega
          exact ov_indexAddrN (k := 13) (i := j) Try.underlying24 Try.sizeOf38 (show _ = (vl : Value) from (Eq.trans e7 (if_pos hb91))) h45.sl (show _ = (.int .i64 ((j : Nat) : Int) : Value) from (Eq.trans e8 (if_pos hb91))) hi93 ⟨Chg.refl _ _, (if_pos hb91).symm⟩
        · intro vals w18 hR94 hA
          have hs95 := hR94.size
          have e6 : (vals 6) = (.bool (!((l.getD j default).void)) : Value) := hA 6 (by decide)
          have e9 : (vals 9) = (if (!((l.getD j default).void)) = true then (.pointer (some ⟨sb vl, so vl + j * 13, none⟩) : Value) else undef) := hA 9 (by decide)
          refine oblc rfl rfl (show _ = (.bool (!((l.getD j default).void)) : Value) from e6) (fun hb96 => ?_) (fun hb96 => (if_neg hb96).symm)
          have hl97 : (!((l.getD j default).void)) = true := hb96
          simp only [Bool.and_eq_true, Bool.or_eq_true, Bool.and_eq_false_iff, Bool.or_eq_false_iff, decide_eq_true_eq, decide_eq_false_iff_not, Bool.not_eq_true', Bool.not_eq_false', Int.not_lt, Int.not_le] at hl97
          exact fa38_0 (show _ = (.pointer (some ⟨sb vl, so vl + j * 13, none⟩) : Value) from (Eq.trans e9 (if_pos hb96))) ⟨Chg.refl _ _, (if_pos hb96).symm⟩
        · intro vals w19 hR98 hA
          have hs99 := hR98.size
          have e6 : (vals 6) = (.bool (!((l.getD j default).void)) : Value) := hA 6 (by decide)
          have e10 : (vals 10) = (if (!((l.getD j default).void)) = true then (.pointer (some ⟨sb vl, so vl + j * 13, none⟩) : Value) else undef) := hA 10 (by decide)
          refine oblc rfl rfl (show _ = (.bool (!((l.getD j default).void)) : Value) from e6) (fun hb100 => ?_) (fun hb100 => (if_neg hb100).symm)
          have hl101 : (!((l.getD j default).void)) = true := hb100
          simp only [Bool.and_eq_true, Bool.or_eq_true, Bool.and_eq_false_iff, Bool.or_eq_false_iff, decide_eq_true_eq, decide_eq_false_iff_not, Bool.not_eq_true', Bool.not_eq_false', Int.not_lt, Int.not_le] at hl101
          exact fa36_3 (show _ = (.pointer (some ⟨sb vl, so vl + j * 13, none⟩) : Value) from (Eq.trans e10 (if_pos hb100))) ⟨Chg.refl _ _, (if_pos hb100).symm⟩
        · intro vals w20 hR102 hA
          have hs103 := hR102.size
          have e6 : (vals 6) = (.bool (!((l.getD j default).void)) : Value) := hA 6 (by decide)
          have e11 : (vals 11) = (if (!((l.getD j default).void)) = true then (.pointer (some ⟨sb vl, so vl + j * 13 + 4, none⟩) : Value) else undef) := hA 11 (by decide)
          refine oblc rfl rfl (show _ = (.bool (!((l.getD j default).void)) : Value) from e6) (fun hb104 => ?_) (fun hb104 => (if_neg hb104).symm)
          have hl105 : (!((l.getD j default).void)) = true := hb104
          simp only [Bool.and_eq_true, Bool.or_eq_true, Bool.and_eq_false_iff, Bool.or_eq_false_iff, decide_eq_true_eq, decide_eq_false_iff_not, Bool.not_eq_true', Bool.not_eq_false', Int.not_lt, Int.not_le] at hl105
          have h107 := h45.ext (Chg.trans (Chg.trans hx47 hxO) hxK)
          have hi106 : j < l.length := by omega
          obtain ⟨hc106, hd106_0, hok106⟩ := h107.ent hi106
          rw [← getD_at default hi106] at hc106 hd106_0 hok106
          have h108 := hc106.mono (fun hb => (Chg.trans hx60 hR102).block _ hb (fun h => h))
          exact ov_load1 (v := .int .i64 ((l.getD j default).ev.typ)) Try.isAgg3 (show _ = (.pointer (some ⟨sb vl, so vl + j * 13 + 4, none⟩) : Value) from (Eq.trans e11 (if_pos hb104))) (h108.get (j := 4) rfl) ⟨Chg.refl _ _, (if_pos hb104).symm⟩
        · intro vals w21 hR109 hA
          have hs110 := hR109.size
          have e6 : (vals 6) = (.bool (!((l.getD j default).void)) : Value) := hA 6 (by decide)
          refine oblc rfl rfl (show _ = (.bool (!((l.getD j default).void)) : Value) from e6) (fun hb111 => ?_) (fun hb111 => (if_neg hb111).symm)
          have hl112 : (!((l.getD j default).void)) = true := hb111
          simp only [Bool.and_eq_true, Bool.or_eq_true, Bool.and_eq_false_iff, Bool.or_eq_false_iff, decide_eq_true_eq, decide_eq_false_iff_not, Bool.not_eq_true', Bool.not_eq_false', Int.not_lt, Int.not_le] at hl112
          exact fa23_0 rfl ⟨Chg.refl _ _, (if_pos hb111).symm⟩
        · intro vals w22 hR113 hA
          have hs114 := hR113.size
          have e6 : (vals 6) = (.bool (!((l.getD j default).void)) : Value) := hA 6 (by decide)
          have e13 : (vals 13) = (if (!((l.getD j default).void)) = true then (.pointer (some ⟨b2, 0, none⟩) : Value) else undef) := hA 13 (by decide)
          refine oblc rfl rfl (show _ = (.bool (!((l.getD j default).void)) : Value) from e6) (fun hb115 => ?_) (fun hb115 => (if_neg hb115).symm)
          have hl116 : (!((l.getD j default).void)) = true := hb115
          simp only [Bool.and_eq_true, Bool.or_eq_true, Bool.and_eq_false_iff, Bool.or_eq_false_iff, decide_eq_true_eq, decide_eq_false_iff_not, Bool.not_eq_true', Bool.not_eq_false', Int.not_lt, Int.not_le] at hl116
          have h117 := (Chg.trans (Chg.trans (Chg.trans (Chg.trans hx47 hxO) hxK) hx60) hR113).keep h44 (fun h => h)
          exact ov_load1 (v := .int .i64 (p.ptyp)) Try.isAgg3 (show _ = (.pointer (some ⟨b2, 0, none⟩) : Value) from (Eq.trans e13 (if_pos hb115))) (blk_cellL h117 rfl) ⟨Chg.refl _ _, (if_pos hb115).symm⟩
        · intro vals w23 hR118 hA
          have hs119 := hR118.size
          have e6 : (vals 6) = (.bool (!((l.getD j default).void)) : Value) := hA 6 (by decide)
          have e12 : (vals 12) = (if (!((l.getD j default).void)) = true then (.int .i64 ((l.getD j default).ev.typ) : Value) else undef) := hA 12 (by decide)
          have e14 : (vals 14) = (if (!((l.getD j default).void)) = true then (.int .i64 (p.ptyp) : Value) else undef) := hA 14 (by decide)
          refine oblc rfl rfl (show _ = (.bool (!((l.getD j default).void)) : Value) from e6) (fun hb120 => ?_) (fun hb120 => (if_neg hb120).symm)
          have hl121 : (!((l.getD j default).void)) = true := hb120
          simp only [Bool.and_eq_true, Bool.or_eq_true, Bool.and_eq_false_iff, Bool.or_eq_false_iff, decide_eq_true_eq, decide_eq_false_iff_not, Bool.not_eq_true', Bool.not_eq_false', Int.not_lt, Int.not_le] at hl121
          exact ov_eql (k := .i64) (a := (l.getD j default).ev.typ) (b := p.ptyp) (show _ = (.int .i64 ((l.getD j default).ev.typ) : Value) from (Eq.trans e12 (if_pos hb120))) (show _ = (.int .i64 (p.ptyp) : Value) from (Eq.trans e14 (if_pos hb120))) ⟨Chg.refl _ _, (if_pos hb120).symm⟩
        · intro vals w24 hR122 hA
          have hs123 := hR122.size
          have e6 : (vals 6) = (.bool (!((l.getD j default).void)) : Value) := hA 6 (by decide)
          have e15 : (vals 15) = (if (!((l.getD j default).void)) = true then (.bool (decide (((l.getD j default).ev.typ) = p.ptyp)) : Value) else undef) := hA 15 (by decide)
          refine obl rfl ?_
          exact ov_pick_and (b := !((l.getD j default).void)) (b' := decide (((l.getD j default).ev.typ) = p.ptyp)) (show _ = (.bool (!((l.getD j default).void)) : Value) from e6) (fun hbp => (show _ = (.bool (decide (((l.getD j default).ev.typ) = p.ptyp)) : Value) from (Eq.trans e15 (if_pos hbp)))) ⟨Chg.refl _ _, rfl⟩
        · intro vals w25 hR124 hA
          have hs125 := hR124.size
          have e16 : (vals 16) = (.bool ((!((l.getD j default).void)) && (decide (((l.getD j default).ev.typ) = p.ptyp))) : Value) := hA 16 (by decide)
          refine obl rfl ?_
          exact ov_move (v := .bool ((!((l.getD j default).void)) && (decide (((l.getD j default).ev.typ) = p.ptyp)))) (show _ = (.bool ((!((l.getD j default).void)) && (decide (((l.getD j default).ev.typ) = p.ptyp))) : Value) from e16) ⟨Chg.refl _ _, rfl⟩
        · intro vals w26 hR126 hA
          have hs127 := hR126.size
          have e17 : (vals 17) = (.bool ((!((l.getD j default).void)) && (decide (((l.getD j default).ev.typ) = p.ptyp))) : Value) := hA 17 (by decide)
          refine oblc rfl rfl (show _ = (.bool ((!((l.getD j default).void)) && (decide (((l.getD j default).ev.typ) = p.ptyp))) : Value) from e17) (fun hb128 => ?_) (fun hb128 => (if_neg hb128).symm)
          have hl129 : ((!((l.getD j default).void)) && (decide (((l.getD j default).ev.typ) = p.ptyp))) = true := hb128
          simp only [Bool.and_eq_true, Bool.or_eq_true, Bool.and_eq_false_iff, Bool.or_eq_false_iff, decide_eq_true_eq, decide_eq_false_iff_not, Bool.not_eq_true', Bool.not_eq_false', Int.not_lt, Int.not_le] at hl129
          exact ov_move (v := vl) rfl ⟨Chg.refl _ _, (if_pos hb128).symm⟩
        · intro vals w27 hR130 hA
          have hs131 := hR130.size
          have e17 : (vals 17) = (.bool ((!((l.getD j default).void)) && (decide (((l.getD j default).ev.typ) = p.ptyp))) : Value) := hA 17 (by decide)
          refine oblc rfl rfl (show _ = (.bool ((!((l.getD j default).void)) && (decide (((l.getD j default).ev.typ) = p.ptyp))) : Value) from e17) (fun hb132 => ?_) (fun hb132 => (if_neg hb132).symm)
          have hl133 : ((!((l.getD j default).void)) && (decide (((l.getD j default).ev.typ) = p.ptyp))) = true := hb132
          simp only [Bool.and_eq_true, Bool.or_eq_true, Bool.and_eq_false_iff, Bool.or_eq_false_iff, decide_eq_true_eq, decide_eq_false_iff_not, Bool.not_eq_true', Bool.not_eq_false', Int.not_lt, Int.not_le] at hl133
          exact ov_move (v := .int .i64 ((j : Nat) : Int)) rfl ⟨Chg.refl _ _, (if_pos hb132).symm⟩
        · intro vals w28 hR134 hA
          have hs135 := hR134.size
          have e17 : (vals 17) = (.bool ((!((l.getD j default).void)) && (decide (((l.getD j default).ev.typ) = p.ptyp))) : Value) := hA 17 (by decide)
          have e18 : (vals 18) = (if ((!((l.getD j default).void)) && (decide (((l.getD j default).ev.typ) = p.ptyp))) = true then (vl : Value) else undef) := hA 18 (by decide)
          have e19 : (vals 19) = (if ((!((l.getD j default).void)) && (decide (((l.getD j default).ev.typ) = p.ptyp))) = true then (.int .i64 ((j : Nat) : Int) : Value) else undef) := hA 19 (by decide)
          refine oblc rfl rfl (show _ = (.bool ((!((l.getD j default).void)) && (decide (((l.getD j default).ev.typ) = p.ptyp))) : Value) from e17) (fun hb136 => ?_) (fun hb136 => (if_neg hb136).symm)
          have hl137 : ((!((l.getD j default).void)) && (decide (((l.getD j default).ev.typ) = p.ptyp))) = true := hb136
          simp only [Bool.and_eq_true, Bool.or_eq_true, Bool.and_eq_false_iff, Bool.or_eq_false_iff, decide_eq_true_eq, decide_eq_false_iff_not, Bool.not_eq_true', Bool.not_eq_false', Int.not_lt, Int.not_le] at hl137
          have hi138 : j < l.length := by omega
          exact ov_indexAddrN (k := 13) (i := j) Try.underlying24 Try.sizeOf38 (show _ = (vl : Value) from (Eq.trans e18 (if_pos hb136))) h45.sl (show _ = (.int .i64 ((j : Nat) : Int) : Value) from (Eq.trans e19 (if_pos hb136))) hi138 ⟨Chg.refl _ _, (if_pos hb136).symm⟩
        · intro vals w29 hR139 hA
          have hs140 := hR139.size
          have e17 : (vals 17) = (.bool ((!((l.getD j default).void)) && (decide (((l.getD j default).ev.typ) = p.ptyp))) : Value) := hA 17 (by decide)
          have e20 : (vals 20) = (if ((!((l.getD j default).void)) && (decide (((l.getD j default).ev.typ) = p.ptyp))) = true then (.pointer (some ⟨sb vl, so vl + j * 13, none⟩) : Value) else undef) := hA 20 (by decide)
          refine oblc rfl rfl (show _ = (.bool ((!((l.getD j default).void)) && (decide (((l.getD j default).ev.typ) = p.ptyp))) : Value) from e17) (fun hb141 => ?_) (fun hb141 => (if_neg hb141).symm)
          have hl142 : ((!((l.getD j default).void)) && (decide (((l.getD j default).ev.typ) = p.ptyp))) = true := hb141
          simp only [Bool.and_eq_true, Bool.or_eq_true, Bool.and_eq_false_iff, Bool.or_eq_false_iff, decide_eq_true_eq, decide_eq_false_iff_not, Bool.not_eq_true', Bool.not_eq_false', Int.not_lt, Int.not_le] at hl142
          exact fa38_0 (show _ = (.pointer (some ⟨sb vl, so vl + j * 13, none⟩) : Value) from (Eq.trans e20 (if_pos hb141))) ⟨Chg.refl _ _, (if_pos hb141).symm⟩
        · intro vals w30 hR143 hA
          have hs144 := hR143.size
          have e17 : (vals 17) = (.bool ((!((l.getD j default).void)) && (decide (((l.getD j default).ev.typ) = p.ptyp))) : Value) := hA 17 (by decide)
          have e21 : (vals 21) = (if ((!((l.getD j default).void)) && (decide (((l.getD j default).ev.typ) = p.ptyp))) = true then (.pointer (some ⟨sb vl, so vl + j * 13, none⟩) : Value) else undef) := hA 21 (by decide)
          refine oblc rfl rfl (show _ = (.bool ((!((l.getD j default).void)) && (decide (((l.getD j default).ev.typ) = p.ptyp))) : Value) from e17) (fun hb145 => ?_) (fun hb145 => (if_neg hb145).symm)
          have hl146 : ((!((l.getD j default).void)) && (decide (((l.getD j default).ev.typ) = p.ptyp))) = true := hb145
          simp only [Bool.and_eq_true, Bool.or_eq_true, Bool.and_eq_false_iff, Bool.or_eq_false_iff, decide_eq_true_eq, decide_eq_false_iff_not, Bool.not_eq_true', Bool.not_eq_false', Int.not_lt, Int.not_le] at hl146
          exact fa36_5 (show _ = (.pointer (some ⟨sb vl, so vl + j * 13, none⟩) : Value) from (Eq.trans e21 (if_pos hb145))) ⟨Chg.refl _ _, (if_pos hb145).symm⟩
        · intro vals w31 hR147 hA
          have hs148 := hR147.size
          have e17 : (vals 17) = (.bool ((!((l.getD j default).void)) && (decide (((l.getD j default).ev.typ) = p.ptyp))) : Value) := hA 17 (by decide)
          have e22 : (vals 22) = (if ((!((l.getD j default).void)) && (decide (((l.getD j default).ev.typ) = p.ptyp))) = true then (.pointer (some ⟨sb vl, so vl + j * 13 + 6, none⟩) : Value) else undef) := hA 22 (by decide)
          refine oblc rfl rfl (show _ = (.bool ((!((l.getD j default).void)) && (decide (((l.getD j default).ev.typ) = p.ptyp))) : Value) from e17) (fun hb149 => ?_) (fun hb149 => (if_neg hb149).symm)
          have hl150 : ((!((l.getD j default).void)) && (decide (((l.getD j default).ev.typ) = p.ptyp))) = true := hb149
          simp only [Bool.and_eq_true, Bool.or_eq_true, Bool.and_eq_false_iff, Bool.or_eq_false_iff, decide_eq_true_eq, decide_eq_false_iff_not, Bool.not_eq_true', Bool.not_eq_false', Int.not_lt, Int.not_le] at hl150
          have h152 := h45.ext (Chg.trans (Chg.trans hx47 hxO) hxK)
          have hi151 : j < l.length := by omega
          obtain ⟨hc151, hd151_0, hok151⟩ := h152.ent hi151
          rw [← getD_at default hi151] at hc151 hd151_0 hok151
          have h153 := hc151.mono (fun hb => (Chg.trans hx60 hR147).block _ hb (fun h => h))
          exact ov_load1 (v := .int .i64 ((l.getD j default).ev.field)) Try.isAgg3 (show _ = (.pointer (some ⟨sb vl, so vl + j * 13 + 6, none⟩) : Value) from (Eq.trans e22 (if_pos hb149))) (h153.get (j := 6) rfl) ⟨Chg.refl _ _, (if_pos hb149).symm⟩
        · intro vals w32 hR154 hA
          have hs155 := hR154.size
          have e17 : (vals 17) = (.bool ((!((l.getD j default).void)) && (decide (((l.getD j default).ev.typ) = p.ptyp))) : Value) := hA 17 (by decide)
          refine oblc rfl rfl (show _ = (.bool ((!((l.getD j default).void)) && (decide (((l.getD j default).ev.typ) = p.ptyp))) : Value) from e17) (fun hb156 => ?_) (fun hb156 => (if_neg hb156).symm)
          have hl157 : ((!((l.getD j default).void)) && (decide (((l.getD j default).ev.typ) = p.ptyp))) = true := hb156
          simp only [Bool.and_eq_true, Bool.or_eq_true, Bool.and_eq_false_iff, Bool.or_eq_false_iff, decide_eq_true_eq, decide_eq_false_iff_not, Bool.not_eq_true', Bool.not_eq_false', Int.not_lt, Int.not_le] at hl157
          exact fa23_1 rfl ⟨Chg.refl _ _, (if_pos hb156).symm⟩
        · intro vals w33 hR158 hA
          have hs159 := hR158.size
          have e17 : (vals 17) = (.bool ((!((l.getD j default).void)) && (decide (((l.getD j default).ev.typ) = p.ptyp))) : Value) := hA 17 (by decide)
          have e24 : (vals 24) = (if ((!((l.getD j default).void)) && (decide (((l.getD j default).ev.typ) = p.ptyp))) = true then (.pointer (some ⟨b2, 1, none⟩) : Value) else undef) := hA 24 (by decide)
          refine oblc rfl rfl (show _ = (.bool ((!((l.getD j default).void)) && (decide (((l.getD j default).ev.typ) = p.ptyp))) : Value) from e17) (fun hb160 => ?_) (fun hb160 => (if_neg hb160).symm)
          have hl161 : ((!((l.getD j default).void)) && (decide (((l.getD j default).ev.typ) = p.ptyp))) = true := hb160
          simp only [Bool.and_eq_true, Bool.or_eq_true, Bool.and_eq_false_iff, Bool.or_eq_false_iff, decide_eq_true_eq, decide_eq_false_iff_not, Bool.not_eq_true', Bool.not_eq_false', Int.not_lt, Int.not_le] at hl161
          have h162 := (Chg.trans (Chg.trans (Chg.trans (Chg.trans hx47 hxO) hxK) hx60) hR158).keep h44 (fun h => h)
          exact ov_load1 (v := .int .i64 (p.pfield)) Try.isAgg3 (show _ = (.pointer (some ⟨b2, 1, none⟩) : Value) from (Eq.trans e24 (if_pos hb160))) (blk_cellL h162 rfl) ⟨Chg.refl _ _, (if_pos hb160).symm⟩
        · intro vals w34 hR163 hA
          have hs164 := hR163.size
          have e17 : (vals 17) = (.bool ((!((l.getD j default).void)) && (decide (((l.getD j default).ev.typ) = p.ptyp))) : Value) := hA 17 (by decide)
          have e23 : (vals 23) = (if ((!((l.getD j default).void)) && (decide (((l.getD j default).ev.typ) = p.ptyp))) = true then (.int .i64 ((l.getD j default).ev.field) : Value) else undef) := hA 23 (by decide)
          have e25 : (vals 25) = (if ((!((l.getD j default).void)) && (decide (((l.getD j default).ev.typ) = p.ptyp))) = true then (.int .i64 (p.pfield) : Value) else undef) := hA 25 (by decide)
          refine oblc rfl rfl (show _ = (.bool ((!((l.getD j default).void)) && (decide (((l.getD j default).ev.typ) = p.ptyp))) : Value) from e17) (fun hb165 => ?_) (fun hb165 => (if_neg hb165).symm)
          have hl166 : ((!((l.getD j default).void)) && (decide (((l.getD j default).ev.typ) = p.ptyp))) = true := hb165
          simp only [Bool.and_eq_true, Bool.or_eq_true, Bool.and_eq_false_iff, Bool.or_eq_false_iff, decide_eq_true_eq, decide_eq_false_iff_not, Bool.not_eq_true', Bool.not_eq_false', Int.not_lt, Int.not_le] at hl166
          exact ov_eql (k := .i64) (a := (l.getD j default).ev.field) (b := p.pfield) (show _ = (.int .i64 ((l.getD j default).ev.field) : Value) from (Eq.trans e23 (if_pos hb165))) (show _ = (.int .i64 (p.pfield) : Value) from (Eq.trans e25 (if_pos hb165))) ⟨Chg.refl _ _, (if_pos hb165).symm⟩
        · intro vals w35 hR167 hA
          have hs168 := hR167.size
          have e17 : (vals 17) = (.bool ((!((l.getD j default).void)) && (decide (((l.getD j default).ev.typ) = p.ptyp))) : Value) := hA 17 (by decide)
          have e26 : (vals 26) = (if ((!((l.getD j default).void)) && (decide (((l.getD j default).ev.typ) = p.ptyp))) = true then (.bool (decide (((l.getD j default).ev.field) = p.pfield)) : Value) else undef) := hA 26 (by decide)
          refine obl rfl ?_
          exact ov_pick_and (b := (!((l.getD j default).void)) && (decide (((l.getD j default).ev.typ) = p.ptyp))) (b' := decide (((l.getD j default).ev.field) = p.pfield)) (show _ = (.bool ((!((l.getD j default).void)) && (decide (((l.getD j default).ev.typ) = p.ptyp))) : Value) from e17) (fun hbp => (show _ = (.bool (decide (((l.getD j default).ev.field) = p.pfield)) : Value) from (Eq.trans e26 (if_pos hbp)))) ⟨Chg.refl _ _, rfl⟩
        intro vals w36 hR169 hA
        have hs170 := hR169.size
        have hs171 := hx60.size
        have e27 : (vals 27) = (.bool (((!((l.getD j default).void)) && (decide (((l.getD j default).ev.typ) = p.ptyp))) && (decide (((l.getD j default).ev.field) = p.pfield))) : Value) := hA 27 (by decide)
        refine st_env (kv := [(1, vl), (3, .pointer (some ⟨b2, 0, none⟩)), (8, .int .i64 (tot)), (14, .int .i64 (c)), (15, .int .i64 ((j : Nat) : Int)), (155, .int .i64 ((j : Nat) : Int)), (156, vl), (157, .int .i64 ((l.length : Nat) : Int)), (158, .bool true), (188, .bool (((!((l.getD j default).void)) && (decide (((l.getD j default).ev.typ) = p.ptyp))) && (decide (((l.getD j default).ev.field) = p.pfield))))]) ⟨rfl, rfl, rfl, rfl, rfl, rfl, rfl, rfl, rfl, (by exact e27), trivial⟩ (fun ρ36 => ?_)
        clear e27
        clear hA qh1 qh2 qh3 qh4
        refine st_nil ?_
        cases hc172 : ((!((l.getD j default).void)) && (decide (((l.getD j default).ev.typ) = p.ptyp))) && (decide (((l.getD j default).ev.field) = p.pfield))
        · skip
          simp only [Bool.and_eq_true, Bool.or_eq_true, Bool.and_eq_false_iff, Bool.or_eq_false_iff, decide_eq_true_eq, decide_eq_false_iff_not, Bool.not_eq_true', Bool.not_eq_false', Int.not_lt, Int.not_le] at hc172
          refine WP_cond_f rfl ?_
          refine WP_skip ?_
          refine WP_region0 (by kernel_rfl) (fun _ => ?_)
          refine st (ov_move (v := .int .i64 ((j : Nat) : Int)) rfl ?_)
          have hr173 : InR ((j + 1 : Nat) : Int) := by omega
          refine st (ov_add (r := ((j + 1 : Nat) : Int)) (k := .i64) (a := ((j : Nat) : Int)) (b := 1) rfl rfl (by rw [show (((j : Nat) : Int) + 1 : Int) = ((j + 1 : Nat) : Int) by omega]; exact wrap_in hr173) ?_)
          refine st (ov_assign (v := .int .i64 ((j + 1 : Nat) : Int)) rfl ?_)
          refine st_nil ?_
          exact ⟨_, by omega, j + 1, c, _, rfl, setAll_self ⟨rfl, rfl, rfl, rfl, rfl, trivial⟩, (Chg.trans (Chg.trans hxK hx60) hR169), by omega, (by unfold keepC; rw [if_neg (fun hq => by obtain ⟨⟨h1, h2⟩, h3⟩ := keep_iff.1 hq; rcases hc172 with (h | h) | h; rw [h1] at h; cases h; exact h h2; exact h h3), hcK]; omega)⟩
        · skip
          simp only [Bool.and_eq_true, Bool.or_eq_true, Bool.and_eq_false_iff, Bool.or_eq_false_iff, decide_eq_true_eq, decide_eq_false_iff_not, Bool.not_eq_true', Bool.not_eq_false', Int.not_lt, Int.not_le] at hc172
          refine WP_cond_t rfl ?_
          refine WP_region0 (by kernel_rfl) (fun _ => ?_)
          refine st (ov_move (v := .int .i64 (c)) rfl ?_)
          have hr174 : InR (c + 1) := by omega
          refine st (ov_add (r := c + 1) (k := .i64) (a := c) (b := 1) rfl rfl (wrap_in hr174) ?_)
          refine st (ov_assign (v := .int .i64 (c + 1)) rfl ?_)
          refine st_nil ?_
          refine WP_region0 (by kernel_rfl) (fun _ => ?_)
          refine st (ov_move (v := .int .i64 ((j : Nat) : Int)) rfl ?_)
          have hr175 : InR ((j + 1 : Nat) : Int) := by omega
          refine st (ov_add (r := ((j + 1 : Nat) : Int)) (k := .i64) (a := ((j : Nat) : Int)) (b := 1) rfl rfl (by rw [show (((j : Nat) : Int) + 1 : Int) = ((j + 1 : Nat) : Int) by omega]; exact wrap_in hr175) ?_)
          refine st (ov_assign (v := .int .i64 ((j + 1 : Nat) : Int)) rfl ?_)
          refine st_nil ?_
          exact ⟨_, by omega, j + 1, c + 1, _, rfl, setAll_self ⟨rfl, rfl, rfl, rfl, rfl, trivial⟩, (Chg.trans (Chg.trans hxK hx60) hR169), by omega, (by unfold keepC; rw [if_pos (keep_iff.2 hc172), hcK])⟩
    · skip
      have hc52 := of_decide_eq_true hc52
      refine WP_cond_t rfl ?_
      refine WP_skip ?_
      refine WP_seq ?_
      refine WP_block ?_
      refine WP_seq ?_
      refine WP_seq ?_
      refine WP_draw Ext (AL [fun v w => v = (.int .i64 ((k : Nat) : Int) : Value), fun v w => v = (.bool (decide (0 < ((k : Nat) : Int))) : Value), fun v w => v = (.bool (decide (0 < ((k : Nat) : Int))) : Value), fun v w => v = (if (decide (0 < ((k : Nat) : Int))) = true then (v49 : Value) else undef), fun v w => v = (if (decide (0 < ((k : Nat) : Int))) = true then (.int .i64 ((k : Nat) : Int) : Value) else undef), fun v w => v = (if (decide (0 < ((k : Nat) : Int))) = true then (.pointer (some ⟨sb v49, so v49 + k * 3, none⟩) : Value) else undef), fun v w => v = (if (decide (0 < ((k : Nat) : Int))) = true then (.pointer (some ⟨sb v49, so v49 + k * 3, none⟩) : Value) else undef), fun v w => v = (if (decide (0 < ((k : Nat) : Int))) = true then (.int .i64 (((rowsL p l g).getD k default).group) : Value) else undef), fun v w => v = (if (decide (0 < ((k : Nat) : Int))) = true then (v49 : Value) else undef), fun v w => v = (if (decide (0 < ((k : Nat) : Int))) = true then (.int .i64 ((k : Nat) : Int) : Value) else undef), fun v w => v = (if (decide (0 < ((k : Nat) : Int))) = true then (.int .i64 ((k - 1 : Nat) : Int) : Value) else undef), fun v w => v = (if (decide (0 < ((k : Nat) : Int))) = true then (.pointer (some ⟨sb v49, so v49 + (k - 1) * 3, none⟩) : Value) else undef), fun v w => v = (if (decide (0 < ((k : Nat) : Int))) = true then (.pointer (some ⟨sb v49, so v49 + (k - 1) * 3, none⟩) : Value) else undef), fun v w => v = (if (decide (0 < ((k : Nat) : Int))) = true then (.int .i64 (((rowsL p l g).getD (k - 1) default).group) : Value) else undef), fun v w => v = (if (decide (0 < ((k : Nat) : Int))) = true then (.bool (decide ((((rowsL p l g).getD k default).group) ≤ (((rowsL p l g).getD (k - 1) default).group))) : Value) else undef), fun v w => v = (.bool ((decide (0 < ((k : Nat) : Int))) && (decide ((((rowsL p l g).getD k default).group) ≤ (((rowsL p l g).getD (k - 1) default).group)))) : Value)]) [[], [0], [0, 1], [0, 1, 2], [0, 1, 2], [0, 1, 2, 3, 4], [0, 1, 2, 3, 4, 5], [0, 1, 2, 3, 4, 5, 6], [0, 1, 2], [0, 1, 2], [0, 1, 2, 9], [0, 1, 2, 8, 9, 10], [0, 1, 2, 8, 9, 10, 11], [0, 1, 2, 8, 9, 10, 11, 12], [0, 1, 2, 3, 4, 5, 6, 7, 8, 9, 10, 11, 12, 13], [0, 1, 2, 3, 4, 5, 6, 7, 8, 9, 10, 11, 12, 13, 14]] 16 (by kernel_rfl) (by kernel_rfl) (by kernel_rfl) (fun w => Chg.refl _ w) (fun _ _ _ h1 h2 => h1.trans h2) (stabL ⟨fun _ _ _ _ h => h, fun _ _ _ _ h => h, fun _ _ _ _ h => h, fun _ _ _ _ h => h, fun _ _ _ _ h => h, fun _ _ _ _ h => h, fun _ _ _ _ h => h, fun _ _ _ _ h => h, fun _ _ _ _ h => h, fun _ _ _ _ h => h, fun _ _ _ _ h => h, fun _ _ _ _ h => h, fun _ _ _ _ h => h, fun _ _ _ _ h => h, fun _ _ _ _ h => h, fun _ _ _ _ h => h, trivial⟩) ?_
      intro w37 qh1 qh2 qh3 qh4
      have hx176 := ext_same qh1 qh2 qh3 qh4
      refine ⟨⟨?_, ?_, ?_, ?_, ?_, ?_, ?_, ?_, ?_, ?_, ?_, ?_, ?_, ?_, ?_, ?_, trivial⟩, ?_⟩
      · intro vals w38 hR177 hA
        have hs178 := hR177.size
        refine obl rfl ?_
        exact ov_move (v := .int .i64 ((k : Nat) : Int)) rfl ⟨Chg.refl _ _, rfl⟩
      · intro vals w39 hR179 hA
        have hs180 := hR179.size
        have e0 : (vals 0) = (.int .i64 ((k : Nat) : Int) : Value) := hA 0 (by decide)
        refine obl rfl ?_
        exact ov_gtr (k := .i64) (a := ((k : Nat) : Int)) (b := 0) (show _ = (.int .i64 ((k : Nat) : Int) : Value) from e0) rfl ⟨Chg.refl _ _, rfl⟩
      · intro vals w40 hR181 hA
        have hs182 := hR181.size
        have e1 : (vals 1) = (.bool (decide (0 < ((k : Nat) : Int))) : Value) := hA 1 (by decide)
        refine obl rfl ?_
        exact ov_move (v := .bool (decide (0 < ((k : Nat) : Int)))) (show _ = (.bool (decide (0 < ((k : Nat) : Int))) : Value) from e1) ⟨Chg.refl _ _, rfl⟩
      · intro vals w41 hR183 hA
        have hs184 := hR183.size
        have e2 : (vals 2) = (.bool (decide (0 < ((k : Nat) : Int))) : Value) := hA 2 (by decide)
        refine oblc rfl rfl (show _ = (.bool (decide (0 < ((k : Nat) : Int))) : Value) from e2) (fun hb185 => ?_) (fun hb185 => (if_neg hb185).symm)
        have hl186 : (decide (0 < ((k : Nat) : Int))) = true := hb185
        have hl186 := of_decide_eq_true hl186
        exact ov_move (v := v49) rfl ⟨Chg.refl _ _, (if_pos hb185).symm⟩
      · intro vals w42 hR187 hA
        have hs188 := hR187.size
        have e2 : (vals 2) = (.bool (decide (0 < ((k : Nat) : Int))) : Value) := hA 2 (by decide)
        refine oblc rfl rfl (show _ = (.bool (decide (0 < ((k : Nat) : Int))) : Value) from e2) (fun hb189 => ?_) (fun hb189 => (if_neg hb189).symm)
        have hl190 : (decide (0 < ((k : Nat) : Int))) = true := hb189
        have hl190 := of_decide_eq_true hl190
        exact ov_move (v := .int .i64 ((k : Nat) : Int)) rfl ⟨Chg.refl _ _, (if_pos hb189).symm⟩
      · intro vals w43 hR191 hA
        have hs192 := hR191.size
        have e2 : (vals 2) = (.bool (decide (0 < ((k : Nat) : Int))) : Value) := hA 2 (by decide)
        have e3 : (vals 3) = (if (decide (0 < ((k : Nat) : Int))) = true then (v49 : Value) else undef) := hA 3 (by decide)
        have e4 : (vals 4) = (if (decide (0 < ((k : Nat) : Int))) = true then (.int .i64 ((k : Nat) : Int) : Value) else undef) := hA 4 (by decide)
        refine oblc rfl rfl (show _ = (.bool (decide (0 < ((k : Nat) : Int))) : Value) from e2) (fun hb193 => ?_) (fun hb193 => (if_neg hb193).symm)
        have hl194 : (decide (0 < ((k : Nat) : Int))) = true := hb193
        have hl194 := of_decide_eq_true hl194
        have hi195 : k < (rowsL p l g).length := by omega
        have h197 := hf48r.ext hxO
        have hi196 : k < (rowsL p l g).length := by omega
        obtain ⟨hc196, hok196⟩ := h197.row hi196
        rw [← getD_at default hi196] at hc196 hok196
        exact ov_indexAddrN (k := 3) (i := k) Try.underlying28 Try.sizeOf31 (show _ = (v49 : Value) from (Eq.trans e3 (if_pos hb193))) hf48r.sl (show _ = (.int .i64 ((k : Nat) : Int) : Value) from (Eq.trans e4 (if_pos hb193))) hi195 ⟨Chg.refl _ _, (if_pos hb193).symm⟩
      · intro vals w44 hR198 hA
        have hs199 := hR198.size
        have e2 : (vals 2) = (.bool (decide (0 < ((k : Nat) : Int))) : Value) := hA 2 (by decide)
        have e5 : (vals 5) = (if (decide (0 < ((k : Nat) : Int))) = true then (.pointer (some ⟨sb v49, so v49 + k * 3, none⟩) : Value) else undef) := hA 5 (by decide)
        refine oblc rfl rfl (show _ = (.bool (decide (0 < ((k : Nat) : Int))) : Value) from e2) (fun hb200 => ?_) (fun hb200 => (if_neg hb200).symm)
        have hl201 : (decide (0 < ((k : Nat) : Int))) = true := hb200
        have hl201 := of_decide_eq_true hl201
        exact fa31_0 (show _ = (.pointer (some ⟨sb v49, so v49 + k * 3, none⟩) : Value) from (Eq.trans e5 (if_pos hb200))) ⟨Chg.refl _ _, (if_pos hb200).symm⟩
      · intro vals w45 hR202 hA
        have hs203 := hR202.size
        have e2 : (vals 2) = (.bool (decide (0 < ((k : Nat) : Int))) : Value) := hA 2 (by decide)
        have e6 : (vals 6) = (if (decide (0 < ((k : Nat) : Int))) = true then (.pointer (some ⟨sb v49, so v49 + k * 3, none⟩) : Value) else undef) := hA 6 (by decide)
        refine oblc rfl rfl (show _ = (.bool (decide (0 < ((k : Nat) : Int))) : Value) from e2) (fun hb204 => ?_) (fun hb204 => (if_neg hb204).symm)
        have hl205 : (decide (0 < ((k : Nat) : Int))) = true := hb204
        have hl205 := of_decide_eq_true hl205
        have h207 := hf48r.ext hxO
        have hi206 : k < (rowsL p l g).length := by omega
        obtain ⟨hc206, hok206⟩ := h207.row hi206
        rw [← getD_at default hi206] at hc206 hok206
        have h208 := hc206.mono (fun hb => (Chg.trans hx176 hR202).block _ hb (fun h => h))
        exact ov_load1 (v := .int .i64 (((rowsL p l g).getD k default).group)) Try.isAgg3 (show _ = (.pointer (some ⟨sb v49, so v49 + k * 3, none⟩) : Value) from (Eq.trans e6 (if_pos hb204))) (h208.get (j := 0) rfl) ⟨Chg.refl _ _, (if_pos hb204).symm⟩
      · intro vals w46 hR209 hA
        have hs210 := hR209.size
        have e2 : (vals 2) = (.bool (decide (0 < ((k : Nat) : Int))) : Value) := hA 2 (by decide)
        refine oblc rfl rfl (show _ = (.bool (decide (0 < ((k : Nat) : Int))) : Value) from e2) (fun hb211 => ?_) (fun hb211 => (if_neg hb211).symm)
        have hl212 : (decide (0 < ((k : Nat) : Int))) = true := hb211
        have hl212 := of_decide_eq_true hl212
        exact ov_move (v := v49) rfl ⟨Chg.refl _ _, (if_pos hb211).symm⟩
      · intro vals w47 hR213 hA
        have hs214 := hR213.size
        have e2 : (vals 2) = (.bool (decide (0 < ((k : Nat) : Int))) : Value) := hA 2 (by decide)
        refine oblc rfl rfl (show _ = (.bool (decide (0 < ((k : Nat) : Int))) : Value) from e2) (fun hb215 => ?_) (fun hb215 => (if_neg hb215).symm)
        have hl216 : (decide (0 < ((k : Nat) : Int))) = true := hb215
        have hl216 := of_decide_eq_true hl216
        exact ov_move (v := .int .i64 ((k : Nat) : Int)) rfl ⟨Chg.refl _ _, (if_pos hb215).symm⟩
      · intro vals w48 hR217 hA
        have hs218 := hR217.size
        have e2 : (vals 2) = (.bool (decide (0 < ((k : Nat) : Int))) : Value) := hA 2 (by decide)
        have e9 : (vals 9) = (if (decide (0 < ((k : Nat) : Int))) = true then (.int .i64 ((k : Nat) : Int) : Value) else undef) := hA 9 (by decide)
        refine oblc rfl rfl (show _ = (.bool (decide (0 < ((k : Nat) : Int))) : Value) from e2) (fun hb219 => ?_) (fun hb219 => (if_neg hb219).symm)
        have hl220 : (decide (0 < ((k : Nat) : Int))) = true := hb219
        have hl220 := of_decide_eq_true hl220
        have hr221 : InR ((k - 1 : Nat) : Int) := by omega
        exact ov_sub (r := ((k - 1 : Nat) : Int)) (k := .i64) (a := ((k : Nat) : Int)) (b := 1) (show _ = (.int .i64 ((k : Nat) : Int) : Value) from (Eq.trans e9 (if_pos hb219))) rfl (by rw [show (((k : Nat) : Int) - 1 : Int) = ((k - 1 : Nat) : Int) by omega]; exact wrap_in hr221) ⟨Chg.refl _ _, (if_pos hb219).symm⟩
      · intro vals w49 hR222 hA
        have hs223 := hR222.size
        have e2 : (vals 2) = (.bool (decide (0 < ((k : Nat) : Int))) : Value) := hA 2 (by decide)
        have e8 : (vals 8) = (if (decide (0 < ((k : Nat) : Int))) = true then (v49 : Value) else undef) := hA 8 (by decide)
        have e10 : (vals 10) = (if (decide (0 < ((k : Nat) : Int))) = true then (.int .i64 ((k - 1 : Nat) : Int) : Value) else undef) := hA 10 (by decide)
        refine oblc rfl rfl (show _ = (.bool (decide (0 < ((k : Nat) : Int))) : Value) from e2) (fun hb224 => ?_) (fun hb224 => (if_neg hb224).symm)
        have hl225 : (decide (0 < ((k : Nat) : Int))) = true := hb224
        have hl225 := of_decide_eq_true hl225
        have hi226 : k - 1 < (rowsL p l g).length := by omega
        have h228 := hf48r.ext hxO
        have hi227 : k - 1 < (rowsL p l g).length := by omega
        obtain ⟨hc227, hok227⟩ := h228.row hi227
        rw [← getD_at default hi227] at hc227 hok227
        exact ov_indexAddrN (k := 3) (i := k - 1) Try.underlying28 Try.sizeOf31 (show _ = (v49 : Value) from (Eq.trans e8 (if_pos hb224))) hf48r.sl (show _ = (.int .i64 ((k - 1 : Nat) : Int) : Value) from (Eq.trans e10 (if_pos hb224))) hi226 ⟨Chg.refl _ _, (if_pos hb224).symm⟩
      · intro vals w50 hR229 hA
        have hs230 := hR229.size
        have e2 : (vals 2) = (.bool (decide (0 < ((k : Nat) : Int))) : Value) := hA 2 (by decide)
        have e11 : (vals 11) = (if (decide (0 < ((k : Nat) : Int))) = true then (.pointer (some ⟨sb v49, so v49 + (k - 1) * 3, none⟩) : Value) else undef) := hA 11 (by decide)
        refine oblc rfl rfl (show _ = (.bool (decide (0 < ((k : Nat) : Int))) : Value) from e2) (fun hb231 => ?_) (fun hb231 => (if_neg hb231).symm)
        have hl232 : (decide (0 < ((k : Nat) : Int))) = true := hb231
        have hl232 := of_decide_eq_true hl232
        exact fa31_0 (show _ = (.pointer (some ⟨sb v49, so v49 + (k - 1) * 3, none⟩) : Value) from (Eq.trans e11 (if_pos hb231))) ⟨Chg.refl _ _, (if_pos hb231).symm⟩
      · intro vals w51 hR233 hA
        have hs234 := hR233.size
        have e2 : (vals 2) = (.bool (decide (0 < ((k : Nat) : Int))) : Value) := hA 2 (by decide)
        have e12 : (vals 12) = (if (decide (0 < ((k : Nat) : Int))) = true then (.pointer (some ⟨sb v49, so v49 + (k - 1) * 3, none⟩) : Value) else undef) := hA 12 (by decide)
        refine oblc rfl rfl (show _ = (.bool (decide (0 < ((k : Nat) : Int))) : Value) from e2) (fun hb235 => ?_) (fun hb235 => (if_neg hb235).symm)
        have hl236 : (decide (0 < ((k : Nat) : Int))) = true := hb235
        have hl236 := of_decide_eq_true hl236
        have h238 := hf48r.ext hxO
        have hi237 : k - 1 < (rowsL p l g).length := by omega
        obtain ⟨hc237, hok237⟩ := h238.row hi237
        rw [← getD_at default hi237] at hc237 hok237
        have h239 := hc237.mono (fun hb => (Chg.trans hx176 hR233).block _ hb (fun h => h))
        exact ov_load1 (v := .int .i64 (((rowsL p l g).getD (k - 1) default).group)) Try.isAgg3 (show _ = (.pointer (some ⟨sb v49, so v49 + (k - 1) * 3, none⟩) : Value) from (Eq.trans e12 (if_pos hb235))) (h239.get (j := 0) rfl) ⟨Chg.refl _ _, (if_pos hb235).symm⟩
      · intro vals w52 hR240 hA
        have hs241 := hR240.size
        have e2 : (vals 2) = (.bool (decide (0 < ((k : Nat) : Int))) : Value) := hA 2 (by decide)
        have e7 : (vals 7) = (if (decide (0 < ((k : Nat) : Int))) = true then (.int .i64 (((rowsL p l g).getD k default).group) : Value) else undef) := hA 7 (by decide)
        have e13 : (vals 13) = (if (decide (0 < ((k : Nat) : Int))) = true then (.int .i64 (((rowsL p l g).getD (k - 1) default).group) : Value) else undef) := hA 13 (by decide)
        refine oblc rfl rfl (show _ = (.bool (decide (0 < ((k : Nat) : Int))) : Value) from e2) (fun hb242 => ?_) (fun hb242 => (if_neg hb242).symm)
        have hl243 : (decide (0 < ((k : Nat) : Int))) = true := hb242
        have hl243 := of_decide_eq_true hl243
        exact ov_leq (k := .i64) (a := ((rowsL p l g).getD k default).group) (b := ((rowsL p l g).getD (k - 1) default).group) (show _ = (.int .i64 (((rowsL p l g).getD k default).group) : Value) from (Eq.trans e7 (if_pos hb242))) (show _ = (.int .i64 (((rowsL p l g).getD (k - 1) default).group) : Value) from (Eq.trans e13 (if_pos hb242))) ⟨Chg.refl _ _, (if_pos hb242).symm⟩
      · intro vals w53 hR244 hA
        have hs245 := hR244.size
        have e2 : (vals 2) = (.bool (decide (0 < ((k : Nat) : Int))) : Value) := hA 2 (by decide)
        have e14 : (vals 14) = (if (decide (0 < ((k : Nat) : Int))) = true then (.bool (decide ((((rowsL p l g).getD k default).group) ≤ (((rowsL p l g).getD (k - 1) default).group))) : Value) else undef) := hA 14 (by decide)
        refine obl rfl ?_
        exact ov_pick_and (b := decide (0 < ((k : Nat) : Int))) (b' := decide ((((rowsL p l g).getD k default).group) ≤ (((rowsL p l g).getD (k - 1) default).group))) (show _ = (.bool (decide (0 < ((k : Nat) : Int))) : Value) from e2) (fun hbp => (show _ = (.bool (decide ((((rowsL p l g).getD k default).group) ≤ (((rowsL p l g).getD (k - 1) default).group))) : Value) from (Eq.trans e14 (if_pos hbp)))) ⟨Chg.refl _ _, rfl⟩
      intro vals w54 hR246 hA
      have hs247 := hR246.size
      have hs248 := hx176.size
      have e15 : (vals 15) = (.bool ((decide (0 < ((k : Nat) : Int))) && (decide ((((rowsL p l g).getD k default).group) ≤ (((rowsL p l g).getD (k - 1) default).group)))) : Value) := hA 15 (by decide)
      refine st_env (kv := [(1, vl), (2, vg), (3, .pointer (some ⟨b2, 0, none⟩)), (7, v49), (8, .int .i64 (tot)), (9, .int .i64 ((k : Nat) : Int)), (48, .int .i64 ((k : Nat) : Int)), (49, v49), (50, .int .i64 (((rowsL p l g).length : Nat) : Int)), (51, .bool true), (69, .bool ((decide (0 < ((k : Nat) : Int))) && (decide ((((rowsL p l g).getD k default).group) ≤ (((rowsL p l g).getD (k - 1) default).group)))))]) ⟨rfl, rfl, rfl, rfl, rfl, rfl, rfl, rfl, rfl, rfl, (by exact e15), trivial⟩ (fun ρ54 => ?_)
      clear e15
      clear hA qh1 qh2 qh3 qh4
      refine st_nil ?_
      cases hc249 : (decide (0 < ((k : Nat) : Int))) && (decide ((((rowsL p l g).getD k default).group) ≤ (((rowsL p l g).getD (k - 1) default).group)))
      · skip
        simp only [Bool.and_eq_true, Bool.or_eq_true, Bool.and_eq_false_iff, Bool.or_eq_false_iff, decide_eq_true_eq, decide_eq_false_iff_not, Bool.not_eq_true', Bool.not_eq_false', Int.not_lt, Int.not_le] at hc249
        refine WP_cond_f rfl ?_
        refine WP_skip ?_
        refine WP_seq ?_
        refine WP_region0 (by kernel_rfl) (fun _ => ?_)
        refine st (ov_assign (v := .int .i64 (0)) rfl ?_)
        refine st_nil ?_
        refine WP_seq ?_
        refine WP_region0 (by kernel_rfl) (fun _ => ?_)
        refine st (ov_assign (v := .int .i64 (0)) rfl ?_)
        refine st_nil ?_
        refine WP_seq ?_
        refine WP_seq ?_
        refine WP_region0 (by kernel_rfl) (fun _ => ?_)
        refine st (ov_assign (v := .int .i64 (0)) rfl ?_)
        refine st_nil ?_
        refine WP_block ?_
        refine WP_loop (fun mq σ wq => ∃ (i : Nat) (n : Int) (v : Int) (ρ : Env), mq = l.length - i ∧ σ = setAll ρ [(1, vl), (2, vg), (3, .pointer (some ⟨b2, 0, none⟩)), (7, v49), (8, .int .i64 (tot)), (9, .int .i64 ((k : Nat) : Int)), (10, .int .i64 (n)), (11, .int .i64 (v)), (12, .int .i64 ((i : Nat) : Int))] ∧ (Ext w54 wq) ∧ (i ≤ l.length) ∧ (0 ≤ n ∧ n ≤ (i : Int)) ∧ (InR v) ∧ ((n, v) = nv p l g ((rowsL p l g).getD k default).group i)) ⟨0, 0, 0, _, rfl, setAll_self ⟨rfl, rfl, rfl, rfl, rfl, rfl, rfl, rfl, rfl, trivial⟩, (Chg.refl _ _), Nat.zero_le _, by omega, by decide, (nv_zero p l g _).symm⟩ ?_
        rintro m250 σ251 w55 ⟨i, n, v, ρ55, rfl, rfl, hxI, hiI, hnb, hvr, hnv⟩
        have hxIs := hxI.size
        refine WP_seq ?_
        refine WP_seq ?_
        refine WP_region0 (by kernel_rfl) (fun _ => ?_)
        refine st (ov_move (v := .int .i64 ((i : Nat) : Int)) rfl ?_)
        refine st (ov_move (v := vl) rfl ?_)
        refine st (ov_len (n := l.length) Try.underlying24 rfl h45.sl ?_)
        refine st (ov_lss (k := .i64) (a := ((i : Nat) : Int)) (b := ((l.length : Nat) : Int)) rfl rfl ?_)
        refine st_nil ?_
        cases hc252 : decide (((i : Nat) : Int) < ((l.length : Nat) : Int))
        · skip
          have hc252 := of_decide_eq_false hc252
          refine WP_cond_f rfl ?_
          refine WP_exit ?_
          refine blk_exit ?_
          refine WP_seq ?_
          refine WP_seq ?_
          refine WP_region (by kernel_rfl) ?_
          refine st (ov_move (v := .int .i64 (n)) rfl ?_)
          refine st (ov_eql (k := .i64) (a := n) (b := 0) rfl rfl ?_)
          refine st (ov_move (v := .bool (decide (n = 0))) rfl ?_)
          refine stc (V := v49) rfl rfl (fun hb253 => ?_) ?_
          · have hl254 : (decide (n = 0)) = false := hb253
            have hl254 := of_decide_eq_false hl254
            exact ov_move (v := v49) rfl ⟨rfl, rfl⟩
          refine stc (V := .int .i64 ((k : Nat) : Int)) rfl rfl (fun hb255 => ?_) ?_
          · have hl256 : (decide (n = 0)) = false := hb255
            have hl256 := of_decide_eq_false hl256
            exact ov_move (v := .int .i64 ((k : Nat) : Int)) rfl ⟨rfl, rfl⟩
          refine stc (V := .pointer (some ⟨sb v49, so v49 + k * 3, none⟩)) rfl rfl (fun hb257 => ?_) ?_
          · have hl258 : (decide (n = 0)) = false := hb257
            have hl258 := of_decide_eq_false hl258
            have hi259 : k < (rowsL p l g).length := by omega
            have h261 := hf48r.ext (Chg.trans (Chg.trans (Chg.trans hxO hx176) hR246) hxI)
            have hi260 : k < (rowsL p l g).length := by omega
            obtain ⟨hc260, hok260⟩ := h261.row hi260
            rw [← getD_at default hi260] at hc260 hok260
            exact ov_indexAddrN (k := 3) (i := k) Try.underlying28 Try.sizeOf31 (show _ = (v49 : Value) from (if_pos hb257)) hf48r.sl (show _ = (.int .i64 ((k : Nat) : Int) : Value) from (if_pos hb257)) hi259 ⟨rfl, rfl⟩
          refine stc (V := .pointer (some ⟨sb v49, so v49 + k * 3 + 2, none⟩)) rfl rfl (fun hb262 => ?_) ?_
          · have hl263 : (decide (n = 0)) = false := hb262
            have hl263 := of_decide_eq_false hl263
            exact fa31_2 (show _ = (.pointer (some ⟨sb v49, so v49 + k * 3, none⟩) : Value) from (if_pos hb262)) ⟨rfl, rfl⟩
          refine stc (V := .int .i64 (((rowsL p l g).getD k default).count)) rfl rfl (fun hb264 => ?_) ?_
          · have hl265 : (decide (n = 0)) = false := hb264
            have hl265 := of_decide_eq_false hl265
            have h267 := hf48r.ext (Chg.trans (Chg.trans (Chg.trans hxO hx176) hR246) hxI)
            have hi266 : k < (rowsL p l g).length := by omega
            obtain ⟨hc266, hok266⟩ := h267.row hi266
            rw [← getD_at default hi266] at hc266 hok266
            exact ov_load1 (v := .int .i64 (((rowsL p l g).getD k default).count)) Try.isAgg3 (show _ = (.pointer (some ⟨sb v49, so v49 + k * 3 + 2, none⟩) : Value) from (if_pos hb264)) (hc266.get (j := 2) rfl) ⟨rfl, rfl⟩
          refine stc (V := .int .i64 (n)) rfl rfl (fun hb268 => ?_) ?_
          · have hl269 : (decide (n = 0)) = false := hb268
            have hl269 := of_decide_eq_false hl269
            exact ov_move (v := .int .i64 (n)) rfl ⟨rfl, rfl⟩
          refine stc (V := .bool (!decide ((((rowsL p l g).getD k default).count) = n))) rfl rfl (fun hb270 => ?_) ?_
          · have hl271 : (decide (n = 0)) = false := hb270
            have hl271 := of_decide_eq_false hl271
            exact ov_neq (k := .i64) (a := ((rowsL p l g).getD k default).count) (b := n) (show _ = (.int .i64 (((rowsL p l g).getD k default).count) : Value) from (if_pos hb270)) (show _ = (.int .i64 (n) : Value) from (if_pos hb270)) ⟨rfl, rfl⟩
          refine st (ov_pick_or (b := decide (n = 0)) (b' := !decide ((((rowsL p l g).getD k default).count) = n)) rfl (fun hbp => (show _ = (.bool (!decide ((((rowsL p l g).getD k default).count) = n)) : Value) from (if_pos hbp))) ?_)
          refine st (ov_move (v := .bool ((decide (n = 0)) || (!decide ((((rowsL p l g).getD k default).count) = n)))) rfl ?_)
          refine stc (V := v49) rfl rfl (fun hb272 => ?_) ?_
          · have hl273 : ((decide (n = 0)) || (!decide ((((rowsL p l g).getD k default).count) = n))) = false := hb272
            simp only [Bool.and_eq_true, Bool.or_eq_true, Bool.and_eq_false_iff, Bool.or_eq_false_iff, decide_eq_true_eq, decide_eq_false_iff_not, Bool.not_eq_true', Bool.not_eq_false', Int.not_lt, Int.not_le] at hl273
            exact ov_move (v := v49) rfl ⟨rfl, rfl⟩
          refine stc (V := .int .i64 ((k : Nat) : Int)) rfl rfl (fun hb274 => ?_) ?_
          · have hl275 : ((decide (n = 0)) || (!decide ((((rowsL p l g).getD k default).count) = n))) = false := hb274
            simp only [Bool.and_eq_true, Bool.or_eq_true, Bool.and_eq_false_iff, Bool.or_eq_false_iff, decide_eq_true_eq, decide_eq_false_iff_not, Bool.not_eq_true', Bool.not_eq_false', Int.not_lt, Int.not_le] at hl275
            exact ov_move (v := .int .i64 ((k : Nat) : Int)) rfl ⟨rfl, rfl⟩
          refine stc (V := .pointer (some ⟨sb v49, so v49 + k * 3, none⟩)) rfl rfl (fun hb276 => ?_) ?_
          · have hl277 : ((decide (n = 0)) || (!decide ((((rowsL p l g).getD k default).count) = n))) = false := hb276
            simp only [Bool.and_eq_true, Bool.or_eq_true, Bool.and_eq_false_iff, Bool.or_eq_false_iff, decide_eq_true_eq, decide_eq_false_iff_not, Bool.not_eq_true', Bool.not_eq_false', Int.not_lt, Int.not_le] at hl277
            have hi278 : k < (rowsL p l g).length := by omega
            exact ov_indexAddrN (k := 3) (i := k) Try.underlying28 Try.sizeOf31 (show _ = (v49 : Value) from (if_pos hb276)) hf48r.sl (show _ = (.int .i64 ((k : Nat) : Int) : Value) from (if_pos hb276)) hi278 ⟨rfl, rfl⟩
          refine stc (V := .pointer (some ⟨sb v49, so v49 + k * 3 + 1, none⟩)) rfl rfl (fun hb279 => ?_) ?_
          · have hl280 : ((decide (n = 0)) || (!decide ((((rowsL p l g).getD k default).count) = n))) = false := hb279
            simp only [Bool.and_eq_true, Bool.or_eq_true, Bool.and_eq_false_iff, Bool.or_eq_false_iff, decide_eq_true_eq, decide_eq_false_iff_not, Bool.not_eq_true', Bool.not_eq_false', Int.not_lt, Int.not_le] at hl280
            exact fa31_1 (show _ = (.pointer (some ⟨sb v49, so v49 + k * 3, none⟩) : Value) from (if_pos hb279)) ⟨rfl, rfl⟩
          refine stc (V := .int .i64 (((rowsL p l g).getD k default).value)) rfl rfl (fun hb281 => ?_) ?_
          · have hl282 : ((decide (n = 0)) || (!decide ((((rowsL p l g).getD k default).count) = n))) = false := hb281
            simp only [Bool.and_eq_true, Bool.or_eq_true, Bool.and_eq_false_iff, Bool.or_eq_false_iff, decide_eq_true_eq, decide_eq_false_iff_not, Bool.not_eq_true', Bool.not_eq_false', Int.not_lt, Int.not_le] at hl282
            have h284 := hf48r.ext (Chg.trans (Chg.trans (Chg.trans hxO hx176) hR246) hxI)
            have hi283 : k < (rowsL p l g).length := by omega
            obtain ⟨hc283, hok283⟩ := h284.row hi283
            rw [← getD_at default hi283] at hc283 hok283
            exact ov_load1 (v := .int .i64 (((rowsL p l g).getD k default).value)) Try.isAgg3 (show _ = (.pointer (some ⟨sb v49, so v49 + k * 3 + 1, none⟩) : Value) from (if_pos hb281)) (hc283.get (j := 1) rfl) ⟨rfl, rfl⟩
          refine stc (V := .int .i64 (v)) rfl rfl (fun hb285 => ?_) ?_
          · have hl286 : ((decide (n = 0)) || (!decide ((((rowsL p l g).getD k default).count) = n))) = false := hb285
            simp only [Bool.and_eq_true, Bool.or_eq_true, Bool.and_eq_false_iff, Bool.or_eq_false_iff, decide_eq_true_eq, decide_eq_false_iff_not, Bool.not_eq_true', Bool.not_eq_false', Int.not_lt, Int.not_le] at hl286
            exact ov_move (v := .int .i64 (v)) rfl ⟨rfl, rfl⟩
          refine stc (V := .bool (!decide ((((rowsL p l g).getD k default).value) = v))) rfl rfl (fun hb287 => ?_) ?_
          · have hl288 : ((decide (n = 0)) || (!decide ((((rowsL p l g).getD k default).count) = n))) = false := hb287
            simp only [Bool.and_eq_true, Bool.or_eq_true, Bool.and_eq_false_iff, Bool.or_eq_false_iff, decide_eq_true_eq, decide_eq_false_iff_not, Bool.not_eq_true', Bool.not_eq_false', Int.not_lt, Int.not_le] at hl288
            exact ov_neq (k := .i64) (a := ((rowsL p l g).getD k default).value) (b := v) (show _ = (.int .i64 (((rowsL p l g).getD k default).value) : Value) from (if_pos hb287)) (show _ = (.int .i64 (v) : Value) from (if_pos hb287)) ⟨rfl, rfl⟩
          refine st (ov_pick_or (b := (decide (n = 0)) || (!decide ((((rowsL p l g).getD k default).count) = n))) (b' := !decide ((((rowsL p l g).getD k default).value) = v)) rfl (fun hbp => (show _ = (.bool (!decide ((((rowsL p l g).getD k default).value) = v)) : Value) from (if_pos hbp))) ?_)
          refine st_nil ?_
          cases hc289 : ((decide (n = 0)) || (!decide ((((rowsL p l g).getD k default).count) = n))) || (!decide ((((rowsL p l g).getD k default).value) = v))
          · skip
            simp only [Bool.and_eq_true, Bool.or_eq_true, Bool.and_eq_false_iff, Bool.or_eq_false_iff, decide_eq_true_eq, decide_eq_false_iff_not, Bool.not_eq_true', Bool.not_eq_false', Int.not_lt, Int.not_le] at hc289
            refine WP_cond_f rfl ?_
            refine WP_skip ?_
            refine WP_region0 (by kernel_rfl) (fun _ => ?_)
            refine st (ov_move (v := .int .i64 (tot)) rfl ?_)
            refine st (ov_move (v := .int .i64 (n)) rfl ?_)
            have hr290 : InR (tot + n) := by omega
            refine st (ov_add (r := tot + n) (k := .i64) (a := tot) (b := n) rfl rfl (wrap_in hr290) ?_)
            refine st (ov_assign (v := .int .i64 (tot + n)) rfl ?_)
            refine st_nil ?_
            refine WP_region0 (by kernel_rfl) (fun _ => ?_)
            refine st (ov_move (v := .int .i64 ((k : Nat) : Int)) rfl ?_)
            have hr291 : InR ((k + 1 : Nat) : Int) := by omega
            refine st (ov_add (r := ((k + 1 : Nat) : Int)) (k := .i64) (a := ((k : Nat) : Int)) (b := 1) rfl rfl (by rw [show (((k : Nat) : Int) + 1 : Int) = ((k + 1 : Nat) : Int) by omega]; exact wrap_in hr291) ?_)
            refine st (ov_assign (v := .int .i64 ((k + 1 : Nat) : Int)) rfl ?_)
            refine st_nil ?_
            exact ⟨_, by omega, k + 1, tot + n, _, rfl, setAll_self ⟨rfl, rfl, rfl, rfl, rfl, rfl, trivial⟩, (Chg.trans (Chg.trans (Chg.trans hxO hx176) hR246) hxI), by omega, by omega, (by rw [sumC_take (by omega), ← htot]; omega)⟩
          · skip
            simp only [Bool.and_eq_true, Bool.or_eq_true, Bool.and_eq_false_iff, Bool.or_eq_false_iff, decide_eq_true_eq, decide_eq_false_iff_not, Bool.not_eq_true', Bool.not_eq_false', Int.not_lt, Int.not_le] at hc289
            refine WP_cond_t rfl ?_
            refine WP_seq ?_
            refine WP_region0 (by kernel_rfl) (fun _ => ?_)
            refine st (ov_assign (v := .bool false) rfl ?_)
            refine st_nil ?_
            refine WP_ret ?_
            refine fin1 Try.results3 (show _ = (.bool false : Value) from rfl) ?_
            exfalso
            first | (have h9 := rows_lt (p := p) (l := l) (g := g) (k := k) (by omega) (by omega); omega) | (have h9 := mean_row (k := k) (by omega) (by omega) hnv; omega)
        · skip
          have hc252 := of_decide_eq_true hc252
          refine WP_cond_t rfl ?_
          refine WP_skip ?_
          refine WP_seq ?_
          refine WP_block ?_
          refine WP_seq ?_
          refine WP_seq ?_
          refine WP_draw Ext (AL [fun v w => v = (.agg (p.cells).toArray : Value), fun v w => v = (vl : Value), fun v w => v = (.int .i64 ((i : Nat) : Int) : Value), fun v w => v = (.pointer (some ⟨sb vl, so vl + i * 13, none⟩) : Value), fun v w => v = (.agg ((l.getD i default).cells (cellV w55 (sb vl) (so vl + i * 13 + 3))).toArray : Value), fun v w => v = (v49 : Value), fun v w => v = (.int .i64 ((k : Nat) : Int) : Value), fun v w => v = (.pointer (some ⟨sb v49, so v49 + k * 3, none⟩) : Value), fun v w => v = (.pointer (some ⟨sb v49, so v49 + k * 3, none⟩) : Value), fun v w => v = (.int .i64 (((rowsL p l g).getD k default).group) : Value), fun v w => v = (vg : Value), fun v w => v = (.int .i64 ((i : Nat) : Int) : Value), fun v w => v = (.int .i64 (regI g i) : Value)]) [[], [], [], [1, 2], [1, 2, 3], [], [], [5, 6], [5, 6, 7], [5, 6, 7, 8], [], [], [10, 11], [0, 1, 2, 3, 4, 5, 6, 7, 8, 9, 10, 11, 12], [0, 1, 2, 3, 4, 5, 6, 7, 8, 9, 10, 11, 12, 13]] 13 (by kernel_rfl) (by kernel_rfl) (by kernel_rfl) (fun w => Chg.refl _ w) (fun _ _ _ h1 h2 => h1.trans h2) (stabL ⟨fun _ _ _ _ h => h, fun _ _ _ _ h => h, fun _ _ _ _ h => h, fun _ _ _ _ h => h, fun _ _ _ _ h => h, fun _ _ _ _ h => h, fun _ _ _ _ h => h, fun _ _ _ _ h => h, fun _ _ _ _ h => h, fun _ _ _ _ h => h, fun _ _ _ _ h => h, fun _ _ _ _ h => h, fun _ _ _ _ h => h, trivial⟩) ?_
          intro w56 qh1 qh2 qh3 qh4
          have hx292 := ext_same qh1 qh2 qh3 qh4
          refine ⟨⟨?_, ?_, ?_, ?_, ?_, ?_, ?_, ?_, ?_, ?_, ?_, ?_, ?_, trivial⟩, ?_⟩
          · intro vals w57 hR293 hA
            have hs294 := hR293.size
            refine obl rfl ?_
            have h295 := (Chg.trans (Chg.trans (Chg.trans (Chg.trans (Chg.trans (Chg.trans hx47 hxO) hx176) hR246) hxI) hx292) hR293).keep h44 (fun h => h)
            exact ov_loadk (k := 5) Try.isAgg23 Try.sizeOf23 rfl rfl (CellsAt.all h295) ⟨Chg.refl _ _, rfl⟩
          · intro vals w58 hR296 hA
            have hs297 := hR296.size
            refine obl rfl ?_
            exact ov_move (v := vl) rfl ⟨Chg.refl _ _, rfl⟩
          · intro vals w59 hR298 hA
            have hs299 := hR298.size
            refine obl rfl ?_
            exact ov_move (v := .int .i64 ((i : Nat) : Int)) rfl ⟨Chg.refl _ _, rfl⟩
          · intro vals w60 hR300 hA
            have hs301 := hR300.size
            have e1 : (vals 1) = (vl : Value) := hA 1 (by decide)
            have e2 : (vals 2) = (.int .i64 ((i : Nat) : Int) : Value) := hA 2 (by decide)
            refine obl rfl ?_
            have hi302 : i < l.length := by omega
            have h304 := h45.ext (Chg.trans (Chg.trans (Chg.trans (Chg.trans hx47 hxO) hx176) hR246) hxI)
            have hi303 : i < l.length := by omega
            obtain ⟨hc303, hd303_0, hok303⟩ := h304.ent hi303
            rw [← getD_at default hi303] at hc303 hd303_0 hok303
            exact ov_indexAddrN (k := 13) (i := i) Try.underlying24 Try.sizeOf38 (show _ = (vl : Value) from e1) h45.sl (show _ = (.int .i64 ((i : Nat) : Int) : Value) from e2) hi302 ⟨Chg.refl _ _, rfl⟩
          · intro vals w61 hR305 hA
            have hs306 := hR305.size
            have e3 : (vals 3) = (.pointer (some ⟨sb vl, so vl + i * 13, none⟩) : Value) := hA 3 (by decide)
            refine obl rfl ?_
            have h308 := h45.ext (Chg.trans (Chg.trans (Chg.trans (Chg.trans hx47 hxO) hx176) hR246) hxI)
            have hi307 : i < l.length := by omega
            obtain ⟨hc307, hd307_0, hok307⟩ := h308.ent hi307
            rw [← getD_at default hi307] at hc307 hd307_0 hok307
            have h309 := hc307.mono (fun hb => (Chg.trans hx292 hR305).block _ hb (fun h => h))
            exact ov_loadk (k := 13) Try.isAgg38 Try.sizeOf38 rfl (show _ = (.pointer (some ⟨sb vl, so vl + i * 13, none⟩) : Value) from e3) h309 ⟨Chg.refl _ _, rfl⟩
          · intro vals w62 hR310 hA
            have hs311 := hR310.size
            refine obl rfl ?_
            exact ov_move (v := v49) rfl ⟨Chg.refl _ _, rfl⟩
          · intro vals w63 hR312 hA
            have hs313 := hR312.size
            refine obl rfl ?_
            exact ov_move (v := .int .i64 ((k : Nat) : Int)) rfl ⟨Chg.refl _ _, rfl⟩
          · intro vals w64 hR314 hA
            have hs315 := hR314.size
            have e5 : (vals 5) = (v49 : Value) := hA 5 (by decide)
            have e6 : (vals 6) = (.int .i64 ((k : Nat) : Int) : Value) := hA 6 (by decide)
            refine obl rfl ?_
            have hi316 : k < (rowsL p l g).length := by omega
            have h318 := hf48r.ext (Chg.trans (Chg.trans (Chg.trans hxO hx176) hR246) hxI)
            have hi317 : k < (rowsL p l g).length := by omega
            obtain ⟨hc317, hok317⟩ := h318.row hi317
            rw [← getD_at default hi317] at hc317 hok317
            exact ov_indexAddrN (k := 3) (i := k) Try.underlying28 Try.sizeOf31 (show _ = (v49 : Value) from e5) hf48r.sl (show _ = (.int .i64 ((k : Nat) : Int) : Value) from e6) hi316 ⟨Chg.refl _ _, rfl⟩
          · intro vals w65 hR319 hA
            have hs320 := hR319.size
            have e7 : (vals 7) = (.pointer (some ⟨sb v49, so v49 + k * 3, none⟩) : Value) := hA 7 (by decide)
            refine obl rfl ?_
            exact fa31_0 (show _ = (.pointer (some ⟨sb v49, so v49 + k * 3, none⟩) : Value) from e7) ⟨Chg.refl _ _, rfl⟩
          · intro vals w66 hR321 hA
            have hs322 := hR321.size
            have e8 : (vals 8) = (.pointer (some ⟨sb v49, so v49 + k * 3, none⟩) : Value) := hA 8 (by decide)
            refine obl rfl ?_
            have h324 := hf48r.ext (Chg.trans (Chg.trans (Chg.trans hxO hx176) hR246) hxI)
            have hi323 : k < (rowsL p l g).length := by omega
            obtain ⟨hc323, hok323⟩ := h324.row hi323
            rw [← getD_at default hi323] at hc323 hok323
            have h325 := hc323.mono (fun hb => (Chg.trans hx292 hR321).block _ hb (fun h => h))
            exact ov_load1 (v := .int .i64 (((rowsL p l g).getD k default).group)) Try.isAgg3 (show _ = (.pointer (some ⟨sb v49, so v49 + k * 3, none⟩) : Value) from e8) (h325.get (j := 0) rfl) ⟨Chg.refl _ _, rfl⟩
          · intro vals w67 hR326 hA
            have hs327 := hR326.size
            refine obl rfl ?_
            exact ov_move (v := vg) rfl ⟨Chg.refl _ _, rfl⟩
          · intro vals w68 hR328 hA
            have hs329 := hR328.size
            refine obl rfl ?_
            exact ov_move (v := .int .i64 ((i : Nat) : Int)) rfl ⟨Chg.refl _ _, rfl⟩
          · intro vals w69 hR330 hA
            have hs331 := hR330.size
            have e10 : (vals 10) = (vg : Value) := hA 10 (by decide)
            have e11 : (vals 11) = (.int .i64 ((i : Nat) : Int) : Value) := hA 11 (by decide)
            refine obl rfl ?_
            have h332 := h46.ext (Chg.trans (Chg.trans (Chg.trans (Chg.trans (Chg.trans (Chg.trans hx47 hxO) hx176) hR246) hxI) hx292) hR330)
            exact ov_call (f := 13) (vals := [vg, .int .i64 ((i : Nat) : Int)]) (cap := []) (show _ = (.func (.func 13) #[] #[] : Value) from rfl) (mapL ⟨(show _ = (vg : Value) from e10), (show _ = (.int .i64 ((i : Nat) : Int) : Value) from e11), trivial⟩) Try.call13 (C_reg h332 (i := i) (by omega)) (fun _ _ h => ⟨h.2, h.1⟩)
          intro vals w70 hR333 hA
          have hs334 := hR333.size
          have hs335 := hx292.size
          have e0 : (vals 0) = (.agg (p.cells).toArray : Value) := hA 0 (by decide)
          have e4 : (vals 4) = (.agg ((l.getD i default).cells (cellV w55 (sb vl) (so vl + i * 13 + 3))).toArray : Value) := hA 4 (by decide)
          have e9 : (vals 9) = (.int .i64 (((rowsL p l g).getD k default).group) : Value) := hA 9 (by decide)
          have e12 : (vals 12) = (.int .i64 (regI g i) : Value) := hA 12 (by decide)
          refine st_env (kv := [(1, vl), (2, vg), (3, .pointer (some ⟨b2, 0, none⟩)), (7, v49), (8, .int .i64 (tot)), (9, .int .i64 ((k : Nat) : Int)), (10, .int .i64 (n)), (11, .int .i64 (v)), (12, .int .i64 ((i : Nat) : Int)), (70, .int .i64 ((i : Nat) : Int)), (71, vl), (72, .int .i64 ((l.length : Nat) : Int)), (73, .bool true), (76, .agg (p.cells).toArray), (80, .agg ((l.getD i default).cells (cellV w55 (sb vl) (so vl + i * 13 + 3))).toArray), (85, .int .i64 (((rowsL p l g).getD k default).group)), (88, .int .i64 (regI g i))]) ⟨rfl, rfl, rfl, rfl, rfl, rfl, rfl, rfl, rfl, rfl, rfl, rfl, rfl, (by exact e0), (by exact e4), (by exact e9), (by exact e12), trivial⟩ (fun ρ70 => ?_)
          clear e0 e4 e9 e12
          clear hA qh1 qh2 qh3 qh4
          have h337 := h45.ext (Chg.trans (Chg.trans (Chg.trans (Chg.trans hx47 hxO) hx176) hR246) hxI)
          have hi336 : i < l.length := by omega
          obtain ⟨hc336, hd336_0, hok336⟩ := h337.ent hi336
          rw [← getD_at default hi336] at hc336 hd336_0 hok336
          have h338 := hd336_0.ext (Chg.trans hx292 hR333)
          have h340 := hf48r.ext (Chg.trans (Chg.trans (Chg.trans hxO hx176) hR246) hxI)
          have hi339 : k < (rowsL p l g).length := by omega
          obtain ⟨hc339, hok339⟩ := h340.row hi339
          rw [← getD_at default hi339] at hc339 hok339
          refine st (ov_call (f := 12) (vals := [.agg (p.cells).toArray, .agg ((l.getD i default).cells (cellV w55 (sb vl) (so vl + i * 13 + 3))).toArray, .int .i64 (((rowsL p l g).getD k default).group), .int .i64 (regI g i)]) (cap := []) (show _ = (.func (.func 12) #[] #[] : Value) from rfl) rfl Try.call12 (C_counts op h338 hok336 hok339.group (regI_in h46.allR _)) ?_)
          rintro _ w71 ⟨rfl, hx341⟩
          have hx341s := hx341.size
          refine st (ov_not (a := cntD p (l.getD i default) (((rowsL p l g).getD k default).group) (regI g i)) rfl ?_)
          refine st_nil ?_
          cases hc342 : !(cntD p (l.getD i default) (((rowsL p l g).getD k default).group) (regI g i))
          · skip
            simp only [Bool.and_eq_true, Bool.or_eq_true, Bool.and_eq_false_iff, Bool.or_eq_false_iff, decide_eq_true_eq, decide_eq_false_iff_not, Bool.not_eq_true', Bool.not_eq_false', Int.not_lt, Int.not_le] at hc342
            refine WP_cond_f rfl ?_
            refine WP_skip ?_
            refine WP_seq ?_
            refine WP_region0 (by kernel_rfl) (fun _ => ?_)
            refine st (ov_move (v := vl) rfl ?_)
            refine st (ov_move (v := .int .i64 ((i : Nat) : Int)) rfl ?_)
            have hi343 : i < l.length := by omega
            refine st (ov_indexAddrN (k := 13) (i := i) Try.underlying24 Try.sizeOf38 rfl h45.sl rfl hi343 ?_)
            refine st (fa38_0 rfl ?_)
            refine st (fa36_7 rfl ?_)
            have h344 := hc336.mono (fun hb => (Chg.trans (Chg.trans hx292 hR333) hx341).block _ hb (fun h => h))
            refine st (ov_load1 (v := .int .i64 ((l.getD i default).ev.arg)) Try.isAgg3 rfl (h344.get (j := 8) rfl) ?_)
            refine st (ov_assign (v := .int .i64 ((l.getD i default).ev.arg)) rfl ?_)
            refine st_nil ?_
            refine WP_seq ?_
            refine WP_region0 (by kernel_rfl) (fun _ => ?_)
            refine st (ov_move (v := .int .i64 (n)) rfl ?_)
            have hr345 : InR (n + 1) := by omega
            refine st (ov_add (r := n + 1) (k := .i64) (a := n) (b := 1) rfl rfl (wrap_in hr345) ?_)
            refine st (ov_assign (v := .int .i64 (n + 1)) rfl ?_)
            refine st_nil ?_
            refine WP_seq ?_
            refine WP_region0 (by kernel_rfl) (fun _ => ?_)
            refine st (fa23_4 rfl ?_)
            have h346 := (Chg.trans (Chg.trans (Chg.trans (Chg.trans (Chg.trans (Chg.trans (Chg.trans hx47 hxO) hx176) hR246) hxI) hx292) hR333) hx341).keep h44 (fun h => h)
            refine st (ov_load1 (v := .int .i64 (p.pmake)) Try.isAgg3 rfl (blk_cellL h346 rfl) ?_)
            refine st_nil ?_
            refine WP_block ?_
            refine WP_seq ?_
            refine WP_region0 (by kernel_rfl) (fun _ => ?_)
            refine st (ov_eql (k := .i64) (a := p.pmake) (b := 1) rfl rfl ?_)
            refine st (ov_assign (v := .bool (decide (p.pmake = 1))) rfl ?_)
            refine st_nil ?_
            cases hc347 : decide (p.pmake = 1)
            · skip
              have hc347 := of_decide_eq_false hc347
              refine WP_cond_f rfl ?_
              refine WP_seq ?_
              refine WP_region0 (by kernel_rfl) (fun _ => ?_)
              refine st (ov_eql (k := .i64) (a := p.pmake) (b := 2) rfl rfl ?_)
              refine st (ov_assign (v := .bool (decide (p.pmake = 2))) rfl ?_)
              refine st_nil ?_
              cases hc348 : decide (p.pmake = 2)
              · skip
                have hc348 := of_decide_eq_false hc348
                refine WP_cond_f rfl ?_
                refine WP_seq ?_
                refine WP_region0 (by kernel_rfl) (fun _ => ?_)
                refine st (ov_eql (k := .i64) (a := p.pmake) (b := 3) rfl rfl ?_)
                refine st (ov_assign (v := .bool (decide (p.pmake = 3))) rfl ?_)
                refine st_nil ?_
                cases hc349 : decide (p.pmake = 3)
                · skip
                  have hc349 := of_decide_eq_false hc349
                  refine WP_cond_f rfl ?_
                  refine WP_seq ?_
                  refine WP_region0 (by kernel_rfl) (fun _ => ?_)
                  refine st (ov_eql (k := .i64) (a := p.pmake) (b := 4) rfl rfl ?_)
                  refine st (ov_assign (v := .bool (decide (p.pmake = 4))) rfl ?_)
                  refine st_nil ?_
                  cases hc350 : decide (p.pmake = 4)
                  · skip
                    have hc350 := of_decide_eq_false hc350
                    refine WP_cond_f rfl ?_
                    refine WP_seq ?_
                    refine WP_region0 (by kernel_rfl) (fun _ => ?_)
                    refine st (ov_eql (k := .i64) (a := p.pmake) (b := 5) rfl rfl ?_)
                    refine st (ov_assign (v := .bool (decide (p.pmake = 5))) rfl ?_)
                    refine st_nil ?_
                    cases hc351 : decide (p.pmake = 5)
                    · skip
                      have hc351 := of_decide_eq_false hc351
                      refine WP_cond_f rfl ?_
                      refine WP_skip ?_
                      refine WP_region0 (by kernel_rfl) (fun _ => ?_)
                      refine st (ov_move (v := .int .i64 ((i : Nat) : Int)) rfl ?_)
                      have hr352 : InR ((i + 1 : Nat) : Int) := by omega
                      refine st (ov_add (r := ((i + 1 : Nat) : Int)) (k := .i64) (a := ((i : Nat) : Int)) (b := 1) rfl rfl (by rw [show (((i : Nat) : Int) + 1 : Int) = ((i + 1 : Nat) : Int) by omega]; exact wrap_in hr352) ?_)
                      refine st (ov_assign (v := .int .i64 ((i + 1 : Nat) : Int)) rfl ?_)
                      refine st_nil ?_
                      exact ⟨_, by omega, i + 1, n + 1, v, _, rfl, setAll_self ⟨rfl, rfl, rfl, rfl, rfl, rfl, rfl, rfl, rfl, trivial⟩, (Chg.trans (Chg.trans (Chg.trans hxI hx292) hR333) hx341), by omega, by omega, hvr, (by rw [nv_yes (by omega) hc342, ← hnv]; refine Prod.ext rfl ?_; show _ = madeI p ⟨0, v, n + 1⟩ _; unfold madeI; dsimp only; by_cases hn1 : n + 1 = 1 <;> first | ((repeat (first | rw [if_pos (by omega)] | rw [if_neg (by omega)])); done) | ((repeat (first | rw [if_pos (by omega)] | rw [if_neg (by omega)])); first | rfl | omega))⟩
                    · skip
                      have hc351 := of_decide_eq_true hc351
                      refine WP_cond_t rfl ?_
                      refine WP_region0 (by kernel_rfl) (fun _ => ?_)
                      refine st (ov_move (v := .int .i64 ((l.getD i default).ev.arg)) rfl ?_)
                      refine st (ov_assign (v := .int .i64 ((l.getD i default).ev.arg)) rfl ?_)
                      refine st_nil ?_
                      refine WP_region0 (by kernel_rfl) (fun _ => ?_)
                      refine st (ov_move (v := .int .i64 ((i : Nat) : Int)) rfl ?_)
                      have hr353 : InR ((i + 1 : Nat) : Int) := by omega
                      refine st (ov_add (r := ((i + 1 : Nat) : Int)) (k := .i64) (a := ((i : Nat) : Int)) (b := 1) rfl rfl (by rw [show (((i : Nat) : Int) + 1 : Int) = ((i + 1 : Nat) : Int) by omega]; exact wrap_in hr353) ?_)
                      refine st (ov_assign (v := .int .i64 ((i + 1 : Nat) : Int)) rfl ?_)
                      refine st_nil ?_
                      exact ⟨_, by omega, i + 1, n + 1, (l.getD i default).ev.arg, _, rfl, setAll_self ⟨rfl, rfl, rfl, rfl, rfl, rfl, rfl, rfl, rfl, trivial⟩, (Chg.trans (Chg.trans (Chg.trans hxI hx292) hR333) hx341), by omega, by omega, hok336.ev.arg, (by rw [nv_yes (by omega) hc342, ← hnv]; refine Prod.ext rfl ?_; show _ = madeI p ⟨0, v, n + 1⟩ _; unfold madeI; dsimp only; by_cases hn1 : n + 1 = 1 <;> first | ((repeat (first | rw [if_pos (by omega)] | rw [if_neg (by omega)])); done) | ((repeat (first | rw [if_pos (by omega)] | rw [if_neg (by omega)])); first | rfl | omega))⟩
                  · skip
                    have hc350 := of_decide_eq_true hc350
                    refine WP_cond_t rfl ?_
                    refine WP_seq ?_
                    refine WP_region (by kernel_rfl) ?_
                    refine st (ov_move (v := .int .i64 (n + 1)) rfl ?_)
                    refine st (ov_eql (k := .i64) (a := n + 1) (b := 1) rfl rfl ?_)
                    refine st (ov_move (v := .bool (decide ((n + 1) = 1))) rfl ?_)
                    refine stc (V := .int .i64 ((l.getD i default).ev.arg)) rfl rfl (fun hb354 => ?_) ?_
                    · have hl355 : (decide ((n + 1) = 1)) = false := hb354
                      have hl355 := of_decide_eq_false hl355
                      exact ov_move (v := .int .i64 ((l.getD i default).ev.arg)) rfl ⟨rfl, rfl⟩
                    refine stc (V := .int .i64 (v)) rfl rfl (fun hb356 => ?_) ?_
                    · have hl357 : (decide ((n + 1) = 1)) = false := hb356
                      have hl357 := of_decide_eq_false hl357
                      exact ov_move (v := .int .i64 (v)) rfl ⟨rfl, rfl⟩
                    refine stc (V := .bool (decide (v < ((l.getD i default).ev.arg)))) rfl rfl (fun hb358 => ?_) ?_
                    · have hl359 : (decide ((n + 1) = 1)) = false := hb358
                      have hl359 := of_decide_eq_false hl359
                      exact ov_gtr (k := .i64) (a := (l.getD i default).ev.arg) (b := v) (show _ = (.int .i64 ((l.getD i default).ev.arg) : Value) from (if_pos hb358)) (show _ = (.int .i64 (v) : Value) from (if_pos hb358)) ⟨rfl, rfl⟩
                    refine st (ov_pick_or (b := decide ((n + 1) = 1)) (b' := decide (v < ((l.getD i default).ev.arg))) rfl (fun hbp => (show _ = (.bool (decide (v < ((l.getD i default).ev.arg))) : Value) from (if_pos hbp))) ?_)
                    refine st_nil ?_
                    cases hc360 : (decide ((n + 1) = 1)) || (decide (v < ((l.getD i default).ev.arg)))
                    · skip
                      simp only [Bool.and_eq_true, Bool.or_eq_true, Bool.and_eq_false_iff, Bool.or_eq_false_iff, decide_eq_true_eq, decide_eq_false_iff_not, Bool.not_eq_true', Bool.not_eq_false', Int.not_lt, Int.not_le] at hc360
                      refine WP_cond_f rfl ?_
                      refine WP_skip ?_
                      refine WP_region0 (by kernel_rfl) (fun _ => ?_)
                      refine st (ov_move (v := .int .i64 ((i : Nat) : Int)) rfl ?_)
                      have hr361 : InR ((i + 1 : Nat) : Int) := by omega
                      refine st (ov_add (r := ((i + 1 : Nat) : Int)) (k := .i64) (a := ((i : Nat) : Int)) (b := 1) rfl rfl (by rw [show (((i : Nat) : Int) + 1 : Int) = ((i + 1 : Nat) : Int) by omega]; exact wrap_in hr361) ?_)
                      refine st (ov_assign (v := .int .i64 ((i + 1 : Nat) : Int)) rfl ?_)
                      refine st_nil ?_
                      exact ⟨_, by omega, i + 1, n + 1, v, _, rfl, setAll_self ⟨rfl, rfl, rfl, rfl, rfl, rfl, rfl, rfl, rfl, trivial⟩, (Chg.trans (Chg.trans (Chg.trans hxI hx292) hR333) hx341), by omega, by omega, hvr, (by rw [nv_yes (by omega) hc342, ← hnv]; refine Prod.ext rfl ?_; show _ = madeI p ⟨0, v, n + 1⟩ _; unfold madeI; dsimp only; by_cases hn1 : n + 1 = 1 <;> first | ((repeat (first | rw [if_pos (by omega)] | rw [if_neg (by omega)])); done) | ((repeat (first | rw [if_pos (by omega)] | rw [if_neg (by omega)])); first | rfl | omega))⟩
                    · skip
                      simp only [Bool.and_eq_true, Bool.or_eq_true, Bool.and_eq_false_iff, Bool.or_eq_false_iff, decide_eq_true_eq, decide_eq_false_iff_not, Bool.not_eq_true', Bool.not_eq_false', Int.not_lt, Int.not_le] at hc360
                      refine WP_cond_t rfl ?_
                      refine WP_region0 (by kernel_rfl) (fun _ => ?_)
                      refine st (ov_move (v := .int .i64 ((l.getD i default).ev.arg)) rfl ?_)
                      refine st (ov_assign (v := .int .i64 ((l.getD i default).ev.arg)) rfl ?_)
                      refine st_nil ?_
                      refine WP_region0 (by kernel_rfl) (fun _ => ?_)
                      refine st (ov_move (v := .int .i64 ((i : Nat) : Int)) rfl ?_)
                      have hr362 : InR ((i + 1 : Nat) : Int) := by omega
                      refine st (ov_add (r := ((i + 1 : Nat) : Int)) (k := .i64) (a := ((i : Nat) : Int)) (b := 1) rfl rfl (by rw [show (((i : Nat) : Int) + 1 : Int) = ((i + 1 : Nat) : Int) by omega]; exact wrap_in hr362) ?_)
                      refine st (ov_assign (v := .int .i64 ((i + 1 : Nat) : Int)) rfl ?_)
                      refine st_nil ?_
                      exact ⟨_, by omega, i + 1, n + 1, (l.getD i default).ev.arg, _, rfl, setAll_self ⟨rfl, rfl, rfl, rfl, rfl, rfl, rfl, rfl, rfl, trivial⟩, (Chg.trans (Chg.trans (Chg.trans hxI hx292) hR333) hx341), by omega, by omega, hok336.ev.arg, (by rw [nv_yes (by omega) hc342, ← hnv]; refine Prod.ext rfl ?_; show _ = madeI p ⟨0, v, n + 1⟩ _; unfold madeI; dsimp only; by_cases hn1 : n + 1 = 1 <;> first | ((repeat (first | rw [if_pos (by omega)] | rw [if_neg (by omega)])); done) | ((repeat (first | rw [if_pos (by omega)] | rw [if_neg (by omega)])); first | rfl | omega))⟩
                · skip
                  have hc349 := of_decide_eq_true hc349
                  refine WP_cond_t rfl ?_
                  refine WP_seq ?_
                  refine WP_region (by kernel_rfl) ?_
                  refine st (ov_move (v := .int .i64 (n + 1)) rfl ?_)
                  refine st (ov_eql (k := .i64) (a := n + 1) (b := 1) rfl rfl ?_)
                  refine st (ov_move (v := .bool (decide ((n + 1) = 1))) rfl ?_)
                  refine stc (V := .int .i64 ((l.getD i default).ev.arg)) rfl rfl (fun hb363 => ?_) ?_
                  · have hl364 : (decide ((n + 1) = 1)) = false := hb363
                    have hl364 := of_decide_eq_false hl364
                    exact ov_move (v := .int .i64 ((l.getD i default).ev.arg)) rfl ⟨rfl, rfl⟩
                  refine stc (V := .int .i64 (v)) rfl rfl (fun hb365 => ?_) ?_
                  · have hl366 : (decide ((n + 1) = 1)) = false := hb365
                    have hl366 := of_decide_eq_false hl366
                    exact ov_move (v := .int .i64 (v)) rfl ⟨rfl, rfl⟩
                  refine stc (V := .bool (decide (((l.getD i default).ev.arg) < v))) rfl rfl (fun hb367 => ?_) ?_
                  · have hl368 : (decide ((n + 1) = 1)) = false := hb367
                    have hl368 := of_decide_eq_false hl368
                    exact ov_lss (k := .i64) (a := (l.getD i default).ev.arg) (b := v) (show _ = (.int .i64 ((l.getD i default).ev.arg) : Value) from (if_pos hb367)) (show _ = (.int .i64 (v) : Value) from (if_pos hb367)) ⟨rfl, rfl⟩
                  refine st (ov_pick_or (b := decide ((n + 1) = 1)) (b' := decide (((l.getD i default).ev.arg) < v)) rfl (fun hbp => (show _ = (.bool (decide (((l.getD i default).ev.arg) < v)) : Value) from (if_pos hbp))) ?_)
                  refine st_nil ?_
                  cases hc369 : (decide ((n + 1) = 1)) || (decide (((l.getD i default).ev.arg) < v))
                  · skip
                    simp only [Bool.and_eq_true, Bool.or_eq_true, Bool.and_eq_false_iff, Bool.or_eq_false_iff, decide_eq_true_eq, decide_eq_false_iff_not, Bool.not_eq_true', Bool.not_eq_false', Int.not_lt, Int.not_le] at hc369
                    refine WP_cond_f rfl ?_
                    refine WP_skip ?_
                    refine WP_region0 (by kernel_rfl) (fun _ => ?_)
                    refine st (ov_move (v := .int .i64 ((i : Nat) : Int)) rfl ?_)
                    have hr370 : InR ((i + 1 : Nat) : Int) := by omega
                    refine st (ov_add (r := ((i + 1 : Nat) : Int)) (k := .i64) (a := ((i : Nat) : Int)) (b := 1) rfl rfl (by rw [show (((i : Nat) : Int) + 1 : Int) = ((i + 1 : Nat) : Int) by omega]; exact wrap_in hr370) ?_)
                    refine st (ov_assign (v := .int .i64 ((i + 1 : Nat) : Int)) rfl ?_)
                    refine st_nil ?_
                    exact ⟨_, by omega, i + 1, n + 1, v, _, rfl, setAll_self ⟨rfl, rfl, rfl, rfl, rfl, rfl, rfl, rfl, rfl, trivial⟩, (Chg.trans (Chg.trans (Chg.trans hxI hx292) hR333) hx341), by omega, by omega, hvr, (by rw [nv_yes (by omega) hc342, ← hnv]; refine Prod.ext rfl ?_; show _ = madeI p ⟨0, v, n + 1⟩ _; unfold madeI; dsimp only; by_cases hn1 : n + 1 = 1 <;> first | ((repeat (first | rw [if_pos (by omega)] | rw [if_neg (by omega)])); done) | ((repeat (first | rw [if_pos (by omega)] | rw [if_neg (by omega)])); first | rfl | omega))⟩
                  · skip
                    simp only [Bool.and_eq_true, Bool.or_eq_true, Bool.and_eq_false_iff, Bool.or_eq_false_iff, decide_eq_true_eq, decide_eq_false_iff_not, Bool.not_eq_true', Bool.not_eq_false', Int.not_lt, Int.not_le] at hc369
                    refine WP_cond_t rfl ?_
                    refine WP_region0 (by kernel_rfl) (fun _ => ?_)
                    refine st (ov_move (v := .int .i64 ((l.getD i default).ev.arg)) rfl ?_)
                    refine st (ov_assign (v := .int .i64 ((l.getD i default).ev.arg)) rfl ?_)
                    refine st_nil ?_
                    refine WP_region0 (by kernel_rfl) (fun _ => ?_)
                    refine st (ov_move (v := .int .i64 ((i : Nat) : Int)) rfl ?_)
                    have hr371 : InR ((i + 1 : Nat) : Int) := by omega
                    refine st (ov_add (r := ((i + 1 : Nat) : Int)) (k := .i64) (a := ((i : Nat) : Int)) (b := 1) rfl rfl (by rw [show (((i : Nat) : Int) + 1 : Int) = ((i + 1 : Nat) : Int) by omega]; exact wrap_in hr371) ?_)
                    refine st (ov_assign (v := .int .i64 ((i + 1 : Nat) : Int)) rfl ?_)
                    refine st_nil ?_
                    exact ⟨_, by omega, i + 1, n + 1, (l.getD i default).ev.arg, _, rfl, setAll_self ⟨rfl, rfl, rfl, rfl, rfl, rfl, rfl, rfl, rfl, trivial⟩, (Chg.trans (Chg.trans (Chg.trans hxI hx292) hR333) hx341), by omega, by omega, hok336.ev.arg, (by rw [nv_yes (by omega) hc342, ← hnv]; refine Prod.ext rfl ?_; show _ = madeI p ⟨0, v, n + 1⟩ _; unfold madeI; dsimp only; by_cases hn1 : n + 1 = 1 <;> first | ((repeat (first | rw [if_pos (by omega)] | rw [if_neg (by omega)])); done) | ((repeat (first | rw [if_pos (by omega)] | rw [if_neg (by omega)])); first | rfl | omega))⟩
              · skip
                have hc348 := of_decide_eq_true hc348
                refine WP_cond_t rfl ?_
                refine WP_region0 (by kernel_rfl) (fun _ => ?_)
                refine st (ov_move (v := .int .i64 (v)) rfl ?_)
                refine st (ov_move (v := .int .i64 ((l.getD i default).ev.arg)) rfl ?_)
                refine st (ov_add (r := IntKind.i64.wrap (v + ((l.getD i default).ev.arg))) (k := .i64) (a := v) (b := (l.getD i default).ev.arg) rfl rfl rfl ?_)
                refine st (ov_assign (v := .int .i64 (IntKind.i64.wrap (v + ((l.getD i default).ev.arg)))) rfl ?_)
                refine st_nil ?_
                refine WP_region0 (by kernel_rfl) (fun _ => ?_)
                refine st (ov_move (v := .int .i64 ((i : Nat) : Int)) rfl ?_)
                have hr372 : InR ((i + 1 : Nat) : Int) := by omega
                refine st (ov_add (r := ((i + 1 : Nat) : Int)) (k := .i64) (a := ((i : Nat) : Int)) (b := 1) rfl rfl (by rw [show (((i : Nat) : Int) + 1 : Int) = ((i + 1 : Nat) : Int) by omega]; exact wrap_in hr372) ?_)
                refine st (ov_assign (v := .int .i64 ((i + 1 : Nat) : Int)) rfl ?_)
                refine st_nil ?_
                exact ⟨_, by omega, i + 1, n + 1, IntKind.i64.wrap (v + ((l.getD i default).ev.arg)), _, rfl, setAll_self ⟨rfl, rfl, rfl, rfl, rfl, rfl, rfl, rfl, rfl, trivial⟩, (Chg.trans (Chg.trans (Chg.trans hxI hx292) hR333) hx341), by omega, by omega, (wrap_range _), (by rw [nv_yes (by omega) hc342, ← hnv]; refine Prod.ext rfl ?_; show _ = madeI p ⟨0, v, n + 1⟩ _; unfold madeI; dsimp only; by_cases hn1 : n + 1 = 1 <;> first | ((repeat (first | rw [if_pos (by omega)] | rw [if_neg (by omega)])); done) | ((repeat (first | rw [if_pos (by omega)] | rw [if_neg (by omega)])); first | rfl | omega))⟩
            · skip
              have hc347 := of_decide_eq_true hc347
              refine WP_cond_t rfl ?_
              refine WP_region0 (by kernel_rfl) (fun _ => ?_)
              refine st (ov_move (v := .int .i64 (n + 1)) rfl ?_)
              refine st (ov_assign (v := .int .i64 (n + 1)) rfl ?_)
              refine st_nil ?_
              refine WP_region0 (by kernel_rfl) (fun _ => ?_)
              refine st (ov_move (v := .int .i64 ((i : Nat) : Int)) rfl ?_)
              have hr373 : InR ((i + 1 : Nat) : Int) := by omega
              refine st (ov_add (r := ((i + 1 : Nat) : Int)) (k := .i64) (a := ((i : Nat) : Int)) (b := 1) rfl rfl (by rw [show (((i : Nat) : Int) + 1 : Int) = ((i + 1 : Nat) : Int) by omega]; exact wrap_in hr373) ?_)
              refine st (ov_assign (v := .int .i64 ((i + 1 : Nat) : Int)) rfl ?_)
              refine st_nil ?_
              exact ⟨_, by omega, i + 1, n + 1, n + 1, _, rfl, setAll_self ⟨rfl, rfl, rfl, rfl, rfl, rfl, rfl, rfl, rfl, trivial⟩, (Chg.trans (Chg.trans (Chg.trans hxI hx292) hR333) hx341), by omega, by omega, hr345, (by rw [nv_yes (by omega) hc342, ← hnv]; refine Prod.ext rfl ?_; show _ = madeI p ⟨0, v, n + 1⟩ _; unfold madeI; dsimp only; by_cases hn1 : n + 1 = 1 <;> first | ((repeat (first | rw [if_pos (by omega)] | rw [if_neg (by omega)])); done) | ((repeat (first | rw [if_pos (by omega)] | rw [if_neg (by omega)])); first | rfl | omega))⟩
          · skip
            simp only [Bool.and_eq_true, Bool.or_eq_true, Bool.and_eq_false_iff, Bool.or_eq_false_iff, decide_eq_true_eq, decide_eq_false_iff_not, Bool.not_eq_true', Bool.not_eq_false', Int.not_lt, Int.not_le] at hc342
            refine WP_cond_t rfl ?_
            refine WP_exit ?_
            refine blk_exit ?_
            refine WP_region0 (by kernel_rfl) (fun _ => ?_)
            refine st (ov_move (v := .int .i64 ((i : Nat) : Int)) rfl ?_)
            have hr374 : InR ((i + 1 : Nat) : Int) := by omega
            refine st (ov_add (r := ((i + 1 : Nat) : Int)) (k := .i64) (a := ((i : Nat) : Int)) (b := 1) rfl rfl (by rw [show (((i : Nat) : Int) + 1 : Int) = ((i + 1 : Nat) : Int) by omega]; exact wrap_in hr374) ?_)
            refine st (ov_assign (v := .int .i64 ((i + 1 : Nat) : Int)) rfl ?_)
            refine st_nil ?_
            exact ⟨_, by omega, i + 1, n, v, _, rfl, setAll_self ⟨rfl, rfl, rfl, rfl, rfl, rfl, rfl, rfl, rfl, trivial⟩, (Chg.trans (Chg.trans (Chg.trans hxI hx292) hR333) hx341), by omega, by omega, hvr, (by rw [nv_no (by omega) hc342]; exact hnv)⟩
      · skip
        simp only [Bool.and_eq_true, Bool.or_eq_true, Bool.and_eq_false_iff, Bool.or_eq_false_iff, decide_eq_true_eq, decide_eq_false_iff_not, Bool.not_eq_true', Bool.not_eq_false', Int.not_lt, Int.not_le] at hc249
        refine WP_cond_t rfl ?_
        refine WP_seq ?_
        refine WP_region0 (by kernel_rfl) (fun _ => ?_)
        refine st (ov_assign (v := .bool false) rfl ?_)
        refine st_nil ?_
        refine WP_ret ?_
        refine fin1 Try.results3 (show _ = (.bool false : Value) from rfl) ?_
        exfalso
        first | (have h9 := rows_lt (p := p) (l := l) (g := g) (k := k) (by omega) (by omega); omega) | (have h9 := mean_row (k := k) (by omega) (by omega) hnv; omega)
  · skip
    simp only [Bool.and_eq_true, Bool.or_eq_true, Bool.and_eq_false_iff, Bool.or_eq_false_iff, decide_eq_true_eq, decide_eq_false_iff_not, Bool.not_eq_true', Bool.not_eq_false', Int.not_lt, Int.not_le] at hc43
    refine WP_cond_t rfl ?_
    refine WP_seq ?_
    refine WP_region0 (by kernel_rfl) (fun _ => ?_)
    refine st (ov_call (f := 10) (vals := []) (cap := []) (show _ = (.func (.func 10) #[] #[] : Value) from rfl) rfl Try.call10 (C_works ) ?_)
    rintro _ w72 ⟨rfl, hx375⟩
    have hx375s := hx375.size
    refine st (ov_assign (v := .bool true) rfl ?_)
    refine st_nil ?_
    refine WP_ret ?_
    refine fin1 Try.results3 (show _ = (.bool true : Value) from rfl) ?_
    exact ⟨rfl, (Chg.trans (Chg.trans hn1.ext hx6) hx375)⟩

end Go.Proofs.Ytbbpmhfcgoljdaa
