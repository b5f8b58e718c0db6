/- Texts of this claim, part 16. -/
import Derived.Test.YtmiihhbeclhaoaaX15
set_option linter.unusedSimpArgs false
set_option linter.unusedVariables false
set_option linter.unusedSectionVars false
section
/- Steps of the proofs of this seat: part E5. -/
set_option linter.unusedSimpArgs false
set_option linter.unusedVariables false
set_option maxRecDepth 8000
set_option maxHeartbeats 4000000
namespace Go.Proofs.Ytmiihhbeclhaoaa
open Go.Proofs Go.RowKit

theorem WP_join {P : Program} {n : Nat} {c : Code} {Q : Post} {σ : Env} {w : World} (J : Env → World → Prop) (h : WP P n c (fun e σ w => e = .normal ∧ J σ w) σ w) (hq : ∀ σ w, J σ w → Q .normal σ w) : WP P n c Q σ w := fun a hs =>
  wp_mono (h a hs) (by rintro e a' w' ⟨σ'', hs'', rfl, hj⟩; exact ⟨σ'', hs'', hq _ _ hj⟩)
section
variable {m : Int} {M B T L : List Ev} {e : Ev} {n : Nat}
theorem bAddB_sort : bAddB m (sortE M) e = bAddB m M e := by unfold bAddB; rw [has_perm sortE_perm, sort_len]
theorem bAddL_sort : bAddL m (sortE M) e = sortE (rAddB m M e) := by
  unfold bAddL rAddB
  rw [bAddB_sort]
  split
  · exact sortE_snoc.symm
  · rfl
theorem rAddB_ids (h : (M.map idE).Nodup) : ((rAddB m M e).map idE).Nodup := by
  unfold rAddB
  split
  · rename_i hb
    have hh : hasId M e = false := by
      unfold bAddB at hb
      cases hh : hasId M e with
      | false => rfl
      | true => rw [hh, Bool.or_true] at hb; cases hb
    rw [List.map_append]
    exact List.nodup_append.2 ⟨h, List.pairwise_singleton _ _, fun a ha b hb' e1 => has_no hh (by rw [List.mem_singleton.1 hb'] at e1; rw [← e1]; exact ha)⟩
  · exact h
theorem rAddB_len : (rAddB m M e).length ≤ M.length + 1 := by
  unfold rAddB
  split
  · rw [List.length_append]; exact Nat.le_refl _
  · omega
theorem rdy_len : (rdyO n T B).length + (rdyB n T B).length = B.length := by
  obtain ⟨_, hp, _⟩ := rdy_all (n := n) _ (T := T) (B := B) rfl
  rw [← List.length_append]; exact hp.length_eq
theorem rdy_len2 : (rdyO n T ((sortE M).filter fun x => !hadE L x)).length + (rdyB n T ((sortE M).filter fun x => !hadE L x)).length ≤ M.length := by
  rw [rdy_len]
  exact Nat.le_trans (List.length_filter_le ..) (by rw [sort_len]; exact Nat.le_refl _)
end
theorem D_BufferPlays {G : Nat → Prop} {W w : World} {Rs : List HP} {most : Int} (hmost : InR most) {n : Int} (hn : InR n) {vl : Value} {l : List Ev} (hl : RdS W G vl l) {every : Int} (hevery : InR every) (hS0 : Sep G W Rs w) : Ret Try.prog 5 [.int .i64 (most), .int .i64 (n), vl, .int .i64 (every)] w (fun r w' => r = (.bool true : Value) ∧ Sep G W Rs w') := by
 have hls : l.length * 96 ≤ 140737488355328 := hl.small
 refine Calls_of_WP (args := [.int .i64 (most), .int .i64 (n), vl, .int .i64 (every)]) Try.func5 rfl rfl ?_
 refine WP_seq ?_
 refine WP_region0 (by kernel_rfl) (fun _ => ?_)
 refine st (ov_assign (v := .bool false) rfl ?_)
 refine st_nil ?_
 refine WP_seq ?_
 refine WP_seq ?_
 refine WP_region0 (by kernel_rfl) (fun _ => ?_)
 refine st (ov_move (v := vl) rfl ?_)
 refine st (ov_call (f := 8) (vals := [vl]) (cap := []) (show _ = (.func (.func 8) #[] #[] : Value) from rfl) rfl Try.call8 (D_long (l := l) (vl := vl) hl hS0) ?_)
 rintro _ w3 ⟨b1, rfl, hb2, hS4⟩
 refine st_nil ?_
 cases hc5 : b1
 ·skip
  have hc5r := hc5
  obtain ⟨hf9, _⟩ := hb2 hc5r
  refine WP_cond_f rfl ?_
  refine WP_skip ?_
  refine WP_seq ?_
  refine WP_region0 (by kernel_rfl) (fun _ => ?_)
  refine st (ov_move (v := .int .i64 (n)) rfl ?_)
  refine st (ov_call (f := 10) (vals := [.int .i64 (n), .int .i64 (64)]) (cap := []) (show _ = (.func (.func 10) #[] #[] : Value) from rfl) rfl Try.call10 (D_PickF (x := n) (n := 64) hn (by first | omega | (refine ⟨?_, ?_⟩ <;> omega)) hS4) ?_)
  rintro _ w9 ⟨q6, rfl, hq7, hqe8, hS10⟩
  have hr11 : InR ((1 + q6 : Nat) : Int) := by first | omega | (simp only [lens]; omega)
  refine st (ov_add (r := ((1 + q6 : Nat) : Int)) (k := .i64) (a := 1) (b := ((q6 : Nat) : Int)) rfl rfl (by rw [show (1 + ((q6 : Nat) : Int) : Int) = ((1 + q6 : Nat) : Int) by first | omega | (simp only [lens]; omega)]; exact wrap_in hr11) ?_)
  refine st (ov_assign (v := .int .i64 ((1 + q6 : Nat) : Int)) rfl ?_)
  refine st_nil ?_
  refine WP_seq ?_
  refine WP_region0 (by kernel_rfl) (fun _ => ?_)
  refine st (ov_move (v := .int .i64 (every)) rfl ?_)
  refine st (ov_call (f := 10) (vals := [.int .i64 (every), .int .i64 (9)]) (cap := []) (show _ = (.func (.func 10) #[] #[] : Value) from rfl) rfl Try.call10 (D_PickF (x := every) (n := 9) hevery (by first | omega | (refine ⟨?_, ?_⟩ <;> omega)) hS10) ?_)
  rintro _ w15 ⟨q12, rfl, hq13, hqe14, hS16⟩
  have hr17 : InR ((1 + q12 : Nat) : Int) := by first | omega | (simp only [lens]; omega)
  refine st (ov_add (r := ((1 + q12 : Nat) : Int)) (k := .i64) (a := 1) (b := ((q12 : Nat) : Int)) rfl rfl (by rw [show (1 + ((q12 : Nat) : Int) : Int) = ((1 + q12 : Nat) : Int) by first | omega | (simp only [lens]; omega)]; exact wrap_in hr17) ?_)
  refine st (ov_assign (v := .int .i64 ((1 + q12 : Nat) : Int)) rfl ?_)
  refine st_nil ?_
  refine WP_seq ?_
  refine WP_region0 (by kernel_rfl) (fun _ => ?_)
  refine st (ov_move (v := .int .i64 (most)) rfl ?_)
  refine st (ov_call (f := 12) (vals := [.int .i64 (most)]) (cap := []) (show _ = (.func (.func 12) #[] #[] : Value) from rfl) rfl Try.call12 (D_bNew (x := most) hmost hS16) ?_)
  rintro _ w19 ⟨b18, rfl, hS20⟩
  refine st (ov_assign (v := .pointer (some ⟨b18, 0, none⟩)) rfl ?_)
  refine st_nil ?_
  refine WP_seq ?_
  refine WP_region0 (by kernel_rfl) (fun _ => ?_)
  refine st (ov_move (v := .int .i64 (most)) rfl ?_)
  refine st (ov_call (f := 20) (vals := [.int .i64 (most)]) (cap := []) (show _ = (.func (.func 20) #[] #[] : Value) from rfl) rfl Try.call20 (D_rbNew (x := most) hmost hS20) ?_)
  rintro _ w22 ⟨b21, rfl, hS23⟩
  refine st (ov_assign (v := .pointer (some ⟨b21, 0, none⟩)) rfl ?_)
  refine st_nil ?_
  refine WP_seq ?_
  refine WP_region0 (by kernel_rfl) (fun _ => ?_)
  refine st (ov_move (v := .int .i64 ((1 + q6 : Nat) : Int)) rfl ?_)
  refine st (ov_call (f := 11) (vals := [.int .i64 ((1 + q6 : Nat) : Int)]) (cap := []) (show _ = (.func (.func 11) #[] #[] : Value) from rfl) rfl Try.call11 (D_NewSet (n := 1 + q6) (by first | omega | (refine ⟨?_, ?_⟩ <;> omega)) hS23) ?_)
  rintro _ w25 ⟨b24, rfl, hS26⟩
  refine st (ov_assign (v := .pointer (some ⟨b24, 0, none⟩)) rfl ?_)
  refine st_nil ?_
  refine WP_seq ?_
  refine WP_region0 (by kernel_rfl) (fun _ => ?_)
  refine st (ov_move (v := .int .i64 ((1 + q6 : Nat) : Int)) rfl ?_)
  refine st (ov_call (f := 21) (vals := [.int .i64 ((1 + q6 : Nat) : Int)]) (cap := []) (show _ = (.func (.func 21) #[] #[] : Value) from rfl) rfl Try.call21 (D_rNew (n := 1 + q6) (by first | omega | (refine ⟨?_, ?_⟩ <;> omega)) hS26) ?_)
  rintro _ w28 ⟨b27, rfl, hS29⟩
  refine st (ov_assign (v := .pointer (some ⟨b27, 0, none⟩)) rfl ?_)
  refine st_nil ?_
  refine WP_seq ?_
  refine WP_seq ?_
  refine WP_region (by kernel_rfl) ?_
  refine st (ov_move (v := .pointer (some ⟨b18, 0, none⟩)) rfl ?_)
  refine st (ov_eqlPtr (b := b18) (o := 0) Try.underlying28 rfl ?_)
  refine st (ov_move (v := .bool false) rfl ?_)
  refine sty rfl rfl (ov_move (v := .pointer (some ⟨b24, 0, none⟩)) rfl ?_)
  refine sty rfl rfl (ov_eqlPtr (b := b24) (o := 0) Try.underlying26 rfl ?_)
  refine st (ov_pick_f (v := .bool false) rfl rfl ?_)
  refine st_nil ?_
  refine WP_cond_f rfl ?_
  refine WP_skip ?_
  refine WP_seq ?_
  refine WP_seq ?_
  refine WP_region0 (by kernel_rfl) (fun _ => ?_)
  refine st (ov_assign (v := .int .i64 (0)) rfl ?_)
  refine st_nil ?_
  refine WP_block ?_
  refine WP_loop (fun mq σ wq => ∃ (k : Nat) (L9 : List Ev) (M9 : List Ev) (ρ : Env), mq = l.length - k ∧ σ = setAll ρ [(2, vl), (3, .int .i64 ((1 + q12 : Nat) : Int)), (9, .pointer (some ⟨b18, 0, none⟩)), (10, .pointer (some ⟨b21, 0, none⟩)), (11, .pointer (some ⟨b24, 0, none⟩)), (12, .pointer (some ⟨b27, 0, none⟩)), (13, .int .i64 ((k : Nat) : Int))] ∧ (k ≤ l.length) ∧ (Good (1 + q6) L9) ∧ ((M9.map idE).Nodup) ∧ (L9.length + M9.length ≤ 2 * k) ∧ Sep G W ((RefS b27 (1 + q6) L9) :: (SetO b24 (1 + q6) L9) :: (RBufO b21 (max 0 (min most 256)) M9) :: (BufO b18 (max 0 (min most 256)) (sortE M9)) :: Rs) wq) ⟨0, [], [], _, rfl, setAll_self ⟨rfl, rfl, rfl, rfl, rfl, rfl, rfl, trivial⟩, Nat.zero_le _, Good.nil, List.Pairwise.nil, (Nat.le_refl _), hS29⟩ ?_
  rintro m31 σ32 w30 ⟨k, L9, M9, ρl1, rfl, rfl, hkk, hG9, hM9, hB9, hS33⟩
  refine WP_seq ?_
  refine WP_seq ?_
  refine WP_region0 (by kernel_rfl) (fun _ => ?_)
  refine st (ov_move (v := .int .i64 ((k : Nat) : Int)) rfl ?_)
  refine st (ov_move (v := vl) rfl ?_)
  refine st (ov_len (n := l.length) Try.underlying22 rfl hl.sl ?_)
  refine st (ov_lss (k := .i64) (a := ((k : Nat) : Int)) (b := ((l.length : Nat) : Int)) rfl rfl ?_)
  refine st_nil ?_
  cases hc34 : decide (((k : Nat) : Int) < ((l.length : Nat) : Int))
  ·skip
   have hc34r := hc34
   have hc34 := of_decide_eq_false hc34
   refine WP_cond_f rfl ?_
   refine WP_exit ?_
   refine blk_exit ?_
   refine WP_seq ?_
   have hsl9 := sort_len (l := M9)
   have hql9 := rdy_len2 (n := (1 + q6)) (T := L9) (M := M9) (L := L9)
   refine WP_region (by kernel_rfl) ?_
   refine st (ov_move (v := .pointer (some ⟨b18, 0, none⟩)) rfl ?_)
   refine st (ov_move (v := .pointer (some ⟨b24, 0, none⟩)) rfl ?_)
   have hS35 : Sep G W ((SetO b24 (1 + q6) L9) :: (RefS b27 (1 + q6) L9) :: (RBufO b21 (max 0 (min most 256)) M9) :: (BufO b18 (max 0 (min most 256)) (sortE M9)) :: Rs) w30 := hS33.sel 4 [1, 0, 2, 3] (Nat.le_add_left _ _) rfl rfl
   obtain ⟨G36, hA38, hB39, hS40, hk41⟩ := hS35.lend
   obtain ⟨vv42, m43, R44, hb45, hv46, hr47⟩ := SetO.sh hA38
   have hsm48 : (vecE (1 + q6) L9).length * 8 ≤ 140737488355328 := hv46.small
   have hS49 : Sep G36 w30 ((BufO b18 (max 0 (min most 256)) (sortE M9)) :: (RefS b27 (1 + q6) L9) :: (RBufO b21 (max 0 (min most 256)) M9) :: Rs) w30 := hS40.sel 3 [2, 0, 1] (Nat.le_add_left _ _) rfl rfl
   refine st (ov_call (f := 17) (vals := [.pointer (some ⟨b18, 0, none⟩), .pointer (some ⟨b24, 0, none⟩)]) (cap := []) (show _ = (.func (.func 17) #[] #[] : Value) from rfl) rfl Try.call17 (D_Ready  hA38 hS49 ((by show InR (max 0 (min most 256)); omega)) (by first | exact hG1 | exact hG9) (by omega) (by omega)) ?_)
   rintro v50 w51 ⟨_, rfl, hS52⟩
   have hr53 := hS52.row (i := 0) rfl
   have hr53s : (rdyO (1 + q6) L9 ((sortE M9).filter (fun x => !hadE L9 x))).length * 96 ≤ 140737488355328 := hr53.2
   have hS54 : Sep G W ((SetO b24 (1 + q6) L9) :: (RowE (α := Ev) own 36 v50 (rdyO (1 + q6) L9 ((sortE M9).filter (fun x => !hadE L9 x)))) :: (BufO b18 (max 0 (min most 256)) (rdyB (1 + q6) L9 ((sortE M9).filter (fun x => !hadE L9 x)))) :: (RefS b27 (1 + q6) L9) :: (RBufO b21 (max 0 (min most 256)) M9) :: Rs) w51 := hk41 _ _ hS52
   refine st (ov_move (v := .pointer (some ⟨b21, 0, none⟩)) rfl ?_)
   refine st (ov_move (v := .pointer (some ⟨b27, 0, none⟩)) rfl ?_)
   have hS55 : Sep G W ((RefS b27 (1 + q6) L9) :: (SetO b24 (1 + q6) L9) :: (RowE (α := Ev) own 36 v50 (rdyO (1 + q6) L9 ((sortE M9).filter (fun x => !hadE L9 x)))) :: (BufO b18 (max 0 (min most 256)) (rdyB (1 + q6) L9 ((sortE M9).filter (fun x => !hadE L9 x)))) :: (RBufO b21 (max 0 (min most 256)) M9) :: Rs) w51 := hS54.sel 5 [3, 0, 1, 2, 4] (Nat.le_add_left _ _) rfl rfl
   obtain ⟨G56, hA58, hB59, hS60, hk61⟩ := hS55.lend
   obtain ⟨vl62, hb63, hl64⟩ := RefS.sh hA58
   have hsm65 : L9.length * 96 ≤ 140737488355328 := hl64.small
   have hS66 : Sep G56 w51 ((RBufO b21 (max 0 (min most 256)) M9) :: (SetO b24 (1 + q6) L9) :: (RowE (α := Ev) own 36 v50 (rdyO (1 + q6) L9 ((sortE M9).filter (fun x => !hadE L9 x)))) :: (BufO b18 (max 0 (min most 256)) (rdyB (1 + q6) L9 ((sortE M9).filter (fun x => !hadE L9 x)))) :: Rs) w51 := hS60.sel 4 [3, 0, 1, 2] (Nat.le_add_left _ _) rfl rfl
   refine st (ov_call (f := 28) (vals := [.pointer (some ⟨b21, 0, none⟩), .pointer (some ⟨b27, 0, none⟩)]) (cap := []) (show _ = (.func (.func 28) #[] #[] : Value) from rfl) rfl Try.call28 (D_rReady  hA58 hS66 ((by show InR (max 0 (min most 256)); omega)) (by first | exact hG1 | exact hG9) (by omega) (by first | exact hM2 | exact hM9) (by omega)) ?_)
   rintro v67 w71 ⟨_, B268, rfl, hB269, hB370, hS72⟩
   have hr73 := hS72.row (i := 0) rfl
   have hr73s : (rdyO (1 + q6) L9 ((sortE M9).filter (fun x => !hadE L9 x))).length * 96 ≤ 140737488355328 := hr73.2
   have hS74 : Sep G W ((RefS b27 (1 + q6) L9) :: (RowE (α := Ev) own 36 v67 (rdyO (1 + q6) L9 ((sortE M9).filter (fun x => !hadE L9 x)))) :: (RBufO b21 (max 0 (min most 256)) B268) :: (SetO b24 (1 + q6) L9) :: (RowE (α := Ev) own 36 v50 (rdyO (1 + q6) L9 ((sortE M9).filter (fun x => !hadE L9 x)))) :: (BufO b18 (max 0 (min most 256)) (rdyB (1 + q6) L9 ((sortE M9).filter (fun x => !hadE L9 x)))) :: Rs) w71 := hk61 _ _ hS72
   rw [← hB370] at hS74
   have hS75 : Sep G W ((RefS b27 (1 + q6) L9) :: (RowE (α := Ev) own 36 v67 (rdyO (1 + q6) L9 ((sortE M9).filter (fun x => !hadE L9 x)))) :: (RBufO b21 (max 0 (min most 256)) B268) :: (SetO b24 (1 + q6) L9) :: (RowE (α := Ev) own 36 v50 (rdyO (1 + q6) L9 ((sortE M9).filter (fun x => !hadE L9 x)))) :: (BufO b18 (max 0 (min most 256)) (sortE B268)) :: Rs) w71 := hS74
   have hs29 := sort_len (l := B268)
   rw [hB370] at hs29
   have hS76 : Sep G W ((RowE (α := Ev) own 36 v50 (rdyO (1 + q6) L9 ((sortE M9).filter (fun x => !hadE L9 x)))) :: (RefS b27 (1 + q6) L9) :: (RowE (α := Ev) own 36 v67 (rdyO (1 + q6) L9 ((sortE M9).filter (fun x => !hadE L9 x)))) :: (RBufO b21 (max 0 (min most 256)) B268) :: (SetO b24 (1 + q6) L9) :: (BufO b18 (max 0 (min most 256)) (sortE B268)) :: Rs) w71 := hS75.sel 6 [4, 0, 1, 2, 3, 5] (Nat.le_add_left _ _) rfl rfl
   obtain ⟨G77, hA79, hB80, hS81, hk82⟩ := hS76.lend
   have hrd83 := RowE.rd hA79
   have hrd83s : (rdyO (1 + q6) L9 ((sortE M9).filter (fun x => !hadE L9 x))).length * 96 ≤ 140737488355328 := hrd83.small
   have hS84 : Sep G77 w71 ((RowE (α := Ev) own 36 v67 (rdyO (1 + q6) L9 ((sortE M9).filter (fun x => !hadE L9 x)))) :: (RefS b27 (1 + q6) L9) :: (RBufO b21 (max 0 (min most 256)) B268) :: (SetO b24 (1 + q6) L9) :: (BufO b18 (max 0 (min most 256)) (sortE B268)) :: Rs) w71 := hS81.sel 5 [1, 0, 2, 3, 4] (Nat.le_add_left _ _) rfl rfl
   obtain ⟨G85, hA87, hB88, hS89, hk90⟩ := hS84.lend
   have hrd91 := RowE.rd hA87
   have hrd91s : (rdyO (1 + q6) L9 ((sortE M9).filter (fun x => !hadE L9 x))).length * 96 ≤ 140737488355328 := hrd91.small
   refine st (ov_call (f := 19) (vals := [v50, v67]) (cap := []) (show _ = (.func (.func 19) #[] #[] : Value) from rfl) rfl Try.call19 (D_sameEvents (a := (rdyO (1 + q6) L9 ((sortE M9).filter (fun x => !hadE L9 x)))) (va := v50) (b := (rdyO (1 + q6) L9 ((sortE M9).filter (fun x => !hadE L9 x)))) (vb := v67) (RdS.base hrd83 hB88) hrd91 hS89) ?_)
   rintro _ w92 ⟨rfl, hS93⟩
   have hS94 : Sep G77 w71 ((RowE (α := Ev) own 36 v67 (rdyO (1 + q6) L9 ((sortE M9).filter (fun x => !hadE L9 x)))) :: (RefS b27 (1 + q6) L9) :: (RBufO b21 (max 0 (min most 256)) B268) :: (SetO b24 (1 + q6) L9) :: (BufO b18 (max 0 (min most 256)) (sortE B268)) :: Rs) w92 := hk90 _ _ hS93
   have hS95 : Sep G W ((RowE (α := Ev) own 36 v50 (rdyO (1 + q6) L9 ((sortE M9).filter (fun x => !hadE L9 x)))) :: (RowE (α := Ev) own 36 v67 (rdyO (1 + q6) L9 ((sortE M9).filter (fun x => !hadE L9 x)))) :: (RefS b27 (1 + q6) L9) :: (RBufO b21 (max 0 (min most 256)) B268) :: (SetO b24 (1 + q6) L9) :: (BufO b18 (max 0 (min most 256)) (sortE B268)) :: Rs) w92 := hk82 _ _ hS94
   have hkn96 : (decide ((rdyO (1 + q6) L9 ((sortE M9).filter (fun x => !hadE L9 x))) = (rdyO (1 + q6) L9 ((sortE M9).filter (fun x => !hadE L9 x))))) = true := decide_eq_true rfl
   rw [hkn96]
   refine st (ov_move (v := .bool true) rfl ?_)
   refine sty rfl rfl (ov_move (v := .pointer (some ⟨b18, 0, none⟩)) rfl ?_)
   have hS97 : Sep G W ((BufO b18 (max 0 (min most 256)) (sortE B268)) :: (RowE (α := Ev) own 36 v50 (rdyO (1 + q6) L9 ((sortE M9).filter (fun x => !hadE L9 x)))) :: (RowE (α := Ev) own 36 v67 (rdyO (1 + q6) L9 ((sortE M9).filter (fun x => !hadE L9 x)))) :: (RefS b27 (1 + q6) L9) :: (RBufO b21 (max 0 (min most 256)) B268) :: (SetO b24 (1 + q6) L9) :: Rs) w92 := hS95.sel 6 [5, 0, 1, 2, 3, 4] (Nat.le_add_left _ _) rfl rfl
   obtain ⟨G98, hA100, hB101, hS102, hk103⟩ := hS97.lend
   obtain ⟨vl104, hb105, hl106⟩ := BufO.sh hA100
   have hsm107 : (sortE B268).length * 96 ≤ 140737488355328 := hl106.small
   refine sty rfl rfl (ov_call (f := 18) (vals := [.pointer (some ⟨b18, 0, none⟩)]) (cap := []) (show _ = (.func (.func 18) #[] #[] : Value) from rfl) rfl Try.call18 (D_bLen  hA100 hS102) ?_)
   rintro _ w108 ⟨rfl, hS109⟩
   have hS110 : Sep G W ((BufO b18 (max 0 (min most 256)) (sortE B268)) :: (RowE (α := Ev) own 36 v50 (rdyO (1 + q6) L9 ((sortE M9).filter (fun x => !hadE L9 x)))) :: (RowE (α := Ev) own 36 v67 (rdyO (1 + q6) L9 ((sortE M9).filter (fun x => !hadE L9 x)))) :: (RefS b27 (1 + q6) L9) :: (RBufO b21 (max 0 (min most 256)) B268) :: (SetO b24 (1 + q6) L9) :: Rs) w108 := hk103 _ _ hS109
   refine sty rfl rfl (ov_move (v := .pointer (some ⟨b21, 0, none⟩)) rfl ?_)
   have hS111 : Sep G W ((RBufO b21 (max 0 (min most 256)) B268) :: (BufO b18 (max 0 (min most 256)) (sortE B268)) :: (RowE (α := Ev) own 36 v50 (rdyO (1 + q6) L9 ((sortE M9).filter (fun x => !hadE L9 x)))) :: (RowE (α := Ev) own 36 v67 (rdyO (1 + q6) L9 ((sortE M9).filter (fun x => !hadE L9 x)))) :: (RefS b27 (1 + q6) L9) :: (SetO b24 (1 + q6) L9) :: Rs) w108 := hS110.sel 6 [4, 0, 1, 2, 3, 5] (Nat.le_add_left _ _) rfl rfl
   obtain ⟨G112, hA114, hB115, hS116, hk117⟩ := hS111.lend
   obtain ⟨vl118, hb119, hl120⟩ := RBufO.sh hA114
   have hsm121 : B268.length * 96 ≤ 140737488355328 := hl120.small
   refine sty rfl rfl (ov_call (f := 32) (vals := [.pointer (some ⟨b21, 0, none⟩)]) (cap := []) (show _ = (.func (.func 32) #[] #[] : Value) from rfl) rfl Try.call32 (D_rbLen  hA114 hS116) ?_)
   rintro _ w122 ⟨rfl, hS123⟩
   have hS124 : Sep G W ((RBufO b21 (max 0 (min most 256)) B268) :: (BufO b18 (max 0 (min most 256)) (sortE B268)) :: (RowE (α := Ev) own 36 v50 (rdyO (1 + q6) L9 ((sortE M9).filter (fun x => !hadE L9 x)))) :: (RowE (α := Ev) own 36 v67 (rdyO (1 + q6) L9 ((sortE M9).filter (fun x => !hadE L9 x)))) :: (RefS b27 (1 + q6) L9) :: (SetO b24 (1 + q6) L9) :: Rs) w122 := hk117 _ _ hS123
   refine sty rfl rfl (ov_eql (k := .i64) (a := (((sortE B268).length : Nat) : Int)) (b := ((B268.length : Nat) : Int)) rfl rfl ?_)
   have hkn125 : (decide ((((sortE B268).length : Nat) : Int) = ((B268.length : Nat) : Int))) = true := (by rw [decide_eq_true_eq, sort_len])
   rw [hkn125]
   refine st (ov_pick_t (v := .bool true) rfl rfl ?_)
   refine st (ov_move (v := .bool true) rfl ?_)
   refine sty rfl rfl (ov_call (f := 9) (vals := []) (cap := []) (show _ = (.func (.func 9) #[] #[] : Value) from rfl) rfl Try.call9 (D_known25  hS124) ?_)
   rintro _ w126 ⟨rfl, hS127⟩
   refine st (ov_pick_t (v := .bool true) rfl rfl ?_)
   refine st (ov_assign (v := .bool true) rfl ?_)
   refine st_nil ?_
   refine WP_ret ?_
   refine fin1 Try.results5 (show _ = (.bool true : Value) from rfl) ?_
   have hS128 : Sep G W Rs w126 := hS127.sel 6 [] (Nat.le_add_left _ _) rfl rfl
   refine ⟨rfl, hS128⟩
  ·skip
   have hc34r := hc34
   have hc34 := of_decide_eq_true hc34
   refine WP_cond_t rfl ?_
   refine WP_skip ?_
   refine WP_seq ?_
   refine WP_block ?_
   refine WP_seq ?_
   refine WP_seq ?_
   refine WP_region0 (by kernel_rfl) (fun _ => ?_)
   refine st (ov_move (v := .int .i64 ((k : Nat) : Int)) rfl ?_)
   have h0129 : (0 : Int) < 4 := by omega
   have h0129m : k % 4 < 4 := Nat.mod_lt _ (by omega)
   refine st (ov_rem (r := ((k % 4 : Nat) : Int)) rfl rfl h0129 (Int.ofNat_tmod _ _).symm ?_)
   refine st (ov_eql (k := .i64) (a := ((k % 4 : Nat) : Int)) (b := 3) rfl rfl ?_)
   refine st_nil ?_
   have hal9 := addL_len (n := (1 + q6)) (L := L9) (e := l.getD k default)
   refine WP_join (fun σ wq => ∃ (L1 : List Ev) (ρ : Env), σ = setAll ρ [(2, vl), (3, .int .i64 ((1 + q12 : Nat) : Int)), (9, .pointer (some ⟨b18, 0, none⟩)), (10, .pointer (some ⟨b21, 0, none⟩)), (11, .pointer (some ⟨b24, 0, none⟩)), (12, .pointer (some ⟨b27, 0, none⟩)), (13, .int .i64 ((k : Nat) : Int))] ∧ (Good (1 + q6) L1) ∧ (L1.length ≤ L9.length + 1) ∧ Sep G W ((RefS b27 (1 + q6) L1) :: (SetO b24 (1 + q6) L1) :: (RBufO b21 (max 0 (min most 256)) M9) :: (BufO b18 (max 0 (min most 256)) (sortE M9)) :: Rs) wq) ?_ ?_
   ·skip
    cases hc130 : decide (((k % 4 : Nat) : Int) = 3)
    ·skip
     have hc130 := of_decide_eq_false hc130
     refine WP_cond_f rfl ?_
     refine WP_skip ?_
     exact ⟨rfl, L9, _, setAll_self ⟨(show _ = (vl : Value) from rfl), (show _ = (.int .i64 ((1 + q12 : Nat) : Int) : Value) from rfl), (show _ = (.pointer (some ⟨b18, 0, none⟩) : Value) from rfl), (show _ = (.pointer (some ⟨b21, 0, none⟩) : Value) from rfl), (show _ = (.pointer (some ⟨b24, 0, none⟩) : Value) from rfl), (show _ = (.pointer (some ⟨b27, 0, none⟩) : Value) from rfl), (show _ = (.int .i64 ((k : Nat) : Int) : Value) from rfl), trivial⟩, hG9, Nat.le_succ _, hS33⟩
    ·skip
     have hc130 := of_decide_eq_true hc130
     refine WP_cond_t rfl ?_
     refine WP_seq ?_
     refine WP_region0 (by kernel_rfl) (fun _ => ?_)
     refine st (ov_move (v := .pointer (some ⟨b24, 0, none⟩)) rfl ?_)
     refine st (ov_move (v := vl) rfl ?_)
     refine st (ov_move (v := .int .i64 ((k : Nat) : Int)) rfl ?_)
     have hi131 : k < l.length := (by first | omega | (simp only [lens]; omega))
     refine st (ov_indexAddrN (k := 10) (i := k) Try.underlying22 Try.sizeOf36 rfl hl.sl rfl hi131 ?_)
     have hi133 : k < l.length := (by first | omega | (simp only [lens]; omega))
     obtain ⟨hce132, hde132_0, hoke132⟩ := hl.ev hi133
     rw [← getD_at default hi133] at hce132 hde132_0 hoke132
     have hsm134 : ((l.getD k default).deps).length * 8 ≤ 140737488355328 := hde132_0.small
     have hcw135 := hS33.cells hce132 (hl.foot (ne_of_lt hi133))
     refine st (ov_loadk (k := 10) Try.isAgg36 Try.sizeOf36 rfl rfl hcw135 ?_)
     have hS136 : Sep G W ((SetO b24 (1 + q6) L9) :: (RefS b27 (1 + q6) L9) :: (RBufO b21 (max 0 (min most 256)) M9) :: (BufO b18 (max 0 (min most 256)) (sortE M9)) :: Rs) w30 := hS33.sel 4 [1, 0, 2, 3] (Nat.le_add_left _ _) rfl rfl
     refine st (ov_call (f := 13) (vals := [.pointer (some ⟨b24, 0, none⟩), .agg ((l.getD k default).cells (cellV W (sb vl) (so vl + k * 10 + 3))).toArray]) (cap := []) (show _ = (.func (.func 13) #[] #[] : Value) from rfl) rfl Try.call13 (D_AddT (e := (l.getD k default)) hde132_0 hoke132 hS136 ((by omega)) (by first | exact hG9.len | exact hGT9.len)) ?_)
     rintro _ w137 ⟨rfl, hS138⟩
     refine st_nil ?_
     refine WP_region0 (by kernel_rfl) (fun _ => ?_)
     refine st (ov_move (v := .pointer (some ⟨b27, 0, none⟩)) rfl ?_)
     refine st (ov_move (v := vl) rfl ?_)
     refine st (ov_move (v := .int .i64 ((k : Nat) : Int)) rfl ?_)
     have hi139 : k < l.length := (by first | omega | (simp only [lens]; omega))
     refine st (ov_indexAddrN (k := 10) (i := k) Try.underlying22 Try.sizeOf36 rfl hl.sl rfl hi139 ?_)
     have hcw141 := hS138.cells hce132 (hl.foot (ne_of_lt hi133))
     refine st (ov_loadk (k := 10) Try.isAgg36 Try.sizeOf36 rfl rfl hcw141 ?_)
     have hS142 : Sep G W ((RefS b27 (1 + q6) L9) :: (SetO b24 (1 + q6) (addL (1 + q6) L9 (l.getD k default))) :: (RBufO b21 (max 0 (min most 256)) M9) :: (BufO b18 (max 0 (min most 256)) (sortE M9)) :: Rs) w137 := hS138.sel 4 [1, 0, 2, 3] (Nat.le_add_left _ _) rfl rfl
     refine st (ov_call (f := 22) (vals := [.pointer (some ⟨b27, 0, none⟩), .agg ((l.getD k default).cells (cellV W (sb vl) (so vl + k * 10 + 3))).toArray]) (cap := []) (show _ = (.func (.func 22) #[] #[] : Value) from rfl) rfl Try.call22 (D_rAddL (e := (l.getD k default)) hde132_0 hoke132 hS142 (by first | exact hG9 | exact hGT9) ((by omega)) ((by omega))) ?_)
     rintro _ w143 ⟨rfl, hS144⟩
     refine st_nil ?_
     exact ⟨rfl, (addL (1 + q6) L9 (l.getD k default)), _, setAll_self ⟨(show _ = (vl : Value) from rfl), (show _ = (.int .i64 ((1 + q12 : Nat) : Int) : Value) from rfl), (show _ = (.pointer (some ⟨b18, 0, none⟩) : Value) from rfl), (show _ = (.pointer (some ⟨b21, 0, none⟩) : Value) from rfl), (show _ = (.pointer (some ⟨b24, 0, none⟩) : Value) from rfl), (show _ = (.pointer (some ⟨b27, 0, none⟩) : Value) from rfl), (show _ = (.int .i64 ((k : Nat) : Int) : Value) from rfl), trivial⟩, hG9.addL, hal9, hS144⟩
   rintro _ w145 ⟨L1, ρj1, rfl, hG1, hB1, hS146⟩
   refine WP_seq ?_
   refine WP_region0 (by kernel_rfl) (fun _ => ?_)
   refine st (ov_move (v := vl) rfl ?_)
   refine st (ov_move (v := .int .i64 ((k : Nat) : Int)) rfl ?_)
   have hi147 : k < l.length := (by first | omega | (simp only [lens]; omega))
   refine st (ov_indexAddrN (k := 10) (i := k) Try.underlying22 Try.sizeOf36 rfl hl.sl rfl hi147 ?_)
   have hi149 : k < l.length := (by first | omega | (simp only [lens]; omega))
   obtain ⟨hce148, hde148_0, hoke148⟩ := hl.ev hi149
   rw [← getD_at default hi149] at hce148 hde148_0 hoke148
   have hsm150 : ((l.getD k default).deps).length * 8 ≤ 140737488355328 := hde148_0.small
   have hcw151 := hS146.cells hce148 (hl.foot (ne_of_lt hi149))
   refine st (ov_loadk (k := 10) Try.isAgg36 Try.sizeOf36 rfl rfl hcw151 ?_)
   refine st (ov_call (f := 23) (vals := [.agg ((l.getD k default).cells (cellV W (sb vl) (so vl + k * 10 + 3))).toArray]) (cap := []) (show _ = (.func (.func 23) #[] #[] : Value) from rfl) rfl Try.call23 (D_copyEvent (e := (l.getD k default)) hde148_0 hoke148 hS146) ?_)
   rintro _ w153 ⟨v152, rfl, hS154⟩
   have hr155 := hS154.row (i := 0) rfl
   have hr155s : ((l.getD k default).deps).length * 8 ≤ 140737488355328 := hr155.2
   refine st (ov_alloc Try.zeroValue36 ?_)
   intro w158 b157 hn156
   have hS159 : Sep G W ((Blk b157 #[.int .i64 (0), .int .i64 (0), .int .i64 (0), (.slice none 0 0), .int .i64 (0), .int .i64 (0), .int .i64 (0), .int .i64 (0), .int .i64 (0), .int .i64 (0)] 36) :: (RowE (α := Int) own 3 v152 ((l.getD k default).deps)) :: (RefS b27 (1 + q6) L1) :: (SetO b24 (1 + q6) L1) :: (RBufO b21 (max 0 (min most 256)) M9) :: (BufO b18 (max 0 (min most 256)) (sortE M9)) :: Rs) w158 := hS154.new hn156
   refine stn (ov_store (v := .agg ((l.getD k default).cells v152).toArray) (c' := ((l.getD k default).cells v152).toArray) Try.sizeOf36 rfl rfl (hS159.blk (i := 0) rfl) (all1 ⟨rfl, rfl, rfl, hr155.1.one, rfl, rfl, rfl, rfl, rfl, rfl, trivial⟩) (Nat.le_of_ble_eq_true rfl) rfl ?_)
   intro w160 hp161
   have hS162 : Sep G W ((Blk b157 ((l.getD k default).cells v152).toArray 36) :: (RowE (α := Int) own 3 v152 ((l.getD k default).deps)) :: (RefS b27 (1 + q6) L1) :: (SetO b24 (1 + q6) L1) :: (RBufO b21 (max 0 (min most 256)) M9) :: (BufO b18 (max 0 (min most 256)) (sortE M9)) :: Rs) w160 := hS159.put (i := 0) rfl hp161
   refine st_nil ?_
   refine WP_seq ?_
   refine WP_seq ?_
   have hS163 : Sep G W ((RowE (α := Int) own 3 v152 ((l.getD k default).deps)) :: (Blk b157 ((l.getD k default).cells v152).toArray 36) :: (RefS b27 (1 + q6) L1) :: (SetO b24 (1 + q6) L1) :: (RBufO b21 (max 0 (min most 256)) M9) :: (BufO b18 (max 0 (min most 256)) (sortE M9)) :: Rs) w160 := hS162.sel 6 [1, 0, 2, 3, 4, 5] (Nat.le_add_left _ _) rfl rfl
   obtain ⟨G164, hA166, hB167, hS168, hk169⟩ := hS163.lend
   have hrd170 := RowE.rd hA166
   have hrd170s : ((l.getD k default).deps).length * 8 ≤ 140737488355328 := hrd170.small
   refine WP_draw4 (WF [fun vals wq => Sep G164 w160 ((Blk b157 ((l.getD k default).cells v152).toArray 36) :: (RefS b27 (1 + q6) L1) :: (SetO b24 (1 + q6) L1) :: (RBufO b21 (max 0 (min most 256)) M9) :: (BufO b18 (max 0 (min most 256)) (sortE M9)) :: Rs) wq, fun vals wq => (vals 2 = (.bool ((bAddB (max 0 (min most 256)) (sortE M9) (l.getD k default))) : Value)) ∧ Sep G164 w160 ((BufO b18 (max 0 (min most 256)) (bAddL (max 0 (min most 256)) (sortE M9) (l.getD k default))) :: (Blk b157 ((l.getD k default).cells v152).toArray 36) :: (RefS b27 (1 + q6) L1) :: (SetO b24 (1 + q6) L1) :: (RBufO b21 (max 0 (min most 256)) M9) :: Rs) wq, fun vals wq => (vals 2 = (.bool ((bAddB (max 0 (min most 256)) (sortE M9) (l.getD k default))) : Value)) ∧ (vals 8 = (.bool ((bAddB (max 0 (min most 256)) M9 (l.getD k default))) : Value)) ∧ Sep G164 w160 ((RBufO b21 (max 0 (min most 256)) (rAddB (max 0 (min most 256)) M9 (l.getD k default))) :: (BufO b18 (max 0 (min most 256)) (bAddL (max 0 (min most 256)) (sortE M9) (l.getD k default))) :: (Blk b157 ((l.getD k default).cells v152).toArray 36) :: (RefS b27 (1 + q6) L1) :: (SetO b24 (1 + q6) L1) :: Rs) wq]) (AF [Vl 0 (.pointer (some ⟨b18, 0, none⟩)), Vl 1 (.agg ((l.getD k default).cells v152).toArray), fun _ => True, Vl 3 (.pointer (some ⟨b21, 0, none⟩)), Vl 4 (vl), Vl 5 (.int .i64 ((k : Nat) : Int)), Vl 6 (.pointer (some ⟨sb vl, so vl + k * 10, none⟩)), Vl 7 (.agg ((l.getD k default).cells (cellV w160 (sb vl) (so vl + k * 10 + 3))).toArray), fun _ => True, Vl 9 (.bool false)]) [[], [], [0, 1], [], [], [], [4, 5], [4, 5, 6], [0, 1, 2, 3, 4, 5, 6, 7], [0, 1, 2, 3, 4, 5, 6, 7, 8]] [2, 8] [(0, 0), (0, 0), (0, 0), (0, 1), (0, 1), (0, 1), (0, 1), (0, 1), (1, 1), (2, 2)] (by kernel_rfl) (by kernel_rfl) (by kernel_rfl) rfl (by kernel_rfl) (by kernel_rfl) (fun _ h1 h2 h3 h4 _ => hS168.same h1 h2 h3 h4) ?_ (AF_loc ⟨dA, dA, dT, dA, dA, dA, dA, dA, dT, dA, trivial⟩) ⟨?_, ?_, ?_, ?_, ?_, ?_, ?_, ?_, ?_, ?_, trivial⟩ ?_
   ·intro k vals vals' w hv h
    have e : ∀ j ∈ ([2, 8] : List Nat), vals' j = vals j := hv
    match k, h with
    | 0, h => exact h
    | 1, h => exact (by simpa only [WF, List.getElem?_cons_zero, List.getElem?_cons_succ, e 2 (by decide)] using h)
    | 2, h => exact (by simpa only [WF, List.getElem?_cons_zero, List.getElem?_cons_succ, e 2 (by decide), e 8 (by decide)] using h)
    | _ + 3, _ => trivial
   ·intro k262 vals w263 h266 h267 hW265 hA264
    refine obl rfl ?_
    exact ov_move (v := .pointer (some ⟨b18, 0, none⟩)) rfl (fun vals' hv _ => ⟨rfl, hv⟩)
   ·intro k268 vals w269 h272 h273 hW271 hA270
    obtain rfl : k268 = 0 := Nat.le_antisymm h273 h272
    have hS274 : Sep G164 w160 ((Blk b157 ((l.getD k default).cells v152).toArray 36) :: (RefS b27 (1 + q6) L1) :: (SetO b24 (1 + q6) L1) :: (RBufO b21 (max 0 (min most 256)) M9) :: (BufO b18 (max 0 (min most 256)) (sortE M9)) :: Rs) w269 := hW271
    refine obl rfl ?_
    exact ov_loadk (k := 10) Try.isAgg36 Try.sizeOf36 rfl rfl (CellsAt.all (hS274.blk (i := 0) rfl)) (fun vals' hv _ => ⟨rfl, hv⟩)
   ·intro k184 vals w185 h188 h189 hW187 hA186
    obtain rfl : k184 = 0 := Nat.le_antisymm h189 h188
    have hS190 : Sep G164 w160 ((Blk b157 ((l.getD k default).cells v152).toArray 36) :: (RefS b27 (1 + q6) L1) :: (SetO b24 (1 + q6) L1) :: (RBufO b21 (max 0 (min most 256)) M9) :: (BufO b18 (max 0 (min most 256)) (sortE M9)) :: Rs) w185 := hW187
    have e191 := hA186 0 (by decide)
    have e192 := hA186 1 (by decide)
    refine obl rfl ?_
    have hS193 : Sep G164 w160 ((BufO b18 (max 0 (min most 256)) (sortE M9)) :: (Blk b157 ((l.getD k default).cells v152).toArray 36) :: (RefS b27 (1 + q6) L1) :: (SetO b24 (1 + q6) L1) :: (RBufO b21 (max 0 (min most 256)) M9) :: Rs) w185 := hS190.sel 5 [4, 0, 1, 2, 3] (Nat.le_add_left _ _) rfl rfl
    refine (ov_call (f := 14) (vals := [.pointer (some ⟨b18, 0, none⟩), .agg ((l.getD k default).cells v152).toArray]) (cap := []) (show _ = (.func (.func 14) #[] #[] : Value) from rfl) (mapL ⟨e191, e192, trivial⟩) Try.call14 (D_bAddL (e := (l.getD k default)) hrd170 hoke148 hS193 ((by show InR (max 0 (min most 256)); omega)) ((sortE_srt hM9)) ((by rw [sort_len]; omega))) ?_)
    rintro _ w194 ⟨rfl, hS195⟩
    intro vals' hv hv'
    refine ⟨?_, trivial⟩
    show (vals' 2 = (.bool ((bAddB (max 0 (min most 256)) (sortE M9) (l.getD k default))) : Value)) ∧ Sep G164 w160 ((BufO b18 (max 0 (min most 256)) (bAddL (max 0 (min most 256)) (sortE M9) (l.getD k default))) :: (Blk b157 ((l.getD k default).cells v152).toArray 36) :: (RefS b27 (1 + q6) L1) :: (SetO b24 (1 + q6) L1) :: (RBufO b21 (max 0 (min most 256)) M9) :: Rs) w194
    exact ⟨hv, hS195⟩
   ·intro k275 vals w276 h279 h280 hW278 hA277
    refine obl rfl ?_
    exact ov_move (v := .pointer (some ⟨b21, 0, none⟩)) rfl (fun vals' hv _ => ⟨rfl, hv⟩)
   ·intro k281 vals w282 h285 h286 hW284 hA283
    refine obl rfl ?_
    exact ov_move (v := vl) rfl (fun vals' hv _ => ⟨rfl, hv⟩)
   ·intro k287 vals w288 h291 h292 hW290 hA289
    refine obl rfl ?_
    exact ov_move (v := .int .i64 ((k : Nat) : Int)) rfl (fun vals' hv _ => ⟨rfl, hv⟩)
   ·intro k293 vals w294 h297 h298 hW296 hA295
    have hkk : k293 = 0 ∨ k293 = 1 := by have h1 : 0 ≤ k293 := h297; have h2 : k293 ≤ 1 := h298; omega
    rcases hkk with rfl | rfl
    ·skip
     have hS299 : Sep G164 w160 ((Blk b157 ((l.getD k default).cells v152).toArray 36) :: (RefS b27 (1 + q6) L1) :: (SetO b24 (1 + q6) L1) :: (RBufO b21 (max 0 (min most 256)) M9) :: (BufO b18 (max 0 (min most 256)) (sortE M9)) :: Rs) w294 := hW296
     have e300 := hA295 4 (by decide)
     have e301 := hA295 5 (by decide)
     refine obl rfl ?_
     have hi302 : k < l.length := (by first | omega | (simp only [lens]; omega))
     exact ov_indexAddrN (k := 10) (i := k) Try.underlying22 Try.sizeOf36 e300 (RdS.base hl hB167).sl e301 hi302 (fun vals' hv _ => ⟨rfl, hv⟩)
    ·skip
     obtain ⟨he196, hS303⟩ := hW296
     have e304 := hA295 4 (by decide)
     have e305 := hA295 5 (by decide)
     refine obl rfl ?_
     have hi306 : k < l.length := (by first | omega | (simp only [lens]; omega))
     exact ov_indexAddrN (k := 10) (i := k) Try.underlying22 Try.sizeOf36 e304 (RdS.base hl hB167).sl e305 hi306 (fun vals' hv _ => ⟨rfl, hv⟩)
   ·intro k307 vals w308 h311 h312 hW310 hA309
    have hkk : k307 = 0 ∨ k307 = 1 := by have h1 : 0 ≤ k307 := h311; have h2 : k307 ≤ 1 := h312; omega
    rcases hkk with rfl | rfl
    ·skip
     have hS313 : Sep G164 w160 ((Blk b157 ((l.getD k default).cells v152).toArray 36) :: (RefS b27 (1 + q6) L1) :: (SetO b24 (1 + q6) L1) :: (RBufO b21 (max 0 (min most 256)) M9) :: (BufO b18 (max 0 (min most 256)) (sortE M9)) :: Rs) w308 := hW310
     have e314 := hA309 6 (by decide)
     refine obl rfl ?_
     have hi316 : k < l.length := (by first | omega | (simp only [lens]; omega))
     obtain ⟨hce315, hde315_0, hoke315⟩ := (RdS.base hl hB167).ev hi316
     rw [← getD_at default hi316] at hce315 hde315_0 hoke315
     have hsm317 : ((l.getD k default).deps).length * 8 ≤ 140737488355328 := hde315_0.small
     have hcw318 := hS313.cells hce315 ((RdS.base hl hB167).foot (ne_of_lt hi316))
     exact ov_loadk (k := 10) Try.isAgg36 Try.sizeOf36 rfl e314 hcw318 (fun vals' hv _ => ⟨rfl, hv⟩)
    ·skip
     obtain ⟨he196, hS319⟩ := hW310
     have e320 := hA309 6 (by decide)
     refine obl rfl ?_
     have hi322 : k < l.length := (by first | omega | (simp only [lens]; omega))
     obtain ⟨hce321, hde321_0, hoke321⟩ := (RdS.base hl hB167).ev hi322
     rw [← getD_at default hi322] at hce321 hde321_0 hoke321
     have hsm323 : ((l.getD k default).deps).length * 8 ≤ 140737488355328 := hde321_0.small
     have hcw324 := hS319.cells hce321 ((RdS.base hl hB167).foot (ne_of_lt hi322))
     exact ov_loadk (k := 10) Try.isAgg36 Try.sizeOf36 rfl e320 hcw324 (fun vals' hv _ => ⟨rfl, hv⟩)
   ·intro k237 vals w238 h241 h242 hW240 hA239
    obtain rfl : k237 = 1 := Nat.le_antisymm h242 h241
    obtain ⟨he196, hS243⟩ := hW240
    have e244 := hA239 3 (by decide)
    have e245 := hA239 7 (by decide)
    refine obl rfl ?_
    have hi247 : k < l.length := (by first | omega | (simp only [lens]; omega))
    obtain ⟨hce246, hde246_0, hoke246⟩ := (RdS.base hl hB167).ev hi247
    rw [← getD_at default hi247] at hce246 hde246_0 hoke246
    have hsm248 : ((l.getD k default).deps).length * 8 ≤ 140737488355328 := hde246_0.small
    have hcw249 := hS243.cells hce246 ((RdS.base hl hB167).foot (ne_of_lt hi247))
    have hS250 : Sep G164 w160 ((RBufO b21 (max 0 (min most 256)) M9) :: (BufO b18 (max 0 (min most 256)) (bAddL (max 0 (min most 256)) (sortE M9) (l.getD k default))) :: (Blk b157 ((l.getD k default).cells v152).toArray 36) :: (RefS b27 (1 + q6) L1) :: (SetO b24 (1 + q6) L1) :: Rs) w238 := hS243.sel 5 [4, 0, 1, 2, 3] (Nat.le_add_left _ _) rfl rfl
    refine (ov_call (f := 24) (vals := [.pointer (some ⟨b21, 0, none⟩), .agg ((l.getD k default).cells (cellV w160 (sb vl) (so vl + k * 10 + 3))).toArray]) (cap := []) (show _ = (.func (.func 24) #[] #[] : Value) from rfl) (mapL ⟨e244, e245, trivial⟩) Try.call24 (D_rbAddL (e := (l.getD k default)) hde246_0 hoke246 hS250 ((by show InR (max 0 (min most 256)); omega)) ((by omega))) ?_)
    rintro _ w251 ⟨rfl, hS252⟩
    intro vals' hv hv'
    refine ⟨?_, trivial⟩
    show (vals' 2 = (.bool ((bAddB (max 0 (min most 256)) (sortE M9) (l.getD k default))) : Value)) ∧ (vals' 8 = (.bool ((bAddB (max 0 (min most 256)) M9 (l.getD k default))) : Value)) ∧ Sep G164 w160 ((RBufO b21 (max 0 (min most 256)) (rAddB (max 0 (min most 256)) M9 (l.getD k default))) :: (BufO b18 (max 0 (min most 256)) (bAddL (max 0 (min most 256)) (sortE M9) (l.getD k default))) :: (Blk b157 ((l.getD k default).cells v152).toArray 36) :: (RefS b27 (1 + q6) L1) :: (SetO b24 (1 + q6) L1) :: Rs) w251
    exact ⟨(by rw [hv' 2 (by decide)]; exact he196), hv, hS252⟩
   ·intro k325 vals w326 h329 h330 hW328 hA327
    obtain rfl : k325 = 2 := Nat.le_antisymm h330 h329
    obtain ⟨he196, he253, hS331⟩ := hW328
    refine obl rfl ?_
    have hl332 : (!((bAddB (max 0 (min most 256)) (sortE M9) (l.getD k default)) == (bAddB (max 0 (min most 256)) M9 (l.getD k default)))) = false := (by rw [bAddB_sort]; simp)
    exact ov_neqb (a := (bAddB (max 0 (min most 256)) (sortE M9) (l.getD k default))) (b := (bAddB (max 0 (min most 256)) M9 (l.getD k default))) Try.underlying4 he196 he253 (fun vals' hv _ => ⟨rfl, hv.trans (congrArg Value.bool hl332)⟩)
   intro vals w333 hW334 hA335
   obtain ⟨he196, he253, hS336⟩ := hW334
   have e337 := hA335 9 (by decide)
   refine st_env (kv := [(2, vl), (3, .int .i64 ((1 + q12 : Nat) : Int)), (9, .pointer (some ⟨b18, 0, none⟩)), (10, .pointer (some ⟨b21, 0, none⟩)), (11, .pointer (some ⟨b24, 0, none⟩)), (12, .pointer (some ⟨b27, 0, none⟩)), (13, .int .i64 ((k : Nat) : Int)), (62, vl), (63, .int .i64 ((k : Nat) : Int)), (64, .pointer (some ⟨sb vl, so vl + k * 10, none⟩)), (65, .agg ((l.getD k default).cells (cellV W (sb vl) (so vl + k * 10 + 3))).toArray), (66, .agg ((l.getD k default).cells v152).toArray), (14, .pointer (some ⟨b157, 0, none⟩)), (76, .bool false)]) ⟨rfl, rfl, rfl, rfl, rfl, rfl, rfl, rfl, rfl, rfl, rfl, rfl, rfl, (by exact e337), trivial⟩ (fun ρw333 => ?_)
   refine st_nil ?_
   refine WP_cond_f rfl ?_
   refine WP_skip ?_
   refine WP_seq ?_
   have hS338 : Sep G W ((RowE (α := Int) own 3 v152 ((l.getD k default).deps)) :: (RBufO b21 (max 0 (min most 256)) (rAddB (max 0 (min most 256)) M9 (l.getD k default))) :: (BufO b18 (max 0 (min most 256)) (bAddL (max 0 (min most 256)) (sortE M9) (l.getD k default))) :: (Blk b157 ((l.getD k default).cells v152).toArray 36) :: (RefS b27 (1 + q6) L1) :: (SetO b24 (1 + q6) L1) :: Rs) w333 := hk169 _ _ hS336
   rw [bAddL_sort] at hS338
   have hS339 : Sep G W ((RowE (α := Int) own 3 v152 ((l.getD k default).deps)) :: (RBufO b21 (max 0 (min most 256)) (rAddB (max 0 (min most 256)) M9 (l.getD k default))) :: (BufO b18 (max 0 (min most 256)) (sortE (rAddB (max 0 (min most 256)) M9 (l.getD k default)))) :: (Blk b157 ((l.getD k default).cells v152).toArray 36) :: (RefS b27 (1 + q6) L1) :: (SetO b24 (1 + q6) L1) :: Rs) w333 := hS338
   refine WP_region0 (by kernel_rfl) (fun _ => ?_)
   refine st (fd36_2 rfl ?_)
   refine st (ov_load1 (v := v152) Try.isAgg34 rfl (blk_cellL (hS339.blk (i := 3) rfl) rfl) ?_)
   obtain ⟨f340, hm341, hS342⟩ := hS339.toML
   refine st (ov_call (f := 25) (vals := [v152]) (cap := []) (show _ = (.func (.func 25) #[] #[] : Value) from rfl) rfl Try.call25 (D_SpoilInts  hm341 hS342) ?_)
   rintro _ w343 ⟨rfl, hS344⟩
   refine st_nil ?_
   refine WP_seq ?_
   refine WP_seq ?_
   refine WP_region0 (by kernel_rfl) (fun _ => ?_)
   refine st (ov_move (v := .int .i64 ((k : Nat) : Int)) rfl ?_)
   have h0345 : (0 : Int) < 29 := by omega
   have h0345m : k % 29 < 29 := Nat.mod_lt _ (by omega)
   refine st (ov_rem (r := ((k % 29 : Nat) : Int)) rfl rfl h0345 (Int.ofNat_tmod _ _).symm ?_)
   refine st (ov_eql (k := .i64) (a := ((k % 29 : Nat) : Int)) (b := 28) rfl rfl ?_)
   refine st_nil ?_
   have hrl9 := rAddB_len (m := (max 0 (min most 256))) (M := M9) (e := l.getD k default)
   have hri9 := rAddB_ids (m := (max 0 (min most 256))) (M := M9) (e := l.getD k default) hM9
   refine WP_join (fun σ wq => ∃ (M2 : List Ev) (ρ : Env), σ = setAll ρ [(2, vl), (3, .int .i64 ((1 + q12 : Nat) : Int)), (9, .pointer (some ⟨b18, 0, none⟩)), (10, .pointer (some ⟨b21, 0, none⟩)), (11, .pointer (some ⟨b24, 0, none⟩)), (12, .pointer (some ⟨b27, 0, none⟩)), (13, .int .i64 ((k : Nat) : Int)), (14, .pointer (some ⟨b157, 0, none⟩))] ∧ ((M2.map idE).Nodup) ∧ (M2.length ≤ M9.length + 1) ∧ Sep G W ((RBufO b21 (max 0 (min most 256)) M2) :: (BufO b18 (max 0 (min most 256)) (sortE M2)) :: (RefS b27 (1 + q6) L1) :: (SetO b24 (1 + q6) L1) :: Rs) wq) ?_ ?_
   ·skip
    cases hc346 : decide (((k % 29 : Nat) : Int) = 28)
    ·skip
     have hc346 := of_decide_eq_false hc346
     refine WP_cond_f rfl ?_
     refine WP_skip ?_
     have hS347 : Sep G W ((RBufO b21 (max 0 (min most 256)) (rAddB (max 0 (min most 256)) M9 (l.getD k default))) :: (BufO b18 (max 0 (min most 256)) (sortE (rAddB (max 0 (min most 256)) M9 (l.getD k default)))) :: (RefS b27 (1 + q6) L1) :: (SetO b24 (1 + q6) L1) :: Rs) w343 := hS344.sel 6 [1, 2, 4, 5] (Nat.le_add_left _ _) rfl rfl
     exact ⟨rfl, (rAddB (max 0 (min most 256)) M9 (l.getD k default)), _, setAll_self ⟨(show _ = (vl : Value) from rfl), (show _ = (.int .i64 ((1 + q12 : Nat) : Int) : Value) from rfl), (show _ = (.pointer (some ⟨b18, 0, none⟩) : Value) from rfl), (show _ = (.pointer (some ⟨b21, 0, none⟩) : Value) from rfl), (show _ = (.pointer (some ⟨b24, 0, none⟩) : Value) from rfl), (show _ = (.pointer (some ⟨b27, 0, none⟩) : Value) from rfl), (show _ = (.int .i64 ((k : Nat) : Int) : Value) from rfl), (show _ = (.pointer (some ⟨b157, 0, none⟩) : Value) from rfl), trivial⟩, hri9, hrl9, hS347⟩
    ·skip
     have hc346 := of_decide_eq_true hc346
     refine WP_cond_t rfl ?_
     refine WP_seq ?_
     refine WP_region0 (by kernel_rfl) (fun _ => ?_)
     refine st (ov_move (v := .pointer (some ⟨b18, 0, none⟩)) rfl ?_)
     have hS348 : Sep G W ((BufO b18 (max 0 (min most 256)) (sortE (rAddB (max 0 (min most 256)) M9 (l.getD k default)))) :: (ML w333 f340 noX) :: (RBufO b21 (max 0 (min most 256)) (rAddB (max 0 (min most 256)) M9 (l.getD k default))) :: (Blk b157 ((l.getD k default).cells v152).toArray 36) :: (RefS b27 (1 + q6) L1) :: (SetO b24 (1 + q6) L1) :: Rs) w343 := hS344.sel 6 [2, 0, 1, 3, 4, 5] (Nat.le_add_left _ _) rfl rfl
     refine st (ov_call (f := 26) (vals := [.pointer (some ⟨b18, 0, none⟩)]) (cap := []) (show _ = (.func (.func 26) #[] #[] : Value) from rfl) rfl Try.call26 (D_bClear  hS348) ?_)
     rintro _ w349 ⟨rfl, hS350⟩
     refine st_nil ?_
     refine WP_region0 (by kernel_rfl) (fun _ => ?_)
     refine st (ov_move (v := .pointer (some ⟨b21, 0, none⟩)) rfl ?_)
     have hS351 : Sep G W ((RBufO b21 (max 0 (min most 256)) (rAddB (max 0 (min most 256)) M9 (l.getD k default))) :: (BufO b18 (max 0 (min most 256)) ([] : List Ev)) :: (ML w333 f340 noX) :: (Blk b157 ((l.getD k default).cells v152).toArray 36) :: (RefS b27 (1 + q6) L1) :: (SetO b24 (1 + q6) L1) :: Rs) w349 := hS350.sel 6 [2, 0, 1, 3, 4, 5] (Nat.le_add_left _ _) rfl rfl
     refine st (ov_call (f := 27) (vals := [.pointer (some ⟨b21, 0, none⟩)]) (cap := []) (show _ = (.func (.func 27) #[] #[] : Value) from rfl) rfl Try.call27 (D_rbClear  hS351) ?_)
     rintro _ w352 ⟨rfl, hS353⟩
     refine st_nil ?_
     have hS354 : Sep G W ((RBufO b21 (max 0 (min most 256)) ([] : List Ev)) :: (BufO b18 (max 0 (min most 256)) ([] : List Ev)) :: (RefS b27 (1 + q6) L1) :: (SetO b24 (1 + q6) L1) :: Rs) w352 := hS353.sel 6 [0, 1, 4, 5] (Nat.le_add_left _ _) rfl rfl
     exact ⟨rfl, [], _, setAll_self ⟨(show _ = (vl : Value) from rfl), (show _ = (.int .i64 ((1 + q12 : Nat) : Int) : Value) from rfl), (show _ = (.pointer (some ⟨b18, 0, none⟩) : Value) from rfl), (show _ = (.pointer (some ⟨b21, 0, none⟩) : Value) from rfl), (show _ = (.pointer (some ⟨b24, 0, none⟩) : Value) from rfl), (show _ = (.pointer (some ⟨b27, 0, none⟩) : Value) from rfl), (show _ = (.int .i64 ((k : Nat) : Int) : Value) from rfl), (show _ = (.pointer (some ⟨b157, 0, none⟩) : Value) from rfl), trivial⟩, List.Pairwise.nil, Nat.zero_le _, hS354⟩
   rintro _ w355 ⟨M2, ρj2, rfl, hM2, hB2, hS356⟩
   refine WP_seq ?_
   refine WP_seq ?_
   refine WP_region0 (by kernel_rfl) (fun _ => ?_)
   refine st (ov_move (v := .int .i64 ((k : Nat) : Int)) rfl ?_)
   refine st (ov_move (v := .int .i64 ((1 + q12 : Nat) : Int)) rfl ?_)
   have h0357 : (0 : Int) < ((1 + q12 : Nat) : Int) := by omega
   have h0357m : k % (1 + q12) < (1 + q12) := Nat.mod_lt _ (by omega)
   refine st (ov_rem (r := ((k % (1 + q12) : Nat) : Int)) rfl rfl h0357 (Int.ofNat_tmod _ _).symm ?_)
   refine st (ov_eql (k := .i64) (a := ((k % (1 + q12) : Nat) : Int)) (b := 0) rfl rfl ?_)
   refine st_nil ?_
   refine WP_join (fun σ wq => ∃ (L3 : List Ev) (M3 : List Ev) (ρ : Env), σ = setAll ρ [(2, vl), (3, .int .i64 ((1 + q12 : Nat) : Int)), (9, .pointer (some ⟨b18, 0, none⟩)), (10, .pointer (some ⟨b21, 0, none⟩)), (11, .pointer (some ⟨b24, 0, none⟩)), (12, .pointer (some ⟨b27, 0, none⟩)), (13, .int .i64 ((k : Nat) : Int))] ∧ (Good (1 + q6) L3) ∧ ((M3.map idE).Nodup) ∧ (L3.length + M3.length ≤ L1.length + M2.length) ∧ Sep G W ((RBufO b21 (max 0 (min most 256)) M3) :: (BufO b18 (max 0 (min most 256)) (sortE M3)) :: (RefS b27 (1 + q6) L3) :: (SetO b24 (1 + q6) L3) :: Rs) wq) ?_ ?_
   ·skip
    cases hc358 : decide (((k % (1 + q12) : Nat) : Int) = 0)
    ·skip
     have hc358 := of_decide_eq_false hc358
     refine WP_cond_f rfl ?_
     refine WP_skip ?_
     exact ⟨rfl, L1, M2, _, setAll_self ⟨(show _ = (vl : Value) from rfl), (show _ = (.int .i64 ((1 + q12 : Nat) : Int) : Value) from rfl), (show _ = (.pointer (some ⟨b18, 0, none⟩) : Value) from rfl), (show _ = (.pointer (some ⟨b21, 0, none⟩) : Value) from rfl), (show _ = (.pointer (some ⟨b24, 0, none⟩) : Value) from rfl), (show _ = (.pointer (some ⟨b27, 0, none⟩) : Value) from rfl), (show _ = (.int .i64 ((k : Nat) : Int) : Value) from rfl), trivial⟩, hG1, hM2, Nat.le_refl _, hS356⟩
    ·skip
     have hc358 := of_decide_eq_true hc358
     refine WP_cond_t rfl ?_
     refine WP_seq ?_
     have hsl9 := sort_len (l := M2)
     have hql9 := rdy_len2 (n := (1 + q6)) (T := L1) (M := M2) (L := L1)
     refine WP_region0 (by kernel_rfl) (fun _ => ?_)
     refine st (ov_move (v := .pointer (some ⟨b18, 0, none⟩)) rfl ?_)
     refine st (ov_move (v := .pointer (some ⟨b24, 0, none⟩)) rfl ?_)
     have hS359 : Sep G W ((SetO b24 (1 + q6) L1) :: (RBufO b21 (max 0 (min most 256)) M2) :: (BufO b18 (max 0 (min most 256)) (sortE M2)) :: (RefS b27 (1 + q6) L1) :: Rs) w355 := hS356.sel 4 [3, 0, 1, 2] (Nat.le_add_left _ _) rfl rfl
     obtain ⟨G360, hA362, hB363, hS364, hk365⟩ := hS359.lend
     obtain ⟨vv366, m367, R368, hb369, hv370, hr371⟩ := SetO.sh hA362
     have hsm372 : (vecE (1 + q6) L1).length * 8 ≤ 140737488355328 := hv370.small
     have hS373 : Sep G360 w355 ((BufO b18 (max 0 (min most 256)) (sortE M2)) :: (RBufO b21 (max 0 (min most 256)) M2) :: (RefS b27 (1 + q6) L1) :: Rs) w355 := hS364.sel 3 [1, 0, 2] (Nat.le_add_left _ _) rfl rfl
     refine st (ov_call (f := 17) (vals := [.pointer (some ⟨b18, 0, none⟩), .pointer (some ⟨b24, 0, none⟩)]) (cap := []) (show _ = (.func (.func 17) #[] #[] : Value) from rfl) rfl Try.call17 (D_Ready  hA362 hS373 ((by show InR (max 0 (min most 256)); omega)) (by first | exact hG1 | exact hG9) (by omega) (by omega)) ?_)
     rintro v374 w375 ⟨_, rfl, hS376⟩
     have hr377 := hS376.row (i := 0) rfl
     have hr377s : (rdyO (1 + q6) L1 ((sortE M2).filter (fun x => !hadE L1 x))).length * 96 ≤ 140737488355328 := hr377.2
     have hS378 : Sep G W ((SetO b24 (1 + q6) L1) :: (RowE (α := Ev) own 36 v374 (rdyO (1 + q6) L1 ((sortE M2).filter (fun x => !hadE L1 x)))) :: (BufO b18 (max 0 (min most 256)) (rdyB (1 + q6) L1 ((sortE M2).filter (fun x => !hadE L1 x)))) :: (RBufO b21 (max 0 (min most 256)) M2) :: (RefS b27 (1 + q6) L1) :: Rs) w375 := hk365 _ _ hS376
     refine st (ov_assign (v := v374) rfl ?_)
     refine st_nil ?_
     refine WP_seq ?_
     refine WP_region0 (by kernel_rfl) (fun _ => ?_)
     refine st (ov_move (v := .pointer (some ⟨b21, 0, none⟩)) rfl ?_)
     refine st (ov_move (v := .pointer (some ⟨b27, 0, none⟩)) rfl ?_)
     have hS379 : Sep G W ((RefS b27 (1 + q6) L1) :: (SetO b24 (1 + q6) L1) :: (RowE (α := Ev) own 36 v374 (rdyO (1 + q6) L1 ((sortE M2).filter (fun x => !hadE L1 x)))) :: (BufO b18 (max 0 (min most 256)) (rdyB (1 + q6) L1 ((sortE M2).filter (fun x => !hadE L1 x)))) :: (RBufO b21 (max 0 (min most 256)) M2) :: Rs) w375 := hS378.sel 5 [4, 0, 1, 2, 3] (Nat.le_add_left _ _) rfl rfl
     obtain ⟨G380, hA382, hB383, hS384, hk385⟩ := hS379.lend
     obtain ⟨vl386, hb387, hl388⟩ := RefS.sh hA382
     have hsm389 : L1.length * 96 ≤ 140737488355328 := hl388.small
     have hS390 : Sep G380 w375 ((RBufO b21 (max 0 (min most 256)) M2) :: (SetO b24 (1 + q6) L1) :: (RowE (α := Ev) own 36 v374 (rdyO (1 + q6) L1 ((sortE M2).filter (fun x => !hadE L1 x)))) :: (BufO b18 (max 0 (min most 256)) (rdyB (1 + q6) L1 ((sortE M2).filter (fun x => !hadE L1 x)))) :: Rs) w375 := hS384.sel 4 [3, 0, 1, 2] (Nat.le_add_left _ _) rfl rfl
     refine st (ov_call (f := 28) (vals := [.pointer (some ⟨b21, 0, none⟩), .pointer (some ⟨b27, 0, none⟩)]) (cap := []) (show _ = (.func (.func 28) #[] #[] : Value) from rfl) rfl Try.call28 (D_rReady  hA382 hS390 ((by show InR (max 0 (min most 256)); omega)) (by first | exact hG1 | exact hG9) (by omega) (by first | exact hM2 | exact hM9) (by omega)) ?_)
     rintro v391 w395 ⟨_, B2392, rfl, hB2393, hB3394, hS396⟩
     have hr397 := hS396.row (i := 0) rfl
     have hr397s : (rdyO (1 + q6) L1 ((sortE M2).filter (fun x => !hadE L1 x))).length * 96 ≤ 140737488355328 := hr397.2
     have hS398 : Sep G W ((RefS b27 (1 + q6) L1) :: (RowE (α := Ev) own 36 v391 (rdyO (1 + q6) L1 ((sortE M2).filter (fun x => !hadE L1 x)))) :: (RBufO b21 (max 0 (min most 256)) B2392) :: (SetO b24 (1 + q6) L1) :: (RowE (α := Ev) own 36 v374 (rdyO (1 + q6) L1 ((sortE M2).filter (fun x => !hadE L1 x)))) :: (BufO b18 (max 0 (min most 256)) (rdyB (1 + q6) L1 ((sortE M2).filter (fun x => !hadE L1 x)))) :: Rs) w395 := hk385 _ _ hS396
     refine st (ov_assign (v := v391) rfl ?_)
     refine st_nil ?_
     refine WP_seq ?_
     refine WP_seq ?_
     rw [← hB3394] at hS398
     have hS399 : Sep G W ((RefS b27 (1 + q6) L1) :: (RowE (α := Ev) own 36 v391 (rdyO (1 + q6) L1 ((sortE M2).filter (fun x => !hadE L1 x)))) :: (RBufO b21 (max 0 (min most 256)) B2392) :: (SetO b24 (1 + q6) L1) :: (RowE (α := Ev) own 36 v374 (rdyO (1 + q6) L1 ((sortE M2).filter (fun x => !hadE L1 x)))) :: (BufO b18 (max 0 (min most 256)) (sortE B2392)) :: Rs) w395 := hS398
     have hs29 := sort_len (l := B2392)
     rw [hB3394] at hs29
     refine WP_region (by kernel_rfl) ?_
     refine st (ov_move (v := v374) rfl ?_)
     refine st (ov_move (v := v391) rfl ?_)
     have hS400 : Sep G W ((RowE (α := Ev) own 36 v374 (rdyO (1 + q6) L1 ((sortE M2).filter (fun x => !hadE L1 x)))) :: (RefS b27 (1 + q6) L1) :: (RowE (α := Ev) own 36 v391 (rdyO (1 + q6) L1 ((sortE M2).filter (fun x => !hadE L1 x)))) :: (RBufO b21 (max 0 (min most 256)) B2392) :: (SetO b24 (1 + q6) L1) :: (BufO b18 (max 0 (min most 256)) (sortE B2392)) :: Rs) w395 := hS399.sel 6 [4, 0, 1, 2, 3, 5] (Nat.le_add_left _ _) rfl rfl
     obtain ⟨G401, hA403, hB404, hS405, hk406⟩ := hS400.lend
     have hrd407 := RowE.rd hA403
     have hrd407s : (rdyO (1 + q6) L1 ((sortE M2).filter (fun x => !hadE L1 x))).length * 96 ≤ 140737488355328 := hrd407.small
     have hS408 : Sep G401 w395 ((RowE (α := Ev) own 36 v391 (rdyO (1 + q6) L1 ((sortE M2).filter (fun x => !hadE L1 x)))) :: (RefS b27 (1 + q6) L1) :: (RBufO b21 (max 0 (min most 256)) B2392) :: (SetO b24 (1 + q6) L1) :: (BufO b18 (max 0 (min most 256)) (sortE B2392)) :: Rs) w395 := hS405.sel 5 [1, 0, 2, 3, 4] (Nat.le_add_left _ _) rfl rfl
     obtain ⟨G409, hA411, hB412, hS413, hk414⟩ := hS408.lend
     have hrd415 := RowE.rd hA411
     have hrd415s : (rdyO (1 + q6) L1 ((sortE M2).filter (fun x => !hadE L1 x))).length * 96 ≤ 140737488355328 := hrd415.small
     refine st (ov_call (f := 19) (vals := [v374, v391]) (cap := []) (show _ = (.func (.func 19) #[] #[] : Value) from rfl) rfl Try.call19 (D_sameEvents (a := (rdyO (1 + q6) L1 ((sortE M2).filter (fun x => !hadE L1 x)))) (va := v374) (b := (rdyO (1 + q6) L1 ((sortE M2).filter (fun x => !hadE L1 x)))) (vb := v391) (RdS.base hrd407 hB412) hrd415 hS413) ?_)
     rintro _ w416 ⟨rfl, hS417⟩
     have hS418 : Sep G401 w395 ((RowE (α := Ev) own 36 v391 (rdyO (1 + q6) L1 ((sortE M2).filter (fun x => !hadE L1 x)))) :: (RefS b27 (1 + q6) L1) :: (RBufO b21 (max 0 (min most 256)) B2392) :: (SetO b24 (1 + q6) L1) :: (BufO b18 (max 0 (min most 256)) (sortE B2392)) :: Rs) w416 := hk414 _ _ hS417
     have hS419 : Sep G W ((RowE (α := Ev) own 36 v374 (rdyO (1 + q6) L1 ((sortE M2).filter (fun x => !hadE L1 x)))) :: (RowE (α := Ev) own 36 v391 (rdyO (1 + q6) L1 ((sortE M2).filter (fun x => !hadE L1 x)))) :: (RefS b27 (1 + q6) L1) :: (RBufO b21 (max 0 (min most 256)) B2392) :: (SetO b24 (1 + q6) L1) :: (BufO b18 (max 0 (min most 256)) (sortE B2392)) :: Rs) w416 := hk406 _ _ hS418
     have hkn420 : (decide ((rdyO (1 + q6) L1 ((sortE M2).filter (fun x => !hadE L1 x))) = (rdyO (1 + q6) L1 ((sortE M2).filter (fun x => !hadE L1 x))))) = true := decide_eq_true rfl
     rw [hkn420]
     refine st (ov_not (a := true) rfl ?_)
     refine st (ov_move (v := .bool false) rfl ?_)
     refine sty rfl rfl (ov_move (v := .pointer (some ⟨b24, 0, none⟩)) rfl ?_)
     have hS421 : Sep G W ((SetO b24 (1 + q6) L1) :: (RowE (α := Ev) own 36 v374 (rdyO (1 + q6) L1 ((sortE M2).filter (fun x => !hadE L1 x)))) :: (RowE (α := Ev) own 36 v391 (rdyO (1 + q6) L1 ((sortE M2).filter (fun x => !hadE L1 x)))) :: (RefS b27 (1 + q6) L1) :: (RBufO b21 (max 0 (min most 256)) B2392) :: (BufO b18 (max 0 (min most 256)) (sortE B2392)) :: Rs) w416 := hS419.sel 6 [4, 0, 1, 2, 3, 5] (Nat.le_add_left _ _) rfl rfl
     obtain ⟨G422, hA424, hB425, hS426, hk427⟩ := hS421.lend
     obtain ⟨vv428, m429, R430, hb431, hv432, hr433⟩ := SetO.sh hA424
     have hsm434 : (vecE (1 + q6) L1).length * 8 ≤ 140737488355328 := hv432.small
     refine sty rfl rfl (ov_call (f := 29) (vals := [.pointer (some ⟨b24, 0, none⟩)]) (cap := []) (show _ = (.func (.func 29) #[] #[] : Value) from rfl) rfl Try.call29 (D_All  hA424 hS426 (hG1.ids) (hG1.srt) ((by omega))) ?_)
     rintro v435 w436 ⟨_, rfl, hS437⟩
     have hr438 := hS437.row (i := 0) rfl
     have hr438s : L1.length * 96 ≤ 140737488355328 := hr438.2
     have hS439 : Sep G W ((SetO b24 (1 + q6) L1) :: (RowE (α := Ev) own 36 v435 L1) :: (RowE (α := Ev) own 36 v374 (rdyO (1 + q6) L1 ((sortE M2).filter (fun x => !hadE L1 x)))) :: (RowE (α := Ev) own 36 v391 (rdyO (1 + q6) L1 ((sortE M2).filter (fun x => !hadE L1 x)))) :: (RefS b27 (1 + q6) L1) :: (RBufO b21 (max 0 (min most 256)) B2392) :: (BufO b18 (max 0 (min most 256)) (sortE B2392)) :: Rs) w436 := hk427 _ _ hS437
     refine sty rfl rfl (ov_move (v := .pointer (some ⟨b27, 0, none⟩)) rfl ?_)
     have hS440 : Sep G W ((RefS b27 (1 + q6) L1) :: (SetO b24 (1 + q6) L1) :: (RowE (α := Ev) own 36 v435 L1) :: (RowE (α := Ev) own 36 v374 (rdyO (1 + q6) L1 ((sortE M2).filter (fun x => !hadE L1 x)))) :: (RowE (α := Ev) own 36 v391 (rdyO (1 + q6) L1 ((sortE M2).filter (fun x => !hadE L1 x)))) :: (RBufO b21 (max 0 (min most 256)) B2392) :: (BufO b18 (max 0 (min most 256)) (sortE B2392)) :: Rs) w436 := hS439.sel 7 [4, 0, 1, 2, 3, 5, 6] (Nat.le_add_left _ _) rfl rfl
     obtain ⟨G441, hA443, hB444, hS445, hk446⟩ := hS440.lend
     obtain ⟨vl447, hb448, hl449⟩ := RefS.sh hA443
     have hsm450 : L1.length * 96 ≤ 140737488355328 := hl449.small
     refine sty rfl rfl (ov_call (f := 30) (vals := [.pointer (some ⟨b27, 0, none⟩)]) (cap := []) (show _ = (.func (.func 30) #[] #[] : Value) from rfl) rfl Try.call30 (D_rAll  hA443 hS445) ?_)
     rintro v451 w452 ⟨_, rfl, hS453⟩
     have hr454 := hS453.row (i := 0) rfl
     have hr454s : L1.length * 96 ≤ 140737488355328 := hr454.2
     have hS455 : Sep G W ((RefS b27 (1 + q6) L1) :: (RowE (α := Ev) own 36 v451 L1) :: (SetO b24 (1 + q6) L1) :: (RowE (α := Ev) own 36 v435 L1) :: (RowE (α := Ev) own 36 v374 (rdyO (1 + q6) L1 ((sortE M2).filter (fun x => !hadE L1 x)))) :: (RowE (α := Ev) own 36 v391 (rdyO (1 + q6) L1 ((sortE M2).filter (fun x => !hadE L1 x)))) :: (RBufO b21 (max 0 (min most 256)) B2392) :: (BufO b18 (max 0 (min most 256)) (sortE B2392)) :: Rs) w452 := hk446 _ _ hS453
     have hS456 : Sep G W ((RowE (α := Ev) own 36 v435 L1) :: (RefS b27 (1 + q6) L1) :: (RowE (α := Ev) own 36 v451 L1) :: (SetO b24 (1 + q6) L1) :: (RowE (α := Ev) own 36 v374 (rdyO (1 + q6) L1 ((sortE M2).filter (fun x => !hadE L1 x)))) :: (RowE (α := Ev) own 36 v391 (rdyO (1 + q6) L1 ((sortE M2).filter (fun x => !hadE L1 x)))) :: (RBufO b21 (max 0 (min most 256)) B2392) :: (BufO b18 (max 0 (min most 256)) (sortE B2392)) :: Rs) w452 := hS455.sel 8 [3, 0, 1, 2, 4, 5, 6, 7] (Nat.le_add_left _ _) rfl rfl
     obtain ⟨G457, hA459, hB460, hS461, hk462⟩ := hS456.lend
     have hrd463 := RowE.rd hA459
     have hrd463s : L1.length * 96 ≤ 140737488355328 := hrd463.small
     have hS464 : Sep G457 w452 ((RowE (α := Ev) own 36 v451 L1) :: (RefS b27 (1 + q6) L1) :: (SetO b24 (1 + q6) L1) :: (RowE (α := Ev) own 36 v374 (rdyO (1 + q6) L1 ((sortE M2).filter (fun x => !hadE L1 x)))) :: (RowE (α := Ev) own 36 v391 (rdyO (1 + q6) L1 ((sortE M2).filter (fun x => !hadE L1 x)))) :: (RBufO b21 (max 0 (min most 256)) B2392) :: (BufO b18 (max 0 (min most 256)) (sortE B2392)) :: Rs) w452 := hS461.sel 7 [1, 0, 2, 3, 4, 5, 6] (Nat.le_add_left _ _) rfl rfl
     obtain ⟨G465, hA467, hB468, hS469, hk470⟩ := hS464.lend
     have hrd471 := RowE.rd hA467
     have hrd471s : L1.length * 96 ≤ 140737488355328 := hrd471.small
     refine sty rfl rfl (ov_call (f := 19) (vals := [v435, v451]) (cap := []) (show _ = (.func (.func 19) #[] #[] : Value) from rfl) rfl Try.call19 (D_sameEvents (a := L1) (va := v435) (b := L1) (vb := v451) (RdS.base hrd463 hB468) hrd471 hS469) ?_)
     rintro _ w472 ⟨rfl, hS473⟩
     have hS474 : Sep G457 w452 ((RowE (α := Ev) own 36 v451 L1) :: (RefS b27 (1 + q6) L1) :: (SetO b24 (1 + q6) L1) :: (RowE (α := Ev) own 36 v374 (rdyO (1 + q6) L1 ((sortE M2).filter (fun x => !hadE L1 x)))) :: (RowE (α := Ev) own 36 v391 (rdyO (1 + q6) L1 ((sortE M2).filter (fun x => !hadE L1 x)))) :: (RBufO b21 (max 0 (min most 256)) B2392) :: (BufO b18 (max 0 (min most 256)) (sortE B2392)) :: Rs) w472 := hk470 _ _ hS473
     have hS475 : Sep G W ((RowE (α := Ev) own 36 v435 L1) :: (RowE (α := Ev) own 36 v451 L1) :: (RefS b27 (1 + q6) L1) :: (SetO b24 (1 + q6) L1) :: (RowE (α := Ev) own 36 v374 (rdyO (1 + q6) L1 ((sortE M2).filter (fun x => !hadE L1 x)))) :: (RowE (α := Ev) own 36 v391 (rdyO (1 + q6) L1 ((sortE M2).filter (fun x => !hadE L1 x)))) :: (RBufO b21 (max 0 (min most 256)) B2392) :: (BufO b18 (max 0 (min most 256)) (sortE B2392)) :: Rs) w472 := hk462 _ _ hS474
     have hkn476 : (decide (L1 = L1)) = true := decide_eq_true rfl
     rw [hkn476]
     refine sty rfl rfl (ov_not (a := true) rfl ?_)
     refine st (ov_pick_f (v := .bool false) rfl rfl ?_)
     refine st_nil ?_
     refine WP_cond_f rfl ?_
     refine WP_skip ?_
     refine WP_seq ?_
     refine WP_region0 (by kernel_rfl) (fun _ => ?_)
     refine st (ov_move (v := v374) rfl ?_)
     have hS477 : Sep G W ((RowE (α := Ev) own 36 v374 (rdyO (1 + q6) L1 ((sortE M2).filter (fun x => !hadE L1 x)))) :: (RowE (α := Ev) own 36 v435 L1) :: (RowE (α := Ev) own 36 v451 L1) :: (RefS b27 (1 + q6) L1) :: (SetO b24 (1 + q6) L1) :: (RowE (α := Ev) own 36 v391 (rdyO (1 + q6) L1 ((sortE M2).filter (fun x => !hadE L1 x)))) :: (RBufO b21 (max 0 (min most 256)) B2392) :: (BufO b18 (max 0 (min most 256)) (sortE B2392)) :: Rs) w472 := hS475.sel 8 [4, 0, 1, 2, 3, 5, 6, 7] (Nat.le_add_left _ _) rfl rfl
     obtain ⟨f478, hm479, hS480⟩ := hS477.toML
     refine st (ov_call (f := 31) (vals := [v374]) (cap := []) (show _ = (.func (.func 31) #[] #[] : Value) from rfl) rfl Try.call31 (D_SpoilEvents  hm479 hS480) ?_)
     rintro _ w481 ⟨rfl, hS482⟩
     refine st_nil ?_
     refine WP_seq ?_
     refine WP_region0 (by kernel_rfl) (fun _ => ?_)
     refine st (ov_assign (v := .int .i64 (0)) rfl ?_)
     refine st_nil ?_
     refine WP_block ?_
     obtain ⟨O9, hO9⟩ : ∃ O9, (rdyO (1 + q6) L1 ((sortE M2).filter (fun x => !hadE L1 x))) = O9 := ⟨_, rfl⟩
     rw [hO9] at hql9
     rw [hO9] at hS482
     have hS483 : Sep G W ((RowE (α := Ev) own 36 v435 L1) :: (RowE (α := Ev) own 36 v451 L1) :: (RefS b27 (1 + q6) L1) :: (SetO b24 (1 + q6) L1) :: (RowE (α := Ev) own 36 v391 O9) :: (RBufO b21 (max 0 (min most 256)) B2392) :: (BufO b18 (max 0 (min most 256)) (sortE B2392)) :: Rs) w481 := hS482
     have hr484 := hS483.row (i := 4) rfl
     have hr484s : O9.length * 96 ≤ 140737488355328 := hr484.2
     have hS485 : Sep G W ((RowE (α := Ev) own 36 v391 O9) :: (RowE (α := Ev) own 36 v435 L1) :: (RowE (α := Ev) own 36 v451 L1) :: (RefS b27 (1 + q6) L1) :: (SetO b24 (1 + q6) L1) :: (RBufO b21 (max 0 (min most 256)) B2392) :: (BufO b18 (max 0 (min most 256)) (sortE B2392)) :: Rs) w481 := hS483.sel 7 [4, 0, 1, 2, 3, 5, 6] (Nat.le_add_left _ _) rfl rfl
     obtain ⟨G486, hA488, hB489, hS490, hk491⟩ := hS485.lend
     have hrd492 := RowE.rd hA488
     have hrd492s : O9.length * 96 ≤ 140737488355328 := hrd492.small
     have hS493 : Sep G486 w481 ((RefS b27 (1 + q6) L1) :: (SetO b24 (1 + q6) L1) :: (RBufO b21 (max 0 (min most 256)) B2392) :: (BufO b18 (max 0 (min most 256)) (sortE B2392)) :: Rs) w481 := hS490.sel 6 [2, 3, 4, 5] (Nat.le_add_left _ _) rfl rfl
     refine WP_loop (fun mq σ wq => ∃ (q9 : Nat) (T9 : List Ev) (ρ : Env), mq = O9.length - q9 ∧ σ = setAll ρ [(2, vl), (3, .int .i64 ((1 + q12 : Nat) : Int)), (9, .pointer (some ⟨b18, 0, none⟩)), (10, .pointer (some ⟨b21, 0, none⟩)), (11, .pointer (some ⟨b24, 0, none⟩)), (12, .pointer (some ⟨b27, 0, none⟩)), (13, .int .i64 ((k : Nat) : Int)), (16, v391), (17, .int .i64 ((q9 : Nat) : Int))] ∧ (q9 ≤ O9.length) ∧ (Good (1 + q6) T9) ∧ (T9.length ≤ L1.length + q9) ∧ Sep G486 w481 ((RefS b27 (1 + q6) T9) :: (SetO b24 (1 + q6) T9) :: (RBufO b21 (max 0 (min most 256)) B2392) :: (BufO b18 (max 0 (min most 256)) (sortE B2392)) :: Rs) wq) ⟨0, L1, _, rfl, setAll_self ⟨rfl, rfl, rfl, rfl, rfl, rfl, rfl, rfl, rfl, trivial⟩, Nat.zero_le _, hG1, Nat.le_refl _, hS493⟩ ?_
     rintro m495 σ496 w494 ⟨q9, T9, ρl2, rfl, rfl, hq9, hGT9, hTl9, hS497⟩
     have hat9 := addL_len (n := (1 + q6)) (L := T9) (e := O9.getD q9 default)
     refine WP_seq ?_
     refine WP_seq ?_
     refine WP_region (by kernel_rfl) ?_
     refine st (ov_move (v := .int .i64 ((k : Nat) : Int)) rfl ?_)
     have h0498 : (0 : Int) < 2 := by omega
     have h0498m : k % 2 < 2 := Nat.mod_lt _ (by omega)
     refine st (ov_rem (r := ((k % 2 : Nat) : Int)) rfl rfl h0498 (Int.ofNat_tmod _ _).symm ?_)
     refine st (ov_eql (k := .i64) (a := ((k % 2 : Nat) : Int)) (b := 0) rfl rfl ?_)
     refine st (ov_move (v := .bool (decide (((k % 2 : Nat) : Int) = 0))) rfl ?_)
     refine stc (V := .int .i64 ((q9 : Nat) : Int)) rfl rfl (fun hb499 => ?_) ?_
     ·have hl500 := hb499
      have hl500 := of_decide_eq_true hl500
      exact ov_move (v := .int .i64 ((q9 : Nat) : Int)) rfl ⟨rfl, rfl⟩
     refine stc (V := v391) rfl rfl (fun hb501 => ?_) ?_
     ·have hl502 := hb501
      have hl502 := of_decide_eq_true hl502
      exact ov_move (v := v391) rfl ⟨rfl, rfl⟩
     refine stc (V := .int .i64 ((O9.length : Nat) : Int)) rfl rfl (fun hb503 => ?_) ?_
     ·have hl504 := hb503
      have hl504 := of_decide_eq_true hl504
      exact ov_len (n := O9.length) Try.underlying22 (show _ = (v391 : Value) from (if_pos hb503)) hrd492.sl ⟨rfl, rfl⟩
     refine stc (V := .bool (decide (((q9 : Nat) : Int) < ((O9.length : Nat) : Int)))) rfl rfl (fun hb505 => ?_) ?_
     ·have hl506 := hb505
      have hl506 := of_decide_eq_true hl506
      exact ov_lss (k := .i64) (a := ((q9 : Nat) : Int)) (b := ((O9.length : Nat) : Int)) (show _ = (.int .i64 ((q9 : Nat) : Int) : Value) from (if_pos hb505)) (show _ = (.int .i64 ((O9.length : Nat) : Int) : Value) from (if_pos hb505)) ⟨rfl, rfl⟩
     refine st (ov_pick_and (b := decide (((k % 2 : Nat) : Int) = 0)) (b' := decide (((q9 : Nat) : Int) < ((O9.length : Nat) : Int))) rfl (fun hbp => (show _ = (.bool (decide (((q9 : Nat) : Int) < ((O9.length : Nat) : Int))) : Value) from (if_pos hbp))) ?_)
     refine st_nil ?_
     cases hc507 : (decide (((k % 2 : Nat) : Int) = 0)) && (decide (((q9 : Nat) : Int) < ((O9.length : Nat) : Int)))
     ·skip
      have hc507r := hc507
      try simp only [bools] at hc507
      refine WP_cond_f rfl ?_
      refine WP_exit ?_
      try simp only [thenQ]
      refine blk_exit ?_
      have hS508 : Sep G W ((RowE (α := Ev) own 36 v391 O9) :: (RefS b27 (1 + q6) T9) :: (SetO b24 (1 + q6) T9) :: (RBufO b21 (max 0 (min most 256)) B2392) :: (BufO b18 (max 0 (min most 256)) (sortE B2392)) :: Rs) w494 := hk491 _ _ hS497
      have hS509 : Sep G W ((RBufO b21 (max 0 (min most 256)) B2392) :: (BufO b18 (max 0 (min most 256)) (sortE B2392)) :: (RefS b27 (1 + q6) T9) :: (SetO b24 (1 + q6) T9) :: Rs) w494 := hS508.sel 5 [3, 4, 1, 2] (Nat.le_add_left _ _) rfl rfl
      exact ⟨rfl, T9, B2392, _, setAll_self ⟨(show _ = (vl : Value) from rfl), (show _ = (.int .i64 ((1 + q12 : Nat) : Int) : Value) from rfl), (show _ = (.pointer (some ⟨b18, 0, none⟩) : Value) from rfl), (show _ = (.pointer (some ⟨b21, 0, none⟩) : Value) from rfl), (show _ = (.pointer (some ⟨b24, 0, none⟩) : Value) from rfl), (show _ = (.pointer (some ⟨b27, 0, none⟩) : Value) from rfl), (show _ = (.int .i64 ((k : Nat) : Int) : Value) from rfl), trivial⟩, hGT9, hB2393, by omega, hS509⟩
     ·skip
      have hc507r := hc507
      try simp only [bools] at hc507
      refine WP_cond_t rfl ?_
      refine WP_skip ?_
      refine WP_seq ?_
      refine WP_block ?_
      refine WP_seq ?_
      refine WP_region0 (by kernel_rfl) (fun _ => ?_)
      refine st (ov_move (v := .pointer (some ⟨b24, 0, none⟩)) rfl ?_)
      refine st (ov_move (v := v391) rfl ?_)
      refine st (ov_move (v := .int .i64 ((q9 : Nat) : Int)) rfl ?_)
      have hi510 : q9 < O9.length := (by first | omega | (simp only [lens]; omega))
      refine st (ov_indexAddrN (k := 10) (i := q9) Try.underlying22 Try.sizeOf36 rfl hrd492.sl rfl hi510 ?_)
      have hi512 : q9 < O9.length := (by first | omega | (simp only [lens]; omega))
      obtain ⟨hce511, hde511_0, hoke511⟩ := hrd492.ev hi512
      rw [← getD_at default hi512] at hce511 hde511_0 hoke511
      have hsm513 : ((O9.getD q9 default).deps).length * 8 ≤ 140737488355328 := hde511_0.small
      have hcw514 := hS497.cells hce511 (hrd492.foot (ne_of_lt hi512))
      refine st (ov_loadk (k := 10) Try.isAgg36 Try.sizeOf36 rfl rfl hcw514 ?_)
      have hS515 : Sep G486 w481 ((SetO b24 (1 + q6) T9) :: (RefS b27 (1 + q6) T9) :: (RBufO b21 (max 0 (min most 256)) B2392) :: (BufO b18 (max 0 (min most 256)) (sortE B2392)) :: Rs) w494 := hS497.sel 4 [1, 0, 2, 3] (Nat.le_add_left _ _) rfl rfl
      refine st (ov_call (f := 13) (vals := [.pointer (some ⟨b24, 0, none⟩), .agg ((O9.getD q9 default).cells (cellV w481 (sb v391) (so v391 + q9 * 10 + 3))).toArray]) (cap := []) (show _ = (.func (.func 13) #[] #[] : Value) from rfl) rfl Try.call13 (D_AddT (e := (O9.getD q9 default)) hde511_0 hoke511 hS515 ((by omega)) (by first | exact hG9.len | exact hGT9.len)) ?_)
      rintro _ w516 ⟨rfl, hS517⟩
      refine st_nil ?_
      refine WP_region0 (by kernel_rfl) (fun _ => ?_)
      refine st (ov_move (v := .pointer (some ⟨b27, 0, none⟩)) rfl ?_)
      refine st (ov_move (v := v391) rfl ?_)
      refine st (ov_move (v := .int .i64 ((q9 : Nat) : Int)) rfl ?_)
      have hi518 : q9 < O9.length := (by first | omega | (simp only [lens]; omega))
      refine st (ov_indexAddrN (k := 10) (i := q9) Try.underlying22 Try.sizeOf36 rfl hrd492.sl rfl hi518 ?_)
      have hcw520 := hS517.cells hce511 (hrd492.foot (ne_of_lt hi512))
      refine st (ov_loadk (k := 10) Try.isAgg36 Try.sizeOf36 rfl rfl hcw520 ?_)
      have hS521 : Sep G486 w481 ((RefS b27 (1 + q6) T9) :: (SetO b24 (1 + q6) (addL (1 + q6) T9 (O9.getD q9 default))) :: (RBufO b21 (max 0 (min most 256)) B2392) :: (BufO b18 (max 0 (min most 256)) (sortE B2392)) :: Rs) w516 := hS517.sel 4 [1, 0, 2, 3] (Nat.le_add_left _ _) rfl rfl
      refine st (ov_call (f := 22) (vals := [.pointer (some ⟨b27, 0, none⟩), .agg ((O9.getD q9 default).cells (cellV w481 (sb v391) (so v391 + q9 * 10 + 3))).toArray]) (cap := []) (show _ = (.func (.func 22) #[] #[] : Value) from rfl) rfl Try.call22 (D_rAddL (e := (O9.getD q9 default)) hde511_0 hoke511 hS521 (by first | exact hG9 | exact hGT9) ((by omega)) ((by omega))) ?_)
      rintro _ w522 ⟨rfl, hS523⟩
      refine st_nil ?_
      refine WP_region0 (by kernel_rfl) (fun _ => ?_)
      refine st (ov_move (v := .int .i64 ((q9 : Nat) : Int)) rfl ?_)
      have hr524 : InR ((q9 + 1 : Nat) : Int) := by first | omega | (simp only [lens]; omega)
      refine st (ov_add (r := ((q9 + 1 : Nat) : Int)) (k := .i64) (a := ((q9 : Nat) : Int)) (b := 1) rfl rfl (by rw [show (((q9 : Nat) : Int) + 1 : Int) = ((q9 + 1 : Nat) : Int) by first | omega | (simp only [lens]; omega)]; exact wrap_in hr524) ?_)
      refine st (ov_assign (v := .int .i64 ((q9 + 1 : Nat) : Int)) rfl ?_)
      refine st_nil ?_
      exact ⟨_, by omega, q9 + 1, (addL (1 + q6) T9 (O9.getD q9 default)), _, rfl, setAll_self ⟨rfl, rfl, rfl, rfl, rfl, rfl, rfl, rfl, rfl, trivial⟩, by omega, hGT9.addL, by omega, hS523⟩
   rintro _ w525 ⟨L3, M3, ρj3, rfl, hG3, hM3, hB3, hS526⟩
   refine WP_seq ?_
   refine WP_region0 (by kernel_rfl) (fun _ => ?_)
   refine st (ov_move (v := .pointer (some ⟨b18, 0, none⟩)) rfl ?_)
   have hS527 : Sep G W ((BufO b18 (max 0 (min most 256)) (sortE M3)) :: (RBufO b21 (max 0 (min most 256)) M3) :: (RefS b27 (1 + q6) L3) :: (SetO b24 (1 + q6) L3) :: Rs) w525 := hS526.sel 4 [1, 0, 2, 3] (Nat.le_add_left _ _) rfl rfl
   obtain ⟨G528, hA530, hB531, hS532, hk533⟩ := hS527.lend
   obtain ⟨vl534, hb535, hl536⟩ := BufO.sh hA530
   have hsm537 : (sortE M3).length * 96 ≤ 140737488355328 := hl536.small
   refine st (ov_call (f := 18) (vals := [.pointer (some ⟨b18, 0, none⟩)]) (cap := []) (show _ = (.func (.func 18) #[] #[] : Value) from rfl) rfl Try.call18 (D_bLen  hA530 hS532) ?_)
   rintro _ w538 ⟨rfl, hS539⟩
   have hS540 : Sep G W ((BufO b18 (max 0 (min most 256)) (sortE M3)) :: (RBufO b21 (max 0 (min most 256)) M3) :: (RefS b27 (1 + q6) L3) :: (SetO b24 (1 + q6) L3) :: Rs) w538 := hk533 _ _ hS539
   refine st (ov_move (v := .pointer (some ⟨b21, 0, none⟩)) rfl ?_)
   have hS541 : Sep G W ((RBufO b21 (max 0 (min most 256)) M3) :: (BufO b18 (max 0 (min most 256)) (sortE M3)) :: (RefS b27 (1 + q6) L3) :: (SetO b24 (1 + q6) L3) :: Rs) w538 := hS540.sel 4 [1, 0, 2, 3] (Nat.le_add_left _ _) rfl rfl
   obtain ⟨G542, hA544, hB545, hS546, hk547⟩ := hS541.lend
   obtain ⟨vl548, hb549, hl550⟩ := RBufO.sh hA544
   have hsm551 : M3.length * 96 ≤ 140737488355328 := hl550.small
   refine st (ov_call (f := 32) (vals := [.pointer (some ⟨b21, 0, none⟩)]) (cap := []) (show _ = (.func (.func 32) #[] #[] : Value) from rfl) rfl Try.call32 (D_rbLen  hA544 hS546) ?_)
   rintro _ w552 ⟨rfl, hS553⟩
   have hS554 : Sep G W ((RBufO b21 (max 0 (min most 256)) M3) :: (BufO b18 (max 0 (min most 256)) (sortE M3)) :: (RefS b27 (1 + q6) L3) :: (SetO b24 (1 + q6) L3) :: Rs) w552 := hk547 _ _ hS553
   refine st (ov_neq (k := .i64) (a := (((sortE M3).length : Nat) : Int)) (b := ((M3.length : Nat) : Int)) rfl rfl ?_)
   have hkn555 : (!decide ((((sortE M3).length : Nat) : Int) = ((M3.length : Nat) : Int))) = false := (by rw [Bool.not_eq_false', decide_eq_true_eq, sort_len])
   rw [hkn555]
   refine st_nil ?_
   refine WP_cond_f rfl ?_
   refine WP_skip ?_
   refine WP_region0 (by kernel_rfl) (fun _ => ?_)
   refine st (ov_move (v := .int .i64 ((k : Nat) : Int)) rfl ?_)
   have hr556 : InR ((k + 1 : Nat) : Int) := by first | omega | (simp only [lens]; omega)
   refine st (ov_add (r := ((k + 1 : Nat) : Int)) (k := .i64) (a := ((k : Nat) : Int)) (b := 1) rfl rfl (by rw [show (((k : Nat) : Int) + 1 : Int) = ((k + 1 : Nat) : Int) by first | omega | (simp only [lens]; omega)]; exact wrap_in hr556) ?_)
   refine st (ov_assign (v := .int .i64 ((k + 1 : Nat) : Int)) rfl ?_)
   refine st_nil ?_
   have hS557 : Sep G W ((RefS b27 (1 + q6) L3) :: (SetO b24 (1 + q6) L3) :: (RBufO b21 (max 0 (min most 256)) M3) :: (BufO b18 (max 0 (min most 256)) (sortE M3)) :: Rs) w552 := hS554.sel 4 [2, 3, 0, 1] (Nat.le_add_left _ _) rfl rfl
   exact ⟨_, by omega, k + 1, L3, M3, _, rfl, setAll_self ⟨rfl, rfl, rfl, rfl, rfl, rfl, rfl, trivial⟩, by omega, hG3, hM3, by omega, hS557⟩
 ·skip
  have hc5r := hc5
  refine WP_cond_t rfl ?_
  refine WP_seq ?_
  refine WP_region0 (by kernel_rfl) (fun _ => ?_)
  refine st (ov_call (f := 9) (vals := []) (cap := []) (show _ = (.func (.func 9) #[] #[] : Value) from rfl) rfl Try.call9 (D_known25  hS4) ?_)
  rintro _ w558 ⟨rfl, hS559⟩
  refine st (ov_assign (v := .bool true) rfl ?_)
  refine st_nil ?_
  refine WP_ret ?_
  refine fin1 Try.results5 (show _ = (.bool true : Value) from rfl) ?_
  refine ⟨rfl, hS559⟩

end Go.Proofs.Ytmiihhbeclhaoaa
end

section
/- Steps of the proofs of this seat: part F5. -/
set_option linter.unusedSimpArgs false
set_option linter.unusedVariables false
set_option maxRecDepth 8000
set_option maxHeartbeats 4000000
namespace Go.Proofs.Ytmiihhbeclhaoaa
open Go.Proofs Go.RowKit

theorem C_BufferPlays {W : World} {z0 : Int} (hz0 : InR z0) {z1 : Int} (hz1 : InR z1) {vz2 : Value} {z2 : List Ev} (hz2 : RdS W (inHeap W) vz2 z2) {z3 : Int} (hz3 : InR z3) : Ret Try.prog 5 [.int .i64 z0, .int .i64 z1, vz2, .int .i64 z3] W (fun r w' => r = .bool true ∧ Ext W w') :=
  Ret.mono (D_BufferPlays hz0 hz1 hz2 hz3 (Sep.start W)) (fun v w' ⟨h1, h2⟩ => ⟨h1, h2.fin⟩)
end Go.Proofs.Ytmiihhbeclhaoaa
end
