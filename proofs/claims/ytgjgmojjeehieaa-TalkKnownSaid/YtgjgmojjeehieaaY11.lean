/- Texts of this claim, part 11. -/
import Derived.Test.YtgjgmojjeehieaaY10
set_option linter.unusedSimpArgs false
set_option linter.unusedVariables false
/- Steps of the proofs of this seat: part T7. -/
set_option linter.unusedSimpArgs false
set_option linter.unusedVariables false
set_option maxRecDepth 8000
set_option maxHeartbeats 4000000
namespace Go.Proofs.Ytgjgmojjeehieaa
open Go.Proofs Go.RowKit

theorem Part.pre {n : Nat} {S : List Ev} (h : Good n S) {q : Nat} (hq : q ≤ S.length) : Part n S (S.take q) := ⟨h.prefix q hq, fun _ hx => List.mem_of_mem_take hx⟩
theorem D_TalkMeets {G : Nat → Prop} {W w : World} {Rs : List HP} {n : Int} (hn : InR n) {vl : Value} {l : List Ev} (hl : RdS W G vl l) {part : Int} (hpart : InR part) {chunk : Int} (hchunk : InR chunk) (hS0 : Sep G W Rs w) : Ret Try.prog 13 [.int .i64 (n), vl, .int .i64 (part), .int .i64 (chunk)] w (fun r w' => r = (.bool true : Value) ∧ Sep G W Rs w') := by
 have hls : l.length * 96 ≤ 140737488355328 := hl.small
 refine Calls_of_WP (args := [.int .i64 (n), vl, .int .i64 (part), .int .i64 (chunk)]) Try.func13 rfl rfl ?_
 refine WP_seq ?_
 refine WP_region0 (by kernel_rfl) (fun _ => ?_)
 refine st (ov_assign (v := .bool false) rfl ?_)
 refine st_nil ?_
 refine WP_seq ?_
 refine WP_seq ?_
 refine WP_region0 (by kernel_rfl) (fun _ => ?_)
 refine st (ov_move (v := vl) rfl ?_)
 refine st (ov_call (f := 15) (vals := [vl]) (cap := []) (show _ = (.func (.func 15) #[] #[] : Value) from rfl) rfl Try.call15 (D_long (l := l) (vl := vl) hl hS0) ?_)
 rintro _ w3 ⟨b1, rfl, hb2, hS4⟩
 refine st_nil ?_
 cases hc5 : b1
 ·skip
  have hc5r := hc5
  obtain ⟨hf9, _⟩ := hb2 hc5r
  refine WP_cond_f rfl ?_
  refine WP_skip ?_
  refine WP_seq ?_
  refine WP_region0 (by kernel_rfl) (fun _ => ?_)
  refine st (ov_move (v := .int .i64 (n)) rfl ?_)
  refine st (ov_call (f := 17) (vals := [.int .i64 (n), .int .i64 (64)]) (cap := []) (show _ = (.func (.func 17) #[] #[] : Value) from rfl) rfl Try.call17 (D_PickF (x := n) (n := 64) hn (by first | omega | (refine ⟨?_, ?_⟩ <;> omega)) hS4) ?_)
  rintro _ w9 ⟨q6, rfl, hq7, hqe8, hS10⟩
  have hr11 : InR ((1 + q6 : Nat) : Int) := by first | omega | (simp only [lens]; omega)
  refine st (ov_add (r := ((1 + q6 : Nat) : Int)) (k := .i64) (a := 1) (b := ((q6 : Nat) : Int)) rfl rfl (by rw [show (1 + ((q6 : Nat) : Int) : Int) = ((1 + q6 : Nat) : Int) by first | omega | (simp only [lens]; omega)]; exact wrap_in hr11) ?_)
  refine st (ov_assign (v := .int .i64 ((1 + q6 : Nat) : Int)) rfl ?_)
  refine st_nil ?_
  refine WP_seq ?_
  refine WP_region0 (by kernel_rfl) (fun _ => ?_)
  refine st (ov_move (v := .int .i64 (chunk)) rfl ?_)
  refine st (ov_call (f := 17) (vals := [.int .i64 (chunk), .int .i64 (40)]) (cap := []) (show _ = (.func (.func 17) #[] #[] : Value) from rfl) rfl Try.call17 (D_PickF (x := chunk) (n := 40) hchunk (by first | omega | (refine ⟨?_, ?_⟩ <;> omega)) hS10) ?_)
  rintro _ w15 ⟨q12, rfl, hq13, hqe14, hS16⟩
  have hr17 : InR ((1 + q12 : Nat) : Int) := by first | omega | (simp only [lens]; omega)
  refine st (ov_add (r := ((1 + q12 : Nat) : Int)) (k := .i64) (a := 1) (b := ((q12 : Nat) : Int)) rfl rfl (by rw [show (1 + ((q12 : Nat) : Int) : Int) = ((1 + q12 : Nat) : Int) by first | omega | (simp only [lens]; omega)]; exact wrap_in hr17) ?_)
  refine st (ov_assign (v := .int .i64 ((1 + q12 : Nat) : Int)) rfl ?_)
  refine st_nil ?_
  refine WP_seq ?_
  refine WP_region0 (by kernel_rfl) (fun _ => ?_)
  refine st (ov_move (v := .int .i64 ((1 + q6 : Nat) : Int)) rfl ?_)
  refine st (ov_move (v := vl) rfl ?_)
  refine st (ov_call (f := 40) (vals := [.int .i64 ((1 + q6 : Nat) : Int), vl]) (cap := []) (show _ = (.func (.func 40) #[] #[] : Value) from rfl) rfl Try.call40 (D_laid27 (n := 1 + q6) (l := l) (vl := vl) (by first | omega | (refine ⟨?_, ?_⟩ <;> omega)) hl hS16 ((by first | omega | (rw [List.length_append]; omega) | (rw [List.length_take]; omega)))) ?_)
  rintro _ w19 ⟨b18, rfl, hS20⟩
  refine st (ov_assign (v := .pointer (some ⟨b18, 0, none⟩)) rfl ?_)
  refine st_nil ?_
  refine WP_seq ?_
  refine WP_seq ?_
  refine WP_region0 (by kernel_rfl) (fun _ => ?_)
  refine st (ov_move (v := .pointer (some ⟨b18, 0, none⟩)) rfl ?_)
  refine st (ov_eqlPtr (b := b18) (o := 0) Try.underlying26 rfl ?_)
  refine st_nil ?_
  refine WP_cond_f rfl ?_
  refine WP_skip ?_
  refine WP_seq ?_
  refine WP_region0 (by kernel_rfl) (fun _ => ?_)
  refine st (ov_move (v := .pointer (some ⟨b18, 0, none⟩)) rfl ?_)
  obtain ⟨G21, hA23, hB24, hS25, hk26⟩ := hS20.lend
  obtain ⟨vv27, m28, R29, hb30, hv31, hr32⟩ := SetO.sh hA23
  have hsm33 : (vecE (1 + q6) (laidL (1 + q6) l)).length * 8 ≤ 140737488355328 := hv31.small
  refine st (ov_call (f := 19) (vals := [.pointer (some ⟨b18, 0, none⟩)]) (cap := []) (show _ = (.func (.func 19) #[] #[] : Value) from rfl) rfl Try.call19 (D_All  hA23 hS25 (by first | exact laidL_good.ids | exact hA9.1.ids | exact hM9.a.1.ids | exact hM9.b.1.ids | exact hM9.u.ids | exact hP9.1.ids | exact hM0.u.ids) (by first | exact laidL_good.srt | exact hA9.1.srt | exact hM9.a.1.srt | exact hM9.b.1.srt | exact hM9.u.srt | exact hP9.1.srt | exact hM0.u.srt) ((by first | exact hM9.lb hUL9 | exact hM9.la hUL9 | exact Meet.lu hUL9 | exact (Nat.le_trans laidL_len (by omega)) | omega))) ?_)
  rintro v34 w35 ⟨_, rfl, hS36⟩
  have hr37 := hS36.row (i := 0) rfl
  have hr37s : (laidL (1 + q6) l).length * 96 ≤ 140737488355328 := hr37.2
  have hS38 : Sep G W ((SetO b18 (1 + q6) (laidL (1 + q6) l)) :: (RowE (α := Ev) own 36 v34 (laidL (1 + q6) l)) :: Rs) w35 := hk26 _ _ hS36
  refine st (ov_assign (v := v34) rfl ?_)
  refine st_nil ?_
  refine WP_seq ?_
  have hS39 : Sep G W ((RowE (α := Ev) own 36 v34 (laidL (1 + q6) l)) :: (SetO b18 (1 + q6) (laidL (1 + q6) l)) :: Rs) w35 := hS38.sel 2 [1, 0] (Nat.le_add_left _ _) rfl rfl
  obtain ⟨G40, hA42, hB43, hS44, hk45⟩ := hS39.lend
  have hrd46 := RowE.rd hA42
  have hrd46s : (laidL (1 + q6) l).length * 96 ≤ 140737488355328 := hrd46.small
  have hG9 : Good (1 + q6) (laidL (1 + q6) l) := laidL_good
  have hSL9 : (laidL (1 + q6) l).length ≤ l.length := laidL_len
  refine WP_region0 (by kernel_rfl) (fun _ => ?_)
  refine st (ov_move (v := .int .i64 ((1 + q6 : Nat) : Int)) rfl ?_)
  refine st (ov_move (v := v34) rfl ?_)
  refine st (ov_move (v := .int .i64 (part)) rfl ?_)
  refine st (ov_move (v := v34) rfl ?_)
  refine st (ov_len (n := (laidL (1 + q6) l).length) Try.underlying22 rfl hrd46.sl ?_)
  have hr47 : InR (((laidL (1 + q6) l).length + 1 : Nat) : Int) := by first | omega | (simp only [lens]; omega)
  refine st (ov_add (r := (((laidL (1 + q6) l).length + 1 : Nat) : Int)) (k := .i64) (a := (((laidL (1 + q6) l).length : Nat) : Int)) (b := 1) rfl rfl (by rw [show ((((laidL (1 + q6) l).length : Nat) : Int) + 1 : Int) = (((laidL (1 + q6) l).length + 1 : Nat) : Int) by first | omega | (simp only [lens]; omega)]; exact wrap_in hr47) ?_)
  refine st (ov_call (f := 17) (vals := [.int .i64 (part), .int .i64 (((laidL (1 + q6) l).length + 1 : Nat) : Int)]) (cap := []) (show _ = (.func (.func 17) #[] #[] : Value) from rfl) rfl Try.call17 (D_PickF (x := part) (n := (laidL (1 + q6) l).length + 1) hpart (by first | omega | (refine ⟨?_, ?_⟩ <;> omega)) hS44) ?_)
  rintro _ w51 ⟨q48, rfl, hq49, hqe50, hS52⟩
  refine st (ov_sliceHi (j := q48) (k := 10) (n := (laidL (1 + q6) l).length) Try.underlying22 Try.sizeOf36 rfl hrd46.sl rfl (by first | omega | (simp only [lens]; omega)) ?_)
  have h53 := RdS.sub_hi (j := q48) hrd46 (by first | omega | (simp only [List.length_drop, List.length_take]; omega))
  have h53s : ((laidL (1 + q6) l).take q48).length * 96 ≤ 140737488355328 := h53.small
  refine st (ov_call (f := 40) (vals := [.int .i64 ((1 + q6 : Nat) : Int), (subV 10 v34 0 q48)]) (cap := []) (show _ = (.func (.func 40) #[] #[] : Value) from rfl) rfl Try.call40 (D_laid27 (n := 1 + q6) (l := (laidL (1 + q6) l).take q48) (vl := (subV 10 v34 0 q48)) (by first | omega | (refine ⟨?_, ?_⟩ <;> omega)) h53 hS52 ((by first | omega | (rw [List.length_append]; omega) | (rw [List.length_take]; omega)))) ?_)
  rintro _ w55 ⟨b54, rfl, hS56⟩
  refine st (ov_assign (v := .pointer (some ⟨b54, 0, none⟩)) rfl ?_)
  refine st_nil ?_
  refine WP_seq ?_
  rw [laid_prefix hG9 q48 (by omega)] at hS56
  have hS57 : Sep G40 w35 ((SetO b54 (1 + q6) ((laidL (1 + q6) l).take q48)) :: (SetO b18 (1 + q6) (laidL (1 + q6) l)) :: Rs) w55 := hS56
  have hA9 : Part (1 + q6) (laidL (1 + q6) l) ((laidL (1 + q6) l).take q48) := Part.pre hG9 (by omega)
  have hAL9 := part_len hA9
  refine WP_region0 (by kernel_rfl) (fun _ => ?_)
  refine st (ov_move (v := .int .i64 ((1 + q6 : Nat) : Int)) rfl ?_)
  refine st (ov_call (f := 20) (vals := [.int .i64 ((1 + q6 : Nat) : Int)]) (cap := []) (show _ = (.func (.func 20) #[] #[] : Value) from rfl) rfl Try.call20 (D_NewSet (n := 1 + q6) (by first | omega | (refine ⟨?_, ?_⟩ <;> omega)) hS57) ?_)
  rintro _ w59 ⟨b58, rfl, hS60⟩
  refine st (ov_assign (v := .pointer (some ⟨b58, 0, none⟩)) rfl ?_)
  refine st_nil ?_
  refine WP_seq ?_
  refine WP_seq ?_
  refine WP_region (by kernel_rfl) ?_
  refine st (ov_move (v := .pointer (some ⟨b54, 0, none⟩)) rfl ?_)
  refine st (ov_eqlPtr (b := b54) (o := 0) Try.underlying26 rfl ?_)
  refine st (ov_move (v := .bool false) rfl ?_)
  refine sty rfl rfl (ov_move (v := .pointer (some ⟨b58, 0, none⟩)) rfl ?_)
  refine sty rfl rfl (ov_eqlPtr (b := b58) (o := 0) Try.underlying26 rfl ?_)
  refine st (ov_pick_f (v := .bool false) rfl rfl ?_)
  refine st_nil ?_
  refine WP_cond_f rfl ?_
  refine WP_skip ?_
  refine WP_seq ?_
  refine WP_region0 (by kernel_rfl) (fun _ => ?_)
  refine st (ov_move (v := .int .i64 (part)) rfl ?_)
  refine st (ov_move (v := .int .i64 ((1 + q6 : Nat) : Int)) rfl ?_)
  refine st (ov_call (f := 17) (vals := [.int .i64 (part), .int .i64 ((1 + q6 : Nat) : Int)]) (cap := []) (show _ = (.func (.func 17) #[] #[] : Value) from rfl) rfl Try.call17 (D_PickF (x := part) (n := 1 + q6) hpart (by first | omega | (refine ⟨?_, ?_⟩ <;> omega)) hS60) ?_)
  rintro _ w64 ⟨q61, rfl, hq62, hqe63, hS65⟩
  refine st (ov_assign (v := .int .i64 ((q61 : Nat) : Int)) rfl ?_)
  refine st_nil ?_
  refine WP_seq ?_
  refine WP_seq ?_
  refine WP_region0 (by kernel_rfl) (fun _ => ?_)
  refine st (ov_assign (v := .int .i64 (0)) rfl ?_)
  refine st_nil ?_
  refine WP_block ?_
  refine WP_loop (fun mq σ wq => ∃ (k9 : Nat) (T9 : List Ev) (ρ : Env), mq = (laidL (1 + q6) l).length - k9 ∧ σ = setAll ρ [(0, .int .i64 ((1 + q6 : Nat) : Int)), (3, .int .i64 ((1 + q12 : Nat) : Int)), (9, .pointer (some ⟨b18, 0, none⟩)), (10, v34), (11, .pointer (some ⟨b54, 0, none⟩)), (12, .pointer (some ⟨b58, 0, none⟩)), (13, .int .i64 ((q61 : Nat) : Int)), (14, .int .i64 ((k9 : Nat) : Int))] ∧ (k9 ≤ (laidL (1 + q6) l).length) ∧ (Part (1 + q6) (laidL (1 + q6) l) T9) ∧ Sep G40 w35 ((SetO b58 (1 + q6) T9) :: (SetO b54 (1 + q6) ((laidL (1 + q6) l).take q48)) :: (SetO b18 (1 + q6) (laidL (1 + q6) l)) :: Rs) wq) ⟨0, ([] : List Ev), _, rfl, setAll_self ⟨rfl, rfl, rfl, rfl, rfl, rfl, rfl, rfl, trivial⟩, Nat.zero_le _, Part.nil, hS65⟩ ?_
  rintro m67 σ68 w66 ⟨k9, T9, ρl1, rfl, rfl, hk9, hP9, hS69⟩
  have hTL9 := part_len hP9
  refine WP_seq ?_
  refine WP_seq ?_
  refine WP_region0 (by kernel_rfl) (fun _ => ?_)
  refine st (ov_move (v := .int .i64 ((k9 : Nat) : Int)) rfl ?_)
  refine st (ov_move (v := v34) rfl ?_)
  refine st (ov_len (n := (laidL (1 + q6) l).length) Try.underlying22 rfl hrd46.sl ?_)
  refine st (ov_lss (k := .i64) (a := ((k9 : Nat) : Int)) (b := (((laidL (1 + q6) l).length : Nat) : Int)) rfl rfl ?_)
  refine st_nil ?_
  cases hc70 : decide (((k9 : Nat) : Int) < (((laidL (1 + q6) l).length : Nat) : Int))
  ·skip
   have hc70r := hc70
   have hc70 := of_decide_eq_false hc70
   refine WP_cond_f rfl ?_
   refine WP_exit ?_
   refine blk_exit ?_
   refine WP_seq ?_
   refine WP_region0 (by kernel_rfl) (fun _ => ?_)
   refine st (ov_move (v := .int .i64 ((1 + q6 : Nat) : Int)) rfl ?_)
   refine st (ov_move (v := .pointer (some ⟨b54, 0, none⟩)) rfl ?_)
   have hS71 : Sep G40 w35 ((SetO b54 (1 + q6) ((laidL (1 + q6) l).take q48)) :: (SetO b58 (1 + q6) T9) :: (SetO b18 (1 + q6) (laidL (1 + q6) l)) :: Rs) w66 := hS69.sel 3 [1, 0, 2] (Nat.le_add_left _ _) rfl rfl
   obtain ⟨G72, hA74, hB75, hS76, hk77⟩ := hS71.lend
   obtain ⟨vv78, m79, R80, hb81, hv82, hr83⟩ := SetO.sh hA74
   have hsm84 : (vecE (1 + q6) ((laidL (1 + q6) l).take q48)).length * 8 ≤ 140737488355328 := hv82.small
   refine st (ov_call (f := 19) (vals := [.pointer (some ⟨b54, 0, none⟩)]) (cap := []) (show _ = (.func (.func 19) #[] #[] : Value) from rfl) rfl Try.call19 (D_All  hA74 hS76 (by first | exact laidL_good.ids | exact hA9.1.ids | exact hM9.a.1.ids | exact hM9.b.1.ids | exact hM9.u.ids | exact hP9.1.ids | exact hM0.u.ids) (by first | exact laidL_good.srt | exact hA9.1.srt | exact hM9.a.1.srt | exact hM9.b.1.srt | exact hM9.u.srt | exact hP9.1.srt | exact hM0.u.srt) ((by first | exact hM9.lb hUL9 | exact hM9.la hUL9 | exact Meet.lu hUL9 | exact (Nat.le_trans laidL_len (by omega)) | omega))) ?_)
   rintro v85 w86 ⟨_, rfl, hS87⟩
   have hr88 := hS87.row (i := 0) rfl
   have hr88s : ((laidL (1 + q6) l).take q48).length * 96 ≤ 140737488355328 := hr88.2
   have hS89 : Sep G40 w35 ((SetO b54 (1 + q6) ((laidL (1 + q6) l).take q48)) :: (RowE (α := Ev) own 36 v85 ((laidL (1 + q6) l).take q48)) :: (SetO b58 (1 + q6) T9) :: (SetO b18 (1 + q6) (laidL (1 + q6) l)) :: Rs) w86 := hk77 _ _ hS87
   refine st (ov_move (v := .pointer (some ⟨b58, 0, none⟩)) rfl ?_)
   have hS90 : Sep G40 w35 ((SetO b58 (1 + q6) T9) :: (SetO b54 (1 + q6) ((laidL (1 + q6) l).take q48)) :: (RowE (α := Ev) own 36 v85 ((laidL (1 + q6) l).take q48)) :: (SetO b18 (1 + q6) (laidL (1 + q6) l)) :: Rs) w86 := hS89.sel 4 [2, 0, 1, 3] (Nat.le_add_left _ _) rfl rfl
   obtain ⟨G91, hA93, hB94, hS95, hk96⟩ := hS90.lend
   obtain ⟨vv97, m98, R99, hb100, hv101, hr102⟩ := SetO.sh hA93
   have hsm103 : (vecE (1 + q6) T9).length * 8 ≤ 140737488355328 := hv101.small
   refine st (ov_call (f := 19) (vals := [.pointer (some ⟨b58, 0, none⟩)]) (cap := []) (show _ = (.func (.func 19) #[] #[] : Value) from rfl) rfl Try.call19 (D_All  hA93 hS95 (by first | exact laidL_good.ids | exact hA9.1.ids | exact hM9.a.1.ids | exact hM9.b.1.ids | exact hM9.u.ids | exact hP9.1.ids | exact hM0.u.ids) (by first | exact laidL_good.srt | exact hA9.1.srt | exact hM9.a.1.srt | exact hM9.b.1.srt | exact hM9.u.srt | exact hP9.1.srt | exact hM0.u.srt) ((by first | exact hM9.lb hUL9 | exact hM9.la hUL9 | exact Meet.lu hUL9 | exact (Nat.le_trans laidL_len (by omega)) | omega))) ?_)
   rintro v104 w105 ⟨_, rfl, hS106⟩
   have hr107 := hS106.row (i := 0) rfl
   have hr107s : T9.length * 96 ≤ 140737488355328 := hr107.2
   have hS108 : Sep G40 w35 ((SetO b58 (1 + q6) T9) :: (RowE (α := Ev) own 36 v104 T9) :: (SetO b54 (1 + q6) ((laidL (1 + q6) l).take q48)) :: (RowE (α := Ev) own 36 v85 ((laidL (1 + q6) l).take q48)) :: (SetO b18 (1 + q6) (laidL (1 + q6) l)) :: Rs) w105 := hk96 _ _ hS106
   have hS109 : Sep G40 w35 ((RowE (α := Ev) own 36 v104 T9) :: (SetO b58 (1 + q6) T9) :: (SetO b54 (1 + q6) ((laidL (1 + q6) l).take q48)) :: (RowE (α := Ev) own 36 v85 ((laidL (1 + q6) l).take q48)) :: (SetO b18 (1 + q6) (laidL (1 + q6) l)) :: Rs) w105 := hS108.sel 5 [1, 0, 2, 3, 4] (Nat.le_add_left _ _) rfl rfl
   obtain ⟨G110, hA112, hB113, hS114, hk115⟩ := hS109.lend
   have hrd116 := RowE.rd hA112
   have hrd116s : T9.length * 96 ≤ 140737488355328 := hrd116.small
   have hS117 : Sep G110 w105 ((RowE (α := Ev) own 36 v85 ((laidL (1 + q6) l).take q48)) :: (SetO b58 (1 + q6) T9) :: (SetO b54 (1 + q6) ((laidL (1 + q6) l).take q48)) :: (SetO b18 (1 + q6) (laidL (1 + q6) l)) :: Rs) w105 := hS114.sel 4 [2, 0, 1, 3] (Nat.le_add_left _ _) rfl rfl
   have hS118 : Sep G110 w105 ((RowE (α := Ev) (alt G110 w105) 36 v85 ((laidL (1 + q6) l).take q48)) :: (SetO b58 (1 + q6) T9) :: (SetO b54 (1 + q6) ((laidL (1 + q6) l).take q48)) :: (SetO b18 (1 + q6) (laidL (1 + q6) l)) :: Rs) w105 := Sep.toAlt G110 w105 hS117
   have hr119 := hS118.row (i := 0) rfl
   have hr119s : ((laidL (1 + q6) l).take q48).length * 96 ≤ 140737488355328 := hr119.2
   refine st (ov_appendS (src := (alt G110 w105)) (bytes := 96) hS118 el22 rfl rfl hrd116 (by first | omega | (simp only [List.length_append, List.length_cons, List.length_nil, List.length_take, List.length_drop]; omega)) rfl (hq' := fun _ _ h _ _ => Or.inr h) ?_)
   intro v121 w120 hS122
   have hr123 := hS122.row (i := 0) rfl
   have hr123s : (((laidL (1 + q6) l).take q48) ++ T9).length * 96 ≤ 140737488355328 := hr123.2
   obtain ⟨G124, hA126, hB127, hS128, hk129⟩ := hS122.lend
   have hrd130 := RowE.rdAlt hA126 hB127
   have hrd130s : (((laidL (1 + q6) l).take q48) ++ T9).length * 96 ≤ 140737488355328 := hrd130.small
   refine st (ov_call (f := 40) (vals := [.int .i64 ((1 + q6 : Nat) : Int), v121]) (cap := []) (show _ = (.func (.func 40) #[] #[] : Value) from rfl) rfl Try.call40 (D_laid27 (n := 1 + q6) (l := ((laidL (1 + q6) l).take q48) ++ T9) (vl := v121) (by first | omega | (refine ⟨?_, ?_⟩ <;> omega)) hrd130 hS128 ((by first | omega | (rw [List.length_append]; omega) | (rw [List.length_take]; omega)))) ?_)
   rintro _ w132 ⟨b131, rfl, hS133⟩
   have hS134 : Sep G110 w105 ((RowE (α := Ev) (alt G110 w105) 36 v121 (((laidL (1 + q6) l).take q48) ++ T9)) :: (SetO b131 (1 + q6) (laidL (1 + q6) (((laidL (1 + q6) l).take q48) ++ T9))) :: (SetO b58 (1 + q6) T9) :: (SetO b54 (1 + q6) ((laidL (1 + q6) l).take q48)) :: (SetO b18 (1 + q6) (laidL (1 + q6) l)) :: Rs) w132 := hk129 _ _ hS133
   refine st (ov_assign (v := .pointer (some ⟨b131, 0, none⟩)) rfl ?_)
   refine st_nil ?_
   refine WP_seq ?_
   refine WP_seq ?_
   have hS135 : Sep G110 w105 ((SetO b131 (1 + q6) (laidL (1 + q6) (((laidL (1 + q6) l).take q48) ++ T9))) :: (SetO b58 (1 + q6) T9) :: (SetO b54 (1 + q6) ((laidL (1 + q6) l).take q48)) :: (SetO b18 (1 + q6) (laidL (1 + q6) l)) :: Rs) w132 := hS134.sel 5 [1, 2, 3, 4] (Nat.le_add_left _ _) rfl rfl
   obtain ⟨U9, hU9⟩ : ∃ U, U = (laidL (1 + q6) (((laidL (1 + q6) l).take q48) ++ T9)) := ⟨_, rfl⟩
   have hM0 : Meet (1 + q6) U9 ((laidL (1 + q6) l).take q48) T9 := hU9 ▸ Meet.start hG9 hA9 hP9
   have hUL9 : U9.length ≤ 120 := hU9 ▸ Nat.le_trans laidL_len (by rw [List.length_append]; omega)
   rw [← hU9] at hS135
   have hS136 : Sep G110 w105 ((SetO b131 (1 + q6) U9) :: (SetO b58 (1 + q6) T9) :: (SetO b54 (1 + q6) ((laidL (1 + q6) l).take q48)) :: (SetO b18 (1 + q6) (laidL (1 + q6) l)) :: Rs) w132 := hS135
   obtain ⟨hma0, hmb0⟩ := hM0.len
   obtain ⟨m9, hm9, hm9a, hm9b⟩ := chunk_M (c := 1 + q12) (by omega)
   refine WP_region0 (by kernel_rfl) (fun _ => ?_)
   refine st (ov_move (v := .pointer (some ⟨b131, 0, none⟩)) rfl ?_)
   refine st (ov_eqlPtr (b := b131) (o := 0) Try.underlying26 rfl ?_)
   refine st_nil ?_
   refine WP_cond_f rfl ?_
   refine WP_skip ?_
   refine WP_seq ?_
   refine WP_region0 (by kernel_rfl) (fun _ => ?_)
   refine st (ov_move (v := .pointer (some ⟨b131, 0, none⟩)) rfl ?_)
   obtain ⟨G137, hA139, hB140, hS141, hk142⟩ := hS136.lend
   obtain ⟨vv143, m144, R145, hb146, hv147, hr148⟩ := SetO.sh hA139
   have hsm149 : (vecE (1 + q6) U9).length * 8 ≤ 140737488355328 := hv147.small
   refine st (ov_call (f := 24) (vals := [.pointer (some ⟨b131, 0, none⟩)]) (cap := []) (show _ = (.func (.func 24) #[] #[] : Value) from rfl) rfl Try.call24 (D_Len  hA139 hS141 (by first | exact laidL_good.ids | exact hA9.1.ids | exact hM9.a.1.ids | exact hM9.b.1.ids | exact hM9.u.ids | exact hP9.1.ids | exact hM0.u.ids)) ?_)
   rintro _ w150 ⟨rfl, hS151⟩
   have hS152 : Sep G110 w105 ((SetO b131 (1 + q6) U9) :: (SetO b58 (1 + q6) T9) :: (SetO b54 (1 + q6) ((laidL (1 + q6) l).take q48)) :: (SetO b18 (1 + q6) (laidL (1 + q6) l)) :: Rs) w150 := hk142 _ _ hS151
   have hr153 : InR ((2 * U9.length : Nat) : Int) := by first | omega | (simp only [lens]; omega)
   refine st (ov_mul (r := ((2 * U9.length : Nat) : Int)) (k := .i64) (a := 2) (b := ((U9.length : Nat) : Int)) rfl rfl (by rw [show (2 * ((U9.length : Nat) : Int) : Int) = ((2 * U9.length : Nat) : Int) by first | omega | (simp only [lens]; omega)]; exact wrap_in hr153) ?_)
   refine st (ov_move (v := .pointer (some ⟨b54, 0, none⟩)) rfl ?_)
   have hS154 : Sep G110 w105 ((SetO b54 (1 + q6) ((laidL (1 + q6) l).take q48)) :: (SetO b131 (1 + q6) U9) :: (SetO b58 (1 + q6) T9) :: (SetO b18 (1 + q6) (laidL (1 + q6) l)) :: Rs) w150 := hS152.sel 4 [2, 0, 1, 3] (Nat.le_add_left _ _) rfl rfl
   obtain ⟨G155, hA157, hB158, hS159, hk160⟩ := hS154.lend
   obtain ⟨vv161, m162, R163, hb164, hv165, hr166⟩ := SetO.sh hA157
   have hsm167 : (vecE (1 + q6) ((laidL (1 + q6) l).take q48)).length * 8 ≤ 140737488355328 := hv165.small
   refine st (ov_call (f := 24) (vals := [.pointer (some ⟨b54, 0, none⟩)]) (cap := []) (show _ = (.func (.func 24) #[] #[] : Value) from rfl) rfl Try.call24 (D_Len  hA157 hS159 (by first | exact laidL_good.ids | exact hA9.1.ids | exact hM9.a.1.ids | exact hM9.b.1.ids | exact hM9.u.ids | exact hP9.1.ids | exact hM0.u.ids)) ?_)
   rintro _ w168 ⟨rfl, hS169⟩
   have hS170 : Sep G110 w105 ((SetO b54 (1 + q6) ((laidL (1 + q6) l).take q48)) :: (SetO b131 (1 + q6) U9) :: (SetO b58 (1 + q6) T9) :: (SetO b18 (1 + q6) (laidL (1 + q6) l)) :: Rs) w168 := hk160 _ _ hS169
   have hr171 : InR (((2 * U9.length) - (((laidL (1 + q6) l).take q48).length) : Nat) : Int) := by first | omega | (simp only [lens]; omega)
   refine st (ov_sub (r := (((2 * U9.length) - (((laidL (1 + q6) l).take q48).length) : Nat) : Int)) (k := .i64) (a := ((2 * U9.length : Nat) : Int)) (b := ((((laidL (1 + q6) l).take q48).length : Nat) : Int)) rfl rfl (by rw [show (((2 * U9.length : Nat) : Int) - ((((laidL (1 + q6) l).take q48).length : Nat) : Int) : Int) = (((2 * U9.length) - (((laidL (1 + q6) l).take q48).length) : Nat) : Int) by first | omega | (simp only [lens]; omega)]; exact wrap_in hr171) ?_)
   refine st (ov_move (v := .pointer (some ⟨b58, 0, none⟩)) rfl ?_)
   have hS172 : Sep G110 w105 ((SetO b58 (1 + q6) T9) :: (SetO b54 (1 + q6) ((laidL (1 + q6) l).take q48)) :: (SetO b131 (1 + q6) U9) :: (SetO b18 (1 + q6) (laidL (1 + q6) l)) :: Rs) w168 := hS170.sel 4 [2, 0, 1, 3] (Nat.le_add_left _ _) rfl rfl
   obtain ⟨G173, hA175, hB176, hS177, hk178⟩ := hS172.lend
   obtain ⟨vv179, m180, R181, hb182, hv183, hr184⟩ := SetO.sh hA175
   have hsm185 : (vecE (1 + q6) T9).length * 8 ≤ 140737488355328 := hv183.small
   refine st (ov_call (f := 24) (vals := [.pointer (some ⟨b58, 0, none⟩)]) (cap := []) (show _ = (.func (.func 24) #[] #[] : Value) from rfl) rfl Try.call24 (D_Len  hA175 hS177 (by first | exact laidL_good.ids | exact hA9.1.ids | exact hM9.a.1.ids | exact hM9.b.1.ids | exact hM9.u.ids | exact hP9.1.ids | exact hM0.u.ids)) ?_)
   rintro _ w186 ⟨rfl, hS187⟩
   have hS188 : Sep G110 w105 ((SetO b58 (1 + q6) T9) :: (SetO b54 (1 + q6) ((laidL (1 + q6) l).take q48)) :: (SetO b131 (1 + q6) U9) :: (SetO b18 (1 + q6) (laidL (1 + q6) l)) :: Rs) w186 := hk178 _ _ hS187
   have hr189 : InR ((((2 * U9.length) - (((laidL (1 + q6) l).take q48).length)) - T9.length : Nat) : Int) := by first | omega | (simp only [lens]; omega)
   refine st (ov_sub (r := ((((2 * U9.length) - (((laidL (1 + q6) l).take q48).length)) - T9.length : Nat) : Int)) (k := .i64) (a := (((2 * U9.length) - (((laidL (1 + q6) l).take q48).length) : Nat) : Int)) (b := ((T9.length : Nat) : Int)) rfl rfl (by rw [show ((((2 * U9.length) - (((laidL (1 + q6) l).take q48).length) : Nat) : Int) - ((T9.length : Nat) : Int) : Int) = ((((2 * U9.length) - (((laidL (1 + q6) l).take q48).length)) - T9.length : Nat) : Int) by first | omega | (simp only [lens]; omega)]; exact wrap_in hr189) ?_)
   refine st (ov_assign (v := .int .i64 ((((2 * U9.length) - (((laidL (1 + q6) l).take q48).length)) - T9.length : Nat) : Int)) rfl ?_)
   refine st_nil ?_
   refine WP_seq ?_
   refine WP_region0 (by kernel_rfl) (fun _ => ?_)
   refine st (ov_assign (v := .int .i64 (0)) rfl ?_)
   refine st_nil ?_
   refine WP_seq ?_
   refine WP_block ?_
   refine WP_loop (fun mq σ wq => ∃ (t9 : Nat) (A9 : List Ev) (B9 : List Ev) (ρ : Env), mq = 2 * U9.length + 1 - t9 ∧ σ = setAll ρ [(3, .int .i64 ((1 + q12 : Nat) : Int)), (11, .pointer (some ⟨b54, 0, none⟩)), (12, .pointer (some ⟨b58, 0, none⟩)), (15, .pointer (some ⟨b131, 0, none⟩)), (16, .int .i64 ((((2 * U9.length) - (((laidL (1 + q6) l).take q48).length)) - T9.length : Nat) : Int)), (17, .int .i64 ((t9 : Nat) : Int))] ∧ (Meet (1 + q6) U9 A9 B9) ∧ (((laidL (1 + q6) l).take q48).length + T9.length + t9 ≤ A9.length + B9.length) ∧ Sep G110 w105 ((SetO b58 (1 + q6) B9) :: (SetO b54 (1 + q6) A9) :: (SetO b131 (1 + q6) U9) :: (SetO b18 (1 + q6) (laidL (1 + q6) l)) :: Rs) wq) ⟨0, ((laidL (1 + q6) l).take q48), T9, _, rfl, setAll_self ⟨rfl, rfl, rfl, rfl, rfl, rfl, trivial⟩, hM0, (Nat.le_refl _), hS188⟩ ?_
   rintro m191 σ192 w190 ⟨t9, A9, B9, ρl2, rfl, rfl, hM9, hpr9, hS193⟩
   obtain ⟨hma9, hmb9⟩ := hM9.len
   have hgA9 := (give_le (n := (1 + q6)) (A := A9) (B := B9) (m := m9)).1
   have hgB9 := (give_le (n := (1 + q6)) (A := B9) (B := A9) (m := m9)).1
   refine WP_seq ?_
   refine WP_seq ?_
   refine WP_region0 (by kernel_rfl) (fun _ => ?_)
   refine st (ov_move (v := .int .i64 ((t9 : Nat) : Int)) rfl ?_)
   refine st (ov_move (v := .int .i64 ((((2 * U9.length) - (((laidL (1 + q6) l).take q48).length)) - T9.length : Nat) : Int)) rfl ?_)
   refine st (ov_leq (k := .i64) (a := ((t9 : Nat) : Int)) (b := ((((2 * U9.length) - (((laidL (1 + q6) l).take q48).length)) - T9.length : Nat) : Int)) rfl rfl ?_)
   refine st_nil ?_
   cases hc194 : decide (((t9 : Nat) : Int) ≤ ((((2 * U9.length) - (((laidL (1 + q6) l).take q48).length)) - T9.length : Nat) : Int))
   ·skip
    have hc194r := hc194
    have hc194 := of_decide_eq_false hc194
    exfalso
    omega
   ·skip
    have hc194r := hc194
    have hc194 := of_decide_eq_true hc194
    refine WP_cond_t rfl ?_
    refine WP_skip ?_
    refine WP_seq ?_
    refine WP_block ?_
    refine WP_seq ?_
    refine WP_region0 (by kernel_rfl) (fun _ => ?_)
    refine st (ov_move (v := .pointer (some ⟨b58, 0, none⟩)) rfl ?_)
    refine st (ov_move (v := .pointer (some ⟨b54, 0, none⟩)) rfl ?_)
    have hS195 : Sep G110 w105 ((SetO b54 (1 + q6) A9) :: (SetO b58 (1 + q6) B9) :: (SetO b131 (1 + q6) U9) :: (SetO b18 (1 + q6) (laidL (1 + q6) l)) :: Rs) w190 := hS193.sel 4 [1, 0, 2, 3] (Nat.le_add_left _ _) rfl rfl
    obtain ⟨G196, hA198, hB199, hS200, hk201⟩ := hS195.lend
    obtain ⟨vv202, m203, R204, hb205, hv206, hr207⟩ := SetO.sh hA198
    have hsm208 : (vecE (1 + q6) A9).length * 8 ≤ 140737488355328 := hv206.small
    refine st (ov_call (f := 46) (vals := [.pointer (some ⟨b54, 0, none⟩), .int .i64 (0), .int .i64 (1)]) (cap := []) (show _ = (.func (.func 46) #[] #[] : Value) from rfl) rfl Try.call46 (D_Digest (fr := 0) (tt := 1) hA198 (by decide) (by decide) hS200) ?_)
    rintro _ w211 ⟨v209, rfl, hmo210, hS212⟩
    have hr213 := hS212.row (i := 0) rfl
    have hr213s : (vecE (1 + q6) A9).length * 8 ≤ 140737488355328 := hr213.2
    have hS214 : Sep G110 w105 ((SetO b54 (1 + q6) A9) :: (RowE (α := Int) own 3 v209 (vecE (1 + q6) A9)) :: (SetO b58 (1 + q6) B9) :: (SetO b131 (1 + q6) U9) :: (SetO b18 (1 + q6) (laidL (1 + q6) l)) :: Rs) w211 := hk201 _ _ hS212
    refine st (ov_move (v := .int .i64 ((1 + q12 : Nat) : Int)) rfl ?_)
    have hS215 : Sep G110 w105 ((SetO b58 (1 + q6) B9) :: (SetO b54 (1 + q6) A9) :: (RowE (α := Int) own 3 v209 (vecE (1 + q6) A9)) :: (SetO b131 (1 + q6) U9) :: (SetO b18 (1 + q6) (laidL (1 + q6) l)) :: Rs) w211 := hS214.sel 5 [2, 0, 1, 3, 4] (Nat.le_add_left _ _) rfl rfl
    obtain ⟨G216, hA218, hB219, hS220, hk221⟩ := hS215.lend
    obtain ⟨vv222, m223, R224, hb225, hv226, hr227⟩ := SetO.sh hA218
    have hsm228 : (vecE (1 + q6) B9).length * 8 ≤ 140737488355328 := hv226.small
    have hS229 : Sep G216 w211 ((RowE (α := Int) own 3 v209 (vecE (1 + q6) A9)) :: (SetO b54 (1 + q6) A9) :: (SetO b131 (1 + q6) U9) :: (SetO b18 (1 + q6) (laidL (1 + q6) l)) :: Rs) w211 := hS220.sel 4 [1, 0, 2, 3] (Nat.le_add_left _ _) rfl rfl
    obtain ⟨G230, hA232, hB233, hS234, hk235⟩ := hS229.lend
    have hrd236 := RowE.rd hA232
    have hrd236s : (vecE (1 + q6) A9).length * 8 ≤ 140737488355328 := hrd236.small
    refine st (ov_call (f := 41) (vals := [.pointer (some ⟨b58, 0, none⟩), .int .i64 (1), .agg ((⟨1, 0, 1, vecE (1 + q6) A9, []⟩ : Msg).cells v209 (.slice none 0 0)).toArray, .int .i64 ((1 + q12 : Nat) : Int)]) (cap := []) (show _ = (.func (.func 41) #[] #[] : Value) from rfl) rfl Try.call41 (D_Answer (self := 1) (m := (⟨1, 0, 1, vecE (1 + q6) A9, []⟩ : Msg)) (chunk := ((1 + q12 : Nat) : Int)) (HP.base hA218 hB233) (by decide) hrd236 (RdS.nil _ _) hmo210 hr17 hS234 (by first | exact laidL_good.ids | exact hA9.1.ids | exact hM9.a.1.ids | exact hM9.b.1.ids | exact hM9.u.ids | exact hP9.1.ids | exact hM0.u.ids) (by first | exact laidL_good.srt | exact hA9.1.srt | exact hM9.a.1.srt | exact hM9.b.1.srt | exact hM9.u.srt | exact hP9.1.srt | exact hM0.u.srt) ((by first | exact hM9.lb hUL9 | exact hM9.la hUL9 | exact Meet.lu hUL9 | exact (Nat.le_trans laidL_len (by omega)) | omega))) ?_)
    rintro v237 w238 ⟨_, rfl, hS239⟩
    have hr240 := hS239.row (i := 0) rfl
    have hr240s : (ansL (1 + q6) B9 1 (⟨1, 0, 1, vecE (1 + q6) A9, []⟩ : Msg) ((1 + q12 : Nat) : Int)).length * 72 ≤ 140737488355328 := hr240.2
    have hS241 : Sep G216 w211 ((RowE (α := Int) own 3 v209 (vecE (1 + q6) A9)) :: (RowE (α := Msg) own 57 v237 (ansL (1 + q6) B9 1 (⟨1, 0, 1, vecE (1 + q6) A9, []⟩ : Msg) ((1 + q12 : Nat) : Int))) :: (SetO b54 (1 + q6) A9) :: (SetO b131 (1 + q6) U9) :: (SetO b18 (1 + q6) (laidL (1 + q6) l)) :: Rs) w238 := hk235 _ _ hS239
    have hS242 : Sep G110 w105 ((SetO b58 (1 + q6) B9) :: (RowE (α := Int) own 3 v209 (vecE (1 + q6) A9)) :: (RowE (α := Msg) own 57 v237 (ansL (1 + q6) B9 1 (⟨1, 0, 1, vecE (1 + q6) A9, []⟩ : Msg) ((1 + q12 : Nat) : Int))) :: (SetO b54 (1 + q6) A9) :: (SetO b131 (1 + q6) U9) :: (SetO b18 (1 + q6) (laidL (1 + q6) l)) :: Rs) w238 := hk221 _ _ hS241
    refine st (ov_assign (v := v237) rfl ?_)
    refine st_nil ?_
    refine WP_seq ?_
    refine WP_region0 (by kernel_rfl) (fun _ => ?_)
    refine st (ov_move (v := .pointer (some ⟨b54, 0, none⟩)) rfl ?_)
    refine st (ov_move (v := .pointer (some ⟨b58, 0, none⟩)) rfl ?_)
    obtain ⟨G243, hA245, hB246, hS247, hk248⟩ := hS242.lend
    obtain ⟨vv249, m250, R251, hb252, hv253, hr254⟩ := SetO.sh hA245
    have hsm255 : (vecE (1 + q6) B9).length * 8 ≤ 140737488355328 := hv253.small
    refine st (ov_call (f := 46) (vals := [.pointer (some ⟨b58, 0, none⟩), .int .i64 (1), .int .i64 (0)]) (cap := []) (show _ = (.func (.func 46) #[] #[] : Value) from rfl) rfl Try.call46 (D_Digest (fr := 1) (tt := 0) hA245 (by decide) (by decide) hS247) ?_)
    rintro _ w258 ⟨v256, rfl, hmo257, hS259⟩
    have hr260 := hS259.row (i := 0) rfl
    have hr260s : (vecE (1 + q6) B9).length * 8 ≤ 140737488355328 := hr260.2
    have hS261 : Sep G110 w105 ((SetO b58 (1 + q6) B9) :: (RowE (α := Int) own 3 v256 (vecE (1 + q6) B9)) :: (RowE (α := Int) own 3 v209 (vecE (1 + q6) A9)) :: (RowE (α := Msg) own 57 v237 (ansL (1 + q6) B9 1 (⟨1, 0, 1, vecE (1 + q6) A9, []⟩ : Msg) ((1 + q12 : Nat) : Int))) :: (SetO b54 (1 + q6) A9) :: (SetO b131 (1 + q6) U9) :: (SetO b18 (1 + q6) (laidL (1 + q6) l)) :: Rs) w258 := hk248 _ _ hS259
    refine st (ov_move (v := .int .i64 ((1 + q12 : Nat) : Int)) rfl ?_)
    have hS262 : Sep G110 w105 ((SetO b54 (1 + q6) A9) :: (SetO b58 (1 + q6) B9) :: (RowE (α := Int) own 3 v256 (vecE (1 + q6) B9)) :: (RowE (α := Int) own 3 v209 (vecE (1 + q6) A9)) :: (RowE (α := Msg) own 57 v237 (ansL (1 + q6) B9 1 (⟨1, 0, 1, vecE (1 + q6) A9, []⟩ : Msg) ((1 + q12 : Nat) : Int))) :: (SetO b131 (1 + q6) U9) :: (SetO b18 (1 + q6) (laidL (1 + q6) l)) :: Rs) w258 := hS261.sel 7 [4, 0, 1, 2, 3, 5, 6] (Nat.le_add_left _ _) rfl rfl
    obtain ⟨G263, hA265, hB266, hS267, hk268⟩ := hS262.lend
    obtain ⟨vv269, m270, R271, hb272, hv273, hr274⟩ := SetO.sh hA265
    have hsm275 : (vecE (1 + q6) A9).length * 8 ≤ 140737488355328 := hv273.small
    have hS276 : Sep G263 w258 ((RowE (α := Int) own 3 v256 (vecE (1 + q6) B9)) :: (SetO b58 (1 + q6) B9) :: (RowE (α := Int) own 3 v209 (vecE (1 + q6) A9)) :: (RowE (α := Msg) own 57 v237 (ansL (1 + q6) B9 1 (⟨1, 0, 1, vecE (1 + q6) A9, []⟩ : Msg) ((1 + q12 : Nat) : Int))) :: (SetO b131 (1 + q6) U9) :: (SetO b18 (1 + q6) (laidL (1 + q6) l)) :: Rs) w258 := hS267.sel 6 [1, 0, 2, 3, 4, 5] (Nat.le_add_left _ _) rfl rfl
    obtain ⟨G277, hA279, hB280, hS281, hk282⟩ := hS276.lend
    have hrd283 := RowE.rd hA279
    have hrd283s : (vecE (1 + q6) B9).length * 8 ≤ 140737488355328 := hrd283.small
    refine st (ov_call (f := 41) (vals := [.pointer (some ⟨b54, 0, none⟩), .int .i64 (0), .agg ((⟨1, 1, 0, vecE (1 + q6) B9, []⟩ : Msg).cells v256 (.slice none 0 0)).toArray, .int .i64 ((1 + q12 : Nat) : Int)]) (cap := []) (show _ = (.func (.func 41) #[] #[] : Value) from rfl) rfl Try.call41 (D_Answer (self := 0) (m := (⟨1, 1, 0, vecE (1 + q6) B9, []⟩ : Msg)) (chunk := ((1 + q12 : Nat) : Int)) (HP.base hA265 hB280) (by decide) hrd283 (RdS.nil _ _) hmo257 hr17 hS281 (by first | exact laidL_good.ids | exact hA9.1.ids | exact hM9.a.1.ids | exact hM9.b.1.ids | exact hM9.u.ids | exact hP9.1.ids | exact hM0.u.ids) (by first | exact laidL_good.srt | exact hA9.1.srt | exact hM9.a.1.srt | exact hM9.b.1.srt | exact hM9.u.srt | exact hP9.1.srt | exact hM0.u.srt) ((by first | exact hM9.lb hUL9 | exact hM9.la hUL9 | exact Meet.lu hUL9 | exact (Nat.le_trans laidL_len (by omega)) | omega))) ?_)
    rintro v284 w285 ⟨_, rfl, hS286⟩
    have hr287 := hS286.row (i := 0) rfl
    have hr287s : (ansL (1 + q6) A9 0 (⟨1, 1, 0, vecE (1 + q6) B9, []⟩ : Msg) ((1 + q12 : Nat) : Int)).length * 72 ≤ 140737488355328 := hr287.2
    have hS288 : Sep G263 w258 ((RowE (α := Int) own 3 v256 (vecE (1 + q6) B9)) :: (RowE (α := Msg) own 57 v284 (ansL (1 + q6) A9 0 (⟨1, 1, 0, vecE (1 + q6) B9, []⟩ : Msg) ((1 + q12 : Nat) : Int))) :: (SetO b58 (1 + q6) B9) :: (RowE (α := Int) own 3 v209 (vecE (1 + q6) A9)) :: (RowE (α := Msg) own 57 v237 (ansL (1 + q6) B9 1 (⟨1, 0, 1, vecE (1 + q6) A9, []⟩ : Msg) ((1 + q12 : Nat) : Int))) :: (SetO b131 (1 + q6) U9) :: (SetO b18 (1 + q6) (laidL (1 + q6) l)) :: Rs) w285 := hk282 _ _ hS286
    have hS289 : Sep G110 w105 ((SetO b54 (1 + q6) A9) :: (RowE (α := Int) own 3 v256 (vecE (1 + q6) B9)) :: (RowE (α := Msg) own 57 v284 (ansL (1 + q6) A9 0 (⟨1, 1, 0, vecE (1 + q6) B9, []⟩ : Msg) ((1 + q12 : Nat) : Int))) :: (SetO b58 (1 + q6) B9) :: (RowE (α := Int) own 3 v209 (vecE (1 + q6) A9)) :: (RowE (α := Msg) own 57 v237 (ansL (1 + q6) B9 1 (⟨1, 0, 1, vecE (1 + q6) A9, []⟩ : Msg) ((1 + q12 : Nat) : Int))) :: (SetO b131 (1 + q6) U9) :: (SetO b18 (1 + q6) (laidL (1 + q6) l)) :: Rs) w285 := hk268 _ _ hS288
    refine st (ov_assign (v := v284) rfl ?_)
    refine st_nil ?_
    refine WP_seq ?_
    refine WP_region0 (by kernel_rfl) (fun _ => ?_)
    refine st (ov_move (v := .pointer (some ⟨b54, 0, none⟩)) rfl ?_)
    refine st (ov_move (v := v237) rfl ?_)
    have hS290 : Sep G110 w105 ((RowE (α := Msg) own 57 v237 (ansL (1 + q6) B9 1 (⟨1, 0, 1, vecE (1 + q6) A9, []⟩ : Msg) ((1 + q12 : Nat) : Int))) :: (SetO b54 (1 + q6) A9) :: (RowE (α := Int) own 3 v256 (vecE (1 + q6) B9)) :: (RowE (α := Msg) own 57 v284 (ansL (1 + q6) A9 0 (⟨1, 1, 0, vecE (1 + q6) B9, []⟩ : Msg) ((1 + q12 : Nat) : Int))) :: (SetO b58 (1 + q6) B9) :: (RowE (α := Int) own 3 v209 (vecE (1 + q6) A9)) :: (SetO b131 (1 + q6) U9) :: (SetO b18 (1 + q6) (laidL (1 + q6) l)) :: Rs) w285 := hS289.sel 8 [5, 0, 1, 2, 3, 4, 6, 7] (Nat.le_add_left _ _) rfl rfl
    obtain ⟨G291, hA293, hB294, hS295, hk296⟩ := hS290.lend
    have hrd297 := RowE.rd hA293
    have hrd297s : (ansL (1 + q6) B9 1 (⟨1, 0, 1, vecE (1 + q6) A9, []⟩ : Msg) ((1 + q12 : Nat) : Int)).length * 72 ≤ 140737488355328 := hrd297.small
    refine st (ov_call (f := 52) (vals := [.pointer (some ⟨b54, 0, none⟩), v237]) (cap := []) (show _ = (.func (.func 52) #[] #[] : Value) from rfl) rfl Try.call52 (D_feed (l := ansL (1 + q6) B9 1 (⟨1, 0, 1, vecE (1 + q6) A9, []⟩ : Msg) ((1 + q12 : Nat) : Int)) (vl := v237) hrd297 hS295 (by first | exact hM9.a.1 | exact hM9.b.1) ((by rw [ans_giveM hm9]; first | exact hM9.lf hUL9 | exact hM9.symm.lf hUL9)) ((by rw [ans_giveM hm9]; exact fun j hj => hM9.code hj))) ?_)
    rintro _ w298 ⟨rfl, hS299⟩
    have hS300 : Sep G110 w105 ((RowE (α := Msg) own 57 v237 (ansL (1 + q6) B9 1 (⟨1, 0, 1, vecE (1 + q6) A9, []⟩ : Msg) ((1 + q12 : Nat) : Int))) :: (SetO b54 (1 + q6) (addsL (1 + q6) A9 (evsM (ansL (1 + q6) B9 1 (⟨1, 0, 1, vecE (1 + q6) A9, []⟩ : Msg) ((1 + q12 : Nat) : Int))))) :: (RowE (α := Int) own 3 v256 (vecE (1 + q6) B9)) :: (RowE (α := Msg) own 57 v284 (ansL (1 + q6) A9 0 (⟨1, 1, 0, vecE (1 + q6) B9, []⟩ : Msg) ((1 + q12 : Nat) : Int))) :: (SetO b58 (1 + q6) B9) :: (RowE (α := Int) own 3 v209 (vecE (1 + q6) A9)) :: (SetO b131 (1 + q6) U9) :: (SetO b18 (1 + q6) (laidL (1 + q6) l)) :: Rs) w298 := hk296 _ _ hS299
    rw [ans_giveM hm9] at hS300 ⊢
    have hS301 : Sep G110 w105 ((RowE (α := Msg) own 57 v237 (ansL (1 + q6) B9 1 (⟨1, 0, 1, vecE (1 + q6) A9, []⟩ : Msg) ((1 + q12 : Nat) : Int))) :: (SetO b54 (1 + q6) (addsL (1 + q6) A9 (giveL (1 + q6) A9 B9 m9))) :: (RowE (α := Int) own 3 v256 (vecE (1 + q6) B9)) :: (RowE (α := Msg) own 57 v284 (ansL (1 + q6) A9 0 (⟨1, 1, 0, vecE (1 + q6) B9, []⟩ : Msg) ((1 + q12 : Nat) : Int))) :: (SetO b58 (1 + q6) B9) :: (RowE (α := Int) own 3 v209 (vecE (1 + q6) A9)) :: (SetO b131 (1 + q6) U9) :: (SetO b18 (1 + q6) (laidL (1 + q6) l)) :: Rs) w298 := hS300
    refine st (ov_move (v := .tuple #[.int .i64 (((giveL (1 + q6) A9 B9 m9).length : Nat) : Int), .bool true]) rfl ?_)
    refine st (ov_extract (vs := [.int .i64 (((giveL (1 + q6) A9 B9 m9).length : Nat) : Int), .bool true]) (i := 0) (v := .int .i64 (((giveL (1 + q6) A9 B9 m9).length : Nat) : Int)) rfl rfl ?_)
    refine st (ov_extract (vs := [.int .i64 (((giveL (1 + q6) A9 B9 m9).length : Nat) : Int), .bool true]) (i := 1) (v := .bool true) rfl rfl ?_)
    refine st (ov_assign (v := .int .i64 (((giveL (1 + q6) A9 B9 m9).length : Nat) : Int)) rfl ?_)
    refine st (ov_assign (v := .bool true) rfl ?_)
    refine st_nil ?_
    refine WP_seq ?_
    refine WP_region0 (by kernel_rfl) (fun _ => ?_)
    refine st (ov_move (v := .pointer (some ⟨b58, 0, none⟩)) rfl ?_)
    refine st (ov_move (v := v284) rfl ?_)
    have hS302 : Sep G110 w105 ((RowE (α := Msg) own 57 v284 (ansL (1 + q6) A9 0 (⟨1, 1, 0, vecE (1 + q6) B9, []⟩ : Msg) ((1 + q12 : Nat) : Int))) :: (RowE (α := Msg) own 57 v237 (ansL (1 + q6) B9 1 (⟨1, 0, 1, vecE (1 + q6) A9, []⟩ : Msg) ((1 + q12 : Nat) : Int))) :: (SetO b54 (1 + q6) (addsL (1 + q6) A9 (giveL (1 + q6) A9 B9 m9))) :: (RowE (α := Int) own 3 v256 (vecE (1 + q6) B9)) :: (SetO b58 (1 + q6) B9) :: (RowE (α := Int) own 3 v209 (vecE (1 + q6) A9)) :: (SetO b131 (1 + q6) U9) :: (SetO b18 (1 + q6) (laidL (1 + q6) l)) :: Rs) w298 := hS301.sel 8 [3, 0, 1, 2, 4, 5, 6, 7] (Nat.le_add_left _ _) rfl rfl
    obtain ⟨G303, hA305, hB306, hS307, hk308⟩ := hS302.lend
    have hrd309 := RowE.rd hA305
    have hrd309s : (ansL (1 + q6) A9 0 (⟨1, 1, 0, vecE (1 + q6) B9, []⟩ : Msg) ((1 + q12 : Nat) : Int)).length * 72 ≤ 140737488355328 := hrd309.small
    have hS310 : Sep G303 w298 ((SetO b58 (1 + q6) B9) :: (RowE (α := Msg) own 57 v237 (ansL (1 + q6) B9 1 (⟨1, 0, 1, vecE (1 + q6) A9, []⟩ : Msg) ((1 + q12 : Nat) : Int))) :: (SetO b54 (1 + q6) (addsL (1 + q6) A9 (giveL (1 + q6) A9 B9 m9))) :: (RowE (α := Int) own 3 v256 (vecE (1 + q6) B9)) :: (RowE (α := Int) own 3 v209 (vecE (1 + q6) A9)) :: (SetO b131 (1 + q6) U9) :: (SetO b18 (1 + q6) (laidL (1 + q6) l)) :: Rs) w298 := hS307.sel 7 [3, 0, 1, 2, 4, 5, 6] (Nat.le_add_left _ _) rfl rfl
    refine st (ov_call (f := 52) (vals := [.pointer (some ⟨b58, 0, none⟩), v284]) (cap := []) (show _ = (.func (.func 52) #[] #[] : Value) from rfl) rfl Try.call52 (D_feed (l := ansL (1 + q6) A9 0 (⟨1, 1, 0, vecE (1 + q6) B9, []⟩ : Msg) ((1 + q12 : Nat) : Int)) (vl := v284) hrd309 hS310 (by first | exact hM9.a.1 | exact hM9.b.1) ((by rw [ans_giveM hm9]; first | exact hM9.lf hUL9 | exact hM9.symm.lf hUL9)) ((by rw [ans_giveM hm9]; exact fun j hj => hM9.symm.code hj))) ?_)
    rintro _ w311 ⟨rfl, hS312⟩
    have hS313 : Sep G110 w105 ((RowE (α := Msg) own 57 v284 (ansL (1 + q6) A9 0 (⟨1, 1, 0, vecE (1 + q6) B9, []⟩ : Msg) ((1 + q12 : Nat) : Int))) :: (SetO b58 (1 + q6) (addsL (1 + q6) B9 (evsM (ansL (1 + q6) A9 0 (⟨1, 1, 0, vecE (1 + q6) B9, []⟩ : Msg) ((1 + q12 : Nat) : Int))))) :: (RowE (α := Msg) own 57 v237 (ansL (1 + q6) B9 1 (⟨1, 0, 1, vecE (1 + q6) A9, []⟩ : Msg) ((1 + q12 : Nat) : Int))) :: (SetO b54 (1 + q6) (addsL (1 + q6) A9 (giveL (1 + q6) A9 B9 m9))) :: (RowE (α := Int) own 3 v256 (vecE (1 + q6) B9)) :: (RowE (α := Int) own 3 v209 (vecE (1 + q6) A9)) :: (SetO b131 (1 + q6) U9) :: (SetO b18 (1 + q6) (laidL (1 + q6) l)) :: Rs) w311 := hk308 _ _ hS312
    rw [ans_giveM hm9] at hS313 ⊢
    have hS314 : Sep G110 w105 ((RowE (α := Msg) own 57 v284 (ansL (1 + q6) A9 0 (⟨1, 1, 0, vecE (1 + q6) B9, []⟩ : Msg) ((1 + q12 : Nat) : Int))) :: (SetO b58 (1 + q6) (addsL (1 + q6) B9 (giveL (1 + q6) B9 A9 m9))) :: (RowE (α := Msg) own 57 v237 (ansL (1 + q6) B9 1 (⟨1, 0, 1, vecE (1 + q6) A9, []⟩ : Msg) ((1 + q12 : Nat) : Int))) :: (SetO b54 (1 + q6) (addsL (1 + q6) A9 (giveL (1 + q6) A9 B9 m9))) :: (RowE (α := Int) own 3 v256 (vecE (1 + q6) B9)) :: (RowE (α := Int) own 3 v209 (vecE (1 + q6) A9)) :: (SetO b131 (1 + q6) U9) :: (SetO b18 (1 + q6) (laidL (1 + q6) l)) :: Rs) w311 := hS313
    refine st (ov_move (v := .tuple #[.int .i64 (((giveL (1 + q6) B9 A9 m9).length : Nat) : Int), .bool true]) rfl ?_)
    refine st (ov_extract (vs := [.int .i64 (((giveL (1 + q6) B9 A9 m9).length : Nat) : Int), .bool true]) (i := 0) (v := .int .i64 (((giveL (1 + q6) B9 A9 m9).length : Nat) : Int)) rfl rfl ?_)
    refine st (ov_extract (vs := [.int .i64 (((giveL (1 + q6) B9 A9 m9).length : Nat) : Int), .bool true]) (i := 1) (v := .bool true) rfl rfl ?_)
    refine st (ov_assign (v := .int .i64 (((giveL (1 + q6) B9 A9 m9).length : Nat) : Int)) rfl ?_)
    refine st (ov_assign (v := .bool true) rfl ?_)
    refine st_nil ?_
    refine WP_seq ?_
    refine WP_seq ?_
    refine WP_region (by kernel_rfl) ?_
    refine st (ov_move (v := .bool true) rfl ?_)
    refine st (ov_not (a := true) rfl ?_)
    refine st (ov_move (v := .bool false) rfl ?_)
    refine sty rfl rfl (ov_move (v := .bool true) rfl ?_)
    refine sty rfl rfl (ov_not (a := true) rfl ?_)
    refine st (ov_pick_f (v := .bool false) rfl rfl ?_)
    refine st (ov_move (v := .bool false) rfl ?_)
    refine sty rfl rfl (ov_move (v := .int .i64 (((giveL (1 + q6) A9 B9 m9).length : Nat) : Int)) rfl ?_)
    refine sty rfl rfl (ov_move (v := .int .i64 ((1 + q12 : Nat) : Int)) rfl ?_)
    have hkn315 : (decide (((1 + q12 : Nat) : Int) < (((giveL (1 + q6) A9 B9 m9).length : Nat) : Int))) = false := decide_eq_false (give_lt hm9b)
    refine sty rfl rfl (ov_as (congrArg Value.bool hkn315) (fun K9 h9 => ov_gtr (k := .i64) (a := (((giveL (1 + q6) A9 B9 m9).length : Nat) : Int)) (b := ((1 + q12 : Nat) : Int)) rfl rfl h9) ?_)
    refine st (ov_pick_f (v := .bool false) rfl rfl ?_)
    refine st (ov_move (v := .bool false) rfl ?_)
    refine sty rfl rfl (ov_move (v := .int .i64 (((giveL (1 + q6) B9 A9 m9).length : Nat) : Int)) rfl ?_)
    refine sty rfl rfl (ov_move (v := .int .i64 ((1 + q12 : Nat) : Int)) rfl ?_)
    have hkn316 : (decide (((1 + q12 : Nat) : Int) < (((giveL (1 + q6) B9 A9 m9).length : Nat) : Int))) = false := decide_eq_false (give_lt hm9b)
    refine sty rfl rfl (ov_as (congrArg Value.bool hkn316) (fun K9 h9 => ov_gtr (k := .i64) (a := (((giveL (1 + q6) B9 A9 m9).length : Nat) : Int)) (b := ((1 + q12 : Nat) : Int)) rfl rfl h9) ?_)
    refine st (ov_pick_f (v := .bool false) rfl rfl ?_)
    refine st_nil ?_
    refine WP_cond_f rfl ?_
    refine WP_skip ?_
    refine WP_seq ?_
    refine WP_region0 (by kernel_rfl) (fun _ => ?_)
    refine st (ov_move (v := .int .i64 (((giveL (1 + q6) A9 B9 m9).length : Nat) : Int)) rfl ?_)
    refine st (ov_move (v := .int .i64 (((giveL (1 + q6) B9 A9 m9).length : Nat) : Int)) rfl ?_)
    have hr317 : InR (((giveL (1 + q6) A9 B9 m9).length + ((giveL (1 + q6) B9 A9 m9).length) : Nat) : Int) := by first | omega | (simp only [lens]; omega)
    refine st (ov_add (r := (((giveL (1 + q6) A9 B9 m9).length + ((giveL (1 + q6) B9 A9 m9).length) : Nat) : Int)) (k := .i64) (a := (((giveL (1 + q6) A9 B9 m9).length : Nat) : Int)) (b := (((giveL (1 + q6) B9 A9 m9).length : Nat) : Int)) rfl rfl (by rw [show ((((giveL (1 + q6) A9 B9 m9).length : Nat) : Int) + (((giveL (1 + q6) B9 A9 m9).length : Nat) : Int) : Int) = (((giveL (1 + q6) A9 B9 m9).length + ((giveL (1 + q6) B9 A9 m9).length) : Nat) : Int) by first | omega | (simp only [lens]; omega)]; exact wrap_in hr317) ?_)
    refine st (ov_eql (k := .i64) (a := (((giveL (1 + q6) A9 B9 m9).length + ((giveL (1 + q6) B9 A9 m9).length) : Nat) : Int)) (b := 0) rfl rfl ?_)
    refine st_nil ?_
    cases hc318 : decide ((((giveL (1 + q6) A9 B9 m9).length + ((giveL (1 + q6) B9 A9 m9).length) : Nat) : Int) = 0)
    ·skip
     have hc318r := hc318
     have hc318 := of_decide_eq_false hc318
     refine WP_cond_f rfl ?_
     refine WP_skip ?_
     refine WP_region0 (by kernel_rfl) (fun _ => ?_)
     refine st (ov_move (v := .int .i64 ((t9 : Nat) : Int)) rfl ?_)
     have hr319 : InR ((t9 + 1 : Nat) : Int) := by first | omega | (simp only [lens]; omega)
     refine st (ov_add (r := ((t9 + 1 : Nat) : Int)) (k := .i64) (a := ((t9 : Nat) : Int)) (b := 1) rfl rfl (by rw [show (((t9 : Nat) : Int) + 1 : Int) = ((t9 + 1 : Nat) : Int) by first | omega | (simp only [lens]; omega)]; exact wrap_in hr319) ?_)
     refine st (ov_assign (v := .int .i64 ((t9 + 1 : Nat) : Int)) rfl ?_)
     refine st_nil ?_
     have hS320 : Sep G110 w105 ((SetO b58 (1 + q6) (addsL (1 + q6) B9 (giveL (1 + q6) B9 A9 m9))) :: (SetO b54 (1 + q6) (addsL (1 + q6) A9 (giveL (1 + q6) A9 B9 m9))) :: (SetO b131 (1 + q6) U9) :: (SetO b18 (1 + q6) (laidL (1 + q6) l)) :: Rs) w311 := hS314.sel 8 [1, 3, 6, 7] (Nat.le_add_left _ _) rfl rfl
     exact ⟨_, by omega, t9 + 1, (addsL (1 + q6) A9 (giveL (1 + q6) A9 B9 m9)), (addsL (1 + q6) B9 (giveL (1 + q6) B9 A9 m9)), _, rfl, setAll_self ⟨rfl, rfl, rfl, rfl, rfl, rfl, trivial⟩, hM9.turn, (hM9.prog hpr9 hc318), hS320⟩
    ·skip
     have hc318r := hc318
     have hc318 := of_decide_eq_true hc318
     obtain ⟨hA8, hB8⟩ := hM9.fin2 hm9a (by omega) (by omega)
     rw [hA8] at hS314
     have hS321 : Sep G110 w105 ((RowE (α := Msg) own 57 v284 (ansL (1 + q6) A9 0 (⟨1, 1, 0, vecE (1 + q6) B9, []⟩ : Msg) ((1 + q12 : Nat) : Int))) :: (SetO b58 (1 + q6) (addsL (1 + q6) B9 (giveL (1 + q6) B9 A9 m9))) :: (RowE (α := Msg) own 57 v237 (ansL (1 + q6) B9 1 (⟨1, 0, 1, vecE (1 + q6) A9, []⟩ : Msg) ((1 + q12 : Nat) : Int))) :: (SetO b54 (1 + q6) U9) :: (RowE (α := Int) own 3 v256 (vecE (1 + q6) B9)) :: (RowE (α := Int) own 3 v209 (vecE (1 + q6) A9)) :: (SetO b131 (1 + q6) U9) :: (SetO b18 (1 + q6) (laidL (1 + q6) l)) :: Rs) w311 := hS314
     rw [hB8] at hS321
     have hS322 : Sep G110 w105 ((RowE (α := Msg) own 57 v284 (ansL (1 + q6) A9 0 (⟨1, 1, 0, vecE (1 + q6) B9, []⟩ : Msg) ((1 + q12 : Nat) : Int))) :: (SetO b58 (1 + q6) U9) :: (RowE (α := Msg) own 57 v237 (ansL (1 + q6) B9 1 (⟨1, 0, 1, vecE (1 + q6) A9, []⟩ : Msg) ((1 + q12 : Nat) : Int))) :: (SetO b54 (1 + q6) U9) :: (RowE (α := Int) own 3 v256 (vecE (1 + q6) B9)) :: (RowE (α := Int) own 3 v209 (vecE (1 + q6) A9)) :: (SetO b131 (1 + q6) U9) :: (SetO b18 (1 + q6) (laidL (1 + q6) l)) :: Rs) w311 := hS321
     refine WP_cond_t rfl ?_
     refine WP_exit ?_
     refine blk_pass (by decide) ?_
     refine blk_exit ?_
     refine WP_seq ?_
     refine WP_region0 (by kernel_rfl) (fun _ => ?_)
     refine st (ov_move (v := .pointer (some ⟨b58, 0, none⟩)) rfl ?_)
     refine st (ov_move (v := .pointer (some ⟨b54, 0, none⟩)) rfl ?_)
     have hS323 : Sep G110 w105 ((SetO b54 (1 + q6) U9) :: (RowE (α := Msg) own 57 v284 (ansL (1 + q6) A9 0 (⟨1, 1, 0, vecE (1 + q6) B9, []⟩ : Msg) ((1 + q12 : Nat) : Int))) :: (SetO b58 (1 + q6) U9) :: (RowE (α := Msg) own 57 v237 (ansL (1 + q6) B9 1 (⟨1, 0, 1, vecE (1 + q6) A9, []⟩ : Msg) ((1 + q12 : Nat) : Int))) :: (RowE (α := Int) own 3 v256 (vecE (1 + q6) B9)) :: (RowE (α := Int) own 3 v209 (vecE (1 + q6) A9)) :: (SetO b131 (1 + q6) U9) :: (SetO b18 (1 + q6) (laidL (1 + q6) l)) :: Rs) w311 := hS322.sel 8 [3, 0, 1, 2, 4, 5, 6, 7] (Nat.le_add_left _ _) rfl rfl
     obtain ⟨G324, hA326, hB327, hS328, hk329⟩ := hS323.lend
     obtain ⟨vv330, m331, R332, hb333, hv334, hr335⟩ := SetO.sh hA326
     have hsm336 : (vecE (1 + q6) U9).length * 8 ≤ 140737488355328 := hv334.small
     refine st (ov_call (f := 46) (vals := [.pointer (some ⟨b54, 0, none⟩), .int .i64 (0), .int .i64 (1)]) (cap := []) (show _ = (.func (.func 46) #[] #[] : Value) from rfl) rfl Try.call46 (D_Digest (fr := 0) (tt := 1) hA326 (by decide) (by decide) hS328) ?_)
     rintro _ w339 ⟨v337, rfl, hmo338, hS340⟩
     have hr341 := hS340.row (i := 0) rfl
     have hr341s : (vecE (1 + q6) U9).length * 8 ≤ 140737488355328 := hr341.2
     have hS342 : Sep G110 w105 ((SetO b54 (1 + q6) U9) :: (RowE (α := Int) own 3 v337 (vecE (1 + q6) U9)) :: (RowE (α := Msg) own 57 v284 (ansL (1 + q6) A9 0 (⟨1, 1, 0, vecE (1 + q6) B9, []⟩ : Msg) ((1 + q12 : Nat) : Int))) :: (SetO b58 (1 + q6) U9) :: (RowE (α := Msg) own 57 v237 (ansL (1 + q6) B9 1 (⟨1, 0, 1, vecE (1 + q6) A9, []⟩ : Msg) ((1 + q12 : Nat) : Int))) :: (RowE (α := Int) own 3 v256 (vecE (1 + q6) B9)) :: (RowE (α := Int) own 3 v209 (vecE (1 + q6) A9)) :: (SetO b131 (1 + q6) U9) :: (SetO b18 (1 + q6) (laidL (1 + q6) l)) :: Rs) w339 := hk329 _ _ hS340
     refine st (ov_move (v := .int .i64 ((1 + q12 : Nat) : Int)) rfl ?_)
     have hS343 : Sep G110 w105 ((SetO b58 (1 + q6) U9) :: (SetO b54 (1 + q6) U9) :: (RowE (α := Int) own 3 v337 (vecE (1 + q6) U9)) :: (RowE (α := Msg) own 57 v284 (ansL (1 + q6) A9 0 (⟨1, 1, 0, vecE (1 + q6) B9, []⟩ : Msg) ((1 + q12 : Nat) : Int))) :: (RowE (α := Msg) own 57 v237 (ansL (1 + q6) B9 1 (⟨1, 0, 1, vecE (1 + q6) A9, []⟩ : Msg) ((1 + q12 : Nat) : Int))) :: (RowE (α := Int) own 3 v256 (vecE (1 + q6) B9)) :: (RowE (α := Int) own 3 v209 (vecE (1 + q6) A9)) :: (SetO b131 (1 + q6) U9) :: (SetO b18 (1 + q6) (laidL (1 + q6) l)) :: Rs) w339 := hS342.sel 9 [3, 0, 1, 2, 4, 5, 6, 7, 8] (Nat.le_add_left _ _) rfl rfl
     obtain ⟨G344, hA346, hB347, hS348, hk349⟩ := hS343.lend
     obtain ⟨vv350, m351, R352, hb353, hv354, hr355⟩ := SetO.sh hA346
     have hsm356 : (vecE (1 + q6) U9).length * 8 ≤ 140737488355328 := hv354.small
     have hS357 : Sep G344 w339 ((RowE (α := Int) own 3 v337 (vecE (1 + q6) U9)) :: (SetO b54 (1 + q6) U9) :: (RowE (α := Msg) own 57 v284 (ansL (1 + q6) A9 0 (⟨1, 1, 0, vecE (1 + q6) B9, []⟩ : Msg) ((1 + q12 : Nat) : Int))) :: (RowE (α := Msg) own 57 v237 (ansL (1 + q6) B9 1 (⟨1, 0, 1, vecE (1 + q6) A9, []⟩ : Msg) ((1 + q12 : Nat) : Int))) :: (RowE (α := Int) own 3 v256 (vecE (1 + q6) B9)) :: (RowE (α := Int) own 3 v209 (vecE (1 + q6) A9)) :: (SetO b131 (1 + q6) U9) :: (SetO b18 (1 + q6) (laidL (1 + q6) l)) :: Rs) w339 := hS348.sel 8 [1, 0, 2, 3, 4, 5, 6, 7] (Nat.le_add_left _ _) rfl rfl
     obtain ⟨G358, hA360, hB361, hS362, hk363⟩ := hS357.lend
     have hrd364 := RowE.rd hA360
     have hrd364s : (vecE (1 + q6) U9).length * 8 ≤ 140737488355328 := hrd364.small
     refine st (ov_call (f := 41) (vals := [.pointer (some ⟨b58, 0, none⟩), .int .i64 (1), .agg ((⟨1, 0, 1, vecE (1 + q6) U9, []⟩ : Msg).cells v337 (.slice none 0 0)).toArray, .int .i64 ((1 + q12 : Nat) : Int)]) (cap := []) (show _ = (.func (.func 41) #[] #[] : Value) from rfl) rfl Try.call41 (D_Answer (self := 1) (m := (⟨1, 0, 1, vecE (1 + q6) U9, []⟩ : Msg)) (chunk := ((1 + q12 : Nat) : Int)) (HP.base hA346 hB361) (by decide) hrd364 (RdS.nil _ _) hmo338 hr17 hS362 (by first | exact laidL_good.ids | exact hA9.1.ids | exact hM9.a.1.ids | exact hM9.b.1.ids | exact hM9.u.ids | exact hP9.1.ids | exact hM0.u.ids) (by first | exact laidL_good.srt | exact hA9.1.srt | exact hM9.a.1.srt | exact hM9.b.1.srt | exact hM9.u.srt | exact hP9.1.srt | exact hM0.u.srt) ((by first | exact hM9.lb hUL9 | exact hM9.la hUL9 | exact Meet.lu hUL9 | exact (Nat.le_trans laidL_len (by omega)) | omega))) ?_)
     rintro v365 w366 ⟨_, rfl, hS367⟩
     have hr368 := hS367.row (i := 0) rfl
     have hr368s : (ansL (1 + q6) U9 1 (⟨1, 0, 1, vecE (1 + q6) U9, []⟩ : Msg) ((1 + q12 : Nat) : Int)).length * 72 ≤ 140737488355328 := hr368.2
     have hS369 : Sep G344 w339 ((RowE (α := Int) own 3 v337 (vecE (1 + q6) U9)) :: (RowE (α := Msg) own 57 v365 (ansL (1 + q6) U9 1 (⟨1, 0, 1, vecE (1 + q6) U9, []⟩ : Msg) ((1 + q12 : Nat) : Int))) :: (SetO b54 (1 + q6) U9) :: (RowE (α := Msg) own 57 v284 (ansL (1 + q6) A9 0 (⟨1, 1, 0, vecE (1 + q6) B9, []⟩ : Msg) ((1 + q12 : Nat) : Int))) :: (RowE (α := Msg) own 57 v237 (ansL (1 + q6) B9 1 (⟨1, 0, 1, vecE (1 + q6) A9, []⟩ : Msg) ((1 + q12 : Nat) : Int))) :: (RowE (α := Int) own 3 v256 (vecE (1 + q6) B9)) :: (RowE (α := Int) own 3 v209 (vecE (1 + q6) A9)) :: (SetO b131 (1 + q6) U9) :: (SetO b18 (1 + q6) (laidL (1 + q6) l)) :: Rs) w366 := hk363 _ _ hS367
     have hS370 : Sep G110 w105 ((SetO b58 (1 + q6) U9) :: (RowE (α := Int) own 3 v337 (vecE (1 + q6) U9)) :: (RowE (α := Msg) own 57 v365 (ansL (1 + q6) U9 1 (⟨1, 0, 1, vecE (1 + q6) U9, []⟩ : Msg) ((1 + q12 : Nat) : Int))) :: (SetO b54 (1 + q6) U9) :: (RowE (α := Msg) own 57 v284 (ansL (1 + q6) A9 0 (⟨1, 1, 0, vecE (1 + q6) B9, []⟩ : Msg) ((1 + q12 : Nat) : Int))) :: (RowE (α := Msg) own 57 v237 (ansL (1 + q6) B9 1 (⟨1, 0, 1, vecE (1 + q6) A9, []⟩ : Msg) ((1 + q12 : Nat) : Int))) :: (RowE (α := Int) own 3 v256 (vecE (1 + q6) B9)) :: (RowE (α := Int) own 3 v209 (vecE (1 + q6) A9)) :: (SetO b131 (1 + q6) U9) :: (SetO b18 (1 + q6) (laidL (1 + q6) l)) :: Rs) w366 := hk349 _ _ hS369
     refine st (ov_assign (v := v365) rfl ?_)
     refine st_nil ?_
     refine WP_seq ?_
     refine WP_region0 (by kernel_rfl) (fun _ => ?_)
     refine st (ov_move (v := .pointer (some ⟨b54, 0, none⟩)) rfl ?_)
     refine st (ov_move (v := .pointer (some ⟨b58, 0, none⟩)) rfl ?_)
     obtain ⟨G371, hA373, hB374, hS375, hk376⟩ := hS370.lend
     obtain ⟨vv377, m378, R379, hb380, hv381, hr382⟩ := SetO.sh hA373
     have hsm383 : (vecE (1 + q6) U9).length * 8 ≤ 140737488355328 := hv381.small
     refine st (ov_call (f := 46) (vals := [.pointer (some ⟨b58, 0, none⟩), .int .i64 (1), .int .i64 (0)]) (cap := []) (show _ = (.func (.func 46) #[] #[] : Value) from rfl) rfl Try.call46 (D_Digest (fr := 1) (tt := 0) hA373 (by decide) (by decide) hS375) ?_)
     rintro _ w386 ⟨v384, rfl, hmo385, hS387⟩
     have hr388 := hS387.row (i := 0) rfl
     have hr388s : (vecE (1 + q6) U9).length * 8 ≤ 140737488355328 := hr388.2
     have hS389 : Sep G110 w105 ((SetO b58 (1 + q6) U9) :: (RowE (α := Int) own 3 v384 (vecE (1 + q6) U9)) :: (RowE (α := Int) own 3 v337 (vecE (1 + q6) U9)) :: (RowE (α := Msg) own 57 v365 (ansL (1 + q6) U9 1 (⟨1, 0, 1, vecE (1 + q6) U9, []⟩ : Msg) ((1 + q12 : Nat) : Int))) :: (SetO b54 (1 + q6) U9) :: (RowE (α := Msg) own 57 v284 (ansL (1 + q6) A9 0 (⟨1, 1, 0, vecE (1 + q6) B9, []⟩ : Msg) ((1 + q12 : Nat) : Int))) :: (RowE (α := Msg) own 57 v237 (ansL (1 + q6) B9 1 (⟨1, 0, 1, vecE (1 + q6) A9, []⟩ : Msg) ((1 + q12 : Nat) : Int))) :: (RowE (α := Int) own 3 v256 (vecE (1 + q6) B9)) :: (RowE (α := Int) own 3 v209 (vecE (1 + q6) A9)) :: (SetO b131 (1 + q6) U9) :: (SetO b18 (1 + q6) (laidL (1 + q6) l)) :: Rs) w386 := hk376 _ _ hS387
     refine st (ov_move (v := .int .i64 ((1 + q12 : Nat) : Int)) rfl ?_)
     have hS390 : Sep G110 w105 ((SetO b54 (1 + q6) U9) :: (SetO b58 (1 + q6) U9) :: (RowE (α := Int) own 3 v384 (vecE (1 + q6) U9)) :: (RowE (α := Int) own 3 v337 (vecE (1 + q6) U9)) :: (RowE (α := Msg) own 57 v365 (ansL (1 + q6) U9 1 (⟨1, 0, 1, vecE (1 + q6) U9, []⟩ : Msg) ((1 + q12 : Nat) : Int))) :: (RowE (α := Msg) own 57 v284 (ansL (1 + q6) A9 0 (⟨1, 1, 0, vecE (1 + q6) B9, []⟩ : Msg) ((1 + q12 : Nat) : Int))) :: (RowE (α := Msg) own 57 v237 (ansL (1 + q6) B9 1 (⟨1, 0, 1, vecE (1 + q6) A9, []⟩ : Msg) ((1 + q12 : Nat) : Int))) :: (RowE (α := Int) own 3 v256 (vecE (1 + q6) B9)) :: (RowE (α := Int) own 3 v209 (vecE (1 + q6) A9)) :: (SetO b131 (1 + q6) U9) :: (SetO b18 (1 + q6) (laidL (1 + q6) l)) :: Rs) w386 := hS389.sel 11 [4, 0, 1, 2, 3, 5, 6, 7, 8, 9, 10] (Nat.le_add_left _ _) rfl rfl
     obtain ⟨G391, hA393, hB394, hS395, hk396⟩ := hS390.lend
     obtain ⟨vv397, m398, R399, hb400, hv401, hr402⟩ := SetO.sh hA393
     have hsm403 : (vecE (1 + q6) U9).length * 8 ≤ 140737488355328 := hv401.small
     have hS404 : Sep G391 w386 ((RowE (α := Int) own 3 v384 (vecE (1 + q6) U9)) :: (SetO b58 (1 + q6) U9) :: (RowE (α := Int) own 3 v337 (vecE (1 + q6) U9)) :: (RowE (α := Msg) own 57 v365 (ansL (1 + q6) U9 1 (⟨1, 0, 1, vecE (1 + q6) U9, []⟩ : Msg) ((1 + q12 : Nat) : Int))) :: (RowE (α := Msg) own 57 v284 (ansL (1 + q6) A9 0 (⟨1, 1, 0, vecE (1 + q6) B9, []⟩ : Msg) ((1 + q12 : Nat) : Int))) :: (RowE (α := Msg) own 57 v237 (ansL (1 + q6) B9 1 (⟨1, 0, 1, vecE (1 + q6) A9, []⟩ : Msg) ((1 + q12 : Nat) : Int))) :: (RowE (α := Int) own 3 v256 (vecE (1 + q6) B9)) :: (RowE (α := Int) own 3 v209 (vecE (1 + q6) A9)) :: (SetO b131 (1 + q6) U9) :: (SetO b18 (1 + q6) (laidL (1 + q6) l)) :: Rs) w386 := hS395.sel 10 [1, 0, 2, 3, 4, 5, 6, 7, 8, 9] (Nat.le_add_left _ _) rfl rfl
     obtain ⟨G405, hA407, hB408, hS409, hk410⟩ := hS404.lend
     have hrd411 := RowE.rd hA407
     have hrd411s : (vecE (1 + q6) U9).length * 8 ≤ 140737488355328 := hrd411.small
     refine st (ov_call (f := 41) (vals := [.pointer (some ⟨b54, 0, none⟩), .int .i64 (0), .agg ((⟨1, 1, 0, vecE (1 + q6) U9, []⟩ : Msg).cells v384 (.slice none 0 0)).toArray, .int .i64 ((1 + q12 : Nat) : Int)]) (cap := []) (show _ = (.func (.func 41) #[] #[] : Value) from rfl) rfl Try.call41 (D_Answer (self := 0) (m := (⟨1, 1, 0, vecE (1 + q6) U9, []⟩ : Msg)) (chunk := ((1 + q12 : Nat) : Int)) (HP.base hA393 hB408) (by decide) hrd411 (RdS.nil _ _) hmo385 hr17 hS409 (by first | exact laidL_good.ids | exact hA9.1.ids | exact hM9.a.1.ids | exact hM9.b.1.ids | exact hM9.u.ids | exact hP9.1.ids | exact hM0.u.ids) (by first | exact laidL_good.srt | exact hA9.1.srt | exact hM9.a.1.srt | exact hM9.b.1.srt | exact hM9.u.srt | exact hP9.1.srt | exact hM0.u.srt) ((by first | exact hM9.lb hUL9 | exact hM9.la hUL9 | exact Meet.lu hUL9 | exact (Nat.le_trans laidL_len (by omega)) | omega))) ?_)
     rintro v412 w413 ⟨_, rfl, hS414⟩
     have hr415 := hS414.row (i := 0) rfl
     have hr415s : (ansL (1 + q6) U9 0 (⟨1, 1, 0, vecE (1 + q6) U9, []⟩ : Msg) ((1 + q12 : Nat) : Int)).length * 72 ≤ 140737488355328 := hr415.2
     have hS416 : Sep G391 w386 ((RowE (α := Int) own 3 v384 (vecE (1 + q6) U9)) :: (RowE (α := Msg) own 57 v412 (ansL (1 + q6) U9 0 (⟨1, 1, 0, vecE (1 + q6) U9, []⟩ : Msg) ((1 + q12 : Nat) : Int))) :: (SetO b58 (1 + q6) U9) :: (RowE (α := Int) own 3 v337 (vecE (1 + q6) U9)) :: (RowE (α := Msg) own 57 v365 (ansL (1 + q6) U9 1 (⟨1, 0, 1, vecE (1 + q6) U9, []⟩ : Msg) ((1 + q12 : Nat) : Int))) :: (RowE (α := Msg) own 57 v284 (ansL (1 + q6) A9 0 (⟨1, 1, 0, vecE (1 + q6) B9, []⟩ : Msg) ((1 + q12 : Nat) : Int))) :: (RowE (α := Msg) own 57 v237 (ansL (1 + q6) B9 1 (⟨1, 0, 1, vecE (1 + q6) A9, []⟩ : Msg) ((1 + q12 : Nat) : Int))) :: (RowE (α := Int) own 3 v256 (vecE (1 + q6) B9)) :: (RowE (α := Int) own 3 v209 (vecE (1 + q6) A9)) :: (SetO b131 (1 + q6) U9) :: (SetO b18 (1 + q6) (laidL (1 + q6) l)) :: Rs) w413 := hk410 _ _ hS414
     have hS417 : Sep G110 w105 ((SetO b54 (1 + q6) U9) :: (RowE (α := Int) own 3 v384 (vecE (1 + q6) U9)) :: (RowE (α := Msg) own 57 v412 (ansL (1 + q6) U9 0 (⟨1, 1, 0, vecE (1 + q6) U9, []⟩ : Msg) ((1 + q12 : Nat) : Int))) :: (SetO b58 (1 + q6) U9) :: (RowE (α := Int) own 3 v337 (vecE (1 + q6) U9)) :: (RowE (α := Msg) own 57 v365 (ansL (1 + q6) U9 1 (⟨1, 0, 1, vecE (1 + q6) U9, []⟩ : Msg) ((1 + q12 : Nat) : Int))) :: (RowE (α := Msg) own 57 v284 (ansL (1 + q6) A9 0 (⟨1, 1, 0, vecE (1 + q6) B9, []⟩ : Msg) ((1 + q12 : Nat) : Int))) :: (RowE (α := Msg) own 57 v237 (ansL (1 + q6) B9 1 (⟨1, 0, 1, vecE (1 + q6) A9, []⟩ : Msg) ((1 + q12 : Nat) : Int))) :: (RowE (α := Int) own 3 v256 (vecE (1 + q6) B9)) :: (RowE (α := Int) own 3 v209 (vecE (1 + q6) A9)) :: (SetO b131 (1 + q6) U9) :: (SetO b18 (1 + q6) (laidL (1 + q6) l)) :: Rs) w413 := hk396 _ _ hS416
     refine st (ov_assign (v := v412) rfl ?_)
     refine st_nil ?_
     refine WP_seq ?_
     refine WP_seq ?_
     rw [self_ans hM9.u (self := 1) (f := 0) (t := 1)] at hS417
     have hS418 : Sep G110 w105 ((SetO b54 (1 + q6) U9) :: (RowE (α := Int) own 3 v384 (vecE (1 + q6) U9)) :: (RowE (α := Msg) own 57 v412 (ansL (1 + q6) U9 0 (⟨1, 1, 0, vecE (1 + q6) U9, []⟩ : Msg) ((1 + q12 : Nat) : Int))) :: (SetO b58 (1 + q6) U9) :: (RowE (α := Int) own 3 v337 (vecE (1 + q6) U9)) :: (RowE (α := Msg) own 57 v365 [(⟨4, 1, 0, vecE (1 + q6) U9, []⟩ : Msg)]) :: (RowE (α := Msg) own 57 v284 (ansL (1 + q6) A9 0 (⟨1, 1, 0, vecE (1 + q6) B9, []⟩ : Msg) ((1 + q12 : Nat) : Int))) :: (RowE (α := Msg) own 57 v237 (ansL (1 + q6) B9 1 (⟨1, 0, 1, vecE (1 + q6) A9, []⟩ : Msg) ((1 + q12 : Nat) : Int))) :: (RowE (α := Int) own 3 v256 (vecE (1 + q6) B9)) :: (RowE (α := Int) own 3 v209 (vecE (1 + q6) A9)) :: (SetO b131 (1 + q6) U9) :: (SetO b18 (1 + q6) (laidL (1 + q6) l)) :: Rs) w413 := hS417
     have hr419 := hS418.row (i := 5) rfl
     have hr419s : [(⟨4, 1, 0, vecE (1 + q6) U9, []⟩ : Msg)].length * 72 ≤ 140737488355328 := hr419.2
     rw [self_ans hM9.u (self := 0) (f := 1) (t := 0)] at hS418
     have hS420 : Sep G110 w105 ((SetO b54 (1 + q6) U9) :: (RowE (α := Int) own 3 v384 (vecE (1 + q6) U9)) :: (RowE (α := Msg) own 57 v412 [(⟨4, 0, 1, vecE (1 + q6) U9, []⟩ : Msg)]) :: (SetO b58 (1 + q6) U9) :: (RowE (α := Int) own 3 v337 (vecE (1 + q6) U9)) :: (RowE (α := Msg) own 57 v365 [(⟨4, 1, 0, vecE (1 + q6) U9, []⟩ : Msg)]) :: (RowE (α := Msg) own 57 v284 (ansL (1 + q6) A9 0 (⟨1, 1, 0, vecE (1 + q6) B9, []⟩ : Msg) ((1 + q12 : Nat) : Int))) :: (RowE (α := Msg) own 57 v237 (ansL (1 + q6) B9 1 (⟨1, 0, 1, vecE (1 + q6) A9, []⟩ : Msg) ((1 + q12 : Nat) : Int))) :: (RowE (α := Int) own 3 v256 (vecE (1 + q6) B9)) :: (RowE (α := Int) own 3 v209 (vecE (1 + q6) A9)) :: (SetO b131 (1 + q6) U9) :: (SetO b18 (1 + q6) (laidL (1 + q6) l)) :: Rs) w413 := hS418
     have hr421 := hS420.row (i := 2) rfl
     have hr421s : [(⟨4, 0, 1, vecE (1 + q6) U9, []⟩ : Msg)].length * 72 ≤ 140737488355328 := hr421.2
     have hS422 : Sep G110 w105 ((RowE (α := Msg) own 57 v365 [(⟨4, 1, 0, vecE (1 + q6) U9, []⟩ : Msg)]) :: (SetO b54 (1 + q6) U9) :: (RowE (α := Int) own 3 v384 (vecE (1 + q6) U9)) :: (RowE (α := Msg) own 57 v412 [(⟨4, 0, 1, vecE (1 + q6) U9, []⟩ : Msg)]) :: (SetO b58 (1 + q6) U9) :: (RowE (α := Int) own 3 v337 (vecE (1 + q6) U9)) :: (RowE (α := Msg) own 57 v284 (ansL (1 + q6) A9 0 (⟨1, 1, 0, vecE (1 + q6) B9, []⟩ : Msg) ((1 + q12 : Nat) : Int))) :: (RowE (α := Msg) own 57 v237 (ansL (1 + q6) B9 1 (⟨1, 0, 1, vecE (1 + q6) A9, []⟩ : Msg) ((1 + q12 : Nat) : Int))) :: (RowE (α := Int) own 3 v256 (vecE (1 + q6) B9)) :: (RowE (α := Int) own 3 v209 (vecE (1 + q6) A9)) :: (SetO b131 (1 + q6) U9) :: (SetO b18 (1 + q6) (laidL (1 + q6) l)) :: Rs) w413 := hS420.sel 12 [5, 0, 1, 2, 3, 4, 6, 7, 8, 9, 10, 11] (Nat.le_add_left _ _) rfl rfl
     obtain ⟨G423, hA425, hB426, hS427, hk428⟩ := hS422.lend
     have hrd429 := RowE.rd hA425
     have hrd429s : [(⟨4, 1, 0, vecE (1 + q6) U9, []⟩ : Msg)].length * 72 ≤ 140737488355328 := hrd429.small
     have hS430 : Sep G423 w413 ((RowE (α := Msg) own 57 v412 [(⟨4, 0, 1, vecE (1 + q6) U9, []⟩ : Msg)]) :: (SetO b54 (1 + q6) U9) :: (RowE (α := Int) own 3 v384 (vecE (1 + q6) U9)) :: (SetO b58 (1 + q6) U9) :: (RowE (α := Int) own 3 v337 (vecE (1 + q6) U9)) :: (RowE (α := Msg) own 57 v284 (ansL (1 + q6) A9 0 (⟨1, 1, 0, vecE (1 + q6) B9, []⟩ : Msg) ((1 + q12 : Nat) : Int))) :: (RowE (α := Msg) own 57 v237 (ansL (1 + q6) B9 1 (⟨1, 0, 1, vecE (1 + q6) A9, []⟩ : Msg) ((1 + q12 : Nat) : Int))) :: (RowE (α := Int) own 3 v256 (vecE (1 + q6) B9)) :: (RowE (α := Int) own 3 v209 (vecE (1 + q6) A9)) :: (SetO b131 (1 + q6) U9) :: (SetO b18 (1 + q6) (laidL (1 + q6) l)) :: Rs) w413 := hS427.sel 11 [2, 0, 1, 3, 4, 5, 6, 7, 8, 9, 10] (Nat.le_add_left _ _) rfl rfl
     obtain ⟨G431, hA433, hB434, hS435, hk436⟩ := hS430.lend
     have hrd437 := RowE.rd hA433
     have hrd437s : [(⟨4, 0, 1, vecE (1 + q6) U9, []⟩ : Msg)].length * 72 ≤ 140737488355328 := hrd437.small
     refine WP_draw4 (WF [fun vals wq => Sep G431 w413 ((SetO b54 (1 + q6) U9) :: (RowE (α := Int) own 3 v384 (vecE (1 + q6) U9)) :: (SetO b58 (1 + q6) U9) :: (RowE (α := Int) own 3 v337 (vecE (1 + q6) U9)) :: (RowE (α := Msg) own 57 v284 (ansL (1 + q6) A9 0 (⟨1, 1, 0, vecE (1 + q6) B9, []⟩ : Msg) ((1 + q12 : Nat) : Int))) :: (RowE (α := Msg) own 57 v237 (ansL (1 + q6) B9 1 (⟨1, 0, 1, vecE (1 + q6) A9, []⟩ : Msg) ((1 + q12 : Nat) : Int))) :: (RowE (α := Int) own 3 v256 (vecE (1 + q6) B9)) :: (RowE (α := Int) own 3 v209 (vecE (1 + q6) A9)) :: (SetO b131 (1 + q6) U9) :: (SetO b18 (1 + q6) (laidL (1 + q6) l)) :: Rs) wq, fun vals wq => (vals 31 = (.bool (decide ((([(⟨4, 1, 0, vecE (1 + q6) U9, []⟩ : Msg)].getD 0 default).vec) = (([(⟨4, 0, 1, vecE (1 + q6) U9, []⟩ : Msg)].getD 0 default).vec))) : Value)) ∧ Sep G431 w413 ((SetO b54 (1 + q6) U9) :: (RowE (α := Int) own 3 v384 (vecE (1 + q6) U9)) :: (SetO b58 (1 + q6) U9) :: (RowE (α := Int) own 3 v337 (vecE (1 + q6) U9)) :: (RowE (α := Msg) own 57 v284 (ansL (1 + q6) A9 0 (⟨1, 1, 0, vecE (1 + q6) B9, []⟩ : Msg) ((1 + q12 : Nat) : Int))) :: (RowE (α := Msg) own 57 v237 (ansL (1 + q6) B9 1 (⟨1, 0, 1, vecE (1 + q6) A9, []⟩ : Msg) ((1 + q12 : Nat) : Int))) :: (RowE (α := Int) own 3 v256 (vecE (1 + q6) B9)) :: (RowE (α := Int) own 3 v209 (vecE (1 + q6) A9)) :: (SetO b131 (1 + q6) U9) :: (SetO b18 (1 + q6) (laidL (1 + q6) l)) :: Rs) wq]) (AF [Vl 0 (v365), Vl 1 (.int .i64 (([(⟨4, 1, 0, vecE (1 + q6) U9, []⟩ : Msg)].length : Nat) : Int)), Vl 2 (.bool false), Vl 3 (.bool false), Vl 4 (v412), Vl 5 (.int .i64 (([(⟨4, 0, 1, vecE (1 + q6) U9, []⟩ : Msg)].length : Nat) : Int)), Vl 6 (.bool false), Vl 7 (.bool false), Vl 8 (.bool false), Vl 9 (v365), Vl 10 (.pointer (some ⟨sb v365, so v365 + 0 * 5, none⟩)), Vl 11 (.pointer (some ⟨sb v365, so v365 + 0 * 5, none⟩)), Vl 12 (.int .i64 (([(⟨4, 1, 0, vecE (1 + q6) U9, []⟩ : Msg)].getD 0 default).kind)), Vl 13 (.bool false), Vl 14 (.bool false), Vl 15 (.bool false), Vl 16 (v412), Vl 17 (.pointer (some ⟨sb v412, so v412 + 0 * 5, none⟩)), Vl 18 (.pointer (some ⟨sb v412, so v412 + 0 * 5, none⟩)), Vl 19 (.int .i64 (([(⟨4, 0, 1, vecE (1 + q6) U9, []⟩ : Msg)].getD 0 default).kind)), Vl 20 (.bool false), Vl 21 (.bool false), Vl 22 (.bool false), Vl 23 (v365), Vl 24 (.pointer (some ⟨sb v365, so v365 + 0 * 5, none⟩)), Vl 25 (.pointer (some ⟨sb v365, so v365 + 0 * 5 + 3, none⟩)), Vl 26 ((cellV w413 (sb v365) (so v365 + 0 * 5 + 3))), Vl 27 (v412), Vl 28 (.pointer (some ⟨sb v412, so v412 + 0 * 5, none⟩)), Vl 29 (.pointer (some ⟨sb v412, so v412 + 0 * 5 + 3, none⟩)), Vl 30 ((cellV w413 (sb v412) (so v412 + 0 * 5 + 3))), fun _ => True, Vl 32 (.bool false), Vl 33 (.bool false)]) [[], [0], [0, 1], [0, 1, 2], [0, 1, 2, 3], [0, 1, 2, 3, 4], [0, 1, 2, 3, 4, 5], [0, 1, 2, 3, 4, 5, 6], [0, 1, 2, 3, 4, 5, 6, 7], [0, 1, 2, 3, 4, 5, 6, 7, 8], [0, 1, 2, 3, 4, 5, 6, 7, 8, 9], [0, 1, 2, 3, 4, 5, 6, 7, 8, 9, 10], [0, 1, 2, 3, 4, 5, 6, 7, 8, 9, 10, 11], [0, 1, 2, 3, 4, 5, 6, 7, 8, 9, 10, 11, 12], [0, 1, 2, 3, 4, 5, 6, 7, 8, 9, 10, 11, 12, 13], [0, 1, 2, 3, 4, 5, 6, 7, 8, 9, 10, 11, 12, 13, 14], [0, 1, 2, 3, 4, 5, 6, 7, 8, 9, 10, 11, 12, 13, 14, 15], [0, 1, 2, 3, 4, 5, 6, 7, 8, 9, 10, 11, 12, 13, 14, 15, 16], [0, 1, 2, 3, 4, 5, 6, 7, 8, 9, 10, 11, 12, 13, 14, 15, 16, 17], [0, 1, 2, 3, 4, 5, 6, 7, 8, 9, 10, 11, 12, 13, 14, 15, 16, 17, 18], [0, 1, 2, 3, 4, 5, 6, 7, 8, 9, 10, 11, 12, 13, 14, 15, 16, 17, 18, 19], [0, 1, 2, 3, 4, 5, 6, 7, 8, 9, 10, 11, 12, 13, 14, 15, 16, 17, 18, 19, 20], [0, 1, 2, 3, 4, 5, 6, 7, 8, 9, 10, 11, 12, 13, 14, 15, 16, 17, 18, 19, 20, 21], [0, 1, 2, 3, 4, 5, 6, 7, 8, 9, 10, 11, 12, 13, 14, 15, 16, 17, 18, 19, 20, 21, 22], [0, 1, 2, 3, 4, 5, 6, 7, 8, 9, 10, 11, 12, 13, 14, 15, 16, 17, 18, 19, 20, 21, 22, 23], [0, 1, 2, 3, 4, 5, 6, 7, 8, 9, 10, 11, 12, 13, 14, 15, 16, 17, 18, 19, 20, 21, 22, 23, 24], [0, 1, 2, 3, 4, 5, 6, 7, 8, 9, 10, 11, 12, 13, 14, 15, 16, 17, 18, 19, 20, 21, 22, 23, 24, 25], [0, 1, 2, 3, 4, 5, 6, 7, 8, 9, 10, 11, 12, 13, 14, 15, 16, 17, 18, 19, 20, 21, 22], [0, 1, 2, 3, 4, 5, 6, 7, 8, 9, 10, 11, 12, 13, 14, 15, 16, 17, 18, 19, 20, 21, 22, 27], [0, 1, 2, 3, 4, 5, 6, 7, 8, 9, 10, 11, 12, 13, 14, 15, 16, 17, 18, 19, 20, 21, 22, 27, 28], [0, 1, 2, 3, 4, 5, 6, 7, 8, 9, 10, 11, 12, 13, 14, 15, 16, 17, 18, 19, 20, 21, 22, 27, 28, 29], [0, 1, 2, 3, 4, 5, 6, 7, 8, 9, 10, 11, 12, 13, 14, 15, 16, 17, 18, 19, 20, 21, 22, 23, 24, 25, 26, 27, 28, 29, 30], [0, 1, 2, 3, 4, 5, 6, 7, 8, 9, 10, 11, 12, 13, 14, 15, 16, 17, 18, 19, 20, 21, 22, 23, 24, 25, 26, 27, 28, 29, 30, 31], [0, 1, 2, 3, 4, 5, 6, 7, 8, 9, 10, 11, 12, 13, 14, 15, 16, 17, 18, 19, 20, 21, 22, 23, 24, 25, 26, 27, 28, 29, 30, 31, 32]] [31] [(0, 0), (0, 0), (0, 0), (0, 0), (0, 0), (0, 0), (0, 0), (0, 0), (0, 0), (0, 0), (0, 0), (0, 0), (0, 0), (0, 0), (0, 0), (0, 0), (0, 0), (0, 0), (0, 0), (0, 0), (0, 0), (0, 0), (0, 0), (0, 0), (0, 0), (0, 0), (0, 0), (0, 0), (0, 0), (0, 0), (0, 0), (0, 0), (1, 1), (1, 1)] (by kernel_rfl) (by kernel_rfl) (by kernel_rfl) rfl (by kernel_rfl) (by kernel_rfl) (fun _ h1 h2 h3 h4 _ => hS435.same h1 h2 h3 h4) ?_ (AF_loc ⟨dA, dA, dA, dA, dA, dA, dA, dA, dA, dA, dA, dA, dA, dA, dA, dA, dA, dA, dA, dA, dA, dA, dA, dA, dA, dA, dA, dA, dA, dA, dA, dT, dA, dA, trivial⟩) ⟨?_, ?_, ?_, ?_, ?_, ?_, ?_, ?_, ?_, ?_, ?_, ?_, ?_, ?_, ?_, ?_, ?_, ?_, ?_, ?_, ?_, ?_, ?_, ?_, ?_, ?_, ?_, ?_, ?_, ?_, ?_, ?_, ?_, ?_, trivial⟩ ?_
     ·intro k vals vals' w hv h
      have e : ∀ j ∈ ([31] : List Nat), vals' j = vals j := hv
      match k, h with
      | 0, h => exact h
      | 1, h => exact (by simpa only [WF, List.getElem?_cons_zero, List.getElem?_cons_succ, e 31 (by decide)] using h)
      | _ + 2, _ => trivial
     ·intro k755 vals w756 h759 h760 hW758 hA757
      refine obl rfl ?_
      exact ov_move (v := v365) rfl (fun vals' hv _ => ⟨rfl, hv⟩)
     ·intro k761 vals w762 h765 h766 hW764 hA763
      obtain rfl : k761 = 0 := Nat.le_antisymm h766 h765
      have hS767 : Sep G431 w413 ((SetO b54 (1 + q6) U9) :: (RowE (α := Int) own 3 v384 (vecE (1 + q6) U9)) :: (SetO b58 (1 + q6) U9) :: (RowE (α := Int) own 3 v337 (vecE (1 + q6) U9)) :: (RowE (α := Msg) own 57 v284 (ansL (1 + q6) A9 0 (⟨1, 1, 0, vecE (1 + q6) B9, []⟩ : Msg) ((1 + q12 : Nat) : Int))) :: (RowE (α := Msg) own 57 v237 (ansL (1 + q6) B9 1 (⟨1, 0, 1, vecE (1 + q6) A9, []⟩ : Msg) ((1 + q12 : Nat) : Int))) :: (RowE (α := Int) own 3 v256 (vecE (1 + q6) B9)) :: (RowE (α := Int) own 3 v209 (vecE (1 + q6) A9)) :: (SetO b131 (1 + q6) U9) :: (SetO b18 (1 + q6) (laidL (1 + q6) l)) :: Rs) w762 := hW764
      have e768 := hA763 0 (by decide)
      refine obl rfl ?_
      exact ov_len (n := [(⟨4, 1, 0, vecE (1 + q6) U9, []⟩ : Msg)].length) Try.underlying58 e768 (RdS.base hrd429 hB434).sl (fun vals' hv _ => ⟨rfl, hv⟩)
     ·intro k769 vals w770 h773 h774 hW772 hA771
      obtain rfl : k769 = 0 := Nat.le_antisymm h774 h773
      have hS775 : Sep G431 w413 ((SetO b54 (1 + q6) U9) :: (RowE (α := Int) own 3 v384 (vecE (1 + q6) U9)) :: (SetO b58 (1 + q6) U9) :: (RowE (α := Int) own 3 v337 (vecE (1 + q6) U9)) :: (RowE (α := Msg) own 57 v284 (ansL (1 + q6) A9 0 (⟨1, 1, 0, vecE (1 + q6) B9, []⟩ : Msg) ((1 + q12 : Nat) : Int))) :: (RowE (α := Msg) own 57 v237 (ansL (1 + q6) B9 1 (⟨1, 0, 1, vecE (1 + q6) A9, []⟩ : Msg) ((1 + q12 : Nat) : Int))) :: (RowE (α := Int) own 3 v256 (vecE (1 + q6) B9)) :: (RowE (α := Int) own 3 v209 (vecE (1 + q6) A9)) :: (SetO b131 (1 + q6) U9) :: (SetO b18 (1 + q6) (laidL (1 + q6) l)) :: Rs) w770 := hW772
      have e776 := hA771 1 (by decide)
      refine obl rfl ?_
      have hl777 : (!decide ((([(⟨4, 1, 0, vecE (1 + q6) U9, []⟩ : Msg)].length : Nat) : Int) = 1)) = false := by rfl
      exact ov_neq (k := .i64) (a := (([(⟨4, 1, 0, vecE (1 + q6) U9, []⟩ : Msg)].length : Nat) : Int)) (b := 1) e776 rfl (fun vals' hv _ => ⟨rfl, hv.trans (congrArg Value.bool hl777)⟩)
     ·intro k778 vals w779 h782 h783 hW781 hA780
      have e784 := hA780 2 (by decide)
      refine obl rfl ?_
      exact ov_move (v := .bool false) e784 (fun vals' hv _ => ⟨rfl, hv⟩)
     ·intro k785 vals w786 h789 h790 hW788 hA787
      have e791 := hA787 3 (by decide)
      refine oblc rfl rfl e791 (fun _ => ?_) (fun hb => absurd rfl hb)
      exact ov_move (v := v412) rfl (fun vals' hv _ => ⟨rfl, hv⟩)
     ·intro k792 vals w793 h796 h797 hW795 hA794
      obtain rfl : k792 = 0 := Nat.le_antisymm h797 h796
      have hS798 : Sep G431 w413 ((SetO b54 (1 + q6) U9) :: (RowE (α := Int) own 3 v384 (vecE (1 + q6) U9)) :: (SetO b58 (1 + q6) U9) :: (RowE (α := Int) own 3 v337 (vecE (1 + q6) U9)) :: (RowE (α := Msg) own 57 v284 (ansL (1 + q6) A9 0 (⟨1, 1, 0, vecE (1 + q6) B9, []⟩ : Msg) ((1 + q12 : Nat) : Int))) :: (RowE (α := Msg) own 57 v237 (ansL (1 + q6) B9 1 (⟨1, 0, 1, vecE (1 + q6) A9, []⟩ : Msg) ((1 + q12 : Nat) : Int))) :: (RowE (α := Int) own 3 v256 (vecE (1 + q6) B9)) :: (RowE (α := Int) own 3 v209 (vecE (1 + q6) A9)) :: (SetO b131 (1 + q6) U9) :: (SetO b18 (1 + q6) (laidL (1 + q6) l)) :: Rs) w793 := hW795
      have e799 := hA794 3 (by decide)
      have e800 := hA794 4 (by decide)
      refine oblc rfl rfl e799 (fun _ => ?_) (fun hb => absurd rfl hb)
      exact ov_len (n := [(⟨4, 0, 1, vecE (1 + q6) U9, []⟩ : Msg)].length) Try.underlying58 e800 hrd437.sl (fun vals' hv _ => ⟨rfl, hv⟩)
     ·intro k801 vals w802 h805 h806 hW804 hA803
      obtain rfl : k801 = 0 := Nat.le_antisymm h806 h805
      have hS807 : Sep G431 w413 ((SetO b54 (1 + q6) U9) :: (RowE (α := Int) own 3 v384 (vecE (1 + q6) U9)) :: (SetO b58 (1 + q6) U9) :: (RowE (α := Int) own 3 v337 (vecE (1 + q6) U9)) :: (RowE (α := Msg) own 57 v284 (ansL (1 + q6) A9 0 (⟨1, 1, 0, vecE (1 + q6) B9, []⟩ : Msg) ((1 + q12 : Nat) : Int))) :: (RowE (α := Msg) own 57 v237 (ansL (1 + q6) B9 1 (⟨1, 0, 1, vecE (1 + q6) A9, []⟩ : Msg) ((1 + q12 : Nat) : Int))) :: (RowE (α := Int) own 3 v256 (vecE (1 + q6) B9)) :: (RowE (α := Int) own 3 v209 (vecE (1 + q6) A9)) :: (SetO b131 (1 + q6) U9) :: (SetO b18 (1 + q6) (laidL (1 + q6) l)) :: Rs) w802 := hW804
      have e808 := hA803 3 (by decide)
      have e809 := hA803 5 (by decide)
      refine oblc rfl rfl e808 (fun _ => ?_) (fun hb => absurd rfl hb)
      have hl810 : (!decide ((([(⟨4, 0, 1, vecE (1 + q6) U9, []⟩ : Msg)].length : Nat) : Int) = 1)) = false := by rfl
      exact ov_neq (k := .i64) (a := (([(⟨4, 0, 1, vecE (1 + q6) U9, []⟩ : Msg)].length : Nat) : Int)) (b := 1) e809 rfl (fun vals' hv _ => ⟨rfl, hv.trans (congrArg Value.bool hl810)⟩)
     ·intro k811 vals w812 h815 h816 hW814 hA813
      have e817 := hA813 3 (by decide)
      have e818 := hA813 6 (by decide)
      refine obl rfl ?_
      exact ov_pick_f (v := .bool false) e817 e818 (fun vals' hv _ => ⟨rfl, hv⟩)
     ·intro k819 vals w820 h823 h824 hW822 hA821
      have e825 := hA821 7 (by decide)
      refine obl rfl ?_
      exact ov_move (v := .bool false) e825 (fun vals' hv _ => ⟨rfl, hv⟩)
     ·intro k826 vals w827 h830 h831 hW829 hA828
      have e832 := hA828 8 (by decide)
      refine oblc rfl rfl e832 (fun _ => ?_) (fun hb => absurd rfl hb)
      exact ov_move (v := v365) rfl (fun vals' hv _ => ⟨rfl, hv⟩)
     ·intro k833 vals w834 h837 h838 hW836 hA835
      obtain rfl : k833 = 0 := Nat.le_antisymm h838 h837
      have hS839 : Sep G431 w413 ((SetO b54 (1 + q6) U9) :: (RowE (α := Int) own 3 v384 (vecE (1 + q6) U9)) :: (SetO b58 (1 + q6) U9) :: (RowE (α := Int) own 3 v337 (vecE (1 + q6) U9)) :: (RowE (α := Msg) own 57 v284 (ansL (1 + q6) A9 0 (⟨1, 1, 0, vecE (1 + q6) B9, []⟩ : Msg) ((1 + q12 : Nat) : Int))) :: (RowE (α := Msg) own 57 v237 (ansL (1 + q6) B9 1 (⟨1, 0, 1, vecE (1 + q6) A9, []⟩ : Msg) ((1 + q12 : Nat) : Int))) :: (RowE (α := Int) own 3 v256 (vecE (1 + q6) B9)) :: (RowE (α := Int) own 3 v209 (vecE (1 + q6) A9)) :: (SetO b131 (1 + q6) U9) :: (SetO b18 (1 + q6) (laidL (1 + q6) l)) :: Rs) w834 := hW836
      have e840 := hA835 8 (by decide)
      have e841 := hA835 9 (by decide)
      refine oblc rfl rfl e840 (fun _ => ?_) (fun hb => absurd rfl hb)
      have hi842 : 0 < [(⟨4, 1, 0, vecE (1 + q6) U9, []⟩ : Msg)].length := (by first | omega | (simp only [lens]; omega))
      exact ov_indexAddrN (k := 5) (i := 0) Try.underlying58 Try.sizeOf57 e841 (RdS.base hrd429 hB434).sl rfl hi842 (fun vals' hv _ => ⟨rfl, hv⟩)
     ·intro k843 vals w844 h847 h848 hW846 hA845
      have e849 := hA845 8 (by decide)
      have e850 := hA845 10 (by decide)
      refine oblc rfl rfl e849 (fun _ => ?_) (fun hb => absurd rfl hb)
      exact fd57_0 e850 (fun vals' hv _ => ⟨rfl, hv⟩)
     ·intro k851 vals w852 h855 h856 hW854 hA853
      obtain rfl : k851 = 0 := Nat.le_antisymm h856 h855
      have hS857 : Sep G431 w413 ((SetO b54 (1 + q6) U9) :: (RowE (α := Int) own 3 v384 (vecE (1 + q6) U9)) :: (SetO b58 (1 + q6) U9) :: (RowE (α := Int) own 3 v337 (vecE (1 + q6) U9)) :: (RowE (α := Msg) own 57 v284 (ansL (1 + q6) A9 0 (⟨1, 1, 0, vecE (1 + q6) B9, []⟩ : Msg) ((1 + q12 : Nat) : Int))) :: (RowE (α := Msg) own 57 v237 (ansL (1 + q6) B9 1 (⟨1, 0, 1, vecE (1 + q6) A9, []⟩ : Msg) ((1 + q12 : Nat) : Int))) :: (RowE (α := Int) own 3 v256 (vecE (1 + q6) B9)) :: (RowE (α := Int) own 3 v209 (vecE (1 + q6) A9)) :: (SetO b131 (1 + q6) U9) :: (SetO b18 (1 + q6) (laidL (1 + q6) l)) :: Rs) w852 := hW854
      have e858 := hA853 8 (by decide)
      have e859 := hA853 11 (by decide)
      refine oblc rfl rfl e858 (fun _ => ?_) (fun hb => absurd rfl hb)
      have hi861 : 0 < [(⟨4, 1, 0, vecE (1 + q6) U9, []⟩ : Msg)].length := (by first | omega | (simp only [lens]; omega))
      obtain ⟨hce860, hde860_0, hde860_1, hoke860⟩ := (RdS.base hrd429 hB434).msg hi861
      rw [← getD_at default hi861] at hce860 hde860_0 hde860_1 hoke860
      have hsm862 : (([(⟨4, 1, 0, vecE (1 + q6) U9, []⟩ : Msg)].getD 0 default).vec).length * 8 ≤ 140737488355328 := hde860_0.small
      have hsm863 : (([(⟨4, 1, 0, vecE (1 + q6) U9, []⟩ : Msg)].getD 0 default).evs).length * 96 ≤ 140737488355328 := hde860_1.small
      have hcw864 := hS857.cells hce860 ((RdS.base hrd429 hB434).foot (ne_of_lt hi861))
      exact ov_load1 (v := .int .i64 (([(⟨4, 1, 0, vecE (1 + q6) U9, []⟩ : Msg)].getD 0 default).kind)) Try.isAgg3 e859 (hcw864.get (j := 0) rfl) (fun vals' hv _ => ⟨rfl, hv⟩)
     ·intro k865 vals w866 h869 h870 hW868 hA867
      obtain rfl : k865 = 0 := Nat.le_antisymm h870 h869
      have hS871 : Sep G431 w413 ((SetO b54 (1 + q6) U9) :: (RowE (α := Int) own 3 v384 (vecE (1 + q6) U9)) :: (SetO b58 (1 + q6) U9) :: (RowE (α := Int) own 3 v337 (vecE (1 + q6) U9)) :: (RowE (α := Msg) own 57 v284 (ansL (1 + q6) A9 0 (⟨1, 1, 0, vecE (1 + q6) B9, []⟩ : Msg) ((1 + q12 : Nat) : Int))) :: (RowE (α := Msg) own 57 v237 (ansL (1 + q6) B9 1 (⟨1, 0, 1, vecE (1 + q6) A9, []⟩ : Msg) ((1 + q12 : Nat) : Int))) :: (RowE (α := Int) own 3 v256 (vecE (1 + q6) B9)) :: (RowE (α := Int) own 3 v209 (vecE (1 + q6) A9)) :: (SetO b131 (1 + q6) U9) :: (SetO b18 (1 + q6) (laidL (1 + q6) l)) :: Rs) w866 := hW868
      have e872 := hA867 8 (by decide)
      have e873 := hA867 12 (by decide)
      refine oblc rfl rfl e872 (fun _ => ?_) (fun hb => absurd rfl hb)
      have hl874 : (!decide ((([(⟨4, 1, 0, vecE (1 + q6) U9, []⟩ : Msg)].getD 0 default).kind) = 4)) = false := by rfl
      exact ov_neq (k := .i64) (a := ([(⟨4, 1, 0, vecE (1 + q6) U9, []⟩ : Msg)].getD 0 default).kind) (b := 4) e873 rfl (fun vals' hv _ => ⟨rfl, hv.trans (congrArg Value.bool hl874)⟩)
     ·intro k875 vals w876 h879 h880 hW878 hA877
      have e881 := hA877 8 (by decide)
      have e882 := hA877 13 (by decide)
      refine obl rfl ?_
      exact ov_pick_f (v := .bool false) e881 e882 (fun vals' hv _ => ⟨rfl, hv⟩)
     ·intro k883 vals w884 h887 h888 hW886 hA885
      have e889 := hA885 14 (by decide)
      refine obl rfl ?_
      exact ov_move (v := .bool false) e889 (fun vals' hv _ => ⟨rfl, hv⟩)
     ·intro k890 vals w891 h894 h895 hW893 hA892
      have e896 := hA892 15 (by decide)
      refine oblc rfl rfl e896 (fun _ => ?_) (fun hb => absurd rfl hb)
      exact ov_move (v := v412) rfl (fun vals' hv _ => ⟨rfl, hv⟩)
     ·intro k897 vals w898 h901 h902 hW900 hA899
      obtain rfl : k897 = 0 := Nat.le_antisymm h902 h901
      have hS903 : Sep G431 w413 ((SetO b54 (1 + q6) U9) :: (RowE (α := Int) own 3 v384 (vecE (1 + q6) U9)) :: (SetO b58 (1 + q6) U9) :: (RowE (α := Int) own 3 v337 (vecE (1 + q6) U9)) :: (RowE (α := Msg) own 57 v284 (ansL (1 + q6) A9 0 (⟨1, 1, 0, vecE (1 + q6) B9, []⟩ : Msg) ((1 + q12 : Nat) : Int))) :: (RowE (α := Msg) own 57 v237 (ansL (1 + q6) B9 1 (⟨1, 0, 1, vecE (1 + q6) A9, []⟩ : Msg) ((1 + q12 : Nat) : Int))) :: (RowE (α := Int) own 3 v256 (vecE (1 + q6) B9)) :: (RowE (α := Int) own 3 v209 (vecE (1 + q6) A9)) :: (SetO b131 (1 + q6) U9) :: (SetO b18 (1 + q6) (laidL (1 + q6) l)) :: Rs) w898 := hW900
      have e904 := hA899 15 (by decide)
      have e905 := hA899 16 (by decide)
      refine oblc rfl rfl e904 (fun _ => ?_) (fun hb => absurd rfl hb)
      have hi906 : 0 < [(⟨4, 0, 1, vecE (1 + q6) U9, []⟩ : Msg)].length := (by first | omega | (simp only [lens]; omega))
      exact ov_indexAddrN (k := 5) (i := 0) Try.underlying58 Try.sizeOf57 e905 hrd437.sl rfl hi906 (fun vals' hv _ => ⟨rfl, hv⟩)
     ·intro k907 vals w908 h911 h912 hW910 hA909
      have e913 := hA909 15 (by decide)
      have e914 := hA909 17 (by decide)
      refine oblc rfl rfl e913 (fun _ => ?_) (fun hb => absurd rfl hb)
      exact fd57_0 e914 (fun vals' hv _ => ⟨rfl, hv⟩)
     ·intro k915 vals w916 h919 h920 hW918 hA917
      obtain rfl : k915 = 0 := Nat.le_antisymm h920 h919
      have hS921 : Sep G431 w413 ((SetO b54 (1 + q6) U9) :: (RowE (α := Int) own 3 v384 (vecE (1 + q6) U9)) :: (SetO b58 (1 + q6) U9) :: (RowE (α := Int) own 3 v337 (vecE (1 + q6) U9)) :: (RowE (α := Msg) own 57 v284 (ansL (1 + q6) A9 0 (⟨1, 1, 0, vecE (1 + q6) B9, []⟩ : Msg) ((1 + q12 : Nat) : Int))) :: (RowE (α := Msg) own 57 v237 (ansL (1 + q6) B9 1 (⟨1, 0, 1, vecE (1 + q6) A9, []⟩ : Msg) ((1 + q12 : Nat) : Int))) :: (RowE (α := Int) own 3 v256 (vecE (1 + q6) B9)) :: (RowE (α := Int) own 3 v209 (vecE (1 + q6) A9)) :: (SetO b131 (1 + q6) U9) :: (SetO b18 (1 + q6) (laidL (1 + q6) l)) :: Rs) w916 := hW918
      have e922 := hA917 15 (by decide)
      have e923 := hA917 18 (by decide)
      refine oblc rfl rfl e922 (fun _ => ?_) (fun hb => absurd rfl hb)
      have hi925 : 0 < [(⟨4, 0, 1, vecE (1 + q6) U9, []⟩ : Msg)].length := (by first | omega | (simp only [lens]; omega))
      obtain ⟨hce924, hde924_0, hde924_1, hoke924⟩ := hrd437.msg hi925
      rw [← getD_at default hi925] at hce924 hde924_0 hde924_1 hoke924
      have hsm926 : (([(⟨4, 0, 1, vecE (1 + q6) U9, []⟩ : Msg)].getD 0 default).vec).length * 8 ≤ 140737488355328 := hde924_0.small
      have hsm927 : (([(⟨4, 0, 1, vecE (1 + q6) U9, []⟩ : Msg)].getD 0 default).evs).length * 96 ≤ 140737488355328 := hde924_1.small
      have hcw928 := hS921.cells hce924 (hrd437.foot (ne_of_lt hi925))
      exact ov_load1 (v := .int .i64 (([(⟨4, 0, 1, vecE (1 + q6) U9, []⟩ : Msg)].getD 0 default).kind)) Try.isAgg3 e923 (hcw928.get (j := 0) rfl) (fun vals' hv _ => ⟨rfl, hv⟩)
     ·intro k929 vals w930 h933 h934 hW932 hA931
      obtain rfl : k929 = 0 := Nat.le_antisymm h934 h933
      have hS935 : Sep G431 w413 ((SetO b54 (1 + q6) U9) :: (RowE (α := Int) own 3 v384 (vecE (1 + q6) U9)) :: (SetO b58 (1 + q6) U9) :: (RowE (α := Int) own 3 v337 (vecE (1 + q6) U9)) :: (RowE (α := Msg) own 57 v284 (ansL (1 + q6) A9 0 (⟨1, 1, 0, vecE (1 + q6) B9, []⟩ : Msg) ((1 + q12 : Nat) : Int))) :: (RowE (α := Msg) own 57 v237 (ansL (1 + q6) B9 1 (⟨1, 0, 1, vecE (1 + q6) A9, []⟩ : Msg) ((1 + q12 : Nat) : Int))) :: (RowE (α := Int) own 3 v256 (vecE (1 + q6) B9)) :: (RowE (α := Int) own 3 v209 (vecE (1 + q6) A9)) :: (SetO b131 (1 + q6) U9) :: (SetO b18 (1 + q6) (laidL (1 + q6) l)) :: Rs) w930 := hW932
      have e936 := hA931 15 (by decide)
      have e937 := hA931 19 (by decide)
      refine oblc rfl rfl e936 (fun _ => ?_) (fun hb => absurd rfl hb)
      have hl938 : (!decide ((([(⟨4, 0, 1, vecE (1 + q6) U9, []⟩ : Msg)].getD 0 default).kind) = 4)) = false := by rfl
      exact ov_neq (k := .i64) (a := ([(⟨4, 0, 1, vecE (1 + q6) U9, []⟩ : Msg)].getD 0 default).kind) (b := 4) e937 rfl (fun vals' hv _ => ⟨rfl, hv.trans (congrArg Value.bool hl938)⟩)
     ·intro k939 vals w940 h943 h944 hW942 hA941
      have e945 := hA941 15 (by decide)
      have e946 := hA941 20 (by decide)
      refine obl rfl ?_
      exact ov_pick_f (v := .bool false) e945 e946 (fun vals' hv _ => ⟨rfl, hv⟩)
     ·intro k947 vals w948 h951 h952 hW950 hA949
      have e953 := hA949 21 (by decide)
      refine obl rfl ?_
      exact ov_move (v := .bool false) e953 (fun vals' hv _ => ⟨rfl, hv⟩)
     ·intro k954 vals w955 h958 h959 hW957 hA956
      have e960 := hA956 22 (by decide)
      refine oblc rfl rfl e960 (fun _ => ?_) (fun hb => absurd rfl hb)
      exact ov_move (v := v365) rfl (fun vals' hv _ => ⟨rfl, hv⟩)
     ·intro k961 vals w962 h965 h966 hW964 hA963
      obtain rfl : k961 = 0 := Nat.le_antisymm h966 h965
      have hS967 : Sep G431 w413 ((SetO b54 (1 + q6) U9) :: (RowE (α := Int) own 3 v384 (vecE (1 + q6) U9)) :: (SetO b58 (1 + q6) U9) :: (RowE (α := Int) own 3 v337 (vecE (1 + q6) U9)) :: (RowE (α := Msg) own 57 v284 (ansL (1 + q6) A9 0 (⟨1, 1, 0, vecE (1 + q6) B9, []⟩ : Msg) ((1 + q12 : Nat) : Int))) :: (RowE (α := Msg) own 57 v237 (ansL (1 + q6) B9 1 (⟨1, 0, 1, vecE (1 + q6) A9, []⟩ : Msg) ((1 + q12 : Nat) : Int))) :: (RowE (α := Int) own 3 v256 (vecE (1 + q6) B9)) :: (RowE (α := Int) own 3 v209 (vecE (1 + q6) A9)) :: (SetO b131 (1 + q6) U9) :: (SetO b18 (1 + q6) (laidL (1 + q6) l)) :: Rs) w962 := hW964
      have e968 := hA963 22 (by decide)
      have e969 := hA963 23 (by decide)
      refine oblc rfl rfl e968 (fun _ => ?_) (fun hb => absurd rfl hb)
      have hi970 : 0 < [(⟨4, 1, 0, vecE (1 + q6) U9, []⟩ : Msg)].length := (by first | omega | (simp only [lens]; omega))
      exact ov_indexAddrN (k := 5) (i := 0) Try.underlying58 Try.sizeOf57 e969 (RdS.base hrd429 hB434).sl rfl hi970 (fun vals' hv _ => ⟨rfl, hv⟩)
     ·intro k971 vals w972 h975 h976 hW974 hA973
      have e977 := hA973 22 (by decide)
      have e978 := hA973 24 (by decide)
      refine oblc rfl rfl e977 (fun _ => ?_) (fun hb => absurd rfl hb)
      exact fd57_3 e978 (fun vals' hv _ => ⟨rfl, hv⟩)
     ·intro k979 vals w980 h983 h984 hW982 hA981
      obtain rfl : k979 = 0 := Nat.le_antisymm h984 h983
      have hS985 : Sep G431 w413 ((SetO b54 (1 + q6) U9) :: (RowE (α := Int) own 3 v384 (vecE (1 + q6) U9)) :: (SetO b58 (1 + q6) U9) :: (RowE (α := Int) own 3 v337 (vecE (1 + q6) U9)) :: (RowE (α := Msg) own 57 v284 (ansL (1 + q6) A9 0 (⟨1, 1, 0, vecE (1 + q6) B9, []⟩ : Msg) ((1 + q12 : Nat) : Int))) :: (RowE (α := Msg) own 57 v237 (ansL (1 + q6) B9 1 (⟨1, 0, 1, vecE (1 + q6) A9, []⟩ : Msg) ((1 + q12 : Nat) : Int))) :: (RowE (α := Int) own 3 v256 (vecE (1 + q6) B9)) :: (RowE (α := Int) own 3 v209 (vecE (1 + q6) A9)) :: (SetO b131 (1 + q6) U9) :: (SetO b18 (1 + q6) (laidL (1 + q6) l)) :: Rs) w980 := hW982
      have e986 := hA981 22 (by decide)
      have e987 := hA981 25 (by decide)
      refine oblc rfl rfl e986 (fun _ => ?_) (fun hb => absurd rfl hb)
      have hi989 : 0 < [(⟨4, 1, 0, vecE (1 + q6) U9, []⟩ : Msg)].length := (by first | omega | (simp only [lens]; omega))
      obtain ⟨hce988, hde988_0, hde988_1, hoke988⟩ := (RdS.base hrd429 hB434).msg hi989
      rw [← getD_at default hi989] at hce988 hde988_0 hde988_1 hoke988
      have hsm990 : (([(⟨4, 1, 0, vecE (1 + q6) U9, []⟩ : Msg)].getD 0 default).vec).length * 8 ≤ 140737488355328 := hde988_0.small
      have hsm991 : (([(⟨4, 1, 0, vecE (1 + q6) U9, []⟩ : Msg)].getD 0 default).evs).length * 96 ≤ 140737488355328 := hde988_1.small
      have hcw992 := hS985.cells hce988 ((RdS.base hrd429 hB434).foot (ne_of_lt hi989))
      exact ov_load1 (v := (cellV w413 (sb v365) (so v365 + 0 * 5 + 3))) Try.isAgg34 e987 (hcw992.get (j := 3) rfl) (fun vals' hv _ => ⟨rfl, hv⟩)
     ·intro k993 vals w994 h997 h998 hW996 hA995
      have e999 := hA995 22 (by decide)
      refine oblc rfl rfl e999 (fun _ => ?_) (fun hb => absurd rfl hb)
      exact ov_move (v := v412) rfl (fun vals' hv _ => ⟨rfl, hv⟩)
     ·intro k1000 vals w1001 h1004 h1005 hW1003 hA1002
      obtain rfl : k1000 = 0 := Nat.le_antisymm h1005 h1004
      have hS1006 : Sep G431 w413 ((SetO b54 (1 + q6) U9) :: (RowE (α := Int) own 3 v384 (vecE (1 + q6) U9)) :: (SetO b58 (1 + q6) U9) :: (RowE (α := Int) own 3 v337 (vecE (1 + q6) U9)) :: (RowE (α := Msg) own 57 v284 (ansL (1 + q6) A9 0 (⟨1, 1, 0, vecE (1 + q6) B9, []⟩ : Msg) ((1 + q12 : Nat) : Int))) :: (RowE (α := Msg) own 57 v237 (ansL (1 + q6) B9 1 (⟨1, 0, 1, vecE (1 + q6) A9, []⟩ : Msg) ((1 + q12 : Nat) : Int))) :: (RowE (α := Int) own 3 v256 (vecE (1 + q6) B9)) :: (RowE (α := Int) own 3 v209 (vecE (1 + q6) A9)) :: (SetO b131 (1 + q6) U9) :: (SetO b18 (1 + q6) (laidL (1 + q6) l)) :: Rs) w1001 := hW1003
      have e1007 := hA1002 22 (by decide)
      have e1008 := hA1002 27 (by decide)
      refine oblc rfl rfl e1007 (fun _ => ?_) (fun hb => absurd rfl hb)
      have hi1009 : 0 < [(⟨4, 0, 1, vecE (1 + q6) U9, []⟩ : Msg)].length := (by first | omega | (simp only [lens]; omega))
      exact ov_indexAddrN (k := 5) (i := 0) Try.underlying58 Try.sizeOf57 e1008 hrd437.sl rfl hi1009 (fun vals' hv _ => ⟨rfl, hv⟩)
     ·intro k1010 vals w1011 h1014 h1015 hW1013 hA1012
      have e1016 := hA1012 22 (by decide)
      have e1017 := hA1012 28 (by decide)
      refine oblc rfl rfl e1016 (fun _ => ?_) (fun hb => absurd rfl hb)
      exact fd57_3 e1017 (fun vals' hv _ => ⟨rfl, hv⟩)
     ·intro k1018 vals w1019 h1022 h1023 hW1021 hA1020
      obtain rfl : k1018 = 0 := Nat.le_antisymm h1023 h1022
      have hS1024 : Sep G431 w413 ((SetO b54 (1 + q6) U9) :: (RowE (α := Int) own 3 v384 (vecE (1 + q6) U9)) :: (SetO b58 (1 + q6) U9) :: (RowE (α := Int) own 3 v337 (vecE (1 + q6) U9)) :: (RowE (α := Msg) own 57 v284 (ansL (1 + q6) A9 0 (⟨1, 1, 0, vecE (1 + q6) B9, []⟩ : Msg) ((1 + q12 : Nat) : Int))) :: (RowE (α := Msg) own 57 v237 (ansL (1 + q6) B9 1 (⟨1, 0, 1, vecE (1 + q6) A9, []⟩ : Msg) ((1 + q12 : Nat) : Int))) :: (RowE (α := Int) own 3 v256 (vecE (1 + q6) B9)) :: (RowE (α := Int) own 3 v209 (vecE (1 + q6) A9)) :: (SetO b131 (1 + q6) U9) :: (SetO b18 (1 + q6) (laidL (1 + q6) l)) :: Rs) w1019 := hW1021
      have e1025 := hA1020 22 (by decide)
      have e1026 := hA1020 29 (by decide)
      refine oblc rfl rfl e1025 (fun _ => ?_) (fun hb => absurd rfl hb)
      have hi1028 : 0 < [(⟨4, 0, 1, vecE (1 + q6) U9, []⟩ : Msg)].length := (by first | omega | (simp only [lens]; omega))
      obtain ⟨hce1027, hde1027_0, hde1027_1, hoke1027⟩ := hrd437.msg hi1028
      rw [← getD_at default hi1028] at hce1027 hde1027_0 hde1027_1 hoke1027
      have hsm1029 : (([(⟨4, 0, 1, vecE (1 + q6) U9, []⟩ : Msg)].getD 0 default).vec).length * 8 ≤ 140737488355328 := hde1027_0.small
      have hsm1030 : (([(⟨4, 0, 1, vecE (1 + q6) U9, []⟩ : Msg)].getD 0 default).evs).length * 96 ≤ 140737488355328 := hde1027_1.small
      have hcw1031 := hS1024.cells hce1027 (hrd437.foot (ne_of_lt hi1028))
      exact ov_load1 (v := (cellV w413 (sb v412) (so v412 + 0 * 5 + 3))) Try.isAgg34 e1026 (hcw1031.get (j := 3) rfl) (fun vals' hv _ => ⟨rfl, hv⟩)
     ·intro k715 vals w716 h719 h720 hW718 hA717
      obtain rfl : k715 = 0 := Nat.le_antisymm h720 h719
      have hS721 : Sep G431 w413 ((SetO b54 (1 + q6) U9) :: (RowE (α := Int) own 3 v384 (vecE (1 + q6) U9)) :: (SetO b58 (1 + q6) U9) :: (RowE (α := Int) own 3 v337 (vecE (1 + q6) U9)) :: (RowE (α := Msg) own 57 v284 (ansL (1 + q6) A9 0 (⟨1, 1, 0, vecE (1 + q6) B9, []⟩ : Msg) ((1 + q12 : Nat) : Int))) :: (RowE (α := Msg) own 57 v237 (ansL (1 + q6) B9 1 (⟨1, 0, 1, vecE (1 + q6) A9, []⟩ : Msg) ((1 + q12 : Nat) : Int))) :: (RowE (α := Int) own 3 v256 (vecE (1 + q6) B9)) :: (RowE (α := Int) own 3 v209 (vecE (1 + q6) A9)) :: (SetO b131 (1 + q6) U9) :: (SetO b18 (1 + q6) (laidL (1 + q6) l)) :: Rs) w716 := hW718
      have e722 := hA717 22 (by decide)
      have e723 := hA717 26 (by decide)
      have e724 := hA717 30 (by decide)
      refine oblc rfl rfl e722 (fun _ => ?_) (fun hb => absurd rfl hb)
      have hi726 : 0 < [(⟨4, 1, 0, vecE (1 + q6) U9, []⟩ : Msg)].length := (by first | omega | (simp only [lens]; omega))
      obtain ⟨hce725, hde725_0, hde725_1, hoke725⟩ := (RdS.base hrd429 hB434).msg hi726
      rw [← getD_at default hi726] at hce725 hde725_0 hde725_1 hoke725
      have hsm727 : (([(⟨4, 1, 0, vecE (1 + q6) U9, []⟩ : Msg)].getD 0 default).vec).length * 8 ≤ 140737488355328 := hde725_0.small
      have hsm728 : (([(⟨4, 1, 0, vecE (1 + q6) U9, []⟩ : Msg)].getD 0 default).evs).length * 96 ≤ 140737488355328 := hde725_1.small
      have hcw729 := hS721.cells hce725 ((RdS.base hrd429 hB434).foot (ne_of_lt hi726))
      have hi731 : 0 < [(⟨4, 0, 1, vecE (1 + q6) U9, []⟩ : Msg)].length := (by first | omega | (simp only [lens]; omega))
      obtain ⟨hce730, hde730_0, hde730_1, hoke730⟩ := hrd437.msg hi731
      rw [← getD_at default hi731] at hce730 hde730_0 hde730_1 hoke730
      have hsm732 : (([(⟨4, 0, 1, vecE (1 + q6) U9, []⟩ : Msg)].getD 0 default).vec).length * 8 ≤ 140737488355328 := hde730_0.small
      have hsm733 : (([(⟨4, 0, 1, vecE (1 + q6) U9, []⟩ : Msg)].getD 0 default).evs).length * 96 ≤ 140737488355328 := hde730_1.small
      have hcw734 := hS721.cells hce730 (hrd437.foot (ne_of_lt hi731))
      refine (ov_call (f := 27) (vals := [(cellV w413 (sb v365) (so v365 + 0 * 5 + 3)), (cellV w413 (sb v412) (so v412 + 0 * 5 + 3))]) (cap := []) (show _ = (.func (.func 27) #[] #[] : Value) from rfl) (mapL ⟨e723, e724, trivial⟩) Try.call27 (D_SameInts (a := ([(⟨4, 1, 0, vecE (1 + q6) U9, []⟩ : Msg)].getD 0 default).vec) (va := (cellV w413 (sb v365) (so v365 + 0 * 5 + 3))) (b := ([(⟨4, 0, 1, vecE (1 + q6) U9, []⟩ : Msg)].getD 0 default).vec) (vb := (cellV w413 (sb v412) (so v412 + 0 * 5 + 3))) hde725_0 hde730_0 hS721) ?_)
      rintro _ w735 ⟨rfl, hS736⟩
      intro vals' hv hv'
      refine ⟨?_, trivial⟩
      show (vals' 31 = (.bool (decide ((([(⟨4, 1, 0, vecE (1 + q6) U9, []⟩ : Msg)].getD 0 default).vec) = (([(⟨4, 0, 1, vecE (1 + q6) U9, []⟩ : Msg)].getD 0 default).vec))) : Value)) ∧ Sep G431 w413 ((SetO b54 (1 + q6) U9) :: (RowE (α := Int) own 3 v384 (vecE (1 + q6) U9)) :: (SetO b58 (1 + q6) U9) :: (RowE (α := Int) own 3 v337 (vecE (1 + q6) U9)) :: (RowE (α := Msg) own 57 v284 (ansL (1 + q6) A9 0 (⟨1, 1, 0, vecE (1 + q6) B9, []⟩ : Msg) ((1 + q12 : Nat) : Int))) :: (RowE (α := Msg) own 57 v237 (ansL (1 + q6) B9 1 (⟨1, 0, 1, vecE (1 + q6) A9, []⟩ : Msg) ((1 + q12 : Nat) : Int))) :: (RowE (α := Int) own 3 v256 (vecE (1 + q6) B9)) :: (RowE (α := Int) own 3 v209 (vecE (1 + q6) A9)) :: (SetO b131 (1 + q6) U9) :: (SetO b18 (1 + q6) (laidL (1 + q6) l)) :: Rs) w735
      exact ⟨hv, hS736⟩
     ·intro k1032 vals w1033 h1036 h1037 hW1035 hA1034
      obtain rfl : k1032 = 1 := Nat.le_antisymm h1037 h1036
      obtain ⟨he737, hS1038⟩ := hW1035
      have e1039 := hA1034 22 (by decide)
      refine oblc rfl rfl e1039 (fun _ => ?_) (fun hb => absurd rfl hb)
      have hl1040 : (!(decide ((([(⟨4, 1, 0, vecE (1 + q6) U9, []⟩ : Msg)].getD 0 default).vec) = (([(⟨4, 0, 1, vecE (1 + q6) U9, []⟩ : Msg)].getD 0 default).vec)))) = false := by simp
      exact ov_not (a := decide ((([(⟨4, 1, 0, vecE (1 + q6) U9, []⟩ : Msg)].getD 0 default).vec) = (([(⟨4, 0, 1, vecE (1 + q6) U9, []⟩ : Msg)].getD 0 default).vec))) he737 (fun vals' hv _ => ⟨rfl, hv.trans (congrArg Value.bool hl1040)⟩)
     ·intro k1041 vals w1042 h1045 h1046 hW1044 hA1043
      have e1047 := hA1043 22 (by decide)
      have e1048 := hA1043 32 (by decide)
      refine obl rfl ?_
      exact ov_pick_f (v := .bool false) e1047 e1048 (fun vals' hv _ => ⟨rfl, hv⟩)
     intro vals w1049 hW1050 hA1051
     obtain ⟨he737, hS1052⟩ := hW1050
     have e1053 := hA1051 33 (by decide)
     refine st_env (kv := [(3, .int .i64 ((1 + q12 : Nat) : Int)), (11, .pointer (some ⟨b54, 0, none⟩)), (12, .pointer (some ⟨b58, 0, none⟩)), (15, .pointer (some ⟨b131, 0, none⟩)), (16, .int .i64 ((((2 * U9.length) - (((laidL (1 + q6) l).take q48).length)) - T9.length : Nat) : Int)), (17, .int .i64 ((t9 : Nat) : Int)), (100, .int .i64 ((t9 : Nat) : Int)), (101, .int .i64 ((((2 * U9.length) - (((laidL (1 + q6) l).take q48).length)) - T9.length : Nat) : Int)), (102, .bool true), (105, .pointer (some ⟨b58, 0, none⟩)), (106, .pointer (some ⟨b54, 0, none⟩)), (107, .agg ((⟨1, 0, 1, vecE (1 + q6) A9, []⟩ : Msg).cells v209 (.slice none 0 0)).toArray), (108, .int .i64 ((1 + q12 : Nat) : Int)), (109, v237), (18, v237), (110, .pointer (some ⟨b54, 0, none⟩)), (111, .pointer (some ⟨b58, 0, none⟩)), (112, .agg ((⟨1, 1, 0, vecE (1 + q6) B9, []⟩ : Msg).cells v256 (.slice none 0 0)).toArray), (113, .int .i64 ((1 + q12 : Nat) : Int)), (114, v284), (19, v284), (116, .pointer (some ⟨b54, 0, none⟩)), (117, v237), (118, .tuple #[.int .i64 (((giveL (1 + q6) A9 B9 m9).length : Nat) : Int), .bool true]), (115, .tuple #[.int .i64 (((giveL (1 + q6) A9 B9 m9).length : Nat) : Int), .bool true]), (119, .int .i64 (((giveL (1 + q6) A9 B9 m9).length : Nat) : Int)), (120, .bool true), (20, .int .i64 (((giveL (1 + q6) A9 B9 m9).length : Nat) : Int)), (21, .bool true), (122, .pointer (some ⟨b58, 0, none⟩)), (123, v284), (124, .tuple #[.int .i64 (((giveL (1 + q6) B9 A9 m9).length : Nat) : Int), .bool true]), (121, .tuple #[.int .i64 (((giveL (1 + q6) B9 A9 m9).length : Nat) : Int), .bool true]), (125, .int .i64 (((giveL (1 + q6) B9 A9 m9).length : Nat) : Int)), (126, .bool true), (22, .int .i64 (((giveL (1 + q6) B9 A9 m9).length : Nat) : Int)), (23, .bool true), (127, .bool true), (128, .bool false), (129, .bool false), (130, .bool true), (131, .bool false), (132, .bool false), (133, .bool false), (134, .int .i64 (((giveL (1 + q6) A9 B9 m9).length : Nat) : Int)), (135, .int .i64 ((1 + q12 : Nat) : Int)), (136, .bool false), (137, .bool false), (138, .bool false), (139, .int .i64 (((giveL (1 + q6) B9 A9 m9).length : Nat) : Int)), (140, .int .i64 ((1 + q12 : Nat) : Int)), (141, .bool false), (142, .bool false), (143, .int .i64 (((giveL (1 + q6) A9 B9 m9).length : Nat) : Int)), (144, .int .i64 (((giveL (1 + q6) B9 A9 m9).length : Nat) : Int)), (145, .int .i64 (((giveL (1 + q6) A9 B9 m9).length + ((giveL (1 + q6) B9 A9 m9).length) : Nat) : Int)), (146, .bool true), (147, .pointer (some ⟨b58, 0, none⟩)), (148, .pointer (some ⟨b54, 0, none⟩)), (149, .agg ((⟨1, 0, 1, vecE (1 + q6) U9, []⟩ : Msg).cells v337 (.slice none 0 0)).toArray), (150, .int .i64 ((1 + q12 : Nat) : Int)), (151, v365), (24, v365), (152, .pointer (some ⟨b54, 0, none⟩)), (153, .pointer (some ⟨b58, 0, none⟩)), (154, .agg ((⟨1, 1, 0, vecE (1 + q6) U9, []⟩ : Msg).cells v384 (.slice none 0 0)).toArray), (155, .int .i64 ((1 + q12 : Nat) : Int)), (156, v412), (25, v412), (190, .bool false)]) ⟨rfl, rfl, rfl, rfl, rfl, rfl, rfl, rfl, rfl, rfl, rfl, rfl, rfl, rfl, rfl, rfl, rfl, rfl, rfl, rfl, rfl, rfl, rfl, rfl, rfl, rfl, rfl, rfl, rfl, rfl, rfl, rfl, rfl, rfl, rfl, rfl, rfl, rfl, rfl, rfl, rfl, rfl, rfl, rfl, rfl, rfl, rfl, rfl, rfl, rfl, rfl, rfl, rfl, rfl, rfl, rfl, rfl, rfl, rfl, rfl, rfl, rfl, rfl, rfl, rfl, rfl, rfl, rfl, rfl, (by exact e1053), trivial⟩ (fun ρw1049 => ?_)
     refine st_nil ?_
     refine WP_cond_f rfl ?_
     refine WP_skip ?_
     refine WP_seq ?_
     refine WP_region (by kernel_rfl) ?_
     refine st (ov_move (v := .pointer (some ⟨b54, 0, none⟩)) rfl ?_)
     obtain ⟨G1054, hA1056, hB1057, hS1058, hk1059⟩ := hS1052.lend
     obtain ⟨vv1060, m1061, R1062, hb1063, hv1064, hr1065⟩ := SetO.sh hA1056
     have hsm1066 : (vecE (1 + q6) U9).length * 8 ≤ 140737488355328 := hv1064.small
     refine st (ov_call (f := 19) (vals := [.pointer (some ⟨b54, 0, none⟩)]) (cap := []) (show _ = (.func (.func 19) #[] #[] : Value) from rfl) rfl Try.call19 (D_All  hA1056 hS1058 (by first | exact laidL_good.ids | exact hA9.1.ids | exact hM9.a.1.ids | exact hM9.b.1.ids | exact hM9.u.ids | exact hP9.1.ids | exact hM0.u.ids) (by first | exact laidL_good.srt | exact hA9.1.srt | exact hM9.a.1.srt | exact hM9.b.1.srt | exact hM9.u.srt | exact hP9.1.srt | exact hM0.u.srt) ((by first | exact hM9.lb hUL9 | exact hM9.la hUL9 | exact Meet.lu hUL9 | exact (Nat.le_trans laidL_len (by omega)) | omega))) ?_)
     rintro v1067 w1068 ⟨_, rfl, hS1069⟩
     have hr1070 := hS1069.row (i := 0) rfl
     have hr1070s : U9.length * 96 ≤ 140737488355328 := hr1070.2
     have hS1071 : Sep G431 w413 ((SetO b54 (1 + q6) U9) :: (RowE (α := Ev) own 36 v1067 U9) :: (RowE (α := Int) own 3 v384 (vecE (1 + q6) U9)) :: (SetO b58 (1 + q6) U9) :: (RowE (α := Int) own 3 v337 (vecE (1 + q6) U9)) :: (RowE (α := Msg) own 57 v284 (ansL (1 + q6) A9 0 (⟨1, 1, 0, vecE (1 + q6) B9, []⟩ : Msg) ((1 + q12 : Nat) : Int))) :: (RowE (α := Msg) own 57 v237 (ansL (1 + q6) B9 1 (⟨1, 0, 1, vecE (1 + q6) A9, []⟩ : Msg) ((1 + q12 : Nat) : Int))) :: (RowE (α := Int) own 3 v256 (vecE (1 + q6) B9)) :: (RowE (α := Int) own 3 v209 (vecE (1 + q6) A9)) :: (SetO b131 (1 + q6) U9) :: (SetO b18 (1 + q6) (laidL (1 + q6) l)) :: Rs) w1068 := hk1059 _ _ hS1069
     refine st (ov_move (v := .pointer (some ⟨b131, 0, none⟩)) rfl ?_)
     have hS1072 : Sep G431 w413 ((SetO b131 (1 + q6) U9) :: (SetO b54 (1 + q6) U9) :: (RowE (α := Ev) own 36 v1067 U9) :: (RowE (α := Int) own 3 v384 (vecE (1 + q6) U9)) :: (SetO b58 (1 + q6) U9) :: (RowE (α := Int) own 3 v337 (vecE (1 + q6) U9)) :: (RowE (α := Msg) own 57 v284 (ansL (1 + q6) A9 0 (⟨1, 1, 0, vecE (1 + q6) B9, []⟩ : Msg) ((1 + q12 : Nat) : Int))) :: (RowE (α := Msg) own 57 v237 (ansL (1 + q6) B9 1 (⟨1, 0, 1, vecE (1 + q6) A9, []⟩ : Msg) ((1 + q12 : Nat) : Int))) :: (RowE (α := Int) own 3 v256 (vecE (1 + q6) B9)) :: (RowE (α := Int) own 3 v209 (vecE (1 + q6) A9)) :: (SetO b18 (1 + q6) (laidL (1 + q6) l)) :: Rs) w1068 := hS1071.sel 11 [9, 0, 1, 2, 3, 4, 5, 6, 7, 8, 10] (Nat.le_add_left _ _) rfl rfl
     obtain ⟨G1073, hA1075, hB1076, hS1077, hk1078⟩ := hS1072.lend
     obtain ⟨vv1079, m1080, R1081, hb1082, hv1083, hr1084⟩ := SetO.sh hA1075
     have hsm1085 : (vecE (1 + q6) U9).length * 8 ≤ 140737488355328 := hv1083.small
     refine st (ov_call (f := 19) (vals := [.pointer (some ⟨b131, 0, none⟩)]) (cap := []) (show _ = (.func (.func 19) #[] #[] : Value) from rfl) rfl Try.call19 (D_All  hA1075 hS1077 (by first | exact laidL_good.ids | exact hA9.1.ids | exact hM9.a.1.ids | exact hM9.b.1.ids | exact hM9.u.ids | exact hP9.1.ids | exact hM0.u.ids) (by first | exact laidL_good.srt | exact hA9.1.srt | exact hM9.a.1.srt | exact hM9.b.1.srt | exact hM9.u.srt | exact hP9.1.srt | exact hM0.u.srt) ((by first | exact hM9.lb hUL9 | exact hM9.la hUL9 | exact Meet.lu hUL9 | exact (Nat.le_trans laidL_len (by omega)) | omega))) ?_)
     rintro v1086 w1087 ⟨_, rfl, hS1088⟩
     have hr1089 := hS1088.row (i := 0) rfl
     have hr1089s : U9.length * 96 ≤ 140737488355328 := hr1089.2
     have hS1090 : Sep G431 w413 ((SetO b131 (1 + q6) U9) :: (RowE (α := Ev) own 36 v1086 U9) :: (SetO b54 (1 + q6) U9) :: (RowE (α := Ev) own 36 v1067 U9) :: (RowE (α := Int) own 3 v384 (vecE (1 + q6) U9)) :: (SetO b58 (1 + q6) U9) :: (RowE (α := Int) own 3 v337 (vecE (1 + q6) U9)) :: (RowE (α := Msg) own 57 v284 (ansL (1 + q6) A9 0 (⟨1, 1, 0, vecE (1 + q6) B9, []⟩ : Msg) ((1 + q12 : Nat) : Int))) :: (RowE (α := Msg) own 57 v237 (ansL (1 + q6) B9 1 (⟨1, 0, 1, vecE (1 + q6) A9, []⟩ : Msg) ((1 + q12 : Nat) : Int))) :: (RowE (α := Int) own 3 v256 (vecE (1 + q6) B9)) :: (RowE (α := Int) own 3 v209 (vecE (1 + q6) A9)) :: (SetO b18 (1 + q6) (laidL (1 + q6) l)) :: Rs) w1087 := hk1078 _ _ hS1088
     have hS1091 : Sep G431 w413 ((RowE (α := Ev) own 36 v1067 U9) :: (SetO b131 (1 + q6) U9) :: (RowE (α := Ev) own 36 v1086 U9) :: (SetO b54 (1 + q6) U9) :: (RowE (α := Int) own 3 v384 (vecE (1 + q6) U9)) :: (SetO b58 (1 + q6) U9) :: (RowE (α := Int) own 3 v337 (vecE (1 + q6) U9)) :: (RowE (α := Msg) own 57 v284 (ansL (1 + q6) A9 0 (⟨1, 1, 0, vecE (1 + q6) B9, []⟩ : Msg) ((1 + q12 : Nat) : Int))) :: (RowE (α := Msg) own 57 v237 (ansL (1 + q6) B9 1 (⟨1, 0, 1, vecE (1 + q6) A9, []⟩ : Msg) ((1 + q12 : Nat) : Int))) :: (RowE (α := Int) own 3 v256 (vecE (1 + q6) B9)) :: (RowE (α := Int) own 3 v209 (vecE (1 + q6) A9)) :: (SetO b18 (1 + q6) (laidL (1 + q6) l)) :: Rs) w1087 := hS1090.sel 12 [3, 0, 1, 2, 4, 5, 6, 7, 8, 9, 10, 11] (Nat.le_add_left _ _) rfl rfl
     obtain ⟨G1092, hA1094, hB1095, hS1096, hk1097⟩ := hS1091.lend
     have hrd1098 := RowE.rd hA1094
     have hrd1098s : U9.length * 96 ≤ 140737488355328 := hrd1098.small
     have hS1099 : Sep G1092 w1087 ((RowE (α := Ev) own 36 v1086 U9) :: (SetO b131 (1 + q6) U9) :: (SetO b54 (1 + q6) U9) :: (RowE (α := Int) own 3 v384 (vecE (1 + q6) U9)) :: (SetO b58 (1 + q6) U9) :: (RowE (α := Int) own 3 v337 (vecE (1 + q6) U9)) :: (RowE (α := Msg) own 57 v284 (ansL (1 + q6) A9 0 (⟨1, 1, 0, vecE (1 + q6) B9, []⟩ : Msg) ((1 + q12 : Nat) : Int))) :: (RowE (α := Msg) own 57 v237 (ansL (1 + q6) B9 1 (⟨1, 0, 1, vecE (1 + q6) A9, []⟩ : Msg) ((1 + q12 : Nat) : Int))) :: (RowE (α := Int) own 3 v256 (vecE (1 + q6) B9)) :: (RowE (α := Int) own 3 v209 (vecE (1 + q6) A9)) :: (SetO b18 (1 + q6) (laidL (1 + q6) l)) :: Rs) w1087 := hS1096.sel 11 [1, 0, 2, 3, 4, 5, 6, 7, 8, 9, 10] (Nat.le_add_left _ _) rfl rfl
     obtain ⟨G1100, hA1102, hB1103, hS1104, hk1105⟩ := hS1099.lend
     have hrd1106 := RowE.rd hA1102
     have hrd1106s : U9.length * 96 ≤ 140737488355328 := hrd1106.small
     refine st (ov_call (f := 22) (vals := [v1067, v1086]) (cap := []) (show _ = (.func (.func 22) #[] #[] : Value) from rfl) rfl Try.call22 (D_sameEvents (a := U9) (va := v1067) (b := U9) (vb := v1086) (RdS.base hrd1098 hB1103) hrd1106 hS1104) ?_)
     rintro _ w1107 ⟨rfl, hS1108⟩
     have hS1109 : Sep G1092 w1087 ((RowE (α := Ev) own 36 v1086 U9) :: (SetO b131 (1 + q6) U9) :: (SetO b54 (1 + q6) U9) :: (RowE (α := Int) own 3 v384 (vecE (1 + q6) U9)) :: (SetO b58 (1 + q6) U9) :: (RowE (α := Int) own 3 v337 (vecE (1 + q6) U9)) :: (RowE (α := Msg) own 57 v284 (ansL (1 + q6) A9 0 (⟨1, 1, 0, vecE (1 + q6) B9, []⟩ : Msg) ((1 + q12 : Nat) : Int))) :: (RowE (α := Msg) own 57 v237 (ansL (1 + q6) B9 1 (⟨1, 0, 1, vecE (1 + q6) A9, []⟩ : Msg) ((1 + q12 : Nat) : Int))) :: (RowE (α := Int) own 3 v256 (vecE (1 + q6) B9)) :: (RowE (α := Int) own 3 v209 (vecE (1 + q6) A9)) :: (SetO b18 (1 + q6) (laidL (1 + q6) l)) :: Rs) w1107 := hk1105 _ _ hS1108
     have hS1110 : Sep G431 w413 ((RowE (α := Ev) own 36 v1067 U9) :: (RowE (α := Ev) own 36 v1086 U9) :: (SetO b131 (1 + q6) U9) :: (SetO b54 (1 + q6) U9) :: (RowE (α := Int) own 3 v384 (vecE (1 + q6) U9)) :: (SetO b58 (1 + q6) U9) :: (RowE (α := Int) own 3 v337 (vecE (1 + q6) U9)) :: (RowE (α := Msg) own 57 v284 (ansL (1 + q6) A9 0 (⟨1, 1, 0, vecE (1 + q6) B9, []⟩ : Msg) ((1 + q12 : Nat) : Int))) :: (RowE (α := Msg) own 57 v237 (ansL (1 + q6) B9 1 (⟨1, 0, 1, vecE (1 + q6) A9, []⟩ : Msg) ((1 + q12 : Nat) : Int))) :: (RowE (α := Int) own 3 v256 (vecE (1 + q6) B9)) :: (RowE (α := Int) own 3 v209 (vecE (1 + q6) A9)) :: (SetO b18 (1 + q6) (laidL (1 + q6) l)) :: Rs) w1107 := hk1097 _ _ hS1109
     have hkn1111 : (decide (U9 = U9)) = true := decide_eq_true rfl
     rw [hkn1111]
     refine st (ov_move (v := .bool true) rfl ?_)
     refine sty rfl rfl (ov_move (v := .pointer (some ⟨b58, 0, none⟩)) rfl ?_)
     have hS1112 : Sep G431 w413 ((SetO b58 (1 + q6) U9) :: (RowE (α := Ev) own 36 v1067 U9) :: (RowE (α := Ev) own 36 v1086 U9) :: (SetO b131 (1 + q6) U9) :: (SetO b54 (1 + q6) U9) :: (RowE (α := Int) own 3 v384 (vecE (1 + q6) U9)) :: (RowE (α := Int) own 3 v337 (vecE (1 + q6) U9)) :: (RowE (α := Msg) own 57 v284 (ansL (1 + q6) A9 0 (⟨1, 1, 0, vecE (1 + q6) B9, []⟩ : Msg) ((1 + q12 : Nat) : Int))) :: (RowE (α := Msg) own 57 v237 (ansL (1 + q6) B9 1 (⟨1, 0, 1, vecE (1 + q6) A9, []⟩ : Msg) ((1 + q12 : Nat) : Int))) :: (RowE (α := Int) own 3 v256 (vecE (1 + q6) B9)) :: (RowE (α := Int) own 3 v209 (vecE (1 + q6) A9)) :: (SetO b18 (1 + q6) (laidL (1 + q6) l)) :: Rs) w1107 := hS1110.sel 12 [5, 0, 1, 2, 3, 4, 6, 7, 8, 9, 10, 11] (Nat.le_add_left _ _) rfl rfl
     obtain ⟨G1113, hA1115, hB1116, hS1117, hk1118⟩ := hS1112.lend
     obtain ⟨vv1119, m1120, R1121, hb1122, hv1123, hr1124⟩ := SetO.sh hA1115
     have hsm1125 : (vecE (1 + q6) U9).length * 8 ≤ 140737488355328 := hv1123.small
     refine sty rfl rfl (ov_call (f := 19) (vals := [.pointer (some ⟨b58, 0, none⟩)]) (cap := []) (show _ = (.func (.func 19) #[] #[] : Value) from rfl) rfl Try.call19 (D_All  hA1115 hS1117 (by first | exact laidL_good.ids | exact hA9.1.ids | exact hM9.a.1.ids | exact hM9.b.1.ids | exact hM9.u.ids | exact hP9.1.ids | exact hM0.u.ids) (by first | exact laidL_good.srt | exact hA9.1.srt | exact hM9.a.1.srt | exact hM9.b.1.srt | exact hM9.u.srt | exact hP9.1.srt | exact hM0.u.srt) ((by first | exact hM9.lb hUL9 | exact hM9.la hUL9 | exact Meet.lu hUL9 | exact (Nat.le_trans laidL_len (by omega)) | omega))) ?_)
     rintro v1126 w1127 ⟨_, rfl, hS1128⟩
     have hr1129 := hS1128.row (i := 0) rfl
     have hr1129s : U9.length * 96 ≤ 140737488355328 := hr1129.2
     have hS1130 : Sep G431 w413 ((SetO b58 (1 + q6) U9) :: (RowE (α := Ev) own 36 v1126 U9) :: (RowE (α := Ev) own 36 v1067 U9) :: (RowE (α := Ev) own 36 v1086 U9) :: (SetO b131 (1 + q6) U9) :: (SetO b54 (1 + q6) U9) :: (RowE (α := Int) own 3 v384 (vecE (1 + q6) U9)) :: (RowE (α := Int) own 3 v337 (vecE (1 + q6) U9)) :: (RowE (α := Msg) own 57 v284 (ansL (1 + q6) A9 0 (⟨1, 1, 0, vecE (1 + q6) B9, []⟩ : Msg) ((1 + q12 : Nat) : Int))) :: (RowE (α := Msg) own 57 v237 (ansL (1 + q6) B9 1 (⟨1, 0, 1, vecE (1 + q6) A9, []⟩ : Msg) ((1 + q12 : Nat) : Int))) :: (RowE (α := Int) own 3 v256 (vecE (1 + q6) B9)) :: (RowE (α := Int) own 3 v209 (vecE (1 + q6) A9)) :: (SetO b18 (1 + q6) (laidL (1 + q6) l)) :: Rs) w1127 := hk1118 _ _ hS1128
     refine sty rfl rfl (ov_move (v := .pointer (some ⟨b131, 0, none⟩)) rfl ?_)
     have hS1131 : Sep G431 w413 ((SetO b131 (1 + q6) U9) :: (SetO b58 (1 + q6) U9) :: (RowE (α := Ev) own 36 v1126 U9) :: (RowE (α := Ev) own 36 v1067 U9) :: (RowE (α := Ev) own 36 v1086 U9) :: (SetO b54 (1 + q6) U9) :: (RowE (α := Int) own 3 v384 (vecE (1 + q6) U9)) :: (RowE (α := Int) own 3 v337 (vecE (1 + q6) U9)) :: (RowE (α := Msg) own 57 v284 (ansL (1 + q6) A9 0 (⟨1, 1, 0, vecE (1 + q6) B9, []⟩ : Msg) ((1 + q12 : Nat) : Int))) :: (RowE (α := Msg) own 57 v237 (ansL (1 + q6) B9 1 (⟨1, 0, 1, vecE (1 + q6) A9, []⟩ : Msg) ((1 + q12 : Nat) : Int))) :: (RowE (α := Int) own 3 v256 (vecE (1 + q6) B9)) :: (RowE (α := Int) own 3 v209 (vecE (1 + q6) A9)) :: (SetO b18 (1 + q6) (laidL (1 + q6) l)) :: Rs) w1127 := hS1130.sel 13 [4, 0, 1, 2, 3, 5, 6, 7, 8, 9, 10, 11, 12] (Nat.le_add_left _ _) rfl rfl
     obtain ⟨G1132, hA1134, hB1135, hS1136, hk1137⟩ := hS1131.lend
     obtain ⟨vv1138, m1139, R1140, hb1141, hv1142, hr1143⟩ := SetO.sh hA1134
     have hsm1144 : (vecE (1 + q6) U9).length * 8 ≤ 140737488355328 := hv1142.small
     refine sty rfl rfl (ov_call (f := 19) (vals := [.pointer (some ⟨b131, 0, none⟩)]) (cap := []) (show _ = (.func (.func 19) #[] #[] : Value) from rfl) rfl Try.call19 (D_All  hA1134 hS1136 (by first | exact laidL_good.ids | exact hA9.1.ids | exact hM9.a.1.ids | exact hM9.b.1.ids | exact hM9.u.ids | exact hP9.1.ids | exact hM0.u.ids) (by first | exact laidL_good.srt | exact hA9.1.srt | exact hM9.a.1.srt | exact hM9.b.1.srt | exact hM9.u.srt | exact hP9.1.srt | exact hM0.u.srt) ((by first | exact hM9.lb hUL9 | exact hM9.la hUL9 | exact Meet.lu hUL9 | exact (Nat.le_trans laidL_len (by omega)) | omega))) ?_)
     rintro v1145 w1146 ⟨_, rfl, hS1147⟩
     have hr1148 := hS1147.row (i := 0) rfl
     have hr1148s : U9.length * 96 ≤ 140737488355328 := hr1148.2
     have hS1149 : Sep G431 w413 ((SetO b131 (1 + q6) U9) :: (RowE (α := Ev) own 36 v1145 U9) :: (SetO b58 (1 + q6) U9) :: (RowE (α := Ev) own 36 v1126 U9) :: (RowE (α := Ev) own 36 v1067 U9) :: (RowE (α := Ev) own 36 v1086 U9) :: (SetO b54 (1 + q6) U9) :: (RowE (α := Int) own 3 v384 (vecE (1 + q6) U9)) :: (RowE (α := Int) own 3 v337 (vecE (1 + q6) U9)) :: (RowE (α := Msg) own 57 v284 (ansL (1 + q6) A9 0 (⟨1, 1, 0, vecE (1 + q6) B9, []⟩ : Msg) ((1 + q12 : Nat) : Int))) :: (RowE (α := Msg) own 57 v237 (ansL (1 + q6) B9 1 (⟨1, 0, 1, vecE (1 + q6) A9, []⟩ : Msg) ((1 + q12 : Nat) : Int))) :: (RowE (α := Int) own 3 v256 (vecE (1 + q6) B9)) :: (RowE (α := Int) own 3 v209 (vecE (1 + q6) A9)) :: (SetO b18 (1 + q6) (laidL (1 + q6) l)) :: Rs) w1146 := hk1137 _ _ hS1147
     have hS1150 : Sep G431 w413 ((RowE (α := Ev) own 36 v1126 U9) :: (SetO b131 (1 + q6) U9) :: (RowE (α := Ev) own 36 v1145 U9) :: (SetO b58 (1 + q6) U9) :: (RowE (α := Ev) own 36 v1067 U9) :: (RowE (α := Ev) own 36 v1086 U9) :: (SetO b54 (1 + q6) U9) :: (RowE (α := Int) own 3 v384 (vecE (1 + q6) U9)) :: (RowE (α := Int) own 3 v337 (vecE (1 + q6) U9)) :: (RowE (α := Msg) own 57 v284 (ansL (1 + q6) A9 0 (⟨1, 1, 0, vecE (1 + q6) B9, []⟩ : Msg) ((1 + q12 : Nat) : Int))) :: (RowE (α := Msg) own 57 v237 (ansL (1 + q6) B9 1 (⟨1, 0, 1, vecE (1 + q6) A9, []⟩ : Msg) ((1 + q12 : Nat) : Int))) :: (RowE (α := Int) own 3 v256 (vecE (1 + q6) B9)) :: (RowE (α := Int) own 3 v209 (vecE (1 + q6) A9)) :: (SetO b18 (1 + q6) (laidL (1 + q6) l)) :: Rs) w1146 := hS1149.sel 14 [3, 0, 1, 2, 4, 5, 6, 7, 8, 9, 10, 11, 12, 13] (Nat.le_add_left _ _) rfl rfl
     obtain ⟨G1151, hA1153, hB1154, hS1155, hk1156⟩ := hS1150.lend
     have hrd1157 := RowE.rd hA1153
     have hrd1157s : U9.length * 96 ≤ 140737488355328 := hrd1157.small
     have hS1158 : Sep G1151 w1146 ((RowE (α := Ev) own 36 v1145 U9) :: (SetO b131 (1 + q6) U9) :: (SetO b58 (1 + q6) U9) :: (RowE (α := Ev) own 36 v1067 U9) :: (RowE (α := Ev) own 36 v1086 U9) :: (SetO b54 (1 + q6) U9) :: (RowE (α := Int) own 3 v384 (vecE (1 + q6) U9)) :: (RowE (α := Int) own 3 v337 (vecE (1 + q6) U9)) :: (RowE (α := Msg) own 57 v284 (ansL (1 + q6) A9 0 (⟨1, 1, 0, vecE (1 + q6) B9, []⟩ : Msg) ((1 + q12 : Nat) : Int))) :: (RowE (α := Msg) own 57 v237 (ansL (1 + q6) B9 1 (⟨1, 0, 1, vecE (1 + q6) A9, []⟩ : Msg) ((1 + q12 : Nat) : Int))) :: (RowE (α := Int) own 3 v256 (vecE (1 + q6) B9)) :: (RowE (α := Int) own 3 v209 (vecE (1 + q6) A9)) :: (SetO b18 (1 + q6) (laidL (1 + q6) l)) :: Rs) w1146 := hS1155.sel 13 [1, 0, 2, 3, 4, 5, 6, 7, 8, 9, 10, 11, 12] (Nat.le_add_left _ _) rfl rfl
     obtain ⟨G1159, hA1161, hB1162, hS1163, hk1164⟩ := hS1158.lend
     have hrd1165 := RowE.rd hA1161
     have hrd1165s : U9.length * 96 ≤ 140737488355328 := hrd1165.small
     refine sty rfl rfl (ov_call (f := 22) (vals := [v1126, v1145]) (cap := []) (show _ = (.func (.func 22) #[] #[] : Value) from rfl) rfl Try.call22 (D_sameEvents (a := U9) (va := v1126) (b := U9) (vb := v1145) (RdS.base hrd1157 hB1162) hrd1165 hS1163) ?_)
     rintro _ w1166 ⟨rfl, hS1167⟩
     have hS1168 : Sep G1151 w1146 ((RowE (α := Ev) own 36 v1145 U9) :: (SetO b131 (1 + q6) U9) :: (SetO b58 (1 + q6) U9) :: (RowE (α := Ev) own 36 v1067 U9) :: (RowE (α := Ev) own 36 v1086 U9) :: (SetO b54 (1 + q6) U9) :: (RowE (α := Int) own 3 v384 (vecE (1 + q6) U9)) :: (RowE (α := Int) own 3 v337 (vecE (1 + q6) U9)) :: (RowE (α := Msg) own 57 v284 (ansL (1 + q6) A9 0 (⟨1, 1, 0, vecE (1 + q6) B9, []⟩ : Msg) ((1 + q12 : Nat) : Int))) :: (RowE (α := Msg) own 57 v237 (ansL (1 + q6) B9 1 (⟨1, 0, 1, vecE (1 + q6) A9, []⟩ : Msg) ((1 + q12 : Nat) : Int))) :: (RowE (α := Int) own 3 v256 (vecE (1 + q6) B9)) :: (RowE (α := Int) own 3 v209 (vecE (1 + q6) A9)) :: (SetO b18 (1 + q6) (laidL (1 + q6) l)) :: Rs) w1166 := hk1164 _ _ hS1167
     have hS1169 : Sep G431 w413 ((RowE (α := Ev) own 36 v1126 U9) :: (RowE (α := Ev) own 36 v1145 U9) :: (SetO b131 (1 + q6) U9) :: (SetO b58 (1 + q6) U9) :: (RowE (α := Ev) own 36 v1067 U9) :: (RowE (α := Ev) own 36 v1086 U9) :: (SetO b54 (1 + q6) U9) :: (RowE (α := Int) own 3 v384 (vecE (1 + q6) U9)) :: (RowE (α := Int) own 3 v337 (vecE (1 + q6) U9)) :: (RowE (α := Msg) own 57 v284 (ansL (1 + q6) A9 0 (⟨1, 1, 0, vecE (1 + q6) B9, []⟩ : Msg) ((1 + q12 : Nat) : Int))) :: (RowE (α := Msg) own 57 v237 (ansL (1 + q6) B9 1 (⟨1, 0, 1, vecE (1 + q6) A9, []⟩ : Msg) ((1 + q12 : Nat) : Int))) :: (RowE (α := Int) own 3 v256 (vecE (1 + q6) B9)) :: (RowE (α := Int) own 3 v209 (vecE (1 + q6) A9)) :: (SetO b18 (1 + q6) (laidL (1 + q6) l)) :: Rs) w1166 := hk1156 _ _ hS1168
     have hkn1170 : (decide (U9 = U9)) = true := decide_eq_true rfl
     rw [hkn1170]
     refine st (ov_pick_t (v := .bool true) rfl rfl ?_)
     refine st (ov_move (v := .bool true) rfl ?_)
     refine sty rfl rfl (ov_call (f := 39) (vals := []) (cap := []) (show _ = (.func (.func 39) #[] #[] : Value) from rfl) rfl Try.call39 (D_known27  hS1169) ?_)
     rintro _ w1171 ⟨rfl, hS1172⟩
     refine st (ov_pick_t (v := .bool true) rfl rfl ?_)
     refine st (ov_assign (v := .bool true) rfl ?_)
     refine st_nil ?_
     refine WP_ret ?_
     refine fin1 Try.results13 (show _ = (.bool true : Value) from rfl) ?_
     have hS1173 : Sep G423 w413 ((RowE (α := Msg) own 57 v412 [(⟨4, 0, 1, vecE (1 + q6) U9, []⟩ : Msg)]) :: (RowE (α := Ev) own 36 v1126 U9) :: (RowE (α := Ev) own 36 v1145 U9) :: (SetO b131 (1 + q6) U9) :: (SetO b58 (1 + q6) U9) :: (RowE (α := Ev) own 36 v1067 U9) :: (RowE (α := Ev) own 36 v1086 U9) :: (SetO b54 (1 + q6) U9) :: (RowE (α := Int) own 3 v384 (vecE (1 + q6) U9)) :: (RowE (α := Int) own 3 v337 (vecE (1 + q6) U9)) :: (RowE (α := Msg) own 57 v284 (ansL (1 + q6) A9 0 (⟨1, 1, 0, vecE (1 + q6) B9, []⟩ : Msg) ((1 + q12 : Nat) : Int))) :: (RowE (α := Msg) own 57 v237 (ansL (1 + q6) B9 1 (⟨1, 0, 1, vecE (1 + q6) A9, []⟩ : Msg) ((1 + q12 : Nat) : Int))) :: (RowE (α := Int) own 3 v256 (vecE (1 + q6) B9)) :: (RowE (α := Int) own 3 v209 (vecE (1 + q6) A9)) :: (SetO b18 (1 + q6) (laidL (1 + q6) l)) :: Rs) w1171 := hk436 _ _ hS1172
     have hS1174 : Sep G110 w105 ((RowE (α := Msg) own 57 v365 [(⟨4, 1, 0, vecE (1 + q6) U9, []⟩ : Msg)]) :: (RowE (α := Msg) own 57 v412 [(⟨4, 0, 1, vecE (1 + q6) U9, []⟩ : Msg)]) :: (RowE (α := Ev) own 36 v1126 U9) :: (RowE (α := Ev) own 36 v1145 U9) :: (SetO b131 (1 + q6) U9) :: (SetO b58 (1 + q6) U9) :: (RowE (α := Ev) own 36 v1067 U9) :: (RowE (α := Ev) own 36 v1086 U9) :: (SetO b54 (1 + q6) U9) :: (RowE (α := Int) own 3 v384 (vecE (1 + q6) U9)) :: (RowE (α := Int) own 3 v337 (vecE (1 + q6) U9)) :: (RowE (α := Msg) own 57 v284 (ansL (1 + q6) A9 0 (⟨1, 1, 0, vecE (1 + q6) B9, []⟩ : Msg) ((1 + q12 : Nat) : Int))) :: (RowE (α := Msg) own 57 v237 (ansL (1 + q6) B9 1 (⟨1, 0, 1, vecE (1 + q6) A9, []⟩ : Msg) ((1 + q12 : Nat) : Int))) :: (RowE (α := Int) own 3 v256 (vecE (1 + q6) B9)) :: (RowE (α := Int) own 3 v209 (vecE (1 + q6) A9)) :: (SetO b18 (1 + q6) (laidL (1 + q6) l)) :: Rs) w1171 := hk428 _ _ hS1173
     have hS1175 : Sep G40 w35 ((RowE (α := Ev) own 36 v104 T9) :: (RowE (α := Msg) own 57 v365 [(⟨4, 1, 0, vecE (1 + q6) U9, []⟩ : Msg)]) :: (RowE (α := Msg) own 57 v412 [(⟨4, 0, 1, vecE (1 + q6) U9, []⟩ : Msg)]) :: (RowE (α := Ev) own 36 v1126 U9) :: (RowE (α := Ev) own 36 v1145 U9) :: (SetO b131 (1 + q6) U9) :: (SetO b58 (1 + q6) U9) :: (RowE (α := Ev) own 36 v1067 U9) :: (RowE (α := Ev) own 36 v1086 U9) :: (SetO b54 (1 + q6) U9) :: (RowE (α := Int) own 3 v384 (vecE (1 + q6) U9)) :: (RowE (α := Int) own 3 v337 (vecE (1 + q6) U9)) :: (RowE (α := Msg) own 57 v284 (ansL (1 + q6) A9 0 (⟨1, 1, 0, vecE (1 + q6) B9, []⟩ : Msg) ((1 + q12 : Nat) : Int))) :: (RowE (α := Msg) own 57 v237 (ansL (1 + q6) B9 1 (⟨1, 0, 1, vecE (1 + q6) A9, []⟩ : Msg) ((1 + q12 : Nat) : Int))) :: (RowE (α := Int) own 3 v256 (vecE (1 + q6) B9)) :: (RowE (α := Int) own 3 v209 (vecE (1 + q6) A9)) :: (SetO b18 (1 + q6) (laidL (1 + q6) l)) :: Rs) w1171 := hk115 _ _ hS1174
     have hS1176 : Sep G W ((RowE (α := Ev) own 36 v34 (laidL (1 + q6) l)) :: (RowE (α := Ev) own 36 v104 T9) :: (RowE (α := Msg) own 57 v365 [(⟨4, 1, 0, vecE (1 + q6) U9, []⟩ : Msg)]) :: (RowE (α := Msg) own 57 v412 [(⟨4, 0, 1, vecE (1 + q6) U9, []⟩ : Msg)]) :: (RowE (α := Ev) own 36 v1126 U9) :: (RowE (α := Ev) own 36 v1145 U9) :: (SetO b131 (1 + q6) U9) :: (SetO b58 (1 + q6) U9) :: (RowE (α := Ev) own 36 v1067 U9) :: (RowE (α := Ev) own 36 v1086 U9) :: (SetO b54 (1 + q6) U9) :: (RowE (α := Int) own 3 v384 (vecE (1 + q6) U9)) :: (RowE (α := Int) own 3 v337 (vecE (1 + q6) U9)) :: (RowE (α := Msg) own 57 v284 (ansL (1 + q6) A9 0 (⟨1, 1, 0, vecE (1 + q6) B9, []⟩ : Msg) ((1 + q12 : Nat) : Int))) :: (RowE (α := Msg) own 57 v237 (ansL (1 + q6) B9 1 (⟨1, 0, 1, vecE (1 + q6) A9, []⟩ : Msg) ((1 + q12 : Nat) : Int))) :: (RowE (α := Int) own 3 v256 (vecE (1 + q6) B9)) :: (RowE (α := Int) own 3 v209 (vecE (1 + q6) A9)) :: (SetO b18 (1 + q6) (laidL (1 + q6) l)) :: Rs) w1171 := hk45 _ _ hS1175
     have hS1177 : Sep G W Rs w1171 := hS1176.sel 18 [] (Nat.le_add_left _ _) rfl rfl
     refine ⟨rfl, hS1177⟩
  ·skip
   have hc70r := hc70
   have hc70 := of_decide_eq_true hc70
   refine WP_cond_t rfl ?_
   refine WP_skip ?_
   refine WP_seq ?_
   refine WP_block ?_
   refine WP_seq ?_
   refine WP_region0 (by kernel_rfl) (fun _ => ?_)
   refine st (ov_move (v := v34) rfl ?_)
   refine st (ov_move (v := .int .i64 ((k9 : Nat) : Int)) rfl ?_)
   have hi1178 : k9 < (laidL (1 + q6) l).length := (by first | omega | (simp only [lens]; omega))
   refine st (ov_indexAddrN (k := 10) (i := k9) Try.underlying22 Try.sizeOf36 rfl hrd46.sl rfl hi1178 ?_)
   refine st (fd36_0 rfl ?_)
   refine st (fd33_0 rfl ?_)
   have hi1180 : k9 < (laidL (1 + q6) l).length := (by first | omega | (simp only [lens]; omega))
   obtain ⟨hce1179, hde1179_0, hoke1179⟩ := hrd46.ev hi1180
   rw [← getD_at default hi1180] at hce1179 hde1179_0 hoke1179
   have hsm1181 : (((laidL (1 + q6) l).getD k9 default).deps).length * 8 ≤ 140737488355328 := hde1179_0.small
   have hcw1182 := hS69.cells hce1179 (hrd46.foot (ne_of_lt hi1180))
   refine st (ov_load1 (v := .int .i64 (((laidL (1 + q6) l).getD k9 default).origin)) Try.isAgg3 rfl (hcw1182.get (j := 0) rfl) ?_)
   refine st (ov_move (v := .int .i64 ((q61 : Nat) : Int)) rfl ?_)
   refine st (ov_neq (k := .i64) (a := ((laidL (1 + q6) l).getD k9 default).origin) (b := ((q61 : Nat) : Int)) rfl rfl ?_)
   refine st_nil ?_
   cases hc1183 : !decide ((((laidL (1 + q6) l).getD k9 default).origin) = ((q61 : Nat) : Int))
   ·skip
    have hc1183r := hc1183
    have hc1183 := ndec_false hc1183
    refine WP_cond_f rfl ?_
    refine WP_skip ?_
    refine WP_region0 (by kernel_rfl) (fun _ => ?_)
    refine st (ov_move (v := .int .i64 ((k9 : Nat) : Int)) rfl ?_)
    have hr1184 : InR ((k9 + 1 : Nat) : Int) := by first | omega | (simp only [lens]; omega)
    refine st (ov_add (r := ((k9 + 1 : Nat) : Int)) (k := .i64) (a := ((k9 : Nat) : Int)) (b := 1) rfl rfl (by rw [show (((k9 : Nat) : Int) + 1 : Int) = ((k9 + 1 : Nat) : Int) by first | omega | (simp only [lens]; omega)]; exact wrap_in hr1184) ?_)
    refine st (ov_assign (v := .int .i64 ((k9 + 1 : Nat) : Int)) rfl ?_)
    refine st_nil ?_
    exact ⟨_, by omega, k9 + 1, T9, _, rfl, setAll_self ⟨rfl, rfl, rfl, rfl, rfl, rfl, rfl, rfl, trivial⟩, by omega, hP9, hS69⟩
   ·skip
    have hc1183r := hc1183
    have hc1183 := ndec_true hc1183
    refine WP_cond_t rfl ?_
    refine WP_region0 (by kernel_rfl) (fun _ => ?_)
    refine st (ov_move (v := .pointer (some ⟨b58, 0, none⟩)) rfl ?_)
    refine st (ov_move (v := v34) rfl ?_)
    refine st (ov_move (v := .int .i64 ((k9 : Nat) : Int)) rfl ?_)
    have hi1185 : k9 < (laidL (1 + q6) l).length := (by first | omega | (simp only [lens]; omega))
    refine st (ov_indexAddrN (k := 10) (i := k9) Try.underlying22 Try.sizeOf36 rfl hrd46.sl rfl hi1185 ?_)
    have hcw1187 := hS69.cells hce1179 (hrd46.foot (ne_of_lt hi1180))
    refine st (ov_loadk (k := 10) Try.isAgg36 Try.sizeOf36 rfl rfl hcw1187 ?_)
    refine st (ov_call (f := 21) (vals := [.pointer (some ⟨b58, 0, none⟩), .agg (((laidL (1 + q6) l).getD k9 default).cells (cellV w35 (sb v34) (so v34 + k9 * 10 + 3))).toArray]) (cap := []) (show _ = (.func (.func 21) #[] #[] : Value) from rfl) rfl Try.call21 (D_AddM (e := ((laidL (1 + q6) l).getD k9 default)) hde1179_0 hoke1179 hS69 ((by omega)) (hP9.1.len)) ?_)
    rintro _ w1188 ⟨rfl, hS1189⟩
    refine st_nil ?_
    refine WP_region0 (by kernel_rfl) (fun _ => ?_)
    refine st (ov_move (v := .int .i64 ((k9 : Nat) : Int)) rfl ?_)
    have hr1190 : InR ((k9 + 1 : Nat) : Int) := by first | omega | (simp only [lens]; omega)
    refine st (ov_add (r := ((k9 + 1 : Nat) : Int)) (k := .i64) (a := ((k9 : Nat) : Int)) (b := 1) rfl rfl (by rw [show (((k9 : Nat) : Int) + 1 : Int) = ((k9 + 1 : Nat) : Int) by first | omega | (simp only [lens]; omega)]; exact wrap_in hr1190) ?_)
    refine st (ov_assign (v := .int .i64 ((k9 + 1 : Nat) : Int)) rfl ?_)
    refine st_nil ?_
    exact ⟨_, by omega, k9 + 1, (addL (1 + q6) T9 ((laidL (1 + q6) l).getD k9 default)), _, rfl, setAll_self ⟨rfl, rfl, rfl, rfl, rfl, rfl, rfl, rfl, trivial⟩, by omega, (hP9.add (getD_mem (by omega))), hS1189⟩
 ·skip
  have hc5r := hc5
  refine WP_cond_t rfl ?_
  refine WP_seq ?_
  refine WP_region0 (by kernel_rfl) (fun _ => ?_)
  refine st (ov_call (f := 39) (vals := []) (cap := []) (show _ = (.func (.func 39) #[] #[] : Value) from rfl) rfl Try.call39 (D_known27  hS4) ?_)
  rintro _ w1191 ⟨rfl, hS1192⟩
  refine st (ov_assign (v := .bool true) rfl ?_)
  refine st_nil ?_
  refine WP_ret ?_
  refine fin1 Try.results13 (show _ = (.bool true : Value) from rfl) ?_
  refine ⟨rfl, hS1192⟩

end Go.Proofs.Ytgjgmojjeehieaa
