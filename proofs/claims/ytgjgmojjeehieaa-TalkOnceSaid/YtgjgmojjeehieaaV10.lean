/- Texts of this claim, part 10. -/
import Derived.Test.YtgjgmojjeehieaaV9
set_option linter.unusedSimpArgs false
set_option linter.unusedVariables false
section
/- Steps of the proofs of this seat: part T6. -/
set_option linter.unusedSimpArgs false
set_option linter.unusedVariables false
set_option maxRecDepth 8000
set_option maxHeartbeats 4000000
namespace Go.Proofs.Ytgjgmojjeehieaa
open Go.Proofs Go.RowKit

theorem D_AddM {G : Nat → Prop} {W w : World} {Rs : List HP} {b : Nat} {n : Nat} {L : List Ev} {e : Ev} {de0 : Value} (hde0 : RdS W G de0 e.deps) (oe : e.Ok) (hS0 : Sep G W ((SetO b n L) :: Rs) w) (hL : L.length ≤ 1000000) (hlen : ∀ y ∈ L, y.deps.length = n) : Ret Try.prog 21 [.pointer (some ⟨b, 0, none⟩), .agg (e.cells de0).toArray] w (fun r w' => r = (.int .i64 ((addE n L e)) : Value) ∧ Sep G W ((SetO b n (addL n L e)) :: Rs) w') := by
  refine Ret.mono (D_Add hde0 oe hS0 hL hlen) ?_
  rintro r w' ⟨L1, h1, h2, h3⟩
  subst h2
  exact ⟨h1, h3⟩

theorem D_TalkOnce {G : Nat → Prop} {W w : World} {Rs : List HP} {n : Int} (hn : InR n) {vl : Value} {l : List Ev} (hl : RdS W G vl l) {part : Int} (hpart : InR part) {chunk : Int} (hchunk : InR chunk) (hS0 : Sep G W Rs w) : Ret Try.prog 12 [.int .i64 (n), vl, .int .i64 (part), .int .i64 (chunk)] w (fun r w' => r = (.bool true : Value) ∧ Sep G W Rs w') := by
 have hls : l.length * 96 ≤ 140737488355328 := hl.small
 refine Calls_of_WP (args := [.int .i64 (n), vl, .int .i64 (part), .int .i64 (chunk)]) Try.func12 rfl rfl ?_
 refine WP_seq ?_
 refine WP_region0 (by kernel_rfl) (fun _ => ?_)
 refine st (ov_assign (v := .bool false) rfl ?_)
 refine st_nil ?_
 refine WP_seq ?_
 refine WP_seq ?_
 refine WP_region0 (by kernel_rfl) (fun _ => ?_)
 refine st (ov_move (v := vl) rfl ?_)
 refine st (ov_call (f := 15) (vals := [vl]) (cap := []) (show _ = (.func (.func 15) #[] #[] : Value) from rfl) rfl Try.call15 (D_long (l := l) (vl := vl) hl hS0) ?_)
 rintro _ w3 ⟨b1, rfl, hb2, hS4⟩
 refine st_nil ?_
 cases hc5 : b1
 ·skip
  have hc5r := hc5
  obtain ⟨hf9, _⟩ := hb2 hc5r
  refine WP_cond_f rfl ?_
  refine WP_skip ?_
  refine WP_seq ?_
  refine WP_region0 (by kernel_rfl) (fun _ => ?_)
  refine st (ov_move (v := .int .i64 (n)) rfl ?_)
  refine st (ov_call (f := 17) (vals := [.int .i64 (n), .int .i64 (64)]) (cap := []) (show _ = (.func (.func 17) #[] #[] : Value) from rfl) rfl Try.call17 (D_PickF (x := n) (n := 64) hn (by first | omega | (refine ⟨?_, ?_⟩ <;> omega)) hS4) ?_)
  rintro _ w9 ⟨q6, rfl, hq7, hqe8, hS10⟩
  have hr11 : InR ((1 + q6 : Nat) : Int) := by first | omega | (simp only [lens]; omega)
  refine st (ov_add (r := ((1 + q6 : Nat) : Int)) (k := .i64) (a := 1) (b := ((q6 : Nat) : Int)) rfl rfl (by rw [show (1 + ((q6 : Nat) : Int) : Int) = ((1 + q6 : Nat) : Int) by first | omega | (simp only [lens]; omega)]; exact wrap_in hr11) ?_)
  refine st (ov_assign (v := .int .i64 ((1 + q6 : Nat) : Int)) rfl ?_)
  refine st_nil ?_
  refine WP_seq ?_
  refine WP_region0 (by kernel_rfl) (fun _ => ?_)
  refine st (ov_move (v := .int .i64 (chunk)) rfl ?_)
  refine st (ov_call (f := 17) (vals := [.int .i64 (chunk), .int .i64 (32)]) (cap := []) (show _ = (.func (.func 17) #[] #[] : Value) from rfl) rfl Try.call17 (D_PickF (x := chunk) (n := 32) hchunk (by first | omega | (refine ⟨?_, ?_⟩ <;> omega)) hS10) ?_)
  rintro _ w15 ⟨q12, rfl, hq13, hqe14, hS16⟩
  have hr17 : InR ((1 + q12 : Nat) : Int) := by first | omega | (simp only [lens]; omega)
  refine st (ov_add (r := ((1 + q12 : Nat) : Int)) (k := .i64) (a := 1) (b := ((q12 : Nat) : Int)) rfl rfl (by rw [show (1 + ((q12 : Nat) : Int) : Int) = ((1 + q12 : Nat) : Int) by first | omega | (simp only [lens]; omega)]; exact wrap_in hr17) ?_)
  refine st (ov_assign (v := .int .i64 ((1 + q12 : Nat) : Int)) rfl ?_)
  refine st_nil ?_
  refine WP_seq ?_
  refine WP_region0 (by kernel_rfl) (fun _ => ?_)
  refine st (ov_move (v := .int .i64 ((1 + q6 : Nat) : Int)) rfl ?_)
  refine st (ov_move (v := vl) rfl ?_)
  refine st (ov_call (f := 40) (vals := [.int .i64 ((1 + q6 : Nat) : Int), vl]) (cap := []) (show _ = (.func (.func 40) #[] #[] : Value) from rfl) rfl Try.call40 (D_laid27 (n := 1 + q6) (l := l) (vl := vl) (by first | omega | (refine ⟨?_, ?_⟩ <;> omega)) hl hS16 ((by first | omega | (rw [List.length_take]; omega)))) ?_)
  rintro _ w19 ⟨b18, rfl, hS20⟩
  refine st (ov_assign (v := .pointer (some ⟨b18, 0, none⟩)) rfl ?_)
  refine st_nil ?_
  refine WP_seq ?_
  refine WP_seq ?_
  refine WP_region0 (by kernel_rfl) (fun _ => ?_)
  refine st (ov_move (v := .pointer (some ⟨b18, 0, none⟩)) rfl ?_)
  refine st (ov_eqlPtr (b := b18) (o := 0) Try.underlying26 rfl ?_)
  refine st_nil ?_
  refine WP_cond_f rfl ?_
  refine WP_skip ?_
  refine WP_seq ?_
  refine WP_region0 (by kernel_rfl) (fun _ => ?_)
  refine st (ov_move (v := .pointer (some ⟨b18, 0, none⟩)) rfl ?_)
  obtain ⟨G21, hA23, hB24, hS25, hk26⟩ := hS20.lend
  obtain ⟨vv27, m28, R29, hb30, hv31, hr32⟩ := SetO.sh hA23
  have hsm33 : (vecE (1 + q6) (laidL (1 + q6) l)).length * 8 ≤ 140737488355328 := hv31.small
  refine st (ov_call (f := 19) (vals := [.pointer (some ⟨b18, 0, none⟩)]) (cap := []) (show _ = (.func (.func 19) #[] #[] : Value) from rfl) rfl Try.call19 (D_All  hA23 hS25 (by first | exact laidL_good.ids | exact (hG9.prefix _ hj9).ids) (by first | exact laidL_good.srt | exact (hG9.prefix _ hj9).srt) ((by first | exact (Nat.le_trans laidL_len (by omega)) | exact Nat.le_trans (List.length_take_le ..) (by omega)))) ?_)
  rintro v34 w35 ⟨_, rfl, hS36⟩
  have hr37 := hS36.row (i := 0) rfl
  have hr37s : (laidL (1 + q6) l).length * 96 ≤ 140737488355328 := hr37.2
  have hS38 : Sep G W ((SetO b18 (1 + q6) (laidL (1 + q6) l)) :: (RowE (α := Ev) own 36 v34 (laidL (1 + q6) l)) :: Rs) w35 := hk26 _ _ hS36
  refine st (ov_assign (v := v34) rfl ?_)
  refine st_nil ?_
  refine WP_seq ?_
  have hS39 : Sep G W ((RowE (α := Ev) own 36 v34 (laidL (1 + q6) l)) :: (SetO b18 (1 + q6) (laidL (1 + q6) l)) :: Rs) w35 := hS38.sel 2 [1, 0] (Nat.le_add_left _ _) rfl rfl
  obtain ⟨G40, hA42, hB43, hS44, hk45⟩ := hS39.lend
  have hrd46 := RowE.rd hA42
  have hrd46s : (laidL (1 + q6) l).length * 96 ≤ 140737488355328 := hrd46.small
  have hG9 : Good (1 + q6) (laidL (1 + q6) l) := laidL_good
  have hSL9 : (laidL (1 + q6) l).length ≤ l.length := laidL_len
  refine WP_region0 (by kernel_rfl) (fun _ => ?_)
  refine st (ov_move (v := .int .i64 (part)) rfl ?_)
  refine st (ov_move (v := v34) rfl ?_)
  refine st (ov_len (n := (laidL (1 + q6) l).length) Try.underlying22 rfl hrd46.sl ?_)
  have hr47 : InR (((laidL (1 + q6) l).length + 1 : Nat) : Int) := by first | omega | (simp only [lens]; omega)
  refine st (ov_add (r := (((laidL (1 + q6) l).length + 1 : Nat) : Int)) (k := .i64) (a := (((laidL (1 + q6) l).length : Nat) : Int)) (b := 1) rfl rfl (by rw [show ((((laidL (1 + q6) l).length : Nat) : Int) + 1 : Int) = (((laidL (1 + q6) l).length + 1 : Nat) : Int) by first | omega | (simp only [lens]; omega)]; exact wrap_in hr47) ?_)
  refine st (ov_call (f := 17) (vals := [.int .i64 (part), .int .i64 (((laidL (1 + q6) l).length + 1 : Nat) : Int)]) (cap := []) (show _ = (.func (.func 17) #[] #[] : Value) from rfl) rfl Try.call17 (D_PickF (x := part) (n := (laidL (1 + q6) l).length + 1) hpart (by first | omega | (refine ⟨?_, ?_⟩ <;> omega)) hS44) ?_)
  rintro _ w51 ⟨q48, rfl, hq49, hqe50, hS52⟩
  refine st (ov_assign (v := .int .i64 ((q48 : Nat) : Int)) rfl ?_)
  refine st_nil ?_
  refine WP_seq ?_
  refine WP_region0 (by kernel_rfl) (fun _ => ?_)
  refine st (ov_move (v := .int .i64 ((1 + q6 : Nat) : Int)) rfl ?_)
  refine st (ov_move (v := v34) rfl ?_)
  refine st (ov_move (v := .int .i64 ((q48 : Nat) : Int)) rfl ?_)
  refine st (ov_sliceHi (j := q48) (k := 10) (n := (laidL (1 + q6) l).length) Try.underlying22 Try.sizeOf36 rfl hrd46.sl rfl (by first | omega | (simp only [lens]; omega)) ?_)
  have h53 := RdS.sub_hi (j := q48) hrd46 (by first | omega | (simp only [List.length_drop, List.length_take]; omega))
  have h53s : ((laidL (1 + q6) l).take q48).length * 96 ≤ 140737488355328 := h53.small
  refine st (ov_call (f := 40) (vals := [.int .i64 ((1 + q6 : Nat) : Int), (subV 10 v34 0 q48)]) (cap := []) (show _ = (.func (.func 40) #[] #[] : Value) from rfl) rfl Try.call40 (D_laid27 (n := 1 + q6) (l := (laidL (1 + q6) l).take q48) (vl := (subV 10 v34 0 q48)) (by first | omega | (refine ⟨?_, ?_⟩ <;> omega)) h53 hS52 ((by first | omega | (rw [List.length_take]; omega)))) ?_)
  rintro _ w55 ⟨b54, rfl, hS56⟩
  refine st (ov_assign (v := .pointer (some ⟨b54, 0, none⟩)) rfl ?_)
  refine st_nil ?_
  refine WP_seq ?_
  refine WP_seq ?_
  rw [laid_prefix hG9 q48 (by omega)] at hS56
  have hS57 : Sep G40 w35 ((SetO b54 (1 + q6) ((laidL (1 + q6) l).take q48)) :: (SetO b18 (1 + q6) (laidL (1 + q6) l)) :: Rs) w55 := hS56
  refine WP_region0 (by kernel_rfl) (fun _ => ?_)
  refine st (ov_move (v := .pointer (some ⟨b54, 0, none⟩)) rfl ?_)
  refine st (ov_eqlPtr (b := b54) (o := 0) Try.underlying26 rfl ?_)
  refine st_nil ?_
  refine WP_cond_f rfl ?_
  refine WP_skip ?_
  refine WP_seq ?_
  refine WP_region0 (by kernel_rfl) (fun _ => ?_)
  refine st (ov_move (v := .int .i64 ((q48 : Nat) : Int)) rfl ?_)
  refine st (ov_assign (v := .int .i64 ((q48 : Nat) : Int)) rfl ?_)
  refine st_nil ?_
  refine WP_seq ?_
  refine WP_block ?_
  refine WP_loop (fun mq σ wq => ∃ (j9 : Nat) (ρ : Env), mq = (laidL (1 + q6) l).length - j9 ∧ σ = setAll ρ [(3, .int .i64 ((1 + q12 : Nat) : Int)), (9, .pointer (some ⟨b18, 0, none⟩)), (10, v34), (11, .pointer (some ⟨b54, 0, none⟩)), (12, .int .i64 ((j9 : Nat) : Int))] ∧ (j9 ≤ (laidL (1 + q6) l).length) ∧ Sep G40 w35 ((SetO b54 (1 + q6) ((laidL (1 + q6) l).take j9)) :: (SetO b18 (1 + q6) (laidL (1 + q6) l)) :: Rs) wq) ⟨q48, _, rfl, setAll_self ⟨rfl, rfl, rfl, rfl, rfl, trivial⟩, (by omega), hS57⟩ ?_
  rintro m59 σ60 w58 ⟨j9, ρl1, rfl, rfl, hj9, hS61⟩
  refine WP_seq ?_
  refine WP_seq ?_
  refine WP_region0 (by kernel_rfl) (fun _ => ?_)
  refine st (ov_move (v := .int .i64 ((j9 : Nat) : Int)) rfl ?_)
  refine st (ov_move (v := v34) rfl ?_)
  refine st (ov_len (n := (laidL (1 + q6) l).length) Try.underlying22 rfl hrd46.sl ?_)
  refine st (ov_lss (k := .i64) (a := ((j9 : Nat) : Int)) (b := (((laidL (1 + q6) l).length : Nat) : Int)) rfl rfl ?_)
  refine st_nil ?_
  cases hc62 : decide (((j9 : Nat) : Int) < (((laidL (1 + q6) l).length : Nat) : Int))
  ·skip
   have hc62r := hc62
   have hc62 := of_decide_eq_false hc62
   refine WP_cond_f rfl ?_
   refine WP_exit ?_
   refine blk_exit ?_
   refine WP_seq ?_
   refine WP_region0 (by kernel_rfl) (fun _ => ?_)
   refine st (ov_move (v := .pointer (some ⟨b18, 0, none⟩)) rfl ?_)
   refine st (ov_move (v := .pointer (some ⟨b54, 0, none⟩)) rfl ?_)
   obtain ⟨G63, hA65, hB66, hS67, hk68⟩ := hS61.lend
   obtain ⟨vv69, m70, R71, hb72, hv73, hr74⟩ := SetO.sh hA65
   have hsm75 : (vecE (1 + q6) ((laidL (1 + q6) l).take j9)).length * 8 ≤ 140737488355328 := hv73.small
   refine st (ov_call (f := 46) (vals := [.pointer (some ⟨b54, 0, none⟩), .int .i64 (1), .int .i64 (0)]) (cap := []) (show _ = (.func (.func 46) #[] #[] : Value) from rfl) rfl Try.call46 (D_Digest (fr := 1) (tt := 0) hA65 (by decide) (by decide) hS67) ?_)
   rintro _ w78 ⟨v76, rfl, hmo77, hS79⟩
   have hr80 := hS79.row (i := 0) rfl
   have hr80s : (vecE (1 + q6) ((laidL (1 + q6) l).take j9)).length * 8 ≤ 140737488355328 := hr80.2
   have hS81 : Sep G40 w35 ((SetO b54 (1 + q6) ((laidL (1 + q6) l).take j9)) :: (RowE (α := Int) own 3 v76 (vecE (1 + q6) ((laidL (1 + q6) l).take j9))) :: (SetO b18 (1 + q6) (laidL (1 + q6) l)) :: Rs) w78 := hk68 _ _ hS79
   refine st (ov_move (v := .int .i64 ((1 + q12 : Nat) : Int)) rfl ?_)
   have hS82 : Sep G40 w35 ((SetO b18 (1 + q6) (laidL (1 + q6) l)) :: (SetO b54 (1 + q6) ((laidL (1 + q6) l).take j9)) :: (RowE (α := Int) own 3 v76 (vecE (1 + q6) ((laidL (1 + q6) l).take j9))) :: Rs) w78 := hS81.sel 3 [2, 0, 1] (Nat.le_add_left _ _) rfl rfl
   obtain ⟨G83, hA85, hB86, hS87, hk88⟩ := hS82.lend
   obtain ⟨vv89, m90, R91, hb92, hv93, hr94⟩ := SetO.sh hA85
   have hsm95 : (vecE (1 + q6) (laidL (1 + q6) l)).length * 8 ≤ 140737488355328 := hv93.small
   have hS96 : Sep G83 w78 ((RowE (α := Int) own 3 v76 (vecE (1 + q6) ((laidL (1 + q6) l).take j9))) :: (SetO b54 (1 + q6) ((laidL (1 + q6) l).take j9)) :: Rs) w78 := hS87.sel 2 [1, 0] (Nat.le_add_left _ _) rfl rfl
   obtain ⟨G97, hA99, hB100, hS101, hk102⟩ := hS96.lend
   have hrd103 := RowE.rd hA99
   have hrd103s : (vecE (1 + q6) ((laidL (1 + q6) l).take j9)).length * 8 ≤ 140737488355328 := hrd103.small
   refine st (ov_call (f := 41) (vals := [.pointer (some ⟨b18, 0, none⟩), .int .i64 (0), .agg ((⟨1, 1, 0, vecE (1 + q6) ((laidL (1 + q6) l).take j9), []⟩ : Msg).cells v76 (.slice none 0 0)).toArray, .int .i64 ((1 + q12 : Nat) : Int)]) (cap := []) (show _ = (.func (.func 41) #[] #[] : Value) from rfl) rfl Try.call41 (D_Answer (self := 0) (m := (⟨1, 1, 0, vecE (1 + q6) ((laidL (1 + q6) l).take j9), []⟩ : Msg)) (chunk := ((1 + q12 : Nat) : Int)) (HP.base hA85 hB100) (by decide) hrd103 (RdS.nil _ _) hmo77 hr17 hS101 (laidL_good.ids) (laidL_good.srt) ((Nat.le_trans laidL_len (by omega)))) ?_)
   rintro v104 w105 ⟨_, rfl, hS106⟩
   have hr107 := hS106.row (i := 0) rfl
   have hr107s : (ansL (1 + q6) (laidL (1 + q6) l) 0 (⟨1, 1, 0, vecE (1 + q6) ((laidL (1 + q6) l).take j9), []⟩ : Msg) ((1 + q12 : Nat) : Int)).length * 72 ≤ 140737488355328 := hr107.2
   have hS108 : Sep G83 w78 ((RowE (α := Int) own 3 v76 (vecE (1 + q6) ((laidL (1 + q6) l).take j9))) :: (RowE (α := Msg) own 57 v104 (ansL (1 + q6) (laidL (1 + q6) l) 0 (⟨1, 1, 0, vecE (1 + q6) ((laidL (1 + q6) l).take j9), []⟩ : Msg) ((1 + q12 : Nat) : Int))) :: (SetO b54 (1 + q6) ((laidL (1 + q6) l).take j9)) :: Rs) w105 := hk102 _ _ hS106
   have hS109 : Sep G40 w35 ((SetO b18 (1 + q6) (laidL (1 + q6) l)) :: (RowE (α := Int) own 3 v76 (vecE (1 + q6) ((laidL (1 + q6) l).take j9))) :: (RowE (α := Msg) own 57 v104 (ansL (1 + q6) (laidL (1 + q6) l) 0 (⟨1, 1, 0, vecE (1 + q6) ((laidL (1 + q6) l).take j9), []⟩ : Msg) ((1 + q12 : Nat) : Int))) :: (SetO b54 (1 + q6) ((laidL (1 + q6) l).take j9)) :: Rs) w105 := hk88 _ _ hS108
   refine st (ov_assign (v := v104) rfl ?_)
   refine st_nil ?_
   refine WP_seq ?_
   rw [once_fin hG9 (by omega)] at hS109
   have hS110 : Sep G40 w35 ((SetO b18 (1 + q6) (laidL (1 + q6) l)) :: (RowE (α := Int) own 3 v76 (vecE (1 + q6) ((laidL (1 + q6) l).take j9))) :: (RowE (α := Msg) own 57 v104 [(⟨4, 0, 1, vecE (1 + q6) (laidL (1 + q6) l), []⟩ : Msg)]) :: (SetO b54 (1 + q6) ((laidL (1 + q6) l).take j9)) :: Rs) w105 := hS109
   have hr111 := hS110.row (i := 2) rfl
   have hr111s : [(⟨4, 0, 1, vecE (1 + q6) (laidL (1 + q6) l), []⟩ : Msg)].length * 72 ≤ 140737488355328 := hr111.2
   have hS112 : Sep G40 w35 ((RowE (α := Msg) own 57 v104 [(⟨4, 0, 1, vecE (1 + q6) (laidL (1 + q6) l), []⟩ : Msg)]) :: (SetO b18 (1 + q6) (laidL (1 + q6) l)) :: (RowE (α := Int) own 3 v76 (vecE (1 + q6) ((laidL (1 + q6) l).take j9))) :: (SetO b54 (1 + q6) ((laidL (1 + q6) l).take j9)) :: Rs) w105 := hS110.sel 4 [2, 0, 1, 3] (Nat.le_add_left _ _) rfl rfl
   obtain ⟨G113, hA115, hB116, hS117, hk118⟩ := hS112.lend
   have hrd119 := RowE.rd hA115
   have hrd119s : [(⟨4, 0, 1, vecE (1 + q6) (laidL (1 + q6) l), []⟩ : Msg)].length * 72 ≤ 140737488355328 := hrd119.small
   refine WP_region (by kernel_rfl) ?_
   refine st (ov_move (v := v104) rfl ?_)
   refine st (ov_len (n := [(⟨4, 0, 1, vecE (1 + q6) (laidL (1 + q6) l), []⟩ : Msg)].length) Try.underlying58 rfl hrd119.sl ?_)
   have hkn120 : (decide ((([(⟨4, 0, 1, vecE (1 + q6) (laidL (1 + q6) l), []⟩ : Msg)].length : Nat) : Int) = 1)) = true := by rfl
   refine st (ov_as (congrArg Value.bool hkn120) (fun K9 h9 => ov_eql (k := .i64) (a := (([(⟨4, 0, 1, vecE (1 + q6) (laidL (1 + q6) l), []⟩ : Msg)].length : Nat) : Int)) (b := 1) rfl rfl h9) ?_)
   refine st (ov_move (v := .bool true) rfl ?_)
   refine sty rfl rfl (ov_move (v := v104) rfl ?_)
   have hi121 : 0 < [(⟨4, 0, 1, vecE (1 + q6) (laidL (1 + q6) l), []⟩ : Msg)].length := (by first | omega | (simp only [lens]; omega))
   refine sty rfl rfl (ov_indexAddrN (k := 5) (i := 0) Try.underlying58 Try.sizeOf57 rfl hrd119.sl rfl hi121 ?_)
   refine sty rfl rfl (fd57_0 rfl ?_)
   have hi123 : 0 < [(⟨4, 0, 1, vecE (1 + q6) (laidL (1 + q6) l), []⟩ : Msg)].length := (by first | omega | (simp only [lens]; omega))
   obtain ⟨hce122, hde122_0, hde122_1, hoke122⟩ := hrd119.msg hi123
   rw [← getD_at default hi123] at hce122 hde122_0 hde122_1 hoke122
   have hsm124 : (([(⟨4, 0, 1, vecE (1 + q6) (laidL (1 + q6) l), []⟩ : Msg)].getD 0 default).vec).length * 8 ≤ 140737488355328 := hde122_0.small
   have hsm125 : (([(⟨4, 0, 1, vecE (1 + q6) (laidL (1 + q6) l), []⟩ : Msg)].getD 0 default).evs).length * 96 ≤ 140737488355328 := hde122_1.small
   have hcw126 := hS117.cells hce122 (hrd119.foot (ne_of_lt hi123))
   refine sty rfl rfl (ov_load1 (v := .int .i64 (([(⟨4, 0, 1, vecE (1 + q6) (laidL (1 + q6) l), []⟩ : Msg)].getD 0 default).kind)) Try.isAgg3 rfl (hcw126.get (j := 0) rfl) ?_)
   have hkn127 : (decide ((([(⟨4, 0, 1, vecE (1 + q6) (laidL (1 + q6) l), []⟩ : Msg)].getD 0 default).kind) = 4)) = true := by rfl
   refine sty rfl rfl (ov_as (congrArg Value.bool hkn127) (fun K9 h9 => ov_eql (k := .i64) (a := ([(⟨4, 0, 1, vecE (1 + q6) (laidL (1 + q6) l), []⟩ : Msg)].getD 0 default).kind) (b := 4) rfl rfl h9) ?_)
   refine st (ov_pick_t (v := .bool true) rfl rfl ?_)
   refine st (ov_move (v := .bool true) rfl ?_)
   refine sty rfl rfl (ov_call (f := 39) (vals := []) (cap := []) (show _ = (.func (.func 39) #[] #[] : Value) from rfl) rfl Try.call39 (D_known27  hS117) ?_)
   rintro _ w128 ⟨rfl, hS129⟩
   refine st (ov_pick_t (v := .bool true) rfl rfl ?_)
   refine st (ov_assign (v := .bool true) rfl ?_)
   refine st_nil ?_
   refine WP_ret ?_
   refine fin1 Try.results12 (show _ = (.bool true : Value) from rfl) ?_
   have hS130 : Sep G40 w35 ((RowE (α := Msg) own 57 v104 [(⟨4, 0, 1, vecE (1 + q6) (laidL (1 + q6) l), []⟩ : Msg)]) :: (SetO b18 (1 + q6) (laidL (1 + q6) l)) :: (RowE (α := Int) own 3 v76 (vecE (1 + q6) ((laidL (1 + q6) l).take j9))) :: (SetO b54 (1 + q6) ((laidL (1 + q6) l).take j9)) :: Rs) w128 := hk118 _ _ hS129
   have hS131 : Sep G W ((RowE (α := Ev) own 36 v34 (laidL (1 + q6) l)) :: (RowE (α := Msg) own 57 v104 [(⟨4, 0, 1, vecE (1 + q6) (laidL (1 + q6) l), []⟩ : Msg)]) :: (SetO b18 (1 + q6) (laidL (1 + q6) l)) :: (RowE (α := Int) own 3 v76 (vecE (1 + q6) ((laidL (1 + q6) l).take j9))) :: (SetO b54 (1 + q6) ((laidL (1 + q6) l).take j9)) :: Rs) w128 := hk45 _ _ hS130
   have hS132 : Sep G W Rs w128 := hS131.sel 5 [] (Nat.le_add_left _ _) rfl rfl
   refine ⟨rfl, hS132⟩
  ·skip
   have hc62r := hc62
   have hc62 := of_decide_eq_true hc62
   refine WP_cond_t rfl ?_
   refine WP_skip ?_
   refine WP_block ?_
   refine WP_seq ?_
   refine WP_region0 (by kernel_rfl) (fun _ => ?_)
   refine st (ov_move (v := .pointer (some ⟨b18, 0, none⟩)) rfl ?_)
   refine st (ov_move (v := .pointer (some ⟨b54, 0, none⟩)) rfl ?_)
   obtain ⟨G133, hA135, hB136, hS137, hk138⟩ := hS61.lend
   obtain ⟨vv139, m140, R141, hb142, hv143, hr144⟩ := SetO.sh hA135
   have hsm145 : (vecE (1 + q6) ((laidL (1 + q6) l).take j9)).length * 8 ≤ 140737488355328 := hv143.small
   refine st (ov_call (f := 46) (vals := [.pointer (some ⟨b54, 0, none⟩), .int .i64 (1), .int .i64 (0)]) (cap := []) (show _ = (.func (.func 46) #[] #[] : Value) from rfl) rfl Try.call46 (D_Digest (fr := 1) (tt := 0) hA135 (by decide) (by decide) hS137) ?_)
   rintro _ w148 ⟨v146, rfl, hmo147, hS149⟩
   have hr150 := hS149.row (i := 0) rfl
   have hr150s : (vecE (1 + q6) ((laidL (1 + q6) l).take j9)).length * 8 ≤ 140737488355328 := hr150.2
   have hS151 : Sep G40 w35 ((SetO b54 (1 + q6) ((laidL (1 + q6) l).take j9)) :: (RowE (α := Int) own 3 v146 (vecE (1 + q6) ((laidL (1 + q6) l).take j9))) :: (SetO b18 (1 + q6) (laidL (1 + q6) l)) :: Rs) w148 := hk138 _ _ hS149
   refine st (ov_move (v := .int .i64 ((1 + q12 : Nat) : Int)) rfl ?_)
   have hS152 : Sep G40 w35 ((SetO b18 (1 + q6) (laidL (1 + q6) l)) :: (SetO b54 (1 + q6) ((laidL (1 + q6) l).take j9)) :: (RowE (α := Int) own 3 v146 (vecE (1 + q6) ((laidL (1 + q6) l).take j9))) :: Rs) w148 := hS151.sel 3 [2, 0, 1] (Nat.le_add_left _ _) rfl rfl
   obtain ⟨G153, hA155, hB156, hS157, hk158⟩ := hS152.lend
   obtain ⟨vv159, m160, R161, hb162, hv163, hr164⟩ := SetO.sh hA155
   have hsm165 : (vecE (1 + q6) (laidL (1 + q6) l)).length * 8 ≤ 140737488355328 := hv163.small
   have hS166 : Sep G153 w148 ((RowE (α := Int) own 3 v146 (vecE (1 + q6) ((laidL (1 + q6) l).take j9))) :: (SetO b54 (1 + q6) ((laidL (1 + q6) l).take j9)) :: Rs) w148 := hS157.sel 2 [1, 0] (Nat.le_add_left _ _) rfl rfl
   obtain ⟨G167, hA169, hB170, hS171, hk172⟩ := hS166.lend
   have hrd173 := RowE.rd hA169
   have hrd173s : (vecE (1 + q6) ((laidL (1 + q6) l).take j9)).length * 8 ≤ 140737488355328 := hrd173.small
   refine st (ov_call (f := 41) (vals := [.pointer (some ⟨b18, 0, none⟩), .int .i64 (0), .agg ((⟨1, 1, 0, vecE (1 + q6) ((laidL (1 + q6) l).take j9), []⟩ : Msg).cells v146 (.slice none 0 0)).toArray, .int .i64 ((1 + q12 : Nat) : Int)]) (cap := []) (show _ = (.func (.func 41) #[] #[] : Value) from rfl) rfl Try.call41 (D_Answer (self := 0) (m := (⟨1, 1, 0, vecE (1 + q6) ((laidL (1 + q6) l).take j9), []⟩ : Msg)) (chunk := ((1 + q12 : Nat) : Int)) (HP.base hA155 hB170) (by decide) hrd173 (RdS.nil _ _) hmo147 hr17 hS171 (laidL_good.ids) (laidL_good.srt) ((Nat.le_trans laidL_len (by omega)))) ?_)
   rintro v174 w175 ⟨_, rfl, hS176⟩
   have hr177 := hS176.row (i := 0) rfl
   have hr177s : (ansL (1 + q6) (laidL (1 + q6) l) 0 (⟨1, 1, 0, vecE (1 + q6) ((laidL (1 + q6) l).take j9), []⟩ : Msg) ((1 + q12 : Nat) : Int)).length * 72 ≤ 140737488355328 := hr177.2
   have hS178 : Sep G153 w148 ((RowE (α := Int) own 3 v146 (vecE (1 + q6) ((laidL (1 + q6) l).take j9))) :: (RowE (α := Msg) own 57 v174 (ansL (1 + q6) (laidL (1 + q6) l) 0 (⟨1, 1, 0, vecE (1 + q6) ((laidL (1 + q6) l).take j9), []⟩ : Msg) ((1 + q12 : Nat) : Int))) :: (SetO b54 (1 + q6) ((laidL (1 + q6) l).take j9)) :: Rs) w175 := hk172 _ _ hS176
   have hS179 : Sep G40 w35 ((SetO b18 (1 + q6) (laidL (1 + q6) l)) :: (RowE (α := Int) own 3 v146 (vecE (1 + q6) ((laidL (1 + q6) l).take j9))) :: (RowE (α := Msg) own 57 v174 (ansL (1 + q6) (laidL (1 + q6) l) 0 (⟨1, 1, 0, vecE (1 + q6) ((laidL (1 + q6) l).take j9), []⟩ : Msg) ((1 + q12 : Nat) : Int))) :: (SetO b54 (1 + q6) ((laidL (1 + q6) l).take j9)) :: Rs) w175 := hk158 _ _ hS178
   refine st (ov_assign (v := v174) rfl ?_)
   refine st_nil ?_
   refine WP_seq ?_
   refine WP_seq ?_
   rw [once_ans hG9 (by omega) (by omega) (by omega)] at hS179
   have hS180 : Sep G40 w35 ((SetO b18 (1 + q6) (laidL (1 + q6) l)) :: (RowE (α := Int) own 3 v146 (vecE (1 + q6) ((laidL (1 + q6) l).take j9))) :: (RowE (α := Msg) own 57 v174 [(⟨3, 0, 1, [], (((laidL (1 + q6) l).drop j9).take (1 + q12))⟩ : Msg)]) :: (SetO b54 (1 + q6) ((laidL (1 + q6) l).take j9)) :: Rs) w175 := hS179
   have hr181 := hS180.row (i := 2) rfl
   have hr181s : [(⟨3, 0, 1, [], (((laidL (1 + q6) l).drop j9).take (1 + q12))⟩ : Msg)].length * 72 ≤ 140737488355328 := hr181.2
   have hS182 : Sep G40 w35 ((RowE (α := Msg) own 57 v174 [(⟨3, 0, 1, [], (((laidL (1 + q6) l).drop j9).take (1 + q12))⟩ : Msg)]) :: (SetO b18 (1 + q6) (laidL (1 + q6) l)) :: (RowE (α := Int) own 3 v146 (vecE (1 + q6) ((laidL (1 + q6) l).take j9))) :: (SetO b54 (1 + q6) ((laidL (1 + q6) l).take j9)) :: Rs) w175 := hS180.sel 4 [2, 0, 1, 3] (Nat.le_add_left _ _) rfl rfl
   obtain ⟨G183, hA185, hB186, hS187, hk188⟩ := hS182.lend
   have hrd189 := RowE.rd hA185
   have hrd189s : [(⟨3, 0, 1, [], (((laidL (1 + q6) l).drop j9).take (1 + q12))⟩ : Msg)].length * 72 ≤ 140737488355328 := hrd189.small
   have hpl9 : ([(⟨3, 0, 1, [], (((laidL (1 + q6) l).drop j9).take (1 + q12))⟩ : Msg)].getD 0 default).evs.length = min (1 + q12) ((laidL (1 + q6) l).length - j9) := by show (((laidL (1 + q6) l).drop j9).take (1 + q12)).length = _; rw [List.length_take, List.length_drop]
   refine WP_region (by kernel_rfl) ?_
   refine st (ov_move (v := v174) rfl ?_)
   refine st (ov_len (n := [(⟨3, 0, 1, [], (((laidL (1 + q6) l).drop j9).take (1 + q12))⟩ : Msg)].length) Try.underlying58 rfl hrd189.sl ?_)
   have hkn190 : (!decide ((([(⟨3, 0, 1, [], (((laidL (1 + q6) l).drop j9).take (1 + q12))⟩ : Msg)].length : Nat) : Int) = 1)) = false := by rfl
   refine st (ov_as (congrArg Value.bool hkn190) (fun K9 h9 => ov_neq (k := .i64) (a := (([(⟨3, 0, 1, [], (((laidL (1 + q6) l).drop j9).take (1 + q12))⟩ : Msg)].length : Nat) : Int)) (b := 1) rfl rfl h9) ?_)
   refine st (ov_move (v := .bool false) rfl ?_)
   refine sty rfl rfl (ov_move (v := v174) rfl ?_)
   have hi191 : 0 < [(⟨3, 0, 1, [], (((laidL (1 + q6) l).drop j9).take (1 + q12))⟩ : Msg)].length := (by first | omega | (simp only [lens]; omega))
   refine sty rfl rfl (ov_indexAddrN (k := 5) (i := 0) Try.underlying58 Try.sizeOf57 rfl hrd189.sl rfl hi191 ?_)
   refine sty rfl rfl (fd57_0 rfl ?_)
   have hi193 : 0 < [(⟨3, 0, 1, [], (((laidL (1 + q6) l).drop j9).take (1 + q12))⟩ : Msg)].length := (by first | omega | (simp only [lens]; omega))
   obtain ⟨hce192, hde192_0, hde192_1, hoke192⟩ := hrd189.msg hi193
   rw [← getD_at default hi193] at hce192 hde192_0 hde192_1 hoke192
   have hsm194 : (([(⟨3, 0, 1, [], (((laidL (1 + q6) l).drop j9).take (1 + q12))⟩ : Msg)].getD 0 default).vec).length * 8 ≤ 140737488355328 := hde192_0.small
   have hsm195 : (([(⟨3, 0, 1, [], (((laidL (1 + q6) l).drop j9).take (1 + q12))⟩ : Msg)].getD 0 default).evs).length * 96 ≤ 140737488355328 := hde192_1.small
   have hcw196 := hS187.cells hce192 (hrd189.foot (ne_of_lt hi193))
   refine sty rfl rfl (ov_load1 (v := .int .i64 (([(⟨3, 0, 1, [], (((laidL (1 + q6) l).drop j9).take (1 + q12))⟩ : Msg)].getD 0 default).kind)) Try.isAgg3 rfl (hcw196.get (j := 0) rfl) ?_)
   have hkn197 : (!decide ((([(⟨3, 0, 1, [], (((laidL (1 + q6) l).drop j9).take (1 + q12))⟩ : Msg)].getD 0 default).kind) = 3)) = false := by rfl
   refine sty rfl rfl (ov_as (congrArg Value.bool hkn197) (fun K9 h9 => ov_neq (k := .i64) (a := ([(⟨3, 0, 1, [], (((laidL (1 + q6) l).drop j9).take (1 + q12))⟩ : Msg)].getD 0 default).kind) (b := 3) rfl rfl h9) ?_)
   refine st (ov_pick_f (v := .bool false) rfl rfl ?_)
   refine st (ov_move (v := .bool false) rfl ?_)
   refine sty rfl rfl (ov_move (v := v174) rfl ?_)
   have hi198 : 0 < [(⟨3, 0, 1, [], (((laidL (1 + q6) l).drop j9).take (1 + q12))⟩ : Msg)].length := (by first | omega | (simp only [lens]; omega))
   refine sty rfl rfl (ov_indexAddrN (k := 5) (i := 0) Try.underlying58 Try.sizeOf57 rfl hrd189.sl rfl hi198 ?_)
   refine sty rfl rfl (fd57_4 rfl ?_)
   have hcw200 := hS187.cells hce192 (hrd189.foot (ne_of_lt hi193))
   refine sty rfl rfl (ov_load1 (v := (cellV w175 (sb v174) (so v174 + 0 * 5 + 4))) Try.isAgg22 rfl (hcw200.get (j := 4) rfl) ?_)
   refine sty rfl rfl (ov_len (n := (([(⟨3, 0, 1, [], (((laidL (1 + q6) l).drop j9).take (1 + q12))⟩ : Msg)].getD 0 default).evs).length) Try.underlying22 rfl hde192_1.sl ?_)
   refine sty rfl rfl (ov_move (v := .int .i64 ((1 + q12 : Nat) : Int)) rfl ?_)
   refine sty rfl rfl (ov_move (v := v34) rfl ?_)
   refine sty rfl rfl (ov_len (n := (laidL (1 + q6) l).length) Try.underlying22 rfl (RdS.base hrd46 hB186).sl ?_)
   refine sty rfl rfl (ov_move (v := .int .i64 ((j9 : Nat) : Int)) rfl ?_)
   have hr201 : InR ((((laidL (1 + q6) l).length) - j9 : Nat) : Int) := by first | omega | (simp only [lens]; omega)
   refine sty rfl rfl (ov_sub (r := ((((laidL (1 + q6) l).length) - j9 : Nat) : Int)) (k := .i64) (a := (((laidL (1 + q6) l).length : Nat) : Int)) (b := ((j9 : Nat) : Int)) rfl rfl (by rw [show ((((laidL (1 + q6) l).length : Nat) : Int) - ((j9 : Nat) : Int) : Int) = ((((laidL (1 + q6) l).length) - j9 : Nat) : Int) by first | omega | (simp only [lens]; omega)]; exact wrap_in hr201) ?_)
   refine sty rfl rfl (ov_min (k := .i64) (a := ((1 + q12 : Nat) : Int)) (b := ((((laidL (1 + q6) l).length) - j9 : Nat) : Int)) rfl rfl ?_)
   have hkn202 : (!decide ((((([(⟨3, 0, 1, [], (((laidL (1 + q6) l).drop j9).take (1 + q12))⟩ : Msg)].getD 0 default).evs).length : Nat) : Int) = (min ((1 + q12 : Nat) : Int) ((((laidL (1 + q6) l).length) - j9 : Nat) : Int)))) = false := by simp only [Bool.not_eq_false', decide_eq_true_eq]; omega
   refine sty rfl rfl (ov_as (congrArg Value.bool hkn202) (fun K9 h9 => ov_neq (k := .i64) (a := (((([(⟨3, 0, 1, [], (((laidL (1 + q6) l).drop j9).take (1 + q12))⟩ : Msg)].getD 0 default).evs).length : Nat) : Int)) (b := min ((1 + q12 : Nat) : Int) ((((laidL (1 + q6) l).length) - j9 : Nat) : Int)) rfl rfl h9) ?_)
   refine st (ov_pick_f (v := .bool false) rfl rfl ?_)
   refine st_nil ?_
   refine WP_cond_f rfl ?_
   refine WP_skip ?_
   refine WP_seq ?_
   refine WP_seq ?_
   refine WP_region0 (by kernel_rfl) (fun _ => ?_)
   refine st (ov_assign (v := .int .i64 (0)) rfl ?_)
   refine st_nil ?_
   refine WP_block ?_
   refine WP_loop (fun mq σ wq => ∃ (k9 : Nat) (ρ : Env), mq = ([(⟨3, 0, 1, [], (((laidL (1 + q6) l).drop j9).take (1 + q12))⟩ : Msg)].getD 0 default).evs.length - k9 ∧ σ = setAll ρ [(3, .int .i64 ((1 + q12 : Nat) : Int)), (9, .pointer (some ⟨b18, 0, none⟩)), (10, v34), (11, .pointer (some ⟨b54, 0, none⟩)), (12, .int .i64 ((j9 : Nat) : Int)), (13, v174), (14, .int .i64 ((k9 : Nat) : Int))] ∧ (k9 ≤ ([(⟨3, 0, 1, [], (((laidL (1 + q6) l).drop j9).take (1 + q12))⟩ : Msg)].getD 0 default).evs.length) ∧ Sep G183 w175 ((SetO b18 (1 + q6) (laidL (1 + q6) l)) :: (RowE (α := Int) own 3 v146 (vecE (1 + q6) ((laidL (1 + q6) l).take j9))) :: (SetO b54 (1 + q6) ((laidL (1 + q6) l).take (j9 + k9))) :: Rs) wq) ⟨0, _, rfl, setAll_self ⟨rfl, rfl, rfl, rfl, rfl, rfl, rfl, trivial⟩, Nat.zero_le _, hS187⟩ ?_
   rintro m204 σ205 w203 ⟨k9, ρl2, rfl, rfl, hk9, hS206⟩
   refine WP_seq ?_
   refine WP_seq ?_
   refine WP_region0 (by kernel_rfl) (fun _ => ?_)
   refine st (ov_move (v := .int .i64 ((k9 : Nat) : Int)) rfl ?_)
   refine st (ov_move (v := v174) rfl ?_)
   have hi207 : 0 < [(⟨3, 0, 1, [], (((laidL (1 + q6) l).drop j9).take (1 + q12))⟩ : Msg)].length := (by first | omega | (simp only [lens]; omega))
   refine st (ov_indexAddrN (k := 5) (i := 0) Try.underlying58 Try.sizeOf57 rfl hrd189.sl rfl hi207 ?_)
   refine st (fd57_4 rfl ?_)
   have hcw209 := hS206.cells hce192 (hrd189.foot (ne_of_lt hi193))
   refine st (ov_load1 (v := (cellV w175 (sb v174) (so v174 + 0 * 5 + 4))) Try.isAgg22 rfl (hcw209.get (j := 4) rfl) ?_)
   refine st (ov_len (n := (([(⟨3, 0, 1, [], (((laidL (1 + q6) l).drop j9).take (1 + q12))⟩ : Msg)].getD 0 default).evs).length) Try.underlying22 rfl hde192_1.sl ?_)
   refine st (ov_lss (k := .i64) (a := ((k9 : Nat) : Int)) (b := (((([(⟨3, 0, 1, [], (((laidL (1 + q6) l).drop j9).take (1 + q12))⟩ : Msg)].getD 0 default).evs).length : Nat) : Int)) rfl rfl ?_)
   refine st_nil ?_
   cases hc210 : decide (((k9 : Nat) : Int) < (((([(⟨3, 0, 1, [], (((laidL (1 + q6) l).drop j9).take (1 + q12))⟩ : Msg)].getD 0 default).evs).length : Nat) : Int))
   ·skip
    have hc210r := hc210
    have hc210 := of_decide_eq_false hc210
    refine WP_cond_f rfl ?_
    refine WP_exit ?_
    refine blk_exit ?_
    refine WP_region0 (by kernel_rfl) (fun _ => ?_)
    refine st (ov_move (v := .int .i64 ((j9 : Nat) : Int)) rfl ?_)
    refine st (ov_move (v := v174) rfl ?_)
    have hi211 : 0 < [(⟨3, 0, 1, [], (((laidL (1 + q6) l).drop j9).take (1 + q12))⟩ : Msg)].length := (by first | omega | (simp only [lens]; omega))
    refine st (ov_indexAddrN (k := 5) (i := 0) Try.underlying58 Try.sizeOf57 rfl hrd189.sl rfl hi211 ?_)
    refine st (fd57_4 rfl ?_)
    have hcw213 := hS206.cells hce192 (hrd189.foot (ne_of_lt hi193))
    refine st (ov_load1 (v := (cellV w175 (sb v174) (so v174 + 0 * 5 + 4))) Try.isAgg22 rfl (hcw213.get (j := 4) rfl) ?_)
    refine st (ov_len (n := (([(⟨3, 0, 1, [], (((laidL (1 + q6) l).drop j9).take (1 + q12))⟩ : Msg)].getD 0 default).evs).length) Try.underlying22 rfl hde192_1.sl ?_)
    have hr214 : InR ((j9 + ((([(⟨3, 0, 1, [], (((laidL (1 + q6) l).drop j9).take (1 + q12))⟩ : Msg)].getD 0 default).evs).length) : Nat) : Int) := by first | omega | (simp only [lens]; omega)
    refine st (ov_add (r := ((j9 + ((([(⟨3, 0, 1, [], (((laidL (1 + q6) l).drop j9).take (1 + q12))⟩ : Msg)].getD 0 default).evs).length) : Nat) : Int)) (k := .i64) (a := ((j9 : Nat) : Int)) (b := (((([(⟨3, 0, 1, [], (((laidL (1 + q6) l).drop j9).take (1 + q12))⟩ : Msg)].getD 0 default).evs).length : Nat) : Int)) rfl rfl (by rw [show (((j9 : Nat) : Int) + (((([(⟨3, 0, 1, [], (((laidL (1 + q6) l).drop j9).take (1 + q12))⟩ : Msg)].getD 0 default).evs).length : Nat) : Int) : Int) = ((j9 + ((([(⟨3, 0, 1, [], (((laidL (1 + q6) l).drop j9).take (1 + q12))⟩ : Msg)].getD 0 default).evs).length) : Nat) : Int) by first | omega | (simp only [lens]; omega)]; exact wrap_in hr214) ?_)
    have hke9 : k9 = ([(⟨3, 0, 1, [], (((laidL (1 + q6) l).drop j9).take (1 + q12))⟩ : Msg)].getD 0 default).evs.length := by omega
    refine st (ov_assign (v := .int .i64 (((j9 + k9) : Nat) : Int)) (show _ = (.int .i64 (((j9 + k9) : Nat) : Int) : Value) from (show (.int .i64 ((j9 + ((([(⟨3, 0, 1, [], (((laidL (1 + q6) l).drop j9).take (1 + q12))⟩ : Msg)].getD 0 default).evs).length) : Nat) : Int) : Value) = .int .i64 (((j9 + k9) : Nat) : Int) from congrArg (Value.int .i64) (by omega))) ?_)
    refine st_nil ?_
    have hS215 : Sep G40 w35 ((RowE (α := Msg) own 57 v174 [(⟨3, 0, 1, [], (((laidL (1 + q6) l).drop j9).take (1 + q12))⟩ : Msg)]) :: (SetO b18 (1 + q6) (laidL (1 + q6) l)) :: (RowE (α := Int) own 3 v146 (vecE (1 + q6) ((laidL (1 + q6) l).take j9))) :: (SetO b54 (1 + q6) ((laidL (1 + q6) l).take (j9 + k9))) :: Rs) w203 := hk188 _ _ hS206
    have hS216 : Sep G40 w35 ((SetO b54 (1 + q6) ((laidL (1 + q6) l).take (j9 + k9))) :: (SetO b18 (1 + q6) (laidL (1 + q6) l)) :: Rs) w203 := hS215.sel 4 [3, 1] (Nat.le_add_left _ _) rfl rfl
    exact ⟨_, (by omega), j9 + k9, _, rfl, setAll_self ⟨rfl, rfl, rfl, rfl, rfl, trivial⟩, by omega, hS216⟩
   ·skip
    have hc210r := hc210
    have hc210 := of_decide_eq_true hc210
    refine WP_cond_t rfl ?_
    refine WP_skip ?_
    refine WP_seq ?_
    refine WP_block ?_
    refine WP_seq ?_
    obtain ⟨hoa9, hob9, hoc9⟩ := once_add (c := (1 + q12)) (j := j9) (k := k9) hG9 (show k9 < (((laidL (1 + q6) l).drop j9).take (1 + q12)).length by show k9 < ([(⟨3, 0, 1, [], (((laidL (1 + q6) l).drop j9).take (1 + q12))⟩ : Msg)].getD 0 default).evs.length; omega)
    have hoe9 : addE (1 + q6) ((laidL (1 + q6) l).take (j9 + k9)) (([(⟨3, 0, 1, [], (((laidL (1 + q6) l).drop j9).take (1 + q12))⟩ : Msg)].getD 0 default).evs.getD k9 default) = 0 := hoa9
    refine WP_draw4 (WF [fun vals wq => Sep G183 w175 ((SetO b18 (1 + q6) (laidL (1 + q6) l)) :: (RowE (α := Int) own 3 v146 (vecE (1 + q6) ((laidL (1 + q6) l).take j9))) :: (SetO b54 (1 + q6) ((laidL (1 + q6) l).take (j9 + k9))) :: Rs) wq, fun vals wq => (vals 13 = (.bool (decide (((([(⟨3, 0, 1, [], (((laidL (1 + q6) l).drop j9).take (1 + q12))⟩ : Msg)].getD 0 default).evs).getD k9 default) = ((laidL (1 + q6) l).getD (j9 + k9) default))) : Value)) ∧ Sep G183 w175 ((SetO b18 (1 + q6) (laidL (1 + q6) l)) :: (RowE (α := Int) own 3 v146 (vecE (1 + q6) ((laidL (1 + q6) l).take j9))) :: (SetO b54 (1 + q6) ((laidL (1 + q6) l).take (j9 + k9))) :: Rs) wq, fun vals wq => (vals 13 = (.bool (decide (((([(⟨3, 0, 1, [], (((laidL (1 + q6) l).drop j9).take (1 + q12))⟩ : Msg)].getD 0 default).evs).getD k9 default) = ((laidL (1 + q6) l).getD (j9 + k9) default))) : Value)) ∧ (vals 24 = (.int .i64 ((addE (1 + q6) ((laidL (1 + q6) l).take (j9 + k9)) ((([(⟨3, 0, 1, [], (((laidL (1 + q6) l).drop j9).take (1 + q12))⟩ : Msg)].getD 0 default).evs).getD k9 default))) : Value)) ∧ Sep G183 w175 ((SetO b54 (1 + q6) (addL (1 + q6) ((laidL (1 + q6) l).take (j9 + k9)) ((([(⟨3, 0, 1, [], (((laidL (1 + q6) l).drop j9).take (1 + q12))⟩ : Msg)].getD 0 default).evs).getD k9 default))) :: (SetO b18 (1 + q6) (laidL (1 + q6) l)) :: (RowE (α := Int) own 3 v146 (vecE (1 + q6) ((laidL (1 + q6) l).take j9))) :: Rs) wq]) (AF [Vl 0 (v174), Vl 1 (.pointer (some ⟨sb v174, so v174 + 0 * 5, none⟩)), Vl 2 (.pointer (some ⟨sb v174, so v174 + 0 * 5 + 4, none⟩)), Vl 3 ((cellV w175 (sb v174) (so v174 + 0 * 5 + 4))), Vl 4 (.int .i64 ((k9 : Nat) : Int)), Vl 5 (.pointer (some ⟨sb (cellV w175 (sb v174) (so v174 + 0 * 5 + 4)), so (cellV w175 (sb v174) (so v174 + 0 * 5 + 4)) + k9 * 10, none⟩)), Vl 6 (.agg (((([(⟨3, 0, 1, [], (((laidL (1 + q6) l).drop j9).take (1 + q12))⟩ : Msg)].getD 0 default).evs).getD k9 default).cells (cellV w175 (sb (cellV w175 (sb v174) (so v174 + 0 * 5 + 4))) (so (cellV w175 (sb v174) (so v174 + 0 * 5 + 4)) + k9 * 10 + 3))).toArray), Vl 7 (v34), Vl 8 (.int .i64 ((j9 : Nat) : Int)), Vl 9 (.int .i64 ((k9 : Nat) : Int)), Vl 10 (.int .i64 ((j9 + k9 : Nat) : Int)), Vl 11 (.pointer (some ⟨sb v34, so v34 + (j9 + k9) * 10, none⟩)), Vl 12 (.agg (((laidL (1 + q6) l).getD (j9 + k9) default).cells (cellV w175 (sb v34) (so v34 + (j9 + k9) * 10 + 3))).toArray), fun _ => True, Vl 14 (.bool false), Vl 15 (.bool false), Vl 16 (.pointer (some ⟨b54, 0, none⟩)), Vl 17 (v174), Vl 18 (.pointer (some ⟨sb v174, so v174 + 0 * 5, none⟩)), Vl 19 (.pointer (some ⟨sb v174, so v174 + 0 * 5 + 4, none⟩)), Vl 20 ((cellV w175 (sb v174) (so v174 + 0 * 5 + 4))), Vl 21 (.int .i64 ((k9 : Nat) : Int)), Vl 22 (.pointer (some ⟨sb (cellV w175 (sb v174) (so v174 + 0 * 5 + 4)), so (cellV w175 (sb v174) (so v174 + 0 * 5 + 4)) + k9 * 10, none⟩)), Vl 23 (.agg (((([(⟨3, 0, 1, [], (((laidL (1 + q6) l).drop j9).take (1 + q12))⟩ : Msg)].getD 0 default).evs).getD k9 default).cells (cellV w175 (sb (cellV w175 (sb v174) (so v174 + 0 * 5 + 4))) (so (cellV w175 (sb v174) (so v174 + 0 * 5 + 4)) + k9 * 10 + 3))).toArray), fun _ => True, Vl 25 (.bool false), Vl 26 (.bool false)]) [[], [0], [0, 1], [0, 1, 2], [], [0, 1, 2, 3, 4], [0, 1, 2, 3, 4, 5], [], [], [], [8, 9], [7, 8, 9, 10], [7, 8, 9, 10, 11], [0, 1, 2, 3, 4, 5, 6, 7, 8, 9, 10, 11, 12], [0, 1, 2, 3, 4, 5, 6, 7, 8, 9, 10, 11, 12, 13], [0, 1, 2, 3, 4, 5, 6, 7, 8, 9, 10, 11, 12, 13, 14], [0, 1, 2, 3, 4, 5, 6, 7, 8, 9, 10, 11, 12, 13, 14, 15], [0, 1, 2, 3, 4, 5, 6, 7, 8, 9, 10, 11, 12, 13, 14, 15], [0, 1, 2, 3, 4, 5, 6, 7, 8, 9, 10, 11, 12, 13, 14, 15, 17], [0, 1, 2, 3, 4, 5, 6, 7, 8, 9, 10, 11, 12, 13, 14, 15, 17, 18], [0, 1, 2, 3, 4, 5, 6, 7, 8, 9, 10, 11, 12, 13, 14, 15, 17, 18, 19], [0, 1, 2, 3, 4, 5, 6, 7, 8, 9, 10, 11, 12, 13, 14, 15], [0, 1, 2, 3, 4, 5, 6, 7, 8, 9, 10, 11, 12, 13, 14, 15, 17, 18, 19, 20, 21], [0, 1, 2, 3, 4, 5, 6, 7, 8, 9, 10, 11, 12, 13, 14, 15, 17, 18, 19, 20, 21, 22], [0, 1, 2, 3, 4, 5, 6, 7, 8, 9, 10, 11, 12, 13, 14, 15, 16, 17, 18, 19, 20, 21, 22, 23], [0, 1, 2, 3, 4, 5, 6, 7, 8, 9, 10, 11, 12, 13, 14, 15, 16, 17, 18, 19, 20, 21, 22, 23, 24], [0, 1, 2, 3, 4, 5, 6, 7, 8, 9, 10, 11, 12, 13, 14, 15, 16, 17, 18, 19, 20, 21, 22, 23, 24, 25]] [13, 24] [(0, 0), (0, 0), (0, 0), (0, 0), (0, 0), (0, 0), (0, 0), (0, 0), (0, 0), (0, 0), (0, 0), (0, 0), (0, 0), (0, 0), (1, 1), (1, 1), (1, 1), (1, 1), (1, 1), (1, 1), (1, 1), (1, 1), (1, 1), (1, 1), (1, 1), (2, 2), (2, 2)] (by kernel_rfl) (by kernel_rfl) (by kernel_rfl) rfl (by kernel_rfl) (by kernel_rfl) (fun _ h1 h2 h3 h4 _ => hS206.same h1 h2 h3 h4) ?_ (AF_loc ⟨dA, dA, dA, dA, dA, dA, dA, dA, dA, dA, dA, dA, dA, dT, dA, dA, dA, dA, dA, dA, dA, dA, dA, dA, dT, dA, dA, trivial⟩) ⟨?_, ?_, ?_, ?_, ?_, ?_, ?_, ?_, ?_, ?_, ?_, ?_, ?_, ?_, ?_, ?_, ?_, ?_, ?_, ?_, ?_, ?_, ?_, ?_, ?_, ?_, ?_, trivial⟩ ?_
    ·intro k vals vals' w hv h
     have e : ∀ j ∈ ([13, 24] : List Nat), vals' j = vals j := hv
     match k, h with
     | 0, h => exact h
     | 1, h => exact (by simpa only [WF, List.getElem?_cons_zero, List.getElem?_cons_succ, e 13 (by decide)] using h)
     | 2, h => exact (by simpa only [WF, List.getElem?_cons_zero, List.getElem?_cons_succ, e 13 (by decide), e 24 (by decide)] using h)
     | _ + 3, _ => trivial
    ·intro k471 vals w472 h475 h476 hW474 hA473
     refine obl rfl ?_
     exact ov_move (v := v174) rfl (fun vals' hv _ => ⟨rfl, hv⟩)
    ·intro k477 vals w478 h481 h482 hW480 hA479
     obtain rfl : k477 = 0 := Nat.le_antisymm h482 h481
     have hS483 : Sep G183 w175 ((SetO b18 (1 + q6) (laidL (1 + q6) l)) :: (RowE (α := Int) own 3 v146 (vecE (1 + q6) ((laidL (1 + q6) l).take j9))) :: (SetO b54 (1 + q6) ((laidL (1 + q6) l).take (j9 + k9))) :: Rs) w478 := hW480
     have e484 := hA479 0 (by decide)
     refine obl rfl ?_
     have hi485 : 0 < [(⟨3, 0, 1, [], (((laidL (1 + q6) l).drop j9).take (1 + q12))⟩ : Msg)].length := (by first | omega | (simp only [lens]; omega))
     exact ov_indexAddrN (k := 5) (i := 0) Try.underlying58 Try.sizeOf57 e484 hrd189.sl rfl hi485 (fun vals' hv _ => ⟨rfl, hv⟩)
    ·intro k486 vals w487 h490 h491 hW489 hA488
     have e492 := hA488 1 (by decide)
     refine obl rfl ?_
     exact fd57_4 e492 (fun vals' hv _ => ⟨rfl, hv⟩)
    ·intro k493 vals w494 h497 h498 hW496 hA495
     obtain rfl : k493 = 0 := Nat.le_antisymm h498 h497
     have hS499 : Sep G183 w175 ((SetO b18 (1 + q6) (laidL (1 + q6) l)) :: (RowE (α := Int) own 3 v146 (vecE (1 + q6) ((laidL (1 + q6) l).take j9))) :: (SetO b54 (1 + q6) ((laidL (1 + q6) l).take (j9 + k9))) :: Rs) w494 := hW496
     have e500 := hA495 2 (by decide)
     refine obl rfl ?_
     have hcw502 := hS499.cells hce192 (hrd189.foot (ne_of_lt hi193))
     exact ov_load1 (v := (cellV w175 (sb v174) (so v174 + 0 * 5 + 4))) Try.isAgg22 e500 (hcw502.get (j := 4) rfl) (fun vals' hv _ => ⟨rfl, hv⟩)
    ·intro k503 vals w504 h507 h508 hW506 hA505
     refine obl rfl ?_
     exact ov_move (v := .int .i64 ((k9 : Nat) : Int)) rfl (fun vals' hv _ => ⟨rfl, hv⟩)
    ·intro k509 vals w510 h513 h514 hW512 hA511
     obtain rfl : k509 = 0 := Nat.le_antisymm h514 h513
     have hS515 : Sep G183 w175 ((SetO b18 (1 + q6) (laidL (1 + q6) l)) :: (RowE (α := Int) own 3 v146 (vecE (1 + q6) ((laidL (1 + q6) l).take j9))) :: (SetO b54 (1 + q6) ((laidL (1 + q6) l).take (j9 + k9))) :: Rs) w510 := hW512
     have e516 := hA511 3 (by decide)
     have e517 := hA511 4 (by decide)
     refine obl rfl ?_
     have hi518 : k9 < (([(⟨3, 0, 1, [], (((laidL (1 + q6) l).drop j9).take (1 + q12))⟩ : Msg)].getD 0 default).evs).length := (by first | omega | (simp only [lens]; omega))
     exact ov_indexAddrN (k := 10) (i := k9) Try.underlying22 Try.sizeOf36 e516 hde192_1.sl e517 hi518 (fun vals' hv _ => ⟨rfl, hv⟩)
    ·intro k519 vals w520 h523 h524 hW522 hA521
     obtain rfl : k519 = 0 := Nat.le_antisymm h524 h523
     have hS525 : Sep G183 w175 ((SetO b18 (1 + q6) (laidL (1 + q6) l)) :: (RowE (α := Int) own 3 v146 (vecE (1 + q6) ((laidL (1 + q6) l).take j9))) :: (SetO b54 (1 + q6) ((laidL (1 + q6) l).take (j9 + k9))) :: Rs) w520 := hW522
     have e526 := hA521 5 (by decide)
     refine obl rfl ?_
     have hi528 : k9 < (([(⟨3, 0, 1, [], (((laidL (1 + q6) l).drop j9).take (1 + q12))⟩ : Msg)].getD 0 default).evs).length := (by first | omega | (simp only [lens]; omega))
     obtain ⟨hce527, hde527_0, hoke527⟩ := hde192_1.ev hi528
     rw [← getD_at default hi528] at hce527 hde527_0 hoke527
     have hsm529 : (((([(⟨3, 0, 1, [], (((laidL (1 + q6) l).drop j9).take (1 + q12))⟩ : Msg)].getD 0 default).evs).getD k9 default).deps).length * 8 ≤ 140737488355328 := hde527_0.small
     have hcw530 := hS525.cells hce527 (hde192_1.foot (ne_of_lt hi528))
     exact ov_loadk (k := 10) Try.isAgg36 Try.sizeOf36 rfl e526 hcw530 (fun vals' hv _ => ⟨rfl, hv⟩)
    ·intro k531 vals w532 h535 h536 hW534 hA533
     refine obl rfl ?_
     exact ov_move (v := v34) rfl (fun vals' hv _ => ⟨rfl, hv⟩)
    ·intro k537 vals w538 h541 h542 hW540 hA539
     refine obl rfl ?_
     exact ov_move (v := .int .i64 ((j9 : Nat) : Int)) rfl (fun vals' hv _ => ⟨rfl, hv⟩)
    ·intro k543 vals w544 h547 h548 hW546 hA545
     refine obl rfl ?_
     exact ov_move (v := .int .i64 ((k9 : Nat) : Int)) rfl (fun vals' hv _ => ⟨rfl, hv⟩)
    ·intro k549 vals w550 h553 h554 hW552 hA551
     obtain rfl : k549 = 0 := Nat.le_antisymm h554 h553
     have hS555 : Sep G183 w175 ((SetO b18 (1 + q6) (laidL (1 + q6) l)) :: (RowE (α := Int) own 3 v146 (vecE (1 + q6) ((laidL (1 + q6) l).take j9))) :: (SetO b54 (1 + q6) ((laidL (1 + q6) l).take (j9 + k9))) :: Rs) w550 := hW552
     have e556 := hA551 8 (by decide)
     have e557 := hA551 9 (by decide)
     refine obl rfl ?_
     have hr558 : InR ((j9 + k9 : Nat) : Int) := by first | omega | (simp only [lens]; omega)
     exact ov_add (r := ((j9 + k9 : Nat) : Int)) (k := .i64) (a := ((j9 : Nat) : Int)) (b := ((k9 : Nat) : Int)) e556 e557 (by rw [show (((j9 : Nat) : Int) + ((k9 : Nat) : Int) : Int) = ((j9 + k9 : Nat) : Int) by first | omega | (simp only [lens]; omega)]; exact wrap_in hr558) (fun vals' hv _ => ⟨rfl, hv⟩)
    ·intro k559 vals w560 h563 h564 hW562 hA561
     obtain rfl : k559 = 0 := Nat.le_antisymm h564 h563
     have hS565 : Sep G183 w175 ((SetO b18 (1 + q6) (laidL (1 + q6) l)) :: (RowE (α := Int) own 3 v146 (vecE (1 + q6) ((laidL (1 + q6) l).take j9))) :: (SetO b54 (1 + q6) ((laidL (1 + q6) l).take (j9 + k9))) :: Rs) w560 := hW562
     have e566 := hA561 7 (by decide)
     have e567 := hA561 10 (by decide)
     refine obl rfl ?_
     have hi568 : j9 + k9 < (laidL (1 + q6) l).length := (by first | omega | (simp only [lens]; omega))
     exact ov_indexAddrN (k := 10) (i := j9 + k9) Try.underlying22 Try.sizeOf36 e566 (RdS.base hrd46 hB186).sl e567 hi568 (fun vals' hv _ => ⟨rfl, hv⟩)
    ·intro k569 vals w570 h573 h574 hW572 hA571
     obtain rfl : k569 = 0 := Nat.le_antisymm h574 h573
     have hS575 : Sep G183 w175 ((SetO b18 (1 + q6) (laidL (1 + q6) l)) :: (RowE (α := Int) own 3 v146 (vecE (1 + q6) ((laidL (1 + q6) l).take j9))) :: (SetO b54 (1 + q6) ((laidL (1 + q6) l).take (j9 + k9))) :: Rs) w570 := hW572
     have e576 := hA571 11 (by decide)
     refine obl rfl ?_
     have hi578 : j9 + k9 < (laidL (1 + q6) l).length := (by first | omega | (simp only [lens]; omega))
     obtain ⟨hce577, hde577_0, hoke577⟩ := (RdS.base hrd46 hB186).ev hi578
     rw [← getD_at default hi578] at hce577 hde577_0 hoke577
     have hsm579 : (((laidL (1 + q6) l).getD (j9 + k9) default).deps).length * 8 ≤ 140737488355328 := hde577_0.small
     have hcw580 := hS575.cells hce577 ((RdS.base hrd46 hB186).foot (ne_of_lt hi578))
     exact ov_loadk (k := 10) Try.isAgg36 Try.sizeOf36 rfl e576 hcw580 (fun vals' hv _ => ⟨rfl, hv⟩)
    ·intro k327 vals w328 h331 h332 hW330 hA329
     obtain rfl : k327 = 0 := Nat.le_antisymm h332 h331
     have hS333 : Sep G183 w175 ((SetO b18 (1 + q6) (laidL (1 + q6) l)) :: (RowE (α := Int) own 3 v146 (vecE (1 + q6) ((laidL (1 + q6) l).take j9))) :: (SetO b54 (1 + q6) ((laidL (1 + q6) l).take (j9 + k9))) :: Rs) w328 := hW330
     have e334 := hA329 6 (by decide)
     have e335 := hA329 12 (by decide)
     refine obl rfl ?_
     have hi337 : k9 < (([(⟨3, 0, 1, [], (((laidL (1 + q6) l).drop j9).take (1 + q12))⟩ : Msg)].getD 0 default).evs).length := (by first | omega | (simp only [lens]; omega))
     obtain ⟨hce336, hde336_0, hoke336⟩ := hde192_1.ev hi337
     rw [← getD_at default hi337] at hce336 hde336_0 hoke336
     have hsm338 : (((([(⟨3, 0, 1, [], (((laidL (1 + q6) l).drop j9).take (1 + q12))⟩ : Msg)].getD 0 default).evs).getD k9 default).deps).length * 8 ≤ 140737488355328 := hde336_0.small
     have hcw339 := hS333.cells hce336 (hde192_1.foot (ne_of_lt hi337))
     have hi341 : j9 + k9 < (laidL (1 + q6) l).length := (by first | omega | (simp only [lens]; omega))
     obtain ⟨hce340, hde340_0, hoke340⟩ := (RdS.base hrd46 hB186).ev hi341
     rw [← getD_at default hi341] at hce340 hde340_0 hoke340
     have hsm342 : (((laidL (1 + q6) l).getD (j9 + k9) default).deps).length * 8 ≤ 140737488355328 := hde340_0.small
     have hcw343 := hS333.cells hce340 ((RdS.base hrd46 hB186).foot (ne_of_lt hi341))
     refine (ov_call (f := 30) (vals := [.agg (((([(⟨3, 0, 1, [], (((laidL (1 + q6) l).drop j9).take (1 + q12))⟩ : Msg)].getD 0 default).evs).getD k9 default).cells (cellV w175 (sb (cellV w175 (sb v174) (so v174 + 0 * 5 + 4))) (so (cellV w175 (sb v174) (so v174 + 0 * 5 + 4)) + k9 * 10 + 3))).toArray, .agg (((laidL (1 + q6) l).getD (j9 + k9) default).cells (cellV w175 (sb v34) (so v34 + (j9 + k9) * 10 + 3))).toArray]) (cap := []) (show _ = (.func (.func 30) #[] #[] : Value) from rfl) (mapL ⟨e334, e335, trivial⟩) Try.call30 (D_sameEvent (a := ((([(⟨3, 0, 1, [], (((laidL (1 + q6) l).drop j9).take (1 + q12))⟩ : Msg)].getD 0 default).evs).getD k9 default)) (b := ((laidL (1 + q6) l).getD (j9 + k9) default)) hde336_0 hoke336 hde340_0 hoke340 hS333) ?_)
     rintro _ w344 ⟨rfl, hS345⟩
     intro vals' hv hv'
     refine ⟨?_, trivial⟩
     show (vals' 13 = (.bool (decide (((([(⟨3, 0, 1, [], (((laidL (1 + q6) l).drop j9).take (1 + q12))⟩ : Msg)].getD 0 default).evs).getD k9 default) = ((laidL (1 + q6) l).getD (j9 + k9) default))) : Value)) ∧ Sep G183 w175 ((SetO b18 (1 + q6) (laidL (1 + q6) l)) :: (RowE (α := Int) own 3 v146 (vecE (1 + q6) ((laidL (1 + q6) l).take j9))) :: (SetO b54 (1 + q6) ((laidL (1 + q6) l).take (j9 + k9))) :: Rs) w344
     exact ⟨hv, hS345⟩
    ·intro k581 vals w582 h585 h586 hW584 hA583
     obtain rfl : k581 = 1 := Nat.le_antisymm h586 h585
     obtain ⟨he346, hS587⟩ := hW584
     refine obl rfl ?_
     have hl588 : (!(decide (((([(⟨3, 0, 1, [], (((laidL (1 + q6) l).drop j9).take (1 + q12))⟩ : Msg)].getD 0 default).evs).getD k9 default) = ((laidL (1 + q6) l).getD (j9 + k9) default)))) = false := by rw [decide_eq_true (show ([(⟨3, 0, 1, [], (((laidL (1 + q6) l).drop j9).take (1 + q12))⟩ : Msg)].getD 0 default).evs.getD k9 default = (laidL (1 + q6) l).getD (j9 + k9) default from hoc9)]; rfl
     exact ov_not (a := decide (((([(⟨3, 0, 1, [], (((laidL (1 + q6) l).drop j9).take (1 + q12))⟩ : Msg)].getD 0 default).evs).getD k9 default) = ((laidL (1 + q6) l).getD (j9 + k9) default))) he346 (fun vals' hv _ => ⟨rfl, hv.trans (congrArg Value.bool hl588)⟩)
    ·intro k589 vals w590 h593 h594 hW592 hA591
     have e595 := hA591 14 (by decide)
     refine obl rfl ?_
     exact ov_move (v := .bool false) e595 (fun vals' hv _ => ⟨rfl, hv⟩)
    ·intro k596 vals w597 h600 h601 hW599 hA598
     have e602 := hA598 15 (by decide)
     refine oblc rfl rfl e602 (fun _ => ?_) (fun hb => absurd rfl hb)
     exact ov_move (v := .pointer (some ⟨b54, 0, none⟩)) rfl (fun vals' hv _ => ⟨rfl, hv⟩)
    ·intro k603 vals w604 h607 h608 hW606 hA605
     have e609 := hA605 15 (by decide)
     refine oblc rfl rfl e609 (fun _ => ?_) (fun hb => absurd rfl hb)
     exact ov_move (v := v174) rfl (fun vals' hv _ => ⟨rfl, hv⟩)
    ·intro k610 vals w611 h614 h615 hW613 hA612
     obtain rfl : k610 = 1 := Nat.le_antisymm h615 h614
     obtain ⟨he346, hS616⟩ := hW613
     have e617 := hA612 15 (by decide)
     have e618 := hA612 17 (by decide)
     refine oblc rfl rfl e617 (fun _ => ?_) (fun hb => absurd rfl hb)
     have hi619 : 0 < [(⟨3, 0, 1, [], (((laidL (1 + q6) l).drop j9).take (1 + q12))⟩ : Msg)].length := (by first | omega | (simp only [lens]; omega))
     exact ov_indexAddrN (k := 5) (i := 0) Try.underlying58 Try.sizeOf57 e618 hrd189.sl rfl hi619 (fun vals' hv _ => ⟨rfl, hv⟩)
    ·intro k620 vals w621 h624 h625 hW623 hA622
     have e626 := hA622 15 (by decide)
     have e627 := hA622 18 (by decide)
     refine oblc rfl rfl e626 (fun _ => ?_) (fun hb => absurd rfl hb)
     exact fd57_4 e627 (fun vals' hv _ => ⟨rfl, hv⟩)
    ·intro k628 vals w629 h632 h633 hW631 hA630
     obtain rfl : k628 = 1 := Nat.le_antisymm h633 h632
     obtain ⟨he346, hS634⟩ := hW631
     have e635 := hA630 15 (by decide)
     have e636 := hA630 19 (by decide)
     refine oblc rfl rfl e635 (fun _ => ?_) (fun hb => absurd rfl hb)
     have hcw638 := hS634.cells hce192 (hrd189.foot (ne_of_lt hi193))
     exact ov_load1 (v := (cellV w175 (sb v174) (so v174 + 0 * 5 + 4))) Try.isAgg22 e636 (hcw638.get (j := 4) rfl) (fun vals' hv _ => ⟨rfl, hv⟩)
    ·intro k639 vals w640 h643 h644 hW642 hA641
     have e645 := hA641 15 (by decide)
     refine oblc rfl rfl e645 (fun _ => ?_) (fun hb => absurd rfl hb)
     exact ov_move (v := .int .i64 ((k9 : Nat) : Int)) rfl (fun vals' hv _ => ⟨rfl, hv⟩)
    ·intro k646 vals w647 h650 h651 hW649 hA648
     obtain rfl : k646 = 1 := Nat.le_antisymm h651 h650
     obtain ⟨he346, hS652⟩ := hW649
     have e653 := hA648 15 (by decide)
     have e654 := hA648 20 (by decide)
     have e655 := hA648 21 (by decide)
     refine oblc rfl rfl e653 (fun _ => ?_) (fun hb => absurd rfl hb)
     have hi656 : k9 < (([(⟨3, 0, 1, [], (((laidL (1 + q6) l).drop j9).take (1 + q12))⟩ : Msg)].getD 0 default).evs).length := (by first | omega | (simp only [lens]; omega))
     exact ov_indexAddrN (k := 10) (i := k9) Try.underlying22 Try.sizeOf36 e654 hde192_1.sl e655 hi656 (fun vals' hv _ => ⟨rfl, hv⟩)
    ·intro k657 vals w658 h661 h662 hW660 hA659
     obtain rfl : k657 = 1 := Nat.le_antisymm h662 h661
     obtain ⟨he346, hS663⟩ := hW660
     have e664 := hA659 15 (by decide)
     have e665 := hA659 22 (by decide)
     refine oblc rfl rfl e664 (fun _ => ?_) (fun hb => absurd rfl hb)
     have hi667 : k9 < (([(⟨3, 0, 1, [], (((laidL (1 + q6) l).drop j9).take (1 + q12))⟩ : Msg)].getD 0 default).evs).length := (by first | omega | (simp only [lens]; omega))
     obtain ⟨hce666, hde666_0, hoke666⟩ := hde192_1.ev hi667
     rw [← getD_at default hi667] at hce666 hde666_0 hoke666
     have hsm668 : (((([(⟨3, 0, 1, [], (((laidL (1 + q6) l).drop j9).take (1 + q12))⟩ : Msg)].getD 0 default).evs).getD k9 default).deps).length * 8 ≤ 140737488355328 := hde666_0.small
     have hcw669 := hS663.cells hce666 (hde192_1.foot (ne_of_lt hi667))
     exact ov_loadk (k := 10) Try.isAgg36 Try.sizeOf36 rfl e665 hcw669 (fun vals' hv _ => ⟨rfl, hv⟩)
    ·intro k436 vals w437 h440 h441 hW439 hA438
     obtain rfl : k436 = 1 := Nat.le_antisymm h441 h440
     obtain ⟨he346, hS442⟩ := hW439
     have e443 := hA438 15 (by decide)
     have e444 := hA438 16 (by decide)
     have e445 := hA438 23 (by decide)
     refine oblc rfl rfl e443 (fun _ => ?_) (fun hb => absurd rfl hb)
     have hi447 : k9 < (([(⟨3, 0, 1, [], (((laidL (1 + q6) l).drop j9).take (1 + q12))⟩ : Msg)].getD 0 default).evs).length := (by first | omega | (simp only [lens]; omega))
     obtain ⟨hce446, hde446_0, hoke446⟩ := hde192_1.ev hi447
     rw [← getD_at default hi447] at hce446 hde446_0 hoke446
     have hsm448 : (((([(⟨3, 0, 1, [], (((laidL (1 + q6) l).drop j9).take (1 + q12))⟩ : Msg)].getD 0 default).evs).getD k9 default).deps).length * 8 ≤ 140737488355328 := hde446_0.small
     have hcw449 := hS442.cells hce446 (hde192_1.foot (ne_of_lt hi447))
     have hS450 : Sep G183 w175 ((SetO b54 (1 + q6) ((laidL (1 + q6) l).take (j9 + k9))) :: (SetO b18 (1 + q6) (laidL (1 + q6) l)) :: (RowE (α := Int) own 3 v146 (vecE (1 + q6) ((laidL (1 + q6) l).take j9))) :: Rs) w437 := hS442.sel 3 [2, 0, 1] (Nat.le_add_left _ _) rfl rfl
     refine (ov_call (f := 21) (vals := [.pointer (some ⟨b54, 0, none⟩), .agg (((([(⟨3, 0, 1, [], (((laidL (1 + q6) l).drop j9).take (1 + q12))⟩ : Msg)].getD 0 default).evs).getD k9 default).cells (cellV w175 (sb (cellV w175 (sb v174) (so v174 + 0 * 5 + 4))) (so (cellV w175 (sb v174) (so v174 + 0 * 5 + 4)) + k9 * 10 + 3))).toArray]) (cap := []) (show _ = (.func (.func 21) #[] #[] : Value) from rfl) (mapL ⟨e444, e445, trivial⟩) Try.call21 (D_AddM (e := ((([(⟨3, 0, 1, [], (((laidL (1 + q6) l).drop j9).take (1 + q12))⟩ : Msg)].getD 0 default).evs).getD k9 default)) hde446_0 hoke446 hS450 ((by rw [List.length_take]; omega)) ((hG9.prefix _ (by omega)).len)) ?_)
     rintro _ w451 ⟨rfl, hS452⟩
     intro vals' hv hv'
     refine ⟨?_, trivial⟩
     show (vals' 13 = (.bool (decide (((([(⟨3, 0, 1, [], (((laidL (1 + q6) l).drop j9).take (1 + q12))⟩ : Msg)].getD 0 default).evs).getD k9 default) = ((laidL (1 + q6) l).getD (j9 + k9) default))) : Value)) ∧ (vals' 24 = (.int .i64 ((addE (1 + q6) ((laidL (1 + q6) l).take (j9 + k9)) ((([(⟨3, 0, 1, [], (((laidL (1 + q6) l).drop j9).take (1 + q12))⟩ : Msg)].getD 0 default).evs).getD k9 default))) : Value)) ∧ Sep G183 w175 ((SetO b54 (1 + q6) (addL (1 + q6) ((laidL (1 + q6) l).take (j9 + k9)) ((([(⟨3, 0, 1, [], (((laidL (1 + q6) l).drop j9).take (1 + q12))⟩ : Msg)].getD 0 default).evs).getD k9 default))) :: (SetO b18 (1 + q6) (laidL (1 + q6) l)) :: (RowE (α := Int) own 3 v146 (vecE (1 + q6) ((laidL (1 + q6) l).take j9))) :: Rs) w451
     exact ⟨(by rw [hv' 13 (by decide)]; exact he346), hv, hS452⟩
    ·intro k670 vals w671 h674 h675 hW673 hA672
     obtain rfl : k670 = 2 := Nat.le_antisymm h675 h674
     obtain ⟨he346, he453, hS676⟩ := hW673
     have e677 := hA672 15 (by decide)
     refine oblc rfl rfl e677 (fun _ => ?_) (fun hb => absurd rfl hb)
     have hl678 : (!decide ((addE (1 + q6) ((laidL (1 + q6) l).take (j9 + k9)) ((([(⟨3, 0, 1, [], (((laidL (1 + q6) l).drop j9).take (1 + q12))⟩ : Msg)].getD 0 default).evs).getD k9 default)) = 0)) = false := by rw [hoe9]; rfl
     exact ov_neq (k := .i64) (a := (addE (1 + q6) ((laidL (1 + q6) l).take (j9 + k9)) ((([(⟨3, 0, 1, [], (((laidL (1 + q6) l).drop j9).take (1 + q12))⟩ : Msg)].getD 0 default).evs).getD k9 default))) (b := 0) he453 rfl (fun vals' hv _ => ⟨rfl, hv.trans (congrArg Value.bool hl678)⟩)
    ·intro k679 vals w680 h683 h684 hW682 hA681
     have e685 := hA681 15 (by decide)
     have e686 := hA681 25 (by decide)
     refine obl rfl ?_
     exact ov_pick_f (v := .bool false) e685 e686 (fun vals' hv _ => ⟨rfl, hv⟩)
    intro vals w687 hW688 hA689
    obtain ⟨he346, he453, hS690⟩ := hW688
    have e691 := hA689 26 (by decide)
    refine st_env (kv := [(3, .int .i64 ((1 + q12 : Nat) : Int)), (9, .pointer (some ⟨b18, 0, none⟩)), (10, v34), (11, .pointer (some ⟨b54, 0, none⟩)), (12, .int .i64 ((j9 : Nat) : Int)), (13, v174), (14, .int .i64 ((k9 : Nat) : Int)), (78, .int .i64 ((k9 : Nat) : Int)), (79, v174), (80, .pointer (some ⟨sb v174, so v174 + 0 * 5, none⟩)), (81, .pointer (some ⟨sb v174, so v174 + 0 * 5 + 4, none⟩)), (82, (cellV w175 (sb v174) (so v174 + 0 * 5 + 4))), (83, .int .i64 (((([(⟨3, 0, 1, [], (((laidL (1 + q6) l).drop j9).take (1 + q12))⟩ : Msg)].getD 0 default).evs).length : Nat) : Int)), (84, .bool true), (113, .bool false)]) ⟨rfl, rfl, rfl, rfl, rfl, rfl, rfl, rfl, rfl, rfl, rfl, rfl, rfl, rfl, (by exact e691), trivial⟩ (fun ρw687 => ?_)
    refine st_nil ?_
    refine WP_cond_f rfl ?_
    refine WP_skip ?_
    have hof9 : (addL (1 + q6) ((laidL (1 + q6) l).take (j9 + k9)) ((([(⟨3, 0, 1, [], (((laidL (1 + q6) l).drop j9).take (1 + q12))⟩ : Msg)].getD 0 default).evs).getD k9 default)) = (laidL (1 + q6) l).take (j9 + (k9 + 1)) := hob9
    rw [hof9] at hS690
    have hS692 : Sep G183 w175 ((SetO b54 (1 + q6) ((laidL (1 + q6) l).take (j9 + (k9 + 1)))) :: (SetO b18 (1 + q6) (laidL (1 + q6) l)) :: (RowE (α := Int) own 3 v146 (vecE (1 + q6) ((laidL (1 + q6) l).take j9))) :: Rs) w687 := hS690
    refine WP_region0 (by kernel_rfl) (fun _ => ?_)
    refine st (ov_move (v := .int .i64 ((k9 : Nat) : Int)) rfl ?_)
    have hr693 : InR ((k9 + 1 : Nat) : Int) := by first | omega | (simp only [lens]; omega)
    refine st (ov_add (r := ((k9 + 1 : Nat) : Int)) (k := .i64) (a := ((k9 : Nat) : Int)) (b := 1) rfl rfl (by rw [show (((k9 : Nat) : Int) + 1 : Int) = ((k9 + 1 : Nat) : Int) by first | omega | (simp only [lens]; omega)]; exact wrap_in hr693) ?_)
    refine st (ov_assign (v := .int .i64 ((k9 + 1 : Nat) : Int)) rfl ?_)
    refine st_nil ?_
    have hS694 : Sep G183 w175 ((SetO b18 (1 + q6) (laidL (1 + q6) l)) :: (RowE (α := Int) own 3 v146 (vecE (1 + q6) ((laidL (1 + q6) l).take j9))) :: (SetO b54 (1 + q6) ((laidL (1 + q6) l).take (j9 + (k9 + 1)))) :: Rs) w687 := hS692.sel 3 [1, 2, 0] (Nat.le_add_left _ _) rfl rfl
    exact ⟨_, by omega, k9 + 1, _, rfl, setAll_self ⟨rfl, rfl, rfl, rfl, rfl, rfl, rfl, trivial⟩, by omega, hS694⟩
 ·skip
  have hc5r := hc5
  refine WP_cond_t rfl ?_
  refine WP_seq ?_
  refine WP_region0 (by kernel_rfl) (fun _ => ?_)
  refine st (ov_call (f := 39) (vals := []) (cap := []) (show _ = (.func (.func 39) #[] #[] : Value) from rfl) rfl Try.call39 (D_known27  hS4) ?_)
  rintro _ w695 ⟨rfl, hS696⟩
  refine st (ov_assign (v := .bool true) rfl ?_)
  refine st_nil ?_
  refine WP_ret ?_
  refine fin1 Try.results12 (show _ = (.bool true : Value) from rfl) ?_
  refine ⟨rfl, hS696⟩

end Go.Proofs.Ytgjgmojjeehieaa
end

section
/- Steps of the proofs of this seat: part E12. -/
set_option linter.unusedSimpArgs false
set_option linter.unusedVariables false
set_option maxRecDepth 8000
set_option maxHeartbeats 4000000
namespace Go.Proofs.Ytgjgmojjeehieaa
open Go.Proofs Go.RowKit

theorem C_TalkOnce {W : World} {z0 : Int} (hz0 : InR z0) {vz1 : Value} {z1 : List Ev} (hz1 : RdS W (inHeap W) vz1 z1) {z2 : Int} (hz2 : InR z2) {z3 : Int} (hz3 : InR z3) : Ret Try.prog 12 [.int .i64 z0, vz1, .int .i64 z2, .int .i64 z3] W (fun r w' => r = .bool true ∧ Ext W w') :=
  Ret.mono (D_TalkOnce hz0 hz1 hz2 hz3 (Sep.start W)) (fun v w' ⟨h1, h2⟩ => ⟨h1, h2.fin⟩)
end Go.Proofs.Ytgjgmojjeehieaa
end
