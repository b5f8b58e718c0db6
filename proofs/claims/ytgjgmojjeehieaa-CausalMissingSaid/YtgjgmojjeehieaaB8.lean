/- Steps of the proofs of this seat: part B8. -/
import Derived.Test.YtgjgmojjeehieaaB7
set_option linter.unusedSimpArgs false
set_option linter.unusedVariables false
set_option maxRecDepth 8000
set_option maxHeartbeats 4000000
namespace Go.Proofs.Ytgjgmojjeehieaa
open Go.Proofs Go.RowKit

section
variable {n : Nat} {S : List Ev} {j : Nat}
theorem laid_prefix (hG : Good n S) : ∀ (k : Nat), k ≤ S.length → laidL n (S.take k) = S.take k
  | 0, _ => rfl
  | k + 1, hk => by
    rw [take_snoc (by omega), laidL_snoc, laid_prefix hG k (by omega), addL_yes (hG.step (by omega) (hG.prefix k (by omega))), hG.ins_take (by omega), ← take_snoc (by omega)]
theorem add_take (hG : Good n S) (hj : j < S.length) : addE n (S.take j) (S.getD j default) = 0 ∧ addL n (S.take j) (S.getD j default) = S.take (j + 1) := by
  have h0 := hG.step hj (hG.prefix j (Nat.le_of_lt hj))
  exact ⟨h0, by rw [addL_yes h0, hG.ins_take hj]⟩
theorem cnt_take {i o : Nat} (h : j ≤ i) : cntE (S.take j) o ≤ cntE (S.take i) o := by
  unfold cntE
  have e : S.take j = (S.take i).take j := by rw [List.take_take, Nat.min_eq_left h]
  rw [e]
  exact List.Sublist.length_le ((List.take_sublist j (S.take i)).filter _)
theorem miss_at (hG : Good n S) (hj : j ≤ S.length) {i : Nat} (hi : i < S.length) : missE (vecE n (S.take j)) (S.getD i default) = decide (j ≤ i) := by
  obtain ⟨⟨h0, h1⟩, _⟩ := check_ok (hG.chk _ (getD_mem hi))
  have hv : vget (vecE n (S.take j)) (S.getD i default).origin = ((cntE (S.take j) (S.getD i default).origin.toNat : Nat) : Int) := by
    unfold vget
    rw [if_neg (by rw [vecE_len]; omega), vecE_at (by omega)]; omega
  unfold missE
  rw [hv]
  by_cases h : j ≤ i
  · have h2 := hG.seq_at hi
    have h3 := cnt_take (S := S) (o := (S.getD i default).origin.toNat) h
    rw [decide_eq_true h, decide_eq_true (by omega)]
  · have h2 := (hG.prefix j hj).seqle _ (take_mem (L := S) (i := i) (j := j) (by omega) hi)
    rw [decide_eq_false h, decide_eq_false (by omega)]
theorem miss_drop (hG : Good n S) (hj : j ≤ S.length) : S.filter (missE (vecE n (S.take j))) = S.drop j := by
  have h1 : (S.take j).filter (missE (vecE n (S.take j))) = [] := by
    rw [List.filter_eq_nil_iff]
    intro x hx
    obtain ⟨i, h1, h2, rfl⟩ := mem_take hx
    rw [miss_at hG hj h2]
    simpa using h1
  have h2 : (S.drop j).filter (missE (vecE n (S.take j))) = S.drop j := by
    rw [List.filter_eq_self]
    intro x hx
    obtain ⟨i, hi, rfl⟩ := List.getElem_of_mem hx
    rw [List.length_drop] at hi
    rw [List.getElem_drop, ← getD_at default (by omega), miss_at hG hj (by omega)]
    simp
  have key : (S.take j ++ S.drop j).filter (missE (vecE n (S.take j))) = S.drop j := by rw [List.filter_append, h1, h2, List.nil_append]
  rw [List.take_append_drop] at key; exact key
theorem missL_drop (hG : Good n S) (hj : j ≤ S.length) {most : Int} : missL S (vecE n (S.take j)) most = (S.drop j).take most.toNat := by unfold missL; rw [miss_drop hG hj]
theorem missL_none (hG : Good n S) (hj : j = S.length) {most : Int} : missL (S.take j) (vecE n S) most = [] := by
  subst hj
  have := missL_drop hG (Nat.le_refl S.length) (most := most)
  rw [List.take_length] at this ⊢
  rw [this, List.drop_length, List.take_nil]
theorem piece_at {k m : Nat} (h : k < ((S.drop j).take m).length) : ((S.drop j).take m).getD k default = S.getD (j + k) default ∧ j + k < S.length := by
  have h' := h
  rw [List.length_take, List.length_drop] at h'
  refine ⟨?_, by omega⟩
  rw [getD_at _ h, getD_at _ (by omega), List.getElem_take, List.getElem_drop]
end
theorem D_CausalMissing {G : Nat → Prop} {W w : World} {Rs : List HP} {n : Int} (hn : InR n) {vl : Value} {l : List Ev} (hl : RdS W G vl l) {a : Int} (ha : InR a) {c : Int} (hc : InR c) (hS0 : Sep G W Rs w) : Ret Try.prog 4 [.int .i64 (n), vl, .int .i64 (a), .int .i64 (c)] w (fun r w' => r = (.bool true : Value) ∧ Sep G W Rs w') := by
 have hls : l.length * 96 ≤ 140737488355328 := hl.small
 refine Calls_of_WP (args := [.int .i64 (n), vl, .int .i64 (a), .int .i64 (c)]) Try.func4 rfl rfl ?_
 refine WP_seq ?_
 refine WP_region0 (by kernel_rfl) (fun _ => ?_)
 refine st (ov_assign (v := .bool false) rfl ?_)
 refine st_nil ?_
 refine WP_seq ?_
 refine WP_seq ?_
 refine WP_region0 (by kernel_rfl) (fun _ => ?_)
 refine st (ov_move (v := vl) rfl ?_)
 refine st (ov_call (f := 15) (vals := [vl]) (cap := []) (show _ = (.func (.func 15) #[] #[] : Value) from rfl) rfl Try.call15 (D_long (l := l) (vl := vl) hl hS0) ?_)
 rintro _ w3 ⟨b1, rfl, hb2, hS4⟩
 refine st_nil ?_
 cases hc5 : b1
 ·skip
  have hc5r := hc5
  obtain ⟨hf9, _⟩ := hb2 hc5r
  refine WP_cond_f rfl ?_
  refine WP_skip ?_
  refine WP_seq ?_
  refine WP_region0 (by kernel_rfl) (fun _ => ?_)
  refine st (ov_move (v := .int .i64 (n)) rfl ?_)
  refine st (ov_call (f := 17) (vals := [.int .i64 (n), .int .i64 (64)]) (cap := []) (show _ = (.func (.func 17) #[] #[] : Value) from rfl) rfl Try.call17 (D_PickF (x := n) (n := 64) hn (by first | omega | (refine ⟨?_, ?_⟩ <;> omega)) hS4) ?_)
  rintro _ w9 ⟨q6, rfl, hq7, hqe8, hS10⟩
  have hr11 : InR ((1 + q6 : Nat) : Int) := by first | omega | (simp only [lens]; omega)
  refine st (ov_add (r := ((1 + q6 : Nat) : Int)) (k := .i64) (a := 1) (b := ((q6 : Nat) : Int)) rfl rfl (by rw [show (1 + ((q6 : Nat) : Int) : Int) = ((1 + q6 : Nat) : Int) by first | omega | (simp only [lens]; omega)]; exact wrap_in hr11) ?_)
  refine st (ov_assign (v := .int .i64 ((1 + q6 : Nat) : Int)) rfl ?_)
  refine st_nil ?_
  refine WP_seq ?_
  refine WP_region0 (by kernel_rfl) (fun _ => ?_)
  refine st (ov_move (v := .int .i64 (c)) rfl ?_)
  refine st (ov_call (f := 17) (vals := [.int .i64 (c), .int .i64 (20)]) (cap := []) (show _ = (.func (.func 17) #[] #[] : Value) from rfl) rfl Try.call17 (D_PickF (x := c) (n := 20) hc (by first | omega | (refine ⟨?_, ?_⟩ <;> omega)) hS10) ?_)
  rintro _ w15 ⟨q12, rfl, hq13, hqe14, hS16⟩
  have hr17 : InR ((1 + q12 : Nat) : Int) := by first | omega | (simp only [lens]; omega)
  refine st (ov_add (r := ((1 + q12 : Nat) : Int)) (k := .i64) (a := 1) (b := ((q12 : Nat) : Int)) rfl rfl (by rw [show (1 + ((q12 : Nat) : Int) : Int) = ((1 + q12 : Nat) : Int) by first | omega | (simp only [lens]; omega)]; exact wrap_in hr17) ?_)
  refine st (ov_assign (v := .int .i64 ((1 + q12 : Nat) : Int)) rfl ?_)
  refine st_nil ?_
  refine WP_seq ?_
  refine WP_region0 (by kernel_rfl) (fun _ => ?_)
  refine st (ov_move (v := .int .i64 ((1 + q6 : Nat) : Int)) rfl ?_)
  refine st (ov_move (v := vl) rfl ?_)
  refine st (ov_call (f := 18) (vals := [.int .i64 ((1 + q6 : Nat) : Int), vl]) (cap := []) (show _ = (.func (.func 18) #[] #[] : Value) from rfl) rfl Try.call18 (D_laid (n := 1 + q6) (l := l) (vl := vl) (by first | omega | (refine ⟨?_, ?_⟩ <;> omega)) hl hS16 ((by first | omega | (rw [List.length_take]; omega)))) ?_)
  rintro _ w19 ⟨b18, rfl, hS20⟩
  refine st (ov_assign (v := .pointer (some ⟨b18, 0, none⟩)) rfl ?_)
  refine st_nil ?_
  refine WP_seq ?_
  refine WP_seq ?_
  refine WP_region0 (by kernel_rfl) (fun _ => ?_)
  refine st (ov_move (v := .pointer (some ⟨b18, 0, none⟩)) rfl ?_)
  refine st (ov_eqlPtr (b := b18) (o := 0) Try.underlying26 rfl ?_)
  refine st_nil ?_
  refine WP_cond_f rfl ?_
  refine WP_skip ?_
  refine WP_seq ?_
  refine WP_region0 (by kernel_rfl) (fun _ => ?_)
  refine st (ov_move (v := .pointer (some ⟨b18, 0, none⟩)) rfl ?_)
  obtain ⟨G21, hA23, hB24, hS25, hk26⟩ := hS20.lend
  obtain ⟨vv27, m28, R29, hb30, hv31, hr32⟩ := SetO.sh hA23
  have hsm33 : (vecE (1 + q6) (laidL (1 + q6) l)).length * 8 ≤ 140737488355328 := hv31.small
  refine st (ov_call (f := 19) (vals := [.pointer (some ⟨b18, 0, none⟩)]) (cap := []) (show _ = (.func (.func 19) #[] #[] : Value) from rfl) rfl Try.call19 (D_All  hA23 hS25 (by first | exact laidL_good.ids | exact (hG9.prefix _ hj9).ids) (by first | exact laidL_good.srt | exact (hG9.prefix _ hj9).srt) ((by first | exact (Nat.le_trans laidL_len (by omega)) | exact Nat.le_trans (List.length_take_le ..) (by omega)))) ?_)
  rintro v34 w35 ⟨_, rfl, hS36⟩
  have hr37 := hS36.row (i := 0) rfl
  have hr37s : (laidL (1 + q6) l).length * 96 ≤ 140737488355328 := hr37.2
  have hS38 : Sep G W ((SetO b18 (1 + q6) (laidL (1 + q6) l)) :: (RowE (α := Ev) own 36 v34 (laidL (1 + q6) l)) :: Rs) w35 := hk26 _ _ hS36
  refine st (ov_assign (v := v34) rfl ?_)
  refine st_nil ?_
  refine WP_seq ?_
  have hS39 : Sep G W ((RowE (α := Ev) own 36 v34 (laidL (1 + q6) l)) :: (SetO b18 (1 + q6) (laidL (1 + q6) l)) :: Rs) w35 := hS38.sel 2 [1, 0] (Nat.le_add_left _ _) rfl rfl
  obtain ⟨G40, hA42, hB43, hS44, hk45⟩ := hS39.lend
  have hrd46 := RowE.rd hA42
  have hrd46s : (laidL (1 + q6) l).length * 96 ≤ 140737488355328 := hrd46.small
  have hG9 : Good (1 + q6) (laidL (1 + q6) l) := laidL_good
  have hSL9 : (laidL (1 + q6) l).length ≤ l.length := laidL_len
  refine WP_region0 (by kernel_rfl) (fun _ => ?_)
  refine st (ov_move (v := .int .i64 ((1 + q6 : Nat) : Int)) rfl ?_)
  refine st (ov_move (v := v34) rfl ?_)
  refine st (ov_move (v := .int .i64 (a)) rfl ?_)
  refine st (ov_move (v := v34) rfl ?_)
  refine st (ov_len (n := (laidL (1 + q6) l).length) Try.underlying22 rfl hrd46.sl ?_)
  have hr47 : InR (((laidL (1 + q6) l).length + 1 : Nat) : Int) := by first | omega | (simp only [lens]; omega)
  refine st (ov_add (r := (((laidL (1 + q6) l).length + 1 : Nat) : Int)) (k := .i64) (a := (((laidL (1 + q6) l).length : Nat) : Int)) (b := 1) rfl rfl (by rw [show ((((laidL (1 + q6) l).length : Nat) : Int) + 1 : Int) = (((laidL (1 + q6) l).length + 1 : Nat) : Int) by first | omega | (simp only [lens]; omega)]; exact wrap_in hr47) ?_)
  refine st (ov_call (f := 17) (vals := [.int .i64 (a), .int .i64 (((laidL (1 + q6) l).length + 1 : Nat) : Int)]) (cap := []) (show _ = (.func (.func 17) #[] #[] : Value) from rfl) rfl Try.call17 (D_PickF (x := a) (n := (laidL (1 + q6) l).length + 1) ha (by first | omega | (refine ⟨?_, ?_⟩ <;> omega)) hS44) ?_)
  rintro _ w51 ⟨q48, rfl, hq49, hqe50, hS52⟩
  refine st (ov_sliceHi (j := q48) (k := 10) (n := (laidL (1 + q6) l).length) Try.underlying22 Try.sizeOf36 rfl hrd46.sl rfl (by first | omega | (simp only [lens]; omega)) ?_)
  have h53 := RdS.sub_hi (j := q48) hrd46 (by first | omega | (simp only [List.length_drop, List.length_take]; omega))
  have h53s : ((laidL (1 + q6) l).take q48).length * 96 ≤ 140737488355328 := h53.small
  refine st (ov_call (f := 18) (vals := [.int .i64 ((1 + q6 : Nat) : Int), (subV 10 v34 0 q48)]) (cap := []) (show _ = (.func (.func 18) #[] #[] : Value) from rfl) rfl Try.call18 (D_laid (n := 1 + q6) (l := (laidL (1 + q6) l).take q48) (vl := (subV 10 v34 0 q48)) (by first | omega | (refine ⟨?_, ?_⟩ <;> omega)) h53 hS52 ((by first | omega | (rw [List.length_take]; omega)))) ?_)
  rintro _ w55 ⟨b54, rfl, hS56⟩
  refine st (ov_assign (v := .pointer (some ⟨b54, 0, none⟩)) rfl ?_)
  refine st_nil ?_
  refine WP_seq ?_
  refine WP_seq ?_
  rw [laid_prefix hG9 q48 (by omega)] at hS56
  have hS57 : Sep G40 w35 ((SetO b54 (1 + q6) ((laidL (1 + q6) l).take q48)) :: (SetO b18 (1 + q6) (laidL (1 + q6) l)) :: Rs) w55 := hS56
  have hql9 : ((laidL (1 + q6) l).take q48).length = q48 := by rw [List.length_take]; omega
  refine WP_region (by kernel_rfl) ?_
  refine st (ov_move (v := .pointer (some ⟨b54, 0, none⟩)) rfl ?_)
  refine st (ov_eqlPtr (b := b54) (o := 0) Try.underlying26 rfl ?_)
  refine st (ov_move (v := .bool false) rfl ?_)
  refine sty rfl rfl (ov_move (v := .pointer (some ⟨b54, 0, none⟩)) rfl ?_)
  obtain ⟨G58, hA60, hB61, hS62, hk63⟩ := hS57.lend
  obtain ⟨vv64, m65, R66, hb67, hv68, hr69⟩ := SetO.sh hA60
  have hsm70 : (vecE (1 + q6) ((laidL (1 + q6) l).take q48)).length * 8 ≤ 140737488355328 := hv68.small
  refine sty rfl rfl (ov_call (f := 24) (vals := [.pointer (some ⟨b54, 0, none⟩)]) (cap := []) (show _ = (.func (.func 24) #[] #[] : Value) from rfl) rfl Try.call24 (D_Len  hA60 hS62 ((hG9.prefix _ (by omega)).ids)) ?_)
  rintro _ w71 ⟨rfl, hS72⟩
  have hS73 : Sep G40 w35 ((SetO b54 (1 + q6) ((laidL (1 + q6) l).take q48)) :: (SetO b18 (1 + q6) (laidL (1 + q6) l)) :: Rs) w71 := hk63 _ _ hS72
  refine sty rfl rfl (ov_move (v := .int .i64 (a)) rfl ?_)
  refine sty rfl rfl (ov_move (v := v34) rfl ?_)
  refine sty rfl rfl (ov_len (n := (laidL (1 + q6) l).length) Try.underlying22 rfl hrd46.sl ?_)
  have hr74 : InR (((laidL (1 + q6) l).length + 1 : Nat) : Int) := by first | omega | (simp only [lens]; omega)
  refine sty rfl rfl (ov_add (r := (((laidL (1 + q6) l).length + 1 : Nat) : Int)) (k := .i64) (a := (((laidL (1 + q6) l).length : Nat) : Int)) (b := 1) rfl rfl (by rw [show ((((laidL (1 + q6) l).length : Nat) : Int) + 1 : Int) = (((laidL (1 + q6) l).length + 1 : Nat) : Int) by first | omega | (simp only [lens]; omega)]; exact wrap_in hr74) ?_)
  refine sty rfl rfl (ov_call (f := 17) (vals := [.int .i64 (a), .int .i64 (((laidL (1 + q6) l).length + 1 : Nat) : Int)]) (cap := []) (show _ = (.func (.func 17) #[] #[] : Value) from rfl) rfl Try.call17 (D_PickF (x := a) (n := (laidL (1 + q6) l).length + 1) ha (by first | omega | (refine ⟨?_, ?_⟩ <;> omega)) hS73) ?_)
  rintro _ w78 ⟨q75, rfl, hq76, hqe77, hS79⟩
  refine sty rfl rfl (ov_neq (k := .i64) (a := ((((laidL (1 + q6) l).take q48).length : Nat) : Int)) (b := ((q75 : Nat) : Int)) rfl rfl ?_)
  have hkn80 : (!decide (((((laidL (1 + q6) l).take q48).length : Nat) : Int) = ((q75 : Nat) : Int))) = false := by rw [hql9, hqe77, ← hqe50]; simp
  rw [hkn80]
  refine st (ov_pick_f (v := .bool false) rfl rfl ?_)
  refine st_nil ?_
  refine WP_cond_f rfl ?_
  refine WP_skip ?_
  refine WP_seq ?_
  refine WP_seq ?_
  refine WP_region0 (by kernel_rfl) (fun _ => ?_)
  refine st (ov_assign (v := .int .i64 (0)) rfl ?_)
  refine st_nil ?_
  refine WP_block ?_
  refine WP_loop (fun mq σ wq => ∃ (i9 : Nat) (j9 : Nat) (ρ : Env), mq = (laidL (1 + q6) l).length - j9 ∧ σ = setAll ρ [(3, .int .i64 ((1 + q12 : Nat) : Int)), (9, .pointer (some ⟨b18, 0, none⟩)), (10, v34), (11, .pointer (some ⟨b54, 0, none⟩)), (12, .int .i64 ((i9 : Nat) : Int))] ∧ (i9 ≤ j9) ∧ (j9 ≤ (laidL (1 + q6) l).length) ∧ Sep G40 w35 ((SetO b54 (1 + q6) ((laidL (1 + q6) l).take j9)) :: (SetO b18 (1 + q6) (laidL (1 + q6) l)) :: Rs) wq) ⟨0, q48, _, rfl, setAll_self ⟨rfl, rfl, rfl, rfl, rfl, trivial⟩, Nat.zero_le _, (by omega), hS79⟩ ?_
  rintro m82 σ83 w81 ⟨i9, j9, ρl1, rfl, rfl, hi9, hj9, hS84⟩
  refine WP_seq ?_
  refine WP_seq ?_
  refine WP_region0 (by kernel_rfl) (fun _ => ?_)
  refine st (ov_move (v := .int .i64 ((i9 : Nat) : Int)) rfl ?_)
  refine st (ov_move (v := v34) rfl ?_)
  refine st (ov_len (n := (laidL (1 + q6) l).length) Try.underlying22 rfl hrd46.sl ?_)
  refine st (ov_leq (k := .i64) (a := ((i9 : Nat) : Int)) (b := (((laidL (1 + q6) l).length : Nat) : Int)) rfl rfl ?_)
  refine st_nil ?_
  cases hc85 : decide (((i9 : Nat) : Int) ≤ (((laidL (1 + q6) l).length : Nat) : Int))
  ·skip
   have hc85r := hc85
   have hc85 := of_decide_eq_false hc85
   exfalso
   omega
  ·skip
   have hc85r := hc85
   have hc85 := of_decide_eq_true hc85
   refine WP_cond_t rfl ?_
   refine WP_skip ?_
   refine WP_seq ?_
   refine WP_block ?_
   refine WP_seq ?_
   refine WP_region0 (by kernel_rfl) (fun _ => ?_)
   refine st (ov_move (v := .pointer (some ⟨b18, 0, none⟩)) rfl ?_)
   refine st (ov_move (v := .pointer (some ⟨b54, 0, none⟩)) rfl ?_)
   obtain ⟨G86, hA88, hB89, hS90, hk91⟩ := hS84.lend
   obtain ⟨vv92, m93, R94, hb95, hv96, hr97⟩ := SetO.sh hA88
   have hsm98 : (vecE (1 + q6) ((laidL (1 + q6) l).take j9)).length * 8 ≤ 140737488355328 := hv96.small
   refine st (ov_call (f := 26) (vals := [.pointer (some ⟨b54, 0, none⟩)]) (cap := []) (show _ = (.func (.func 26) #[] #[] : Value) from rfl) rfl Try.call26 (D_Vec  hA88 hS90) ?_)
   rintro v99 w100 ⟨_, rfl, hS101⟩
   have hr102 := hS101.row (i := 0) rfl
   have hr102s : (vecE (1 + q6) ((laidL (1 + q6) l).take j9)).length * 8 ≤ 140737488355328 := hr102.2
   have hS103 : Sep G40 w35 ((SetO b54 (1 + q6) ((laidL (1 + q6) l).take j9)) :: (RowE (α := Int) own 3 v99 (vecE (1 + q6) ((laidL (1 + q6) l).take j9))) :: (SetO b18 (1 + q6) (laidL (1 + q6) l)) :: Rs) w100 := hk91 _ _ hS101
   refine st (ov_move (v := .int .i64 ((1 + q12 : Nat) : Int)) rfl ?_)
   have hS104 : Sep G40 w35 ((SetO b18 (1 + q6) (laidL (1 + q6) l)) :: (SetO b54 (1 + q6) ((laidL (1 + q6) l).take j9)) :: (RowE (α := Int) own 3 v99 (vecE (1 + q6) ((laidL (1 + q6) l).take j9))) :: Rs) w100 := hS103.sel 3 [2, 0, 1] (Nat.le_add_left _ _) rfl rfl
   obtain ⟨G105, hA107, hB108, hS109, hk110⟩ := hS104.lend
   obtain ⟨vv111, m112, R113, hb114, hv115, hr116⟩ := SetO.sh hA107
   have hsm117 : (vecE (1 + q6) (laidL (1 + q6) l)).length * 8 ≤ 140737488355328 := hv115.small
   have hS118 : Sep G105 w100 ((RowE (α := Int) own 3 v99 (vecE (1 + q6) ((laidL (1 + q6) l).take j9))) :: (SetO b54 (1 + q6) ((laidL (1 + q6) l).take j9)) :: Rs) w100 := hS109.sel 2 [1, 0] (Nat.le_add_left _ _) rfl rfl
   obtain ⟨G119, hA121, hB122, hS123, hk124⟩ := hS118.lend
   have hrd125 := RowE.rd hA121
   have hrd125s : (vecE (1 + q6) ((laidL (1 + q6) l).take j9)).length * 8 ≤ 140737488355328 := hrd125.small
   refine st (ov_call (f := 25) (vals := [.pointer (some ⟨b18, 0, none⟩), v99, .int .i64 ((1 + q12 : Nat) : Int)]) (cap := []) (show _ = (.func (.func 25) #[] #[] : Value) from rfl) rfl Try.call25 (D_Missing (l := vecE (1 + q6) ((laidL (1 + q6) l).take j9)) (vl := v99) (most := ((1 + q12 : Nat) : Int)) (HP.base hA107 hB122) hrd125 hr17 hS123 (by first | exact laidL_good.ids | exact (hG9.prefix _ hj9).ids) (by first | exact laidL_good.srt | exact (hG9.prefix _ hj9).srt) ((by first | exact (Nat.le_trans laidL_len (by omega)) | (rw [List.length_take]; omega)))) ?_)
   rintro v126 w127 ⟨_, rfl, hS128⟩
   have hr129 := hS128.row (i := 0) rfl
   have hr129s : (missL (laidL (1 + q6) l) (vecE (1 + q6) ((laidL (1 + q6) l).take j9)) ((1 + q12 : Nat) : Int)).length * 96 ≤ 140737488355328 := hr129.2
   have hS130 : Sep G105 w100 ((RowE (α := Int) own 3 v99 (vecE (1 + q6) ((laidL (1 + q6) l).take j9))) :: (RowE (α := Ev) own 36 v126 (missL (laidL (1 + q6) l) (vecE (1 + q6) ((laidL (1 + q6) l).take j9)) ((1 + q12 : Nat) : Int))) :: (SetO b54 (1 + q6) ((laidL (1 + q6) l).take j9)) :: Rs) w127 := hk124 _ _ hS128
   have hS131 : Sep G40 w35 ((SetO b18 (1 + q6) (laidL (1 + q6) l)) :: (RowE (α := Int) own 3 v99 (vecE (1 + q6) ((laidL (1 + q6) l).take j9))) :: (RowE (α := Ev) own 36 v126 (missL (laidL (1 + q6) l) (vecE (1 + q6) ((laidL (1 + q6) l).take j9)) ((1 + q12 : Nat) : Int))) :: (SetO b54 (1 + q6) ((laidL (1 + q6) l).take j9)) :: Rs) w127 := hk110 _ _ hS130
   refine st (ov_assign (v := v126) rfl ?_)
   refine st_nil ?_
   refine WP_seq ?_
   refine WP_seq ?_
   rw [missL_drop hG9 hj9] at hS131
   have hS132 : Sep G40 w35 ((SetO b18 (1 + q6) (laidL (1 + q6) l)) :: (RowE (α := Int) own 3 v99 (vecE (1 + q6) ((laidL (1 + q6) l).take j9))) :: (RowE (α := Ev) own 36 v126 (((laidL (1 + q6) l).drop j9).take (1 + q12))) :: (SetO b54 (1 + q6) ((laidL (1 + q6) l).take j9)) :: Rs) w127 := hS131
   have hr133 := hS132.row (i := 2) rfl
   have hr133s : (((laidL (1 + q6) l).drop j9).take (1 + q12)).length * 96 ≤ 140737488355328 := hr133.2
   have hpl9 : (((laidL (1 + q6) l).drop j9).take (1 + q12)).length = min (1 + q12) ((laidL (1 + q6) l).length - j9) := by rw [List.length_take, List.length_drop]
   refine WP_region0 (by kernel_rfl) (fun _ => ?_)
   refine st (ov_move (v := v126) rfl ?_)
   refine st (ov_len (n := (((laidL (1 + q6) l).drop j9).take (1 + q12)).length) Try.underlying22 rfl hr133.1 ?_)
   refine st (ov_move (v := .int .i64 ((1 + q12 : Nat) : Int)) rfl ?_)
   refine st (ov_gtr (k := .i64) (a := (((((laidL (1 + q6) l).drop j9).take (1 + q12)).length : Nat) : Int)) (b := ((1 + q12 : Nat) : Int)) rfl rfl ?_)
   refine st_nil ?_
   cases hc134 : decide (((1 + q12 : Nat) : Int) < (((((laidL (1 + q6) l).drop j9).take (1 + q12)).length : Nat) : Int))
   ·skip
    have hc134r := hc134
    have hc134 := of_decide_eq_false hc134
    refine WP_cond_f rfl ?_
    refine WP_skip ?_
    refine WP_seq ?_
    refine WP_seq ?_
    refine WP_region0 (by kernel_rfl) (fun _ => ?_)
    refine st (ov_move (v := v126) rfl ?_)
    refine st (ov_len (n := (((laidL (1 + q6) l).drop j9).take (1 + q12)).length) Try.underlying22 rfl hr133.1 ?_)
    refine st (ov_eql (k := .i64) (a := (((((laidL (1 + q6) l).drop j9).take (1 + q12)).length : Nat) : Int)) (b := 0) rfl rfl ?_)
    refine st_nil ?_
    cases hc135 : decide ((((((laidL (1 + q6) l).drop j9).take (1 + q12)).length : Nat) : Int) = 0)
    ·skip
     have hc135r := hc135
     have hc135 := of_decide_eq_false hc135
     refine WP_cond_f rfl ?_
     refine WP_skip ?_
     refine WP_seq ?_
     have hS136 : Sep G40 w35 ((RowE (α := Ev) own 36 v126 (((laidL (1 + q6) l).drop j9).take (1 + q12))) :: (SetO b18 (1 + q6) (laidL (1 + q6) l)) :: (RowE (α := Int) own 3 v99 (vecE (1 + q6) ((laidL (1 + q6) l).take j9))) :: (SetO b54 (1 + q6) ((laidL (1 + q6) l).take j9)) :: Rs) w127 := hS132.sel 4 [2, 0, 1, 3] (Nat.le_add_left _ _) rfl rfl
     obtain ⟨G137, hA139, hB140, hS141, hk142⟩ := hS136.lend
     have hrd143 := RowE.rd hA139
     have hrd143s : (((laidL (1 + q6) l).drop j9).take (1 + q12)).length * 96 ≤ 140737488355328 := hrd143.small
     have hpp9 : 0 < (((laidL (1 + q6) l).drop j9).take (1 + q12)).length := by omega
     refine WP_region0 (by kernel_rfl) (fun _ => ?_)
     refine st (ov_assign (v := .int .i64 (0)) rfl ?_)
     refine st_nil ?_
     refine WP_block ?_
     refine WP_loop (fun mq σ wq => ∃ (k9 : Nat) (ρ : Env), mq = (((laidL (1 + q6) l).drop j9).take (1 + q12)).length - k9 ∧ σ = setAll ρ [(3, .int .i64 ((1 + q12 : Nat) : Int)), (9, .pointer (some ⟨b18, 0, none⟩)), (10, v34), (11, .pointer (some ⟨b54, 0, none⟩)), (12, .int .i64 ((i9 : Nat) : Int)), (13, v126), (14, .int .i64 ((k9 : Nat) : Int))] ∧ (k9 ≤ (((laidL (1 + q6) l).drop j9).take (1 + q12)).length) ∧ Sep G137 w127 ((SetO b18 (1 + q6) (laidL (1 + q6) l)) :: (RowE (α := Int) own 3 v99 (vecE (1 + q6) ((laidL (1 + q6) l).take j9))) :: (SetO b54 (1 + q6) ((laidL (1 + q6) l).take (j9 + k9))) :: Rs) wq) ⟨0, _, rfl, setAll_self ⟨rfl, rfl, rfl, rfl, rfl, rfl, rfl, trivial⟩, Nat.zero_le _, hS141⟩ ?_
     rintro m145 σ146 w144 ⟨k9, ρl2, rfl, rfl, hk9, hS147⟩
     refine WP_seq ?_
     refine WP_seq ?_
     refine WP_region0 (by kernel_rfl) (fun _ => ?_)
     refine st (ov_move (v := .int .i64 ((k9 : Nat) : Int)) rfl ?_)
     refine st (ov_move (v := v126) rfl ?_)
     refine st (ov_len (n := (((laidL (1 + q6) l).drop j9).take (1 + q12)).length) Try.underlying22 rfl hrd143.sl ?_)
     refine st (ov_lss (k := .i64) (a := ((k9 : Nat) : Int)) (b := (((((laidL (1 + q6) l).drop j9).take (1 + q12)).length : Nat) : Int)) rfl rfl ?_)
     refine st_nil ?_
     cases hc148 : decide (((k9 : Nat) : Int) < (((((laidL (1 + q6) l).drop j9).take (1 + q12)).length : Nat) : Int))
     ·skip
      have hc148r := hc148
      have hc148 := of_decide_eq_false hc148
      refine WP_cond_f rfl ?_
      refine WP_exit ?_
      refine blk_exit ?_
      refine WP_region0 (by kernel_rfl) (fun _ => ?_)
      refine st (ov_move (v := .int .i64 ((i9 : Nat) : Int)) rfl ?_)
      have hr149 : InR ((i9 + 1 : Nat) : Int) := by first | omega | (simp only [lens]; omega)
      refine st (ov_add (r := ((i9 + 1 : Nat) : Int)) (k := .i64) (a := ((i9 : Nat) : Int)) (b := 1) rfl rfl (by rw [show (((i9 : Nat) : Int) + 1 : Int) = ((i9 + 1 : Nat) : Int) by first | omega | (simp only [lens]; omega)]; exact wrap_in hr149) ?_)
      refine st (ov_assign (v := .int .i64 ((i9 + 1 : Nat) : Int)) rfl ?_)
      refine st_nil ?_
      have hS150 : Sep G40 w35 ((RowE (α := Ev) own 36 v126 (((laidL (1 + q6) l).drop j9).take (1 + q12))) :: (SetO b18 (1 + q6) (laidL (1 + q6) l)) :: (RowE (α := Int) own 3 v99 (vecE (1 + q6) ((laidL (1 + q6) l).take j9))) :: (SetO b54 (1 + q6) ((laidL (1 + q6) l).take (j9 + k9))) :: Rs) w144 := hk142 _ _ hS147
      have hS151 : Sep G40 w35 ((SetO b54 (1 + q6) ((laidL (1 + q6) l).take (j9 + k9))) :: (SetO b18 (1 + q6) (laidL (1 + q6) l)) :: Rs) w144 := hS150.sel 4 [3, 1] (Nat.le_add_left _ _) rfl rfl
      exact ⟨_, (by omega), i9 + 1, j9 + k9, _, rfl, setAll_self ⟨rfl, rfl, rfl, rfl, rfl, trivial⟩, by omega, (by omega), hS151⟩
     ·skip
      have hc148r := hc148
      have hc148 := of_decide_eq_true hc148
      refine WP_cond_t rfl ?_
      refine WP_skip ?_
      refine WP_seq ?_
      refine WP_block ?_
      refine WP_seq ?_
      refine WP_region0 (by kernel_rfl) (fun _ => ?_)
      refine st (ov_move (v := .pointer (some ⟨b54, 0, none⟩)) rfl ?_)
      refine st (ov_move (v := v126) rfl ?_)
      refine st (ov_move (v := .int .i64 ((k9 : Nat) : Int)) rfl ?_)
      have hi152 : k9 < (((laidL (1 + q6) l).drop j9).take (1 + q12)).length := (by first | omega | (simp only [lens]; omega))
      refine st (ov_indexAddrN (k := 10) (i := k9) Try.underlying22 Try.sizeOf36 rfl hrd143.sl rfl hi152 ?_)
      have hi154 : k9 < (((laidL (1 + q6) l).drop j9).take (1 + q12)).length := (by first | omega | (simp only [lens]; omega))
      obtain ⟨hce153, hde153_0, hoke153⟩ := hrd143.ev hi154
      rw [← getD_at default hi154] at hce153 hde153_0 hoke153
      have hsm155 : (((((laidL (1 + q6) l).drop j9).take (1 + q12)).getD k9 default).deps).length * 8 ≤ 140737488355328 := hde153_0.small
      have hcw156 := hS147.cells hce153 (hrd143.foot (ne_of_lt hi154))
      refine st (ov_loadk (k := 10) Try.isAgg36 Try.sizeOf36 rfl rfl hcw156 ?_)
      have hS157 : Sep G137 w127 ((SetO b54 (1 + q6) ((laidL (1 + q6) l).take (j9 + k9))) :: (SetO b18 (1 + q6) (laidL (1 + q6) l)) :: (RowE (α := Int) own 3 v99 (vecE (1 + q6) ((laidL (1 + q6) l).take j9))) :: Rs) w144 := hS147.sel 3 [2, 0, 1] (Nat.le_add_left _ _) rfl rfl
      refine st (ov_call (f := 21) (vals := [.pointer (some ⟨b54, 0, none⟩), .agg (((((laidL (1 + q6) l).drop j9).take (1 + q12)).getD k9 default).cells (cellV w127 (sb v126) (so v126 + k9 * 10 + 3))).toArray]) (cap := []) (show _ = (.func (.func 21) #[] #[] : Value) from rfl) rfl Try.call21 (D_Add (e := ((((laidL (1 + q6) l).drop j9).take (1 + q12)).getD k9 default)) hde153_0 hoke153 hS157 ((by rw [List.length_take]; omega)) ((hG9.prefix _ (by omega)).len)) ?_)
      rintro _ w160 ⟨L1158, rfl, hL1159, hS161⟩
      obtain ⟨hpa9, hpb9⟩ := piece_at (S := (laidL (1 + q6) l)) (j := j9) (k := k9) (m := (1 + q12)) (by omega)
      obtain ⟨had9, hal9⟩ := add_take hG9 hpb9
      rw [hpa9] at hL1159 ⊢
      obtain rfl := hL1159.trans hal9
      rw [had9]
      have hS162 : Sep G137 w127 ((SetO b54 (1 + q6) ((laidL (1 + q6) l).take (j9 + (k9 + 1)))) :: (SetO b18 (1 + q6) (laidL (1 + q6) l)) :: (RowE (α := Int) own 3 v99 (vecE (1 + q6) ((laidL (1 + q6) l).take j9))) :: Rs) w160 := hS161
      refine st (ov_neq (k := .i64) (a := 0) (b := 0) rfl rfl ?_)
      refine st_nil ?_
      cases hc163 : !decide (0 = 0)
      ·skip
       have hc163r := hc163
       have hc163 := ndec_false hc163
       refine WP_cond_f rfl ?_
       refine WP_skip ?_
       refine WP_region0 (by kernel_rfl) (fun _ => ?_)
       refine st (ov_move (v := .int .i64 ((k9 : Nat) : Int)) rfl ?_)
       have hr164 : InR ((k9 + 1 : Nat) : Int) := by first | omega | (simp only [lens]; omega)
       refine st (ov_add (r := ((k9 + 1 : Nat) : Int)) (k := .i64) (a := ((k9 : Nat) : Int)) (b := 1) rfl rfl (by rw [show (((k9 : Nat) : Int) + 1 : Int) = ((k9 + 1 : Nat) : Int) by first | omega | (simp only [lens]; omega)]; exact wrap_in hr164) ?_)
       refine st (ov_assign (v := .int .i64 ((k9 + 1 : Nat) : Int)) rfl ?_)
       refine st_nil ?_
       have hS165 : Sep G137 w127 ((SetO b18 (1 + q6) (laidL (1 + q6) l)) :: (RowE (α := Int) own 3 v99 (vecE (1 + q6) ((laidL (1 + q6) l).take j9))) :: (SetO b54 (1 + q6) ((laidL (1 + q6) l).take (j9 + (k9 + 1)))) :: Rs) w160 := hS162.sel 3 [1, 2, 0] (Nat.le_add_left _ _) rfl rfl
       exact ⟨_, by omega, k9 + 1, _, rfl, setAll_self ⟨rfl, rfl, rfl, rfl, rfl, rfl, rfl, trivial⟩, by omega, hS165⟩
      ·skip
       have hc163r := hc163
       have hc163 := ndec_true hc163
       exact absurd hc163r (by decide)
    ·skip
     have hc135r := hc135
     have hc135 := of_decide_eq_true hc135
     have hjn9 : j9 = (laidL (1 + q6) l).length := by omega
     have hTS9 : (laidL (1 + q6) l).take j9 = (laidL (1 + q6) l) := List.take_of_length_le (by omega)
     refine WP_cond_t rfl ?_
     refine WP_seq ?_
     refine WP_region (by kernel_rfl) ?_
     refine st (ov_move (v := .pointer (some ⟨b54, 0, none⟩)) rfl ?_)
     have hS166 : Sep G40 w35 ((SetO b54 (1 + q6) ((laidL (1 + q6) l).take j9)) :: (SetO b18 (1 + q6) (laidL (1 + q6) l)) :: (RowE (α := Int) own 3 v99 (vecE (1 + q6) ((laidL (1 + q6) l).take j9))) :: (RowE (α := Ev) own 36 v126 (((laidL (1 + q6) l).drop j9).take (1 + q12))) :: Rs) w127 := hS132.sel 4 [3, 0, 1, 2] (Nat.le_add_left _ _) rfl rfl
     obtain ⟨G167, hA169, hB170, hS171, hk172⟩ := hS166.lend
     obtain ⟨vv173, m174, R175, hb176, hv177, hr178⟩ := SetO.sh hA169
     have hsm179 : (vecE (1 + q6) ((laidL (1 + q6) l).take j9)).length * 8 ≤ 140737488355328 := hv177.small
     refine st (ov_call (f := 19) (vals := [.pointer (some ⟨b54, 0, none⟩)]) (cap := []) (show _ = (.func (.func 19) #[] #[] : Value) from rfl) rfl Try.call19 (D_All  hA169 hS171 (by first | exact laidL_good.ids | exact (hG9.prefix _ hj9).ids) (by first | exact laidL_good.srt | exact (hG9.prefix _ hj9).srt) ((by first | exact (Nat.le_trans laidL_len (by omega)) | exact Nat.le_trans (List.length_take_le ..) (by omega)))) ?_)
     rintro v180 w181 ⟨_, rfl, hS182⟩
     have hr183 := hS182.row (i := 0) rfl
     have hr183s : ((laidL (1 + q6) l).take j9).length * 96 ≤ 140737488355328 := hr183.2
     have hS184 : Sep G40 w35 ((SetO b54 (1 + q6) ((laidL (1 + q6) l).take j9)) :: (RowE (α := Ev) own 36 v180 ((laidL (1 + q6) l).take j9)) :: (SetO b18 (1 + q6) (laidL (1 + q6) l)) :: (RowE (α := Int) own 3 v99 (vecE (1 + q6) ((laidL (1 + q6) l).take j9))) :: (RowE (α := Ev) own 36 v126 (((laidL (1 + q6) l).drop j9).take (1 + q12))) :: Rs) w181 := hk172 _ _ hS182
     refine st (ov_move (v := v34) rfl ?_)
     have hS185 : Sep G40 w35 ((RowE (α := Ev) own 36 v180 ((laidL (1 + q6) l).take j9)) :: (SetO b54 (1 + q6) ((laidL (1 + q6) l).take j9)) :: (SetO b18 (1 + q6) (laidL (1 + q6) l)) :: (RowE (α := Int) own 3 v99 (vecE (1 + q6) ((laidL (1 + q6) l).take j9))) :: (RowE (α := Ev) own 36 v126 (((laidL (1 + q6) l).drop j9).take (1 + q12))) :: Rs) w181 := hS184.sel 5 [1, 0, 2, 3, 4] (Nat.le_add_left _ _) rfl rfl
     obtain ⟨G186, hA188, hB189, hS190, hk191⟩ := hS185.lend
     have hrd192 := RowE.rd hA188
     have hrd192s : ((laidL (1 + q6) l).take j9).length * 96 ≤ 140737488355328 := hrd192.small
     refine st (ov_call (f := 22) (vals := [v180, v34]) (cap := []) (show _ = (.func (.func 22) #[] #[] : Value) from rfl) rfl Try.call22 (D_sameEvents (a := ((laidL (1 + q6) l).take j9)) (va := v180) (b := (laidL (1 + q6) l)) (vb := v34) hrd192 (RdS.base hrd46 hB189) hS190) ?_)
     rintro _ w193 ⟨rfl, hS194⟩
     have hS195 : Sep G40 w35 ((RowE (α := Ev) own 36 v180 ((laidL (1 + q6) l).take j9)) :: (SetO b54 (1 + q6) ((laidL (1 + q6) l).take j9)) :: (SetO b18 (1 + q6) (laidL (1 + q6) l)) :: (RowE (α := Int) own 3 v99 (vecE (1 + q6) ((laidL (1 + q6) l).take j9))) :: (RowE (α := Ev) own 36 v126 (((laidL (1 + q6) l).drop j9).take (1 + q12))) :: Rs) w193 := hk191 _ _ hS194
     have hkn196 : (decide (((laidL (1 + q6) l).take j9) = (laidL (1 + q6) l))) = true := decide_eq_true hTS9
     rw [hkn196]
     refine st (ov_move (v := .bool true) rfl ?_)
     refine sty rfl rfl (ov_move (v := .pointer (some ⟨b54, 0, none⟩)) rfl ?_)
     have hS197 : Sep G40 w35 ((SetO b54 (1 + q6) ((laidL (1 + q6) l).take j9)) :: (RowE (α := Ev) own 36 v180 ((laidL (1 + q6) l).take j9)) :: (SetO b18 (1 + q6) (laidL (1 + q6) l)) :: (RowE (α := Int) own 3 v99 (vecE (1 + q6) ((laidL (1 + q6) l).take j9))) :: (RowE (α := Ev) own 36 v126 (((laidL (1 + q6) l).drop j9).take (1 + q12))) :: Rs) w193 := hS195.sel 5 [1, 0, 2, 3, 4] (Nat.le_add_left _ _) rfl rfl
     obtain ⟨G198, hA200, hB201, hS202, hk203⟩ := hS197.lend
     obtain ⟨vv204, m205, R206, hb207, hv208, hr209⟩ := SetO.sh hA200
     have hsm210 : (vecE (1 + q6) ((laidL (1 + q6) l).take j9)).length * 8 ≤ 140737488355328 := hv208.small
     refine sty rfl rfl (ov_call (f := 26) (vals := [.pointer (some ⟨b54, 0, none⟩)]) (cap := []) (show _ = (.func (.func 26) #[] #[] : Value) from rfl) rfl Try.call26 (D_Vec  hA200 hS202) ?_)
     rintro v211 w212 ⟨_, rfl, hS213⟩
     have hr214 := hS213.row (i := 0) rfl
     have hr214s : (vecE (1 + q6) ((laidL (1 + q6) l).take j9)).length * 8 ≤ 140737488355328 := hr214.2
     have hS215 : Sep G40 w35 ((SetO b54 (1 + q6) ((laidL (1 + q6) l).take j9)) :: (RowE (α := Int) own 3 v211 (vecE (1 + q6) ((laidL (1 + q6) l).take j9))) :: (RowE (α := Ev) own 36 v180 ((laidL (1 + q6) l).take j9)) :: (SetO b18 (1 + q6) (laidL (1 + q6) l)) :: (RowE (α := Int) own 3 v99 (vecE (1 + q6) ((laidL (1 + q6) l).take j9))) :: (RowE (α := Ev) own 36 v126 (((laidL (1 + q6) l).drop j9).take (1 + q12))) :: Rs) w212 := hk203 _ _ hS213
     refine sty rfl rfl (ov_move (v := .pointer (some ⟨b18, 0, none⟩)) rfl ?_)
     have hS216 : Sep G40 w35 ((SetO b18 (1 + q6) (laidL (1 + q6) l)) :: (SetO b54 (1 + q6) ((laidL (1 + q6) l).take j9)) :: (RowE (α := Int) own 3 v211 (vecE (1 + q6) ((laidL (1 + q6) l).take j9))) :: (RowE (α := Ev) own 36 v180 ((laidL (1 + q6) l).take j9)) :: (RowE (α := Int) own 3 v99 (vecE (1 + q6) ((laidL (1 + q6) l).take j9))) :: (RowE (α := Ev) own 36 v126 (((laidL (1 + q6) l).drop j9).take (1 + q12))) :: Rs) w212 := hS215.sel 6 [3, 0, 1, 2, 4, 5] (Nat.le_add_left _ _) rfl rfl
     obtain ⟨G217, hA219, hB220, hS221, hk222⟩ := hS216.lend
     obtain ⟨vv223, m224, R225, hb226, hv227, hr228⟩ := SetO.sh hA219
     have hsm229 : (vecE (1 + q6) (laidL (1 + q6) l)).length * 8 ≤ 140737488355328 := hv227.small
     refine sty rfl rfl (ov_call (f := 26) (vals := [.pointer (some ⟨b18, 0, none⟩)]) (cap := []) (show _ = (.func (.func 26) #[] #[] : Value) from rfl) rfl Try.call26 (D_Vec  hA219 hS221) ?_)
     rintro v230 w231 ⟨_, rfl, hS232⟩
     have hr233 := hS232.row (i := 0) rfl
     have hr233s : (vecE (1 + q6) (laidL (1 + q6) l)).length * 8 ≤ 140737488355328 := hr233.2
     have hS234 : Sep G40 w35 ((SetO b18 (1 + q6) (laidL (1 + q6) l)) :: (RowE (α := Int) own 3 v230 (vecE (1 + q6) (laidL (1 + q6) l))) :: (SetO b54 (1 + q6) ((laidL (1 + q6) l).take j9)) :: (RowE (α := Int) own 3 v211 (vecE (1 + q6) ((laidL (1 + q6) l).take j9))) :: (RowE (α := Ev) own 36 v180 ((laidL (1 + q6) l).take j9)) :: (RowE (α := Int) own 3 v99 (vecE (1 + q6) ((laidL (1 + q6) l).take j9))) :: (RowE (α := Ev) own 36 v126 (((laidL (1 + q6) l).drop j9).take (1 + q12))) :: Rs) w231 := hk222 _ _ hS232
     have hS235 : Sep G40 w35 ((RowE (α := Int) own 3 v211 (vecE (1 + q6) ((laidL (1 + q6) l).take j9))) :: (SetO b18 (1 + q6) (laidL (1 + q6) l)) :: (RowE (α := Int) own 3 v230 (vecE (1 + q6) (laidL (1 + q6) l))) :: (SetO b54 (1 + q6) ((laidL (1 + q6) l).take j9)) :: (RowE (α := Ev) own 36 v180 ((laidL (1 + q6) l).take j9)) :: (RowE (α := Int) own 3 v99 (vecE (1 + q6) ((laidL (1 + q6) l).take j9))) :: (RowE (α := Ev) own 36 v126 (((laidL (1 + q6) l).drop j9).take (1 + q12))) :: Rs) w231 := hS234.sel 7 [3, 0, 1, 2, 4, 5, 6] (Nat.le_add_left _ _) rfl rfl
     obtain ⟨G236, hA238, hB239, hS240, hk241⟩ := hS235.lend
     have hrd242 := RowE.rd hA238
     have hrd242s : (vecE (1 + q6) ((laidL (1 + q6) l).take j9)).length * 8 ≤ 140737488355328 := hrd242.small
     have hS243 : Sep G236 w231 ((RowE (α := Int) own 3 v230 (vecE (1 + q6) (laidL (1 + q6) l))) :: (SetO b18 (1 + q6) (laidL (1 + q6) l)) :: (SetO b54 (1 + q6) ((laidL (1 + q6) l).take j9)) :: (RowE (α := Ev) own 36 v180 ((laidL (1 + q6) l).take j9)) :: (RowE (α := Int) own 3 v99 (vecE (1 + q6) ((laidL (1 + q6) l).take j9))) :: (RowE (α := Ev) own 36 v126 (((laidL (1 + q6) l).drop j9).take (1 + q12))) :: Rs) w231 := hS240.sel 6 [1, 0, 2, 3, 4, 5] (Nat.le_add_left _ _) rfl rfl
     obtain ⟨G244, hA246, hB247, hS248, hk249⟩ := hS243.lend
     have hrd250 := RowE.rd hA246
     have hrd250s : (vecE (1 + q6) (laidL (1 + q6) l)).length * 8 ≤ 140737488355328 := hrd250.small
     refine sty rfl rfl (ov_call (f := 27) (vals := [v211, v230]) (cap := []) (show _ = (.func (.func 27) #[] #[] : Value) from rfl) rfl Try.call27 (D_SameInts (a := vecE (1 + q6) ((laidL (1 + q6) l).take j9)) (va := v211) (b := vecE (1 + q6) (laidL (1 + q6) l)) (vb := v230) (RdS.base hrd242 hB247) hrd250 hS248) ?_)
     rintro _ w251 ⟨rfl, hS252⟩
     have hS253 : Sep G236 w231 ((RowE (α := Int) own 3 v230 (vecE (1 + q6) (laidL (1 + q6) l))) :: (SetO b18 (1 + q6) (laidL (1 + q6) l)) :: (SetO b54 (1 + q6) ((laidL (1 + q6) l).take j9)) :: (RowE (α := Ev) own 36 v180 ((laidL (1 + q6) l).take j9)) :: (RowE (α := Int) own 3 v99 (vecE (1 + q6) ((laidL (1 + q6) l).take j9))) :: (RowE (α := Ev) own 36 v126 (((laidL (1 + q6) l).drop j9).take (1 + q12))) :: Rs) w251 := hk249 _ _ hS252
     have hS254 : Sep G40 w35 ((RowE (α := Int) own 3 v211 (vecE (1 + q6) ((laidL (1 + q6) l).take j9))) :: (RowE (α := Int) own 3 v230 (vecE (1 + q6) (laidL (1 + q6) l))) :: (SetO b18 (1 + q6) (laidL (1 + q6) l)) :: (SetO b54 (1 + q6) ((laidL (1 + q6) l).take j9)) :: (RowE (α := Ev) own 36 v180 ((laidL (1 + q6) l).take j9)) :: (RowE (α := Int) own 3 v99 (vecE (1 + q6) ((laidL (1 + q6) l).take j9))) :: (RowE (α := Ev) own 36 v126 (((laidL (1 + q6) l).drop j9).take (1 + q12))) :: Rs) w251 := hk241 _ _ hS253
     have hkn255 : (decide ((vecE (1 + q6) ((laidL (1 + q6) l).take j9)) = (vecE (1 + q6) (laidL (1 + q6) l)))) = true := decide_eq_true (by rw [hTS9])
     rw [hkn255]
     refine st (ov_pick_t (v := .bool true) rfl rfl ?_)
     refine st (ov_move (v := .bool true) rfl ?_)
     refine sty rfl rfl (ov_move (v := .pointer (some ⟨b54, 0, none⟩)) rfl ?_)
     refine sty rfl rfl (ov_move (v := .pointer (some ⟨b18, 0, none⟩)) rfl ?_)
     have hS256 : Sep G40 w35 ((SetO b18 (1 + q6) (laidL (1 + q6) l)) :: (RowE (α := Int) own 3 v211 (vecE (1 + q6) ((laidL (1 + q6) l).take j9))) :: (RowE (α := Int) own 3 v230 (vecE (1 + q6) (laidL (1 + q6) l))) :: (SetO b54 (1 + q6) ((laidL (1 + q6) l).take j9)) :: (RowE (α := Ev) own 36 v180 ((laidL (1 + q6) l).take j9)) :: (RowE (α := Int) own 3 v99 (vecE (1 + q6) ((laidL (1 + q6) l).take j9))) :: (RowE (α := Ev) own 36 v126 (((laidL (1 + q6) l).drop j9).take (1 + q12))) :: Rs) w251 := hS254.sel 7 [2, 0, 1, 3, 4, 5, 6] (Nat.le_add_left _ _) rfl rfl
     obtain ⟨G257, hA259, hB260, hS261, hk262⟩ := hS256.lend
     obtain ⟨vv263, m264, R265, hb266, hv267, hr268⟩ := SetO.sh hA259
     have hsm269 : (vecE (1 + q6) (laidL (1 + q6) l)).length * 8 ≤ 140737488355328 := hv267.small
     refine sty rfl rfl (ov_call (f := 26) (vals := [.pointer (some ⟨b18, 0, none⟩)]) (cap := []) (show _ = (.func (.func 26) #[] #[] : Value) from rfl) rfl Try.call26 (D_Vec  hA259 hS261) ?_)
     rintro v270 w271 ⟨_, rfl, hS272⟩
     have hr273 := hS272.row (i := 0) rfl
     have hr273s : (vecE (1 + q6) (laidL (1 + q6) l)).length * 8 ≤ 140737488355328 := hr273.2
     have hS274 : Sep G40 w35 ((SetO b18 (1 + q6) (laidL (1 + q6) l)) :: (RowE (α := Int) own 3 v270 (vecE (1 + q6) (laidL (1 + q6) l))) :: (RowE (α := Int) own 3 v211 (vecE (1 + q6) ((laidL (1 + q6) l).take j9))) :: (RowE (α := Int) own 3 v230 (vecE (1 + q6) (laidL (1 + q6) l))) :: (SetO b54 (1 + q6) ((laidL (1 + q6) l).take j9)) :: (RowE (α := Ev) own 36 v180 ((laidL (1 + q6) l).take j9)) :: (RowE (α := Int) own 3 v99 (vecE (1 + q6) ((laidL (1 + q6) l).take j9))) :: (RowE (α := Ev) own 36 v126 (((laidL (1 + q6) l).drop j9).take (1 + q12))) :: Rs) w271 := hk262 _ _ hS272
     have hS275 : Sep G40 w35 ((SetO b54 (1 + q6) ((laidL (1 + q6) l).take j9)) :: (SetO b18 (1 + q6) (laidL (1 + q6) l)) :: (RowE (α := Int) own 3 v270 (vecE (1 + q6) (laidL (1 + q6) l))) :: (RowE (α := Int) own 3 v211 (vecE (1 + q6) ((laidL (1 + q6) l).take j9))) :: (RowE (α := Int) own 3 v230 (vecE (1 + q6) (laidL (1 + q6) l))) :: (RowE (α := Ev) own 36 v180 ((laidL (1 + q6) l).take j9)) :: (RowE (α := Int) own 3 v99 (vecE (1 + q6) ((laidL (1 + q6) l).take j9))) :: (RowE (α := Ev) own 36 v126 (((laidL (1 + q6) l).drop j9).take (1 + q12))) :: Rs) w271 := hS274.sel 8 [4, 0, 1, 2, 3, 5, 6, 7] (Nat.le_add_left _ _) rfl rfl
     obtain ⟨G276, hA278, hB279, hS280, hk281⟩ := hS275.lend
     obtain ⟨vv282, m283, R284, hb285, hv286, hr287⟩ := SetO.sh hA278
     have hsm288 : (vecE (1 + q6) ((laidL (1 + q6) l).take j9)).length * 8 ≤ 140737488355328 := hv286.small
     have hS289 : Sep G276 w271 ((RowE (α := Int) own 3 v270 (vecE (1 + q6) (laidL (1 + q6) l))) :: (SetO b18 (1 + q6) (laidL (1 + q6) l)) :: (RowE (α := Int) own 3 v211 (vecE (1 + q6) ((laidL (1 + q6) l).take j9))) :: (RowE (α := Int) own 3 v230 (vecE (1 + q6) (laidL (1 + q6) l))) :: (RowE (α := Ev) own 36 v180 ((laidL (1 + q6) l).take j9)) :: (RowE (α := Int) own 3 v99 (vecE (1 + q6) ((laidL (1 + q6) l).take j9))) :: (RowE (α := Ev) own 36 v126 (((laidL (1 + q6) l).drop j9).take (1 + q12))) :: Rs) w271 := hS280.sel 7 [1, 0, 2, 3, 4, 5, 6] (Nat.le_add_left _ _) rfl rfl
     obtain ⟨G290, hA292, hB293, hS294, hk295⟩ := hS289.lend
     have hrd296 := RowE.rd hA292
     have hrd296s : (vecE (1 + q6) (laidL (1 + q6) l)).length * 8 ≤ 140737488355328 := hrd296.small
     refine sty rfl rfl (ov_call (f := 25) (vals := [.pointer (some ⟨b54, 0, none⟩), v270, .int .i64 (100)]) (cap := []) (show _ = (.func (.func 25) #[] #[] : Value) from rfl) rfl Try.call25 (D_Missing (l := vecE (1 + q6) (laidL (1 + q6) l)) (vl := v270) (most := 100) (HP.base hA278 hB293) hrd296 (by decide) hS294 (by first | exact laidL_good.ids | exact (hG9.prefix _ hj9).ids) (by first | exact laidL_good.srt | exact (hG9.prefix _ hj9).srt) ((by first | exact (Nat.le_trans laidL_len (by omega)) | (rw [List.length_take]; omega)))) ?_)
     rintro v297 w298 ⟨_, rfl, hS299⟩
     have hr300 := hS299.row (i := 0) rfl
     have hr300s : (missL ((laidL (1 + q6) l).take j9) (vecE (1 + q6) (laidL (1 + q6) l)) 100).length * 96 ≤ 140737488355328 := hr300.2
     have hS301 : Sep G276 w271 ((RowE (α := Int) own 3 v270 (vecE (1 + q6) (laidL (1 + q6) l))) :: (RowE (α := Ev) own 36 v297 (missL ((laidL (1 + q6) l).take j9) (vecE (1 + q6) (laidL (1 + q6) l)) 100)) :: (SetO b18 (1 + q6) (laidL (1 + q6) l)) :: (RowE (α := Int) own 3 v211 (vecE (1 + q6) ((laidL (1 + q6) l).take j9))) :: (RowE (α := Int) own 3 v230 (vecE (1 + q6) (laidL (1 + q6) l))) :: (RowE (α := Ev) own 36 v180 ((laidL (1 + q6) l).take j9)) :: (RowE (α := Int) own 3 v99 (vecE (1 + q6) ((laidL (1 + q6) l).take j9))) :: (RowE (α := Ev) own 36 v126 (((laidL (1 + q6) l).drop j9).take (1 + q12))) :: Rs) w298 := hk295 _ _ hS299
     have hS302 : Sep G40 w35 ((SetO b54 (1 + q6) ((laidL (1 + q6) l).take j9)) :: (RowE (α := Int) own 3 v270 (vecE (1 + q6) (laidL (1 + q6) l))) :: (RowE (α := Ev) own 36 v297 (missL ((laidL (1 + q6) l).take j9) (vecE (1 + q6) (laidL (1 + q6) l)) 100)) :: (SetO b18 (1 + q6) (laidL (1 + q6) l)) :: (RowE (α := Int) own 3 v211 (vecE (1 + q6) ((laidL (1 + q6) l).take j9))) :: (RowE (α := Int) own 3 v230 (vecE (1 + q6) (laidL (1 + q6) l))) :: (RowE (α := Ev) own 36 v180 ((laidL (1 + q6) l).take j9)) :: (RowE (α := Int) own 3 v99 (vecE (1 + q6) ((laidL (1 + q6) l).take j9))) :: (RowE (α := Ev) own 36 v126 (((laidL (1 + q6) l).drop j9).take (1 + q12))) :: Rs) w298 := hk281 _ _ hS301
     refine sty rfl rfl (ov_len (n := (missL ((laidL (1 + q6) l).take j9) (vecE (1 + q6) (laidL (1 + q6) l)) 100).length) Try.underlying22 rfl hr300.1 ?_)
     refine sty rfl rfl (ov_eql (k := .i64) (a := (((missL ((laidL (1 + q6) l).take j9) (vecE (1 + q6) (laidL (1 + q6) l)) 100).length : Nat) : Int)) (b := 0) rfl rfl ?_)
     have hkn303 : (decide ((((missL ((laidL (1 + q6) l).take j9) (vecE (1 + q6) (laidL (1 + q6) l)) 100).length : Nat) : Int) = 0)) = true := by rw [missL_none hG9 hjn9]; rfl
     rw [hkn303]
     refine st (ov_pick_t (v := .bool true) rfl rfl ?_)
     refine st (ov_move (v := .bool true) rfl ?_)
     refine sty rfl rfl (ov_call (f := 16) (vals := []) (cap := []) (show _ = (.func (.func 16) #[] #[] : Value) from rfl) rfl Try.call16 (D_known9  hS302) ?_)
     rintro _ w304 ⟨rfl, hS305⟩
     refine st (ov_pick_t (v := .bool true) rfl rfl ?_)
     refine st (ov_assign (v := .bool true) rfl ?_)
     refine st_nil ?_
     refine WP_ret ?_
     refine fin1 Try.results4 (show _ = (.bool true : Value) from rfl) ?_
     have hS306 : Sep G W ((RowE (α := Ev) own 36 v34 (laidL (1 + q6) l)) :: (SetO b54 (1 + q6) ((laidL (1 + q6) l).take j9)) :: (RowE (α := Int) own 3 v270 (vecE (1 + q6) (laidL (1 + q6) l))) :: (RowE (α := Ev) own 36 v297 (missL ((laidL (1 + q6) l).take j9) (vecE (1 + q6) (laidL (1 + q6) l)) 100)) :: (SetO b18 (1 + q6) (laidL (1 + q6) l)) :: (RowE (α := Int) own 3 v211 (vecE (1 + q6) ((laidL (1 + q6) l).take j9))) :: (RowE (α := Int) own 3 v230 (vecE (1 + q6) (laidL (1 + q6) l))) :: (RowE (α := Ev) own 36 v180 ((laidL (1 + q6) l).take j9)) :: (RowE (α := Int) own 3 v99 (vecE (1 + q6) ((laidL (1 + q6) l).take j9))) :: (RowE (α := Ev) own 36 v126 (((laidL (1 + q6) l).drop j9).take (1 + q12))) :: Rs) w304 := hk45 _ _ hS305
     have hS307 : Sep G W Rs w304 := hS306.sel 10 [] (Nat.le_add_left _ _) rfl rfl
     refine ⟨rfl, hS307⟩
   ·skip
    have hc134r := hc134
    have hc134 := of_decide_eq_true hc134
    exfalso
    omega
 ·skip
  have hc5r := hc5
  refine WP_cond_t rfl ?_
  refine WP_seq ?_
  refine WP_region0 (by kernel_rfl) (fun _ => ?_)
  refine st (ov_call (f := 16) (vals := []) (cap := []) (show _ = (.func (.func 16) #[] #[] : Value) from rfl) rfl Try.call16 (D_known9  hS4) ?_)
  rintro _ w308 ⟨rfl, hS309⟩
  refine st (ov_assign (v := .bool true) rfl ?_)
  refine st_nil ?_
  refine WP_ret ?_
  refine fin1 Try.results4 (show _ = (.bool true : Value) from rfl) ?_
  refine ⟨rfl, hS309⟩

end Go.Proofs.Ytgjgmojjeehieaa
