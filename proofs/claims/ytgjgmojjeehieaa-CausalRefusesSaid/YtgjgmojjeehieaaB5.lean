/- Steps of the proofs of this seat: part B5. -/
import Derived.Test.YtgjgmojjeehieaaB2
set_option linter.unusedSimpArgs false
set_option linter.unusedVariables false
set_option maxRecDepth 8000
set_option maxHeartbeats 4000000
namespace Go.Proofs.Ytgjgmojjeehieaa
open Go.Proofs Go.RowKit

section
variable {n : Nat} {L : List Ev} {e : Ev}
theorem lt_asym {a b : Ev} (h : ltE a b = true) : ltE b a = false := by
  cases hb : ltE b a with
  | false => rfl
  | true => exact absurd (lt_cmp.1 hb) (cmp_asym (lt_cmp.1 h))
theorem lt_tot {a b : Ev} (h : idE a ≠ idE b) (h2 : ¬ ltE a b = true) : ltE b a = true := by
  rcases cmp_total h with h3 | h3
  · exact absurd (lt_cmp.2 h3) h2
  · exact lt_cmp.2 h3
theorem ins_at : ∀ {L : List Ev} {k : Nat}, idE e ∉ L.map idE → k ≤ L.length → (∀ j, j < k → ltE (L.getD j default) e = true) → (k < L.length → ltE (L.getD k default) e = false) → insE e L = (L.take k ++ [e]) ++ L.drop k
  | [], k, _, hk, _, _ => by
    have : k = 0 := by simpa using hk
    subst this; rfl
  | x :: l, 0, hn, _, _, h => by
    have h1 := h (Nat.succ_pos _)
    have hne : idE x ≠ idE e := fun he => hn (by rw [← he]; exact List.mem_map.2 ⟨x, List.mem_cons_self .., rfl⟩)
    have h2 : ltE e x = true := lt_tot hne (by simpa using h1)
    simp only [insE]
    rw [if_pos h2]; rfl
  | x :: l, k + 1, hn, hk, hp, h => by
    have h1 := hp 0 (Nat.succ_pos _)
    have h2 : ¬ ltE e x = true := by rw [lt_asym (by simpa using h1)]; decide
    simp only [insE]
    rw [if_neg h2, ins_at (L := l) (k := k) (fun hm => hn (List.mem_cons_of_mem _ hm)) (by simpa using hk) (fun j hj => by simpa using hp (j + 1) (Nat.succ_lt_succ hj)) (fun hl => by simpa using h (Nat.succ_lt_succ hl))]
    rfl
theorem top_ge : ∀ {L : List Ev} {x : Ev}, x ∈ L → x.lam ≤ topE L
  | y :: l, x, hx => by
    show x.lam ≤ max (topE l) y.lam
    rcases List.mem_cons.1 hx with rfl | hx
    · omega
    · have := top_ge hx; omega
theorem top_at : ∀ {L : List Ev}, L ≠ [] → (∀ x ∈ L, 1 ≤ x.lam) → ∃ x ∈ L, topE L = x.lam
  | [y], _, h => ⟨y, List.mem_cons_self .., by have := h y (List.mem_cons_self ..); show max 0 y.lam = y.lam; omega⟩
  | y :: z :: l, _, h => by
    obtain ⟨x, hx, he⟩ := top_at (L := z :: l) (by simp) (fun x hx => h x (List.mem_cons_of_mem _ hx))
    have e : topE (y :: z :: l) = max (topE (z :: l)) y.lam := rfl
    rcases Int.le_total (topE (z :: l)) y.lam with h1 | h1
    · exact ⟨y, List.mem_cons_self .., by rw [e]; omega⟩
    · exact ⟨x, List.mem_cons_of_mem _ hx, by rw [e]; omega⟩
theorem top_last (h : Good n L) (hne : 0 < L.length) : topE L = (L.getD (L.length - 1) default).lam := by
  have hl : L.length - 1 < L.length := by omega
  rw [getD_at _ hl]
  obtain ⟨x, hx, he⟩ := top_at (L := L) (fun e => by rw [e] at hne; exact absurd hne (Nat.lt_irrefl 0)) (fun x hx => (check_ok (h.chk x hx)).2.1.2)
  have h1 := top_ge (List.getElem_mem hl)
  obtain ⟨i, hi, rfl⟩ := List.getElem_of_mem hx
  by_cases hil : i = L.length - 1
  · subst hil; exact he
  · have := List.pairwise_iff_getElem.1 h.srt i (L.length - 1) hi hl (by omega)
    rw [cmpE_neg] at this
    omega
theorem add_id (h : addE n L e = 0) : idE e ∉ L.map idE := fun hm => by
  have h1 := getE_iff.2 hm
  unfold idE at h1
  rw [(add_zero h).2.1] at h1; cases h1
theorem add_twice (h : addE n L e = 0) : addE n (insE e L) e = 16 := by
  obtain ⟨h1, h2, _, _⟩ := add_zero h
  exact add_t h1 (by rw [getE_insE h2, if_pos rfl]; rfl)
end
theorem D_CausalRefuses {G : Nat → Prop} {W w : World} {Rs : List HP} {n : Int} (hn : InR n) {vl : Value} {l : List Ev} (hl : RdS W G vl l) (hS0 : Sep G W Rs w) : Ret Try.prog 5 [.int .i64 (n), vl] w (fun r w' => r = (.bool true : Value) ∧ Sep G W Rs w') := by
 have hls : l.length * 96 ≤ 140737488355328 := hl.small
 refine Calls_of_WP (args := [.int .i64 (n), vl]) Try.func5 rfl rfl ?_
 refine WP_seq ?_
 refine WP_region0 (by kernel_rfl) (fun _ => ?_)
 refine st (ov_assign (v := .bool false) rfl ?_)
 refine st_nil ?_
 refine WP_seq ?_
 refine WP_seq ?_
 refine WP_region0 (by kernel_rfl) (fun _ => ?_)
 refine st (ov_move (v := vl) rfl ?_)
 refine st (ov_call (f := 15) (vals := [vl]) (cap := []) (show _ = (.func (.func 15) #[] #[] : Value) from rfl) rfl Try.call15 (D_long (l := l) (vl := vl) hl hS0) ?_)
 rintro _ w3 ⟨b1, rfl, hb2, hS4⟩
 refine st_nil ?_
 cases hc5 : b1
 ·skip
  have hc5r := hc5
  obtain ⟨hf9, _⟩ := hb2 hc5r
  refine WP_cond_f rfl ?_
  refine WP_skip ?_
  refine WP_seq ?_
  refine WP_region0 (by kernel_rfl) (fun _ => ?_)
  refine st (ov_move (v := .int .i64 (n)) rfl ?_)
  refine st (ov_call (f := 17) (vals := [.int .i64 (n), .int .i64 (64)]) (cap := []) (show _ = (.func (.func 17) #[] #[] : Value) from rfl) rfl Try.call17 (D_Pick (x := n) (n := 64) hn (by first | omega | (refine ⟨?_, ?_⟩ <;> omega)) hS4) ?_)
  rintro _ w8 ⟨q6, rfl, hq7, hS9⟩
  have hr10 : InR ((1 + q6 : Nat) : Int) := by first | omega | (simp only [lens]; omega)
  refine st (ov_add (r := ((1 + q6 : Nat) : Int)) (k := .i64) (a := 1) (b := ((q6 : Nat) : Int)) rfl rfl (by rw [show (1 + ((q6 : Nat) : Int) : Int) = ((1 + q6 : Nat) : Int) by first | omega | (simp only [lens]; omega)]; exact wrap_in hr10) ?_)
  refine st (ov_call (f := 20) (vals := [.int .i64 ((1 + q6 : Nat) : Int)]) (cap := []) (show _ = (.func (.func 20) #[] #[] : Value) from rfl) rfl Try.call20 (D_NewSet (n := 1 + q6) (by first | omega | (refine ⟨?_, ?_⟩ <;> omega)) hS9) ?_)
  rintro _ w12 ⟨b11, rfl, hS13⟩
  refine st (ov_assign (v := .pointer (some ⟨b11, 0, none⟩)) rfl ?_)
  refine st_nil ?_
  refine WP_seq ?_
  refine WP_seq ?_
  refine WP_region0 (by kernel_rfl) (fun _ => ?_)
  refine st (ov_move (v := .pointer (some ⟨b11, 0, none⟩)) rfl ?_)
  refine st (ov_eqlPtr (b := b11) (o := 0) Try.underlying26 rfl ?_)
  refine st_nil ?_
  refine WP_cond_f rfl ?_
  refine WP_skip ?_
  refine WP_seq ?_
  refine WP_seq ?_
  refine WP_region0 (by kernel_rfl) (fun _ => ?_)
  refine st (ov_assign (v := .int .i64 (0)) rfl ?_)
  refine st_nil ?_
  refine WP_block ?_
  refine WP_loop (fun mq σ wq => ∃ (k : Nat) (ρ : Env), mq = l.length - k ∧ σ = setAll ρ [(1, vl), (5, .pointer (some ⟨b11, 0, none⟩)), (6, .int .i64 ((k : Nat) : Int))] ∧ (k ≤ l.length) ∧ Sep G W ((SetO b11 (1 + q6) (laidL (1 + q6) (l.take k))) :: Rs) wq) ⟨0, _, rfl, setAll_self ⟨rfl, rfl, rfl, trivial⟩, Nat.zero_le _, hS13⟩ ?_
  rintro m15 σ16 w14 ⟨k, ρl1, rfl, rfl, hkk, hS17⟩
  refine WP_seq ?_
  refine WP_seq ?_
  refine WP_region0 (by kernel_rfl) (fun _ => ?_)
  refine st (ov_move (v := .int .i64 ((k : Nat) : Int)) rfl ?_)
  refine st (ov_move (v := vl) rfl ?_)
  refine st (ov_len (n := l.length) Try.underlying22 rfl hl.sl ?_)
  refine st (ov_lss (k := .i64) (a := ((k : Nat) : Int)) (b := ((l.length : Nat) : Int)) rfl rfl ?_)
  refine st_nil ?_
  cases hc18 : decide (((k : Nat) : Int) < ((l.length : Nat) : Int))
  ·skip
   have hc18r := hc18
   have hc18 := of_decide_eq_false hc18
   refine WP_cond_f rfl ?_
   refine WP_exit ?_
   refine blk_exit ?_
   refine WP_seq ?_
   refine WP_region0 (by kernel_rfl) (fun _ => ?_)
   refine st (ov_call (f := 16) (vals := []) (cap := []) (show _ = (.func (.func 16) #[] #[] : Value) from rfl) rfl Try.call16 (D_known9  hS17) ?_)
   rintro _ w19 ⟨rfl, hS20⟩
   refine st (ov_assign (v := .bool true) rfl ?_)
   refine st_nil ?_
   refine WP_ret ?_
   refine fin1 Try.results5 (show _ = (.bool true : Value) from rfl) ?_
   have hS21 : Sep G W Rs w19 := hS20.sel 1 [] (Nat.le_add_left _ _) rfl rfl
   refine ⟨rfl, hS21⟩
  ·skip
   have hc18r := hc18
   have hc18 := of_decide_eq_true hc18
   refine WP_cond_t rfl ?_
   refine WP_skip ?_
   refine WP_seq ?_
   refine WP_block ?_
   refine WP_seq ?_
   refine WP_region0 (by kernel_rfl) (fun _ => ?_)
   refine st (ov_move (v := .pointer (some ⟨b11, 0, none⟩)) rfl ?_)
   obtain ⟨G22, hA24, hB25, hS26, hk27⟩ := hS17.lend
   obtain ⟨vv28, m29, R30, hb31, hv32, hr33⟩ := SetO.sh hA24
   have hsm34 : (vecE (1 + q6) (laidL (1 + q6) (l.take k))).length * 8 ≤ 140737488355328 := hv32.small
   refine st (ov_call (f := 19) (vals := [.pointer (some ⟨b11, 0, none⟩)]) (cap := []) (show _ = (.func (.func 19) #[] #[] : Value) from rfl) rfl Try.call19 (D_All  hA24 hS26 (laidL_good.ids) (laidL_good.srt) ((Nat.le_trans laid_take (by omega)))) ?_)
   rintro v35 w36 ⟨_, rfl, hS37⟩
   have hr38 := hS37.row (i := 0) rfl
   have hr38s : (laidL (1 + q6) (l.take k)).length * 96 ≤ 140737488355328 := hr38.2
   have hS39 : Sep G W ((SetO b11 (1 + q6) (laidL (1 + q6) (l.take k))) :: (RowE (α := Ev) own 36 v35 (laidL (1 + q6) (l.take k))) :: Rs) w36 := hk27 _ _ hS37
   refine st (ov_assign (v := v35) rfl ?_)
   refine st_nil ?_
   refine WP_seq ?_
   refine WP_region0 (by kernel_rfl) (fun _ => ?_)
   refine st (ov_move (v := .pointer (some ⟨b11, 0, none⟩)) rfl ?_)
   obtain ⟨G40, hA42, hB43, hS44, hk45⟩ := hS39.lend
   obtain ⟨vv46, m47, R48, hb49, hv50, hr51⟩ := SetO.sh hA42
   have hsm52 : (vecE (1 + q6) (laidL (1 + q6) (l.take k))).length * 8 ≤ 140737488355328 := hv50.small
   refine st (ov_call (f := 26) (vals := [.pointer (some ⟨b11, 0, none⟩)]) (cap := []) (show _ = (.func (.func 26) #[] #[] : Value) from rfl) rfl Try.call26 (D_Vec  hA42 hS44) ?_)
   rintro v53 w54 ⟨_, rfl, hS55⟩
   have hr56 := hS55.row (i := 0) rfl
   have hr56s : (vecE (1 + q6) (laidL (1 + q6) (l.take k))).length * 8 ≤ 140737488355328 := hr56.2
   have hS57 : Sep G W ((SetO b11 (1 + q6) (laidL (1 + q6) (l.take k))) :: (RowE (α := Int) own 3 v53 (vecE (1 + q6) (laidL (1 + q6) (l.take k)))) :: (RowE (α := Ev) own 36 v35 (laidL (1 + q6) (l.take k))) :: Rs) w54 := hk45 _ _ hS55
   refine st (ov_assign (v := v53) rfl ?_)
   refine st_nil ?_
   refine WP_seq ?_
   refine WP_region0 (by kernel_rfl) (fun _ => ?_)
   refine st (ov_move (v := .pointer (some ⟨b11, 0, none⟩)) rfl ?_)
   refine st (ov_move (v := vl) rfl ?_)
   refine st (ov_move (v := .int .i64 ((k : Nat) : Int)) rfl ?_)
   have hi58 : k < l.length := (by first | omega | (simp only [lens]; omega))
   refine st (ov_indexAddrN (k := 10) (i := k) Try.underlying22 Try.sizeOf36 rfl hl.sl rfl hi58 ?_)
   have hi60 : k < l.length := (by first | omega | (simp only [lens]; omega))
   obtain ⟨hce59, hde59_0, hoke59⟩ := hl.ev hi60
   rw [← getD_at default hi60] at hce59 hde59_0 hoke59
   have hsm61 : ((l.getD k default).deps).length * 8 ≤ 140737488355328 := hde59_0.small
   have hcw62 := hS57.cells hce59 (hl.foot (ne_of_lt hi60))
   refine st (ov_loadk (k := 10) Try.isAgg36 Try.sizeOf36 rfl rfl hcw62 ?_)
   refine st (ov_call (f := 21) (vals := [.pointer (some ⟨b11, 0, none⟩), .agg ((l.getD k default).cells (cellV W (sb vl) (so vl + k * 10 + 3))).toArray]) (cap := []) (show _ = (.func (.func 21) #[] #[] : Value) from rfl) rfl Try.call21 (D_Add (e := (l.getD k default)) hde59_0 hoke59 hS57 ((Nat.le_trans laid_take (by omega))) (laidL_good.len)) ?_)
   rintro _ w65 ⟨L163, rfl, hL164, hS66⟩
   obtain rfl : L163 = (laidL (1 + q6) (l.take (k + 1))) := hL164.trans (laid_step (by omega))
   have hL9 : (laidL (1 + q6) (l.take (k + 1))) = addL (1 + q6) (laidL (1 + q6) (l.take k)) (l.getD k default) := (laid_step (by omega)).symm
   have hn9 : (laidL (1 + q6) (l.take k)).length ≤ l.length := laid_take
   have hn8 : (laidL (1 + q6) (l.take (k + 1))).length ≤ l.length := laid_take
   have hS67 : Sep G W ((SetO b11 (1 + q6) (laidL (1 + q6) (l.take (k + 1)))) :: (RowE (α := Int) own 3 v53 (vecE (1 + q6) (laidL (1 + q6) (l.take k)))) :: (RowE (α := Ev) own 36 v35 (laidL (1 + q6) (l.take k))) :: Rs) w65 := hS66
   refine st (ov_assign (v := .int .i64 ((addE (1 + q6) (laidL (1 + q6) (l.take k)) (l.getD k default)))) rfl ?_)
   refine st_nil ?_
   refine WP_seq ?_
   refine WP_region0 (by kernel_rfl) (fun _ => ?_)
   refine st (ov_move (v := .pointer (some ⟨b11, 0, none⟩)) rfl ?_)
   obtain ⟨G68, hA70, hB71, hS72, hk73⟩ := hS67.lend
   obtain ⟨vv74, m75, R76, hb77, hv78, hr79⟩ := SetO.sh hA70
   have hsm80 : (vecE (1 + q6) (laidL (1 + q6) (l.take (k + 1)))).length * 8 ≤ 140737488355328 := hv78.small
   refine st (ov_call (f := 19) (vals := [.pointer (some ⟨b11, 0, none⟩)]) (cap := []) (show _ = (.func (.func 19) #[] #[] : Value) from rfl) rfl Try.call19 (D_All  hA70 hS72 (laidL_good.ids) (laidL_good.srt) ((Nat.le_trans laid_take (by omega)))) ?_)
   rintro v81 w82 ⟨_, rfl, hS83⟩
   have hr84 := hS83.row (i := 0) rfl
   have hr84s : (laidL (1 + q6) (l.take (k + 1))).length * 96 ≤ 140737488355328 := hr84.2
   have hS85 : Sep G W ((SetO b11 (1 + q6) (laidL (1 + q6) (l.take (k + 1)))) :: (RowE (α := Ev) own 36 v81 (laidL (1 + q6) (l.take (k + 1)))) :: (RowE (α := Int) own 3 v53 (vecE (1 + q6) (laidL (1 + q6) (l.take k)))) :: (RowE (α := Ev) own 36 v35 (laidL (1 + q6) (l.take k))) :: Rs) w82 := hk73 _ _ hS83
   refine st (ov_assign (v := v81) rfl ?_)
   refine st_nil ?_
   refine WP_seq ?_
   refine WP_seq ?_
   refine WP_region0 (by kernel_rfl) (fun _ => ?_)
   refine st (ov_move (v := .int .i64 ((addE (1 + q6) (laidL (1 + q6) (l.take k)) (l.getD k default)))) rfl ?_)
   refine st (ov_neq (k := .i64) (a := (addE (1 + q6) (laidL (1 + q6) (l.take k)) (l.getD k default))) (b := 0) rfl rfl ?_)
   refine st_nil ?_
   cases hc86 : !decide ((addE (1 + q6) (laidL (1 + q6) (l.take k)) (l.getD k default)) = 0)
   ·skip
    have hc86r := hc86
    have hc86 := ndec_false hc86
    have hI9 : laidL (1 + q6) (l.take (k + 1)) = insE (l.getD k default) (laidL (1 + q6) (l.take k)) := hL9.trans (addL_yes hc86)
    have hT9 : addE (1 + q6) (laidL (1 + q6) (l.take (k + 1))) (l.getD k default) = 16 := by rw [hI9]; exact add_twice hc86
    have hD9 := add_id hc86
    have hP9 : 0 < (laidL (1 + q6) (l.take (k + 1))).length := by rw [hI9, insE_len]; omega
    refine WP_cond_f rfl ?_
    refine WP_skip ?_
    refine WP_seq ?_
    have hS87 : Sep G W ((RowE (α := Ev) own 36 v35 (laidL (1 + q6) (l.take k))) :: (SetO b11 (1 + q6) (laidL (1 + q6) (l.take (k + 1)))) :: (RowE (α := Ev) own 36 v81 (laidL (1 + q6) (l.take (k + 1)))) :: (RowE (α := Int) own 3 v53 (vecE (1 + q6) (laidL (1 + q6) (l.take k)))) :: Rs) w82 := hS85.sel 4 [3, 0, 1, 2] (Nat.le_add_left _ _) rfl rfl
    obtain ⟨G88, hA90, hB91, hS92, hk93⟩ := hS87.lend
    have hrd94 := RowE.rd hA90
    have hrd94s : (laidL (1 + q6) (l.take k)).length * 96 ≤ 140737488355328 := hrd94.small
    have hS95 : Sep G88 w82 ((RowE (α := Ev) own 36 v81 (laidL (1 + q6) (l.take (k + 1)))) :: (SetO b11 (1 + q6) (laidL (1 + q6) (l.take (k + 1)))) :: (RowE (α := Int) own 3 v53 (vecE (1 + q6) (laidL (1 + q6) (l.take k)))) :: Rs) w82 := hS92.sel 3 [1, 0, 2] (Nat.le_add_left _ _) rfl rfl
    obtain ⟨G96, hA98, hB99, hS100, hk101⟩ := hS95.lend
    have hrd102 := RowE.rd hA98
    have hrd102s : (laidL (1 + q6) (l.take (k + 1))).length * 96 ≤ 140737488355328 := hrd102.small
    refine WP_region0 (by kernel_rfl) (fun _ => ?_)
    refine st (ov_assign (v := .int .i64 (0)) rfl ?_)
    refine st_nil ?_
    refine WP_seq ?_
    refine WP_block ?_
    refine WP_loop (fun mq σ wq => ∃ (a9 : Nat) (ρ : Env), mq = (laidL (1 + q6) (l.take k)).length - a9 ∧ σ = setAll ρ [(1, vl), (5, .pointer (some ⟨b11, 0, none⟩)), (6, .int .i64 ((k : Nat) : Int)), (7, v35), (10, v81), (11, .int .i64 ((a9 : Nat) : Int))] ∧ (a9 ≤ (laidL (1 + q6) (l.take k)).length) ∧ (∀ j, j < a9 → ltE ((laidL (1 + q6) (l.take k)).getD j default) (l.getD k default) = true) ∧ Sep G96 w82 ((SetO b11 (1 + q6) (laidL (1 + q6) (l.take (k + 1)))) :: (RowE (α := Int) own 3 v53 (vecE (1 + q6) (laidL (1 + q6) (l.take k)))) :: Rs) wq) ⟨0, _, rfl, setAll_self ⟨rfl, rfl, rfl, rfl, rfl, rfl, trivial⟩, Nat.zero_le _, (fun i h => absurd h (Nat.not_lt_zero i)), hS100⟩ ?_
    rintro m104 σ105 w103 ⟨a9, ρl2, rfl, rfl, ha9, hm9, hS106⟩
    refine WP_seq ?_
    refine WP_seq ?_
    refine WP_draw4 (WF [fun vals wq => Sep G96 w82 ((SetO b11 (1 + q6) (laidL (1 + q6) (l.take (k + 1)))) :: (RowE (α := Int) own 3 v53 (vecE (1 + q6) (laidL (1 + q6) (l.take k)))) :: Rs) wq, fun vals wq => (vals 13 = (if (decide (((a9 : Nat) : Int) < (((laidL (1 + q6) (l.take k)).length : Nat) : Int))) = true then (.bool ((ltE ((laidL (1 + q6) (l.take k)).getD a9 default) (l.getD k default))) : Value) else undef)) ∧ Sep G96 w82 ((SetO b11 (1 + q6) (laidL (1 + q6) (l.take (k + 1)))) :: (RowE (α := Int) own 3 v53 (vecE (1 + q6) (laidL (1 + q6) (l.take k)))) :: Rs) wq]) (AF [Vl 0 (.int .i64 ((a9 : Nat) : Int)), Vl 1 (v35), Vl 2 (.int .i64 (((laidL (1 + q6) (l.take k)).length : Nat) : Int)), Vl 3 (.bool (decide (((a9 : Nat) : Int) < (((laidL (1 + q6) (l.take k)).length : Nat) : Int)))), Vl 4 (.bool (decide (((a9 : Nat) : Int) < (((laidL (1 + q6) (l.take k)).length : Nat) : Int)))), Vl 5 (if (decide (((a9 : Nat) : Int) < (((laidL (1 + q6) (l.take k)).length : Nat) : Int))) = true then v35 else undef), Vl 6 (if (decide (((a9 : Nat) : Int) < (((laidL (1 + q6) (l.take k)).length : Nat) : Int))) = true then .int .i64 ((a9 : Nat) : Int) else undef), Vl 7 (if (decide (((a9 : Nat) : Int) < (((laidL (1 + q6) (l.take k)).length : Nat) : Int))) = true then .pointer (some ⟨sb v35, so v35 + a9 * 10, none⟩) else undef), Vl 8 (if (decide (((a9 : Nat) : Int) < (((laidL (1 + q6) (l.take k)).length : Nat) : Int))) = true then .agg (((laidL (1 + q6) (l.take k)).getD a9 default).cells (cellV w82 (sb v35) (so v35 + a9 * 10 + 3))).toArray else undef), Vl 9 (if (decide (((a9 : Nat) : Int) < (((laidL (1 + q6) (l.take k)).length : Nat) : Int))) = true then vl else undef), Vl 10 (if (decide (((a9 : Nat) : Int) < (((laidL (1 + q6) (l.take k)).length : Nat) : Int))) = true then .int .i64 ((k : Nat) : Int) else undef), Vl 11 (if (decide (((a9 : Nat) : Int) < (((laidL (1 + q6) (l.take k)).length : Nat) : Int))) = true then .pointer (some ⟨sb vl, so vl + k * 10, none⟩) else undef), Vl 12 (if (decide (((a9 : Nat) : Int) < (((laidL (1 + q6) (l.take k)).length : Nat) : Int))) = true then .agg ((l.getD k default).cells (cellV w82 (sb vl) (so vl + k * 10 + 3))).toArray else undef), fun _ => True, Vl 14 (.bool ((decide (((a9 : Nat) : Int) < (((laidL (1 + q6) (l.take k)).length : Nat) : Int))) && (ltE ((laidL (1 + q6) (l.take k)).getD a9 default) (l.getD k default))))]) [[], [], [1], [0, 1, 2], [0, 1, 2, 3], [0, 1, 2, 3, 4], [0, 1, 2, 3, 4], [0, 1, 2, 3, 4, 5, 6], [0, 1, 2, 3, 4, 5, 6, 7], [0, 1, 2, 3, 4], [0, 1, 2, 3, 4], [0, 1, 2, 3, 4, 9, 10], [0, 1, 2, 3, 4, 9, 10, 11], [0, 1, 2, 3, 4, 5, 6, 7, 8, 9, 10, 11, 12], [0, 1, 2, 3, 4, 5, 6, 7, 8, 9, 10, 11, 12, 13]] [13] [(0, 0), (0, 0), (0, 0), (0, 0), (0, 0), (0, 0), (0, 0), (0, 0), (0, 0), (0, 0), (0, 0), (0, 0), (0, 0), (0, 0), (1, 1)] (by kernel_rfl) (by kernel_rfl) (by kernel_rfl) rfl (by kernel_rfl) (by kernel_rfl) (fun _ h1 h2 h3 h4 _ => hS106.same h1 h2 h3 h4) ?_ (AF_loc ⟨dA, dA, dA, dA, dA, dA, dA, dA, dA, dA, dA, dA, dA, dT, dA, trivial⟩) ⟨?_, ?_, ?_, ?_, ?_, ?_, ?_, ?_, ?_, ?_, ?_, ?_, ?_, ?_, ?_, trivial⟩ ?_
    ·intro k vals vals' w hv h
     have e : ∀ j ∈ ([13] : List Nat), vals' j = vals j := hv
     match k, h with
     | 0, h => exact h
     | 1, h => exact (by simpa only [WF, List.getElem?_cons_zero, List.getElem?_cons_succ, e 13 (by decide)] using h)
     | _ + 2, _ => trivial
    ·intro k266 vals w267 h270 h271 hW269 hA268
     refine obl rfl ?_
     exact ov_move (v := .int .i64 ((a9 : Nat) : Int)) rfl (fun vals' hv _ => ⟨rfl, hv⟩)
    ·intro k272 vals w273 h276 h277 hW275 hA274
     refine obl rfl ?_
     exact ov_move (v := v35) rfl (fun vals' hv _ => ⟨rfl, hv⟩)
    ·intro k278 vals w279 h282 h283 hW281 hA280
     obtain rfl : k278 = 0 := Nat.le_antisymm h283 h282
     have hS284 : Sep G96 w82 ((SetO b11 (1 + q6) (laidL (1 + q6) (l.take (k + 1)))) :: (RowE (α := Int) own 3 v53 (vecE (1 + q6) (laidL (1 + q6) (l.take k)))) :: Rs) w279 := hW281
     have e285 := hA280 1 (by decide)
     refine obl rfl ?_
     exact ov_len (n := (laidL (1 + q6) (l.take k)).length) Try.underlying22 e285 (RdS.base hrd94 hB99).sl (fun vals' hv _ => ⟨rfl, hv⟩)
    ·intro k286 vals w287 h290 h291 hW289 hA288
     obtain rfl : k286 = 0 := Nat.le_antisymm h291 h290
     have hS292 : Sep G96 w82 ((SetO b11 (1 + q6) (laidL (1 + q6) (l.take (k + 1)))) :: (RowE (α := Int) own 3 v53 (vecE (1 + q6) (laidL (1 + q6) (l.take k)))) :: Rs) w287 := hW289
     have e293 := hA288 0 (by decide)
     have e294 := hA288 2 (by decide)
     refine obl rfl ?_
     exact ov_lss (k := .i64) (a := ((a9 : Nat) : Int)) (b := (((laidL (1 + q6) (l.take k)).length : Nat) : Int)) e293 e294 (fun vals' hv _ => ⟨rfl, hv⟩)
    ·intro k295 vals w296 h299 h300 hW298 hA297
     have e301 := hA297 3 (by decide)
     refine obl rfl ?_
     exact ov_move (v := .bool (decide (((a9 : Nat) : Int) < (((laidL (1 + q6) (l.take k)).length : Nat) : Int)))) e301 (fun vals' hv _ => ⟨rfl, hv⟩)
    ·intro k302 vals w303 h306 h307 hW305 hA304
     have e308 := hA304 4 (by decide)
     refine oblc rfl rfl e308 (fun hb309 => ?_) (fun hb309 => fun vals' hv _ => ⟨trivial, hv.trans (if_neg hb309).symm⟩)
     have hl310 := hb309
     have hl310 := of_decide_eq_true hl310
     exact ov_move (v := v35) rfl (fun vals' hv _ => ⟨rfl, hv.trans (if_pos hb309).symm⟩)
    ·intro k311 vals w312 h315 h316 hW314 hA313
     have e317 := hA313 4 (by decide)
     refine oblc rfl rfl e317 (fun hb318 => ?_) (fun hb318 => fun vals' hv _ => ⟨trivial, hv.trans (if_neg hb318).symm⟩)
     have hl319 := hb318
     have hl319 := of_decide_eq_true hl319
     exact ov_move (v := .int .i64 ((a9 : Nat) : Int)) rfl (fun vals' hv _ => ⟨rfl, hv.trans (if_pos hb318).symm⟩)
    ·intro k320 vals w321 h324 h325 hW323 hA322
     obtain rfl : k320 = 0 := Nat.le_antisymm h325 h324
     have hS326 : Sep G96 w82 ((SetO b11 (1 + q6) (laidL (1 + q6) (l.take (k + 1)))) :: (RowE (α := Int) own 3 v53 (vecE (1 + q6) (laidL (1 + q6) (l.take k)))) :: Rs) w321 := hW323
     have e327 := hA322 4 (by decide)
     have e328 : vals 5 = (if (decide (((a9 : Nat) : Int) < (((laidL (1 + q6) (l.take k)).length : Nat) : Int))) = true then (v35 : Value) else undef) := hA322 5 (by decide)
     have e329 : vals 6 = (if (decide (((a9 : Nat) : Int) < (((laidL (1 + q6) (l.take k)).length : Nat) : Int))) = true then (.int .i64 ((a9 : Nat) : Int) : Value) else undef) := hA322 6 (by decide)
     refine oblc rfl rfl e327 (fun hb330 => ?_) (fun hb330 => fun vals' hv _ => ⟨trivial, hv.trans (if_neg hb330).symm⟩)
     have hl331 := hb330
     have hl331 := of_decide_eq_true hl331
     have hi332 : a9 < (laidL (1 + q6) (l.take k)).length := (by first | omega | (simp only [lens]; omega))
     exact ov_indexAddrN (k := 10) (i := a9) Try.underlying22 Try.sizeOf36 (show _ = (v35 : Value) from (Eq.trans e328 (if_pos hb330))) (RdS.base hrd94 hB99).sl (show _ = (.int .i64 ((a9 : Nat) : Int) : Value) from (Eq.trans e329 (if_pos hb330))) hi332 (fun vals' hv _ => ⟨rfl, hv.trans (if_pos hb330).symm⟩)
    ·intro k333 vals w334 h337 h338 hW336 hA335
     obtain rfl : k333 = 0 := Nat.le_antisymm h338 h337
     have hS339 : Sep G96 w82 ((SetO b11 (1 + q6) (laidL (1 + q6) (l.take (k + 1)))) :: (RowE (α := Int) own 3 v53 (vecE (1 + q6) (laidL (1 + q6) (l.take k)))) :: Rs) w334 := hW336
     have e340 := hA335 4 (by decide)
     have e341 : vals 7 = (if (decide (((a9 : Nat) : Int) < (((laidL (1 + q6) (l.take k)).length : Nat) : Int))) = true then (.pointer (some ⟨sb v35, so v35 + a9 * 10, none⟩) : Value) else undef) := hA335 7 (by decide)
     refine oblc rfl rfl e340 (fun hb342 => ?_) (fun hb342 => fun vals' hv _ => ⟨trivial, hv.trans (if_neg hb342).symm⟩)
     have hl343 := hb342
     have hl343 := of_decide_eq_true hl343
     have hi345 : a9 < (laidL (1 + q6) (l.take k)).length := (by first | omega | (simp only [lens]; omega))
     obtain ⟨hce344, hde344_0, hoke344⟩ := (RdS.base hrd94 hB99).ev hi345
     rw [← getD_at default hi345] at hce344 hde344_0 hoke344
     have hsm346 : (((laidL (1 + q6) (l.take k)).getD a9 default).deps).length * 8 ≤ 140737488355328 := hde344_0.small
     have hcw347 := hS339.cells hce344 ((RdS.base hrd94 hB99).foot (ne_of_lt hi345))
     exact ov_loadk (k := 10) Try.isAgg36 Try.sizeOf36 rfl (show _ = (.pointer (some ⟨sb v35, so v35 + a9 * 10, none⟩) : Value) from (Eq.trans e341 (if_pos hb342))) hcw347 (fun vals' hv _ => ⟨rfl, hv.trans (if_pos hb342).symm⟩)
    ·intro k348 vals w349 h352 h353 hW351 hA350
     have e354 := hA350 4 (by decide)
     refine oblc rfl rfl e354 (fun hb355 => ?_) (fun hb355 => fun vals' hv _ => ⟨trivial, hv.trans (if_neg hb355).symm⟩)
     have hl356 := hb355
     have hl356 := of_decide_eq_true hl356
     exact ov_move (v := vl) rfl (fun vals' hv _ => ⟨rfl, hv.trans (if_pos hb355).symm⟩)
    ·intro k357 vals w358 h361 h362 hW360 hA359
     have e363 := hA359 4 (by decide)
     refine oblc rfl rfl e363 (fun hb364 => ?_) (fun hb364 => fun vals' hv _ => ⟨trivial, hv.trans (if_neg hb364).symm⟩)
     have hl365 := hb364
     have hl365 := of_decide_eq_true hl365
     exact ov_move (v := .int .i64 ((k : Nat) : Int)) rfl (fun vals' hv _ => ⟨rfl, hv.trans (if_pos hb364).symm⟩)
    ·intro k366 vals w367 h370 h371 hW369 hA368
     obtain rfl : k366 = 0 := Nat.le_antisymm h371 h370
     have hS372 : Sep G96 w82 ((SetO b11 (1 + q6) (laidL (1 + q6) (l.take (k + 1)))) :: (RowE (α := Int) own 3 v53 (vecE (1 + q6) (laidL (1 + q6) (l.take k)))) :: Rs) w367 := hW369
     have e373 := hA368 4 (by decide)
     have e374 : vals 9 = (if (decide (((a9 : Nat) : Int) < (((laidL (1 + q6) (l.take k)).length : Nat) : Int))) = true then (vl : Value) else undef) := hA368 9 (by decide)
     have e375 : vals 10 = (if (decide (((a9 : Nat) : Int) < (((laidL (1 + q6) (l.take k)).length : Nat) : Int))) = true then (.int .i64 ((k : Nat) : Int) : Value) else undef) := hA368 10 (by decide)
     refine oblc rfl rfl e373 (fun hb376 => ?_) (fun hb376 => fun vals' hv _ => ⟨trivial, hv.trans (if_neg hb376).symm⟩)
     have hl377 := hb376
     have hl377 := of_decide_eq_true hl377
     have hi378 : k < l.length := (by first | omega | (simp only [lens]; omega))
     exact ov_indexAddrN (k := 10) (i := k) Try.underlying22 Try.sizeOf36 (show _ = (vl : Value) from (Eq.trans e374 (if_pos hb376))) (RdS.base (RdS.base hl hB91) hB99).sl (show _ = (.int .i64 ((k : Nat) : Int) : Value) from (Eq.trans e375 (if_pos hb376))) hi378 (fun vals' hv _ => ⟨rfl, hv.trans (if_pos hb376).symm⟩)
    ·intro k379 vals w380 h383 h384 hW382 hA381
     obtain rfl : k379 = 0 := Nat.le_antisymm h384 h383
     have hS385 : Sep G96 w82 ((SetO b11 (1 + q6) (laidL (1 + q6) (l.take (k + 1)))) :: (RowE (α := Int) own 3 v53 (vecE (1 + q6) (laidL (1 + q6) (l.take k)))) :: Rs) w380 := hW382
     have e386 := hA381 4 (by decide)
     have e387 : vals 11 = (if (decide (((a9 : Nat) : Int) < (((laidL (1 + q6) (l.take k)).length : Nat) : Int))) = true then (.pointer (some ⟨sb vl, so vl + k * 10, none⟩) : Value) else undef) := hA381 11 (by decide)
     refine oblc rfl rfl e386 (fun hb388 => ?_) (fun hb388 => fun vals' hv _ => ⟨trivial, hv.trans (if_neg hb388).symm⟩)
     have hl389 := hb388
     have hl389 := of_decide_eq_true hl389
     have hi391 : k < l.length := (by first | omega | (simp only [lens]; omega))
     obtain ⟨hce390, hde390_0, hoke390⟩ := (RdS.base (RdS.base hl hB91) hB99).ev hi391
     rw [← getD_at default hi391] at hce390 hde390_0 hoke390
     have hsm392 : ((l.getD k default).deps).length * 8 ≤ 140737488355328 := hde390_0.small
     have hcw393 := hS385.cells hce390 ((RdS.base (RdS.base hl hB91) hB99).foot (ne_of_lt hi391))
     exact ov_loadk (k := 10) Try.isAgg36 Try.sizeOf36 rfl (show _ = (.pointer (some ⟨sb vl, so vl + k * 10, none⟩) : Value) from (Eq.trans e387 (if_pos hb388))) hcw393 (fun vals' hv _ => ⟨rfl, hv.trans (if_pos hb388).symm⟩)
    ·intro k235 vals w236 h239 h240 hW238 hA237
     obtain rfl : k235 = 0 := Nat.le_antisymm h240 h239
     have hS241 : Sep G96 w82 ((SetO b11 (1 + q6) (laidL (1 + q6) (l.take (k + 1)))) :: (RowE (α := Int) own 3 v53 (vecE (1 + q6) (laidL (1 + q6) (l.take k)))) :: Rs) w236 := hW238
     have e242 := hA237 4 (by decide)
     have e243 : vals 8 = (if (decide (((a9 : Nat) : Int) < (((laidL (1 + q6) (l.take k)).length : Nat) : Int))) = true then (.agg (((laidL (1 + q6) (l.take k)).getD a9 default).cells (cellV w82 (sb v35) (so v35 + a9 * 10 + 3))).toArray : Value) else undef) := hA237 8 (by decide)
     have e244 : vals 12 = (if (decide (((a9 : Nat) : Int) < (((laidL (1 + q6) (l.take k)).length : Nat) : Int))) = true then (.agg ((l.getD k default).cells (cellV w82 (sb vl) (so vl + k * 10 + 3))).toArray : Value) else undef) := hA237 12 (by decide)
     refine oblc rfl rfl e242 (fun hb245 => ?_) (fun hb245 vals' hv hv' => ?_)
     ·skip
      have hl246 := hb245
      have hl246 := of_decide_eq_true hl246
      have hi248 : a9 < (laidL (1 + q6) (l.take k)).length := (by first | omega | (simp only [lens]; omega))
      obtain ⟨hce247, hde247_0, hoke247⟩ := (RdS.base hrd94 hB99).ev hi248
      rw [← getD_at default hi248] at hce247 hde247_0 hoke247
      have hsm249 : (((laidL (1 + q6) (l.take k)).getD a9 default).deps).length * 8 ≤ 140737488355328 := hde247_0.small
      have hcw250 := hS241.cells hce247 ((RdS.base hrd94 hB99).foot (ne_of_lt hi248))
      have hi252 : k < l.length := (by first | omega | (simp only [lens]; omega))
      obtain ⟨hce251, hde251_0, hoke251⟩ := (RdS.base (RdS.base hl hB91) hB99).ev hi252
      rw [← getD_at default hi252] at hce251 hde251_0 hoke251
      have hsm253 : ((l.getD k default).deps).length * 8 ≤ 140737488355328 := hde251_0.small
      have hcw254 := hS241.cells hce251 ((RdS.base (RdS.base hl hB91) hB99).foot (ne_of_lt hi252))
      refine (ov_call (f := 28) (vals := [.agg (((laidL (1 + q6) (l.take k)).getD a9 default).cells (cellV w82 (sb v35) (so v35 + a9 * 10 + 3))).toArray, .agg ((l.getD k default).cells (cellV w82 (sb vl) (so vl + k * 10 + 3))).toArray]) (cap := []) (show _ = (.func (.func 28) #[] #[] : Value) from rfl) (mapL ⟨(show _ = (.agg (((laidL (1 + q6) (l.take k)).getD a9 default).cells (cellV w82 (sb v35) (so v35 + a9 * 10 + 3))).toArray : Value) from (Eq.trans e243 (if_pos hb245))), (show _ = (.agg ((l.getD k default).cells (cellV w82 (sb vl) (so vl + k * 10 + 3))).toArray : Value) from (Eq.trans e244 (if_pos hb245))), trivial⟩) Try.call28 (D_ahead (a := ((laidL (1 + q6) (l.take k)).getD a9 default)) (b := (l.getD k default)) hde247_0 hoke247 hde251_0 hoke251 hS241) ?_)
      rintro _ w255 ⟨rfl, hS256⟩
      intro vals' hv hv'
      refine ⟨?_, trivial⟩
      show (vals' 13 = (if (decide (((a9 : Nat) : Int) < (((laidL (1 + q6) (l.take k)).length : Nat) : Int))) = true then (.bool ((ltE ((laidL (1 + q6) (l.take k)).getD a9 default) (l.getD k default))) : Value) else undef)) ∧ Sep G96 w82 ((SetO b11 (1 + q6) (laidL (1 + q6) (l.take (k + 1)))) :: (RowE (α := Int) own 3 v53 (vecE (1 + q6) (laidL (1 + q6) (l.take k)))) :: Rs) w255
      exact ⟨(hv.trans (if_pos hb245).symm), hS256⟩
     ·skip
      refine ⟨?_, trivial⟩
      show (vals' 13 = (if (decide (((a9 : Nat) : Int) < (((laidL (1 + q6) (l.take k)).length : Nat) : Int))) = true then (.bool ((ltE ((laidL (1 + q6) (l.take k)).getD a9 default) (l.getD k default))) : Value) else undef)) ∧ Sep G96 w82 ((SetO b11 (1 + q6) (laidL (1 + q6) (l.take (k + 1)))) :: (RowE (α := Int) own 3 v53 (vecE (1 + q6) (laidL (1 + q6) (l.take k)))) :: Rs) w236
      exact ⟨(hv.trans (if_neg hb245).symm), hS241⟩
    ·intro k394 vals w395 h398 h399 hW397 hA396
     obtain rfl : k394 = 1 := Nat.le_antisymm h399 h398
     obtain ⟨he257, hS400⟩ := hW397
     have e401 := hA396 4 (by decide)
     refine obl rfl ?_
     exact ov_pick_and (b := decide (((a9 : Nat) : Int) < (((laidL (1 + q6) (l.take k)).length : Nat) : Int))) (b' := (ltE ((laidL (1 + q6) (l.take k)).getD a9 default) (l.getD k default))) e401 (fun hbp => (show _ = (.bool ((ltE ((laidL (1 + q6) (l.take k)).getD a9 default) (l.getD k default))) : Value) from (Eq.trans he257 (if_pos hbp)))) (fun vals' hv _ => ⟨rfl, hv⟩)
    intro vals w402 hW403 hA404
    obtain ⟨he257, hS405⟩ := hW403
    have e406 := hA404 14 (by decide)
    refine st_env (kv := [(1, vl), (5, .pointer (some ⟨b11, 0, none⟩)), (6, .int .i64 ((k : Nat) : Int)), (7, v35), (10, v81), (11, .int .i64 ((a9 : Nat) : Int)), (74, .bool ((decide (((a9 : Nat) : Int) < (((laidL (1 + q6) (l.take k)).length : Nat) : Int))) && (ltE ((laidL (1 + q6) (l.take k)).getD a9 default) (l.getD k default))))]) ⟨rfl, rfl, rfl, rfl, rfl, rfl, (by exact e406), trivial⟩ (fun ρw402 => ?_)
    refine st_nil ?_
    cases hc407 : (decide (((a9 : Nat) : Int) < (((laidL (1 + q6) (l.take k)).length : Nat) : Int))) && (ltE ((laidL (1 + q6) (l.take k)).getD a9 default) (l.getD k default))
    ·skip
     have hc407r := hc407
     try simp only [bools] at hc407
     have hQ9 : a9 < (laidL (1 + q6) (l.take k)).length → ltE ((laidL (1 + q6) (l.take k)).getD a9 default) (l.getD k default) = false := fun hlt => by simpa [hlt] using hc407r
     have hZ9 := ins_at hD9 ha9 hm9 hQ9
     refine WP_cond_f rfl ?_
     refine WP_exit ?_
     refine blk_exit ?_
     refine WP_seq ?_
     refine WP_draw6 (WF [fun vals wq => Sep G96 w82 ((SetO b11 (1 + q6) (laidL (1 + q6) (l.take (k + 1)))) :: (RowE (α := Int) own 3 v53 (vecE (1 + q6) (laidL (1 + q6) (l.take k)))) :: Rs) wq, fun vals wq => ∃ (b415 : Nat), (vals 0 = ((.slice (some ⟨b415, 0, none⟩) 0 0) : Value)) ∧ Sep G96 w82 ((Blk b415 #[] 36) :: (SetO b11 (1 + q6) (laidL (1 + q6) (l.take (k + 1)))) :: (RowE (α := Int) own 3 v53 (vecE (1 + q6) (laidL (1 + q6) (l.take k)))) :: Rs) wq, fun _ _ => True, fun vals wq => ∃ (b415 : Nat) (v445 : Value), (vals 0 = ((.slice (some ⟨b415, 0, none⟩) 0 0) : Value)) ∧ (vals 4 = (v445 : Value)) ∧ Sep G96 w82 ((RowE (α := Ev) (shr G96 w82) 36 v445 ((laidL (1 + q6) (l.take k)).take a9)) :: (SetO b11 (1 + q6) (laidL (1 + q6) (l.take (k + 1)))) :: (RowE (α := Int) own 3 v53 (vecE (1 + q6) (laidL (1 + q6) (l.take k)))) :: Rs) wq, fun vals wq => ∃ (b490 : Nat), (vals 9 = ((.slice (some ⟨b490, 0, none⟩) 1 1) : Value)) ∧ Sep G96 w82 ((Blk b490 ((l.getD k default).cells (cellV w82 (sb vl) (so vl + k * 10 + 3))).toArray 36) :: (SetO b11 (1 + q6) (laidL (1 + q6) (l.take (k + 1)))) :: (RowE (α := Int) own 3 v53 (vecE (1 + q6) (laidL (1 + q6) (l.take k)))) :: Rs) wq, fun vals wq => ∃ (b415 : Nat) (b490 : Nat), (vals 0 = ((.slice (some ⟨b415, 0, none⟩) 0 0) : Value)) ∧ (vals 9 = ((.slice (some ⟨b490, 0, none⟩) 1 1) : Value)) ∧ Sep G96 w82 ((Blk b415 #[] 36) :: (Blk b490 ((l.getD k default).cells (cellV w82 (sb vl) (so vl + k * 10 + 3))).toArray 36) :: (SetO b11 (1 + q6) (laidL (1 + q6) (l.take (k + 1)))) :: (RowE (α := Int) own 3 v53 (vecE (1 + q6) (laidL (1 + q6) (l.take k)))) :: Rs) wq, fun _ _ => True, fun vals wq => ∃ (b415 : Nat) (v445 : Value) (b490 : Nat), (vals 0 = ((.slice (some ⟨b415, 0, none⟩) 0 0) : Value)) ∧ (vals 4 = (v445 : Value)) ∧ (vals 9 = ((.slice (some ⟨b490, 0, none⟩) 1 1) : Value)) ∧ Sep G96 w82 ((Blk b490 ((l.getD k default).cells (cellV w82 (sb vl) (so vl + k * 10 + 3))).toArray 36) :: (RowE (α := Ev) (shr G96 w82) 36 v445 ((laidL (1 + q6) (l.take k)).take a9)) :: (SetO b11 (1 + q6) (laidL (1 + q6) (l.take (k + 1)))) :: (RowE (α := Int) own 3 v53 (vecE (1 + q6) (laidL (1 + q6) (l.take k)))) :: Rs) wq, fun _ _ => True, fun _ _ => True, fun _ _ => True, fun _ _ => True, fun _ _ => True, fun _ _ => True, fun _ _ => True, fun vals wq => ∃ (b415 : Nat) (v445 : Value) (b490 : Nat) (v507 : Value), (vals 0 = ((.slice (some ⟨b415, 0, none⟩) 0 0) : Value)) ∧ (vals 4 = (v445 : Value)) ∧ (vals 9 = ((.slice (some ⟨b490, 0, none⟩) 1 1) : Value)) ∧ (vals 10 = (v507 : Value)) ∧ Sep G96 w82 ((RowE (α := Ev) (shr G96 w82) 36 v507 ((laidL (1 + q6) (l.take k)).take a9 ++ [(l.getD k default)])) :: (SetO b11 (1 + q6) (laidL (1 + q6) (l.take (k + 1)))) :: (RowE (α := Int) own 3 v53 (vecE (1 + q6) (laidL (1 + q6) (l.take k)))) :: Rs) wq, fun _ _ => True, fun _ _ => True, fun _ _ => True, fun _ _ => True, fun _ _ => True, fun _ _ => True, fun _ _ => True, fun _ _ => True, fun _ _ => True, fun _ _ => True, fun _ _ => True, fun _ _ => True, fun _ _ => True, fun _ _ => True, fun _ _ => True, fun vals wq => ∃ (b415 : Nat) (v445 : Value) (b490 : Nat) (v507 : Value) (v544 : Value), (vals 0 = ((.slice (some ⟨b415, 0, none⟩) 0 0) : Value)) ∧ (vals 4 = (v445 : Value)) ∧ (vals 9 = ((.slice (some ⟨b490, 0, none⟩) 1 1) : Value)) ∧ (vals 10 = (v507 : Value)) ∧ (vals 14 = (v544 : Value)) ∧ Sep G96 w82 ((RowE (α := Ev) (shr G96 w82) 36 v544 ((laidL (1 + q6) (l.take k)).take a9 ++ [(l.getD k default)] ++ (laidL (1 + q6) (l.take k)).drop a9)) :: (SetO b11 (1 + q6) (laidL (1 + q6) (l.take (k + 1)))) :: (RowE (α := Int) own 3 v53 (vecE (1 + q6) (laidL (1 + q6) (l.take k)))) :: Rs) wq]) (AF [fun _ => True, Vl 1 (v35), Vl 2 (.int .i64 ((a9 : Nat) : Int)), Vl 3 ((subV 10 v35 0 a9)), fun _ => True, Vl 5 (vl), Vl 6 (.int .i64 ((k : Nat) : Int)), Vl 7 (.pointer (some ⟨sb vl, so vl + k * 10, none⟩)), Vl 8 (.agg ((l.getD k default).cells (cellV w82 (sb vl) (so vl + k * 10 + 3))).toArray), fun _ => True, fun _ => True, Vl 11 (v35), Vl 12 (.int .i64 ((a9 : Nat) : Int)), Vl 13 ((subV 10 v35 a9 ((laidL (1 + q6) (l.take k)).length))), fun _ => True, fun vals => ∀ (v544 : Value), vals 14 = (v544 : Value) → vals 15 = (v544 : Value)]) [[], [], [], [1, 2], [0, 1, 2, 3], [], [], [5, 6], [5, 6, 7], [5, 6, 7, 8], [0, 1, 2, 3, 4, 5, 6, 7, 8, 9], [], [], [11, 12], [0, 1, 2, 3, 4, 5, 6, 7, 8, 9, 10, 11, 12, 13], [0, 1, 2, 3, 4, 5, 6, 7, 8, 9, 10, 11, 12, 13, 14]] [0, 4, 9, 10, 14] [[0, 4], [0, 1, 4, 5], [0, 1, 4, 5], [0, 1, 4, 5], [1, 5], [0, 1, 3], [0, 1, 3], [0, 1, 3], [0, 1, 3], [0, 1, 3], [7], [0, 1, 3, 4, 5, 7, 15], [0, 1, 3, 4, 5, 7, 15], [0, 1, 3, 4, 5, 7, 15], [15], [31]] (by kernel_rfl) (by kernel_rfl) (by kernel_rfl) rfl (by kernel_rfl) (by kernel_rfl) (by decide) (fun _ h1 h2 h3 h4 _ => hS405.same h1 h2 h3 h4) ?_ (AF_loc ⟨dT, dA, dA, dA, dT, dA, dA, dA, dA, dT, dT, dA, dA, dA, dT, fun vals vals' hv h => fun v544 hq0 => (hv 15 (.inl rfl)).trans (h v544 ((hv 14 (.inr (by decide))).symm.trans hq0)), trivial⟩) ⟨?_, ?_, ?_, ?_, ?_, ?_, ?_, ?_, ?_, ?_, ?_, ?_, ?_, ?_, ?_, ?_, trivial⟩ ?_
     ·intro k vals vals' w hv h
      have e : ∀ j ∈ ([0, 4, 9, 10, 14] : List Nat), vals' j = vals j := hv
      match k, h with
      | 0, h => exact h
      | 1, h => exact (by simpa only [WF, List.getElem?_cons_zero, List.getElem?_cons_succ, e 0 (by decide)] using h)
      | 2, h => exact h
      | 3, h => exact (by simpa only [WF, List.getElem?_cons_zero, List.getElem?_cons_succ, e 0 (by decide), e 4 (by decide)] using h)
      | 4, h => exact (by simpa only [WF, List.getElem?_cons_zero, List.getElem?_cons_succ, e 9 (by decide)] using h)
      | 5, h => exact (by simpa only [WF, List.getElem?_cons_zero, List.getElem?_cons_succ, e 0 (by decide), e 9 (by decide)] using h)
      | 6, h => exact h
      | 7, h => exact (by simpa only [WF, List.getElem?_cons_zero, List.getElem?_cons_succ, e 0 (by decide), e 4 (by decide), e 9 (by decide)] using h)
      | 8, h => exact h
      | 9, h => exact h
      | 10, h => exact h
      | 11, h => exact h
      | 12, h => exact h
      | 13, h => exact h
      | 14, h => exact h
      | 15, h => exact (by simpa only [WF, List.getElem?_cons_zero, List.getElem?_cons_succ, e 0 (by decide), e 4 (by decide), e 9 (by decide), e 10 (by decide)] using h)
      | 16, h => exact h
      | 17, h => exact h
      | 18, h => exact h
      | 19, h => exact h
      | 20, h => exact h
      | 21, h => exact h
      | 22, h => exact h
      | 23, h => exact h
      | 24, h => exact h
      | 25, h => exact h
      | 26, h => exact h
      | 27, h => exact h
      | 28, h => exact h
      | 29, h => exact h
      | 30, h => exact h
      | 31, h => exact (by simpa only [WF, List.getElem?_cons_zero, List.getElem?_cons_succ, e 0 (by decide), e 4 (by decide), e 9 (by decide), e 10 (by decide), e 14 (by decide)] using h)
      | _ + 32, _ => trivial
     ·intro k555 vals w556 hk559 hW558 hA557
      have hk5592 : k555 ∈ [0, 4] := hk559
      simp only [List.mem_cons, List.not_mem_nil, or_false] at hk5592
      rcases hk5592 with rfl | rfl
      ·skip
       have hS560 : Sep G96 w82 ((SetO b11 (1 + q6) (laidL (1 + q6) (l.take (k + 1)))) :: (RowE (α := Int) own 3 v53 (vecE (1 + q6) (laidL (1 + q6) (l.take k)))) :: Rs) w556 := hW558
       refine obl rfl ?_
       refine (ov_buildSlice (k := 10) (parts' := []) (c := #[]) Try.underlying22 Try.sizeOf36 Try.zeroValue36 (by decide) rfl (by kernel_rfl) ?_)
       intro w563 b415 hn561
       have hS564 : Sep G96 w82 ((Blk b415 #[] 36) :: (SetO b11 (1 + q6) (laidL (1 + q6) (l.take (k + 1)))) :: (RowE (α := Int) own 3 v53 (vecE (1 + q6) (laidL (1 + q6) (l.take k)))) :: Rs) w563 := hS560.new hn561
       intro vals' hv hv'
       refine ⟨?_, trivial⟩
       show ∃ (b415 : Nat), (vals' 0 = ((.slice (some ⟨b415, 0, none⟩) 0 0) : Value)) ∧ Sep G96 w82 ((Blk b415 #[] 36) :: (SetO b11 (1 + q6) (laidL (1 + q6) (l.take (k + 1)))) :: (RowE (α := Int) own 3 v53 (vecE (1 + q6) (laidL (1 + q6) (l.take k)))) :: Rs) w563
       exact ⟨b415, hv, hS564⟩
      ·skip
       obtain ⟨b490, he493, hS565⟩ := hW558
       refine obl rfl ?_
       refine (ov_buildSlice (k := 10) (parts' := []) (c := #[]) Try.underlying22 Try.sizeOf36 Try.zeroValue36 (by decide) rfl (by kernel_rfl) ?_)
       intro w568 b415 hn566
       have hS569 : Sep G96 w82 ((Blk b415 #[] 36) :: (Blk b490 ((l.getD k default).cells (cellV w82 (sb vl) (so vl + k * 10 + 3))).toArray 36) :: (SetO b11 (1 + q6) (laidL (1 + q6) (l.take (k + 1)))) :: (RowE (α := Int) own 3 v53 (vecE (1 + q6) (laidL (1 + q6) (l.take k)))) :: Rs) w568 := hS565.new hn566
       intro vals' hv hv'
       refine ⟨?_, trivial⟩
       show ∃ (b415 : Nat) (b490 : Nat), (vals' 0 = ((.slice (some ⟨b415, 0, none⟩) 0 0) : Value)) ∧ (vals' 9 = ((.slice (some ⟨b490, 0, none⟩) 1 1) : Value)) ∧ Sep G96 w82 ((Blk b415 #[] 36) :: (Blk b490 ((l.getD k default).cells (cellV w82 (sb vl) (so vl + k * 10 + 3))).toArray 36) :: (SetO b11 (1 + q6) (laidL (1 + q6) (l.take (k + 1)))) :: (RowE (α := Int) own 3 v53 (vecE (1 + q6) (laidL (1 + q6) (l.take k)))) :: Rs) w568
       exact ⟨b415, b490, hv, (by rw [hv' 9 (by decide)]; exact he493), hS569⟩
     ·intro k570 vals w571 hk574 hW573 hA572
      refine obl rfl ?_
      exact ov_move (v := v35) rfl (fun vals' hv _ => ⟨rfl, hv⟩)
     ·intro k575 vals w576 hk579 hW578 hA577
      refine obl rfl ?_
      exact ov_move (v := .int .i64 ((a9 : Nat) : Int)) rfl (fun vals' hv _ => ⟨rfl, hv⟩)
     ·intro k580 vals w581 hk584 hW583 hA582
      have hk5842 : k580 ∈ [0, 1, 4, 5] := hk584
      simp only [List.mem_cons, List.not_mem_nil, or_false] at hk5842
      rcases hk5842 with rfl | rfl | rfl | rfl
      ·skip
       have hS585 : Sep G96 w82 ((SetO b11 (1 + q6) (laidL (1 + q6) (l.take (k + 1)))) :: (RowE (α := Int) own 3 v53 (vecE (1 + q6) (laidL (1 + q6) (l.take k)))) :: Rs) w581 := hW583
       have e586 := hA582 1 (by decide)
       have e587 := hA582 2 (by decide)
       refine obl rfl ?_
       exact ov_sliceHi (j := a9) (k := 10) (n := (laidL (1 + q6) (l.take k)).length) Try.underlying22 Try.sizeOf36 e586 (RdS.base hrd94 hB99).sl e587 (by first | omega | (simp only [lens]; omega)) (fun vals' hv _ => ⟨rfl, hv⟩)
      ·skip
       obtain ⟨b415, he418, hS588⟩ := hW583
       have e589 := hA582 1 (by decide)
       have e590 := hA582 2 (by decide)
       refine obl rfl ?_
       exact ov_sliceHi (j := a9) (k := 10) (n := (laidL (1 + q6) (l.take k)).length) Try.underlying22 Try.sizeOf36 e589 (RdS.base hrd94 hB99).sl e590 (by first | omega | (simp only [lens]; omega)) (fun vals' hv _ => ⟨rfl, hv⟩)
      ·skip
       obtain ⟨b490, he493, hS591⟩ := hW583
       have e592 := hA582 1 (by decide)
       have e593 := hA582 2 (by decide)
       refine obl rfl ?_
       exact ov_sliceHi (j := a9) (k := 10) (n := (laidL (1 + q6) (l.take k)).length) Try.underlying22 Try.sizeOf36 e592 (RdS.base hrd94 hB99).sl e593 (by first | omega | (simp only [lens]; omega)) (fun vals' hv _ => ⟨rfl, hv⟩)
      ·skip
       obtain ⟨b415, b490, he418, he493, hS594⟩ := hW583
       have e595 := hA582 1 (by decide)
       have e596 := hA582 2 (by decide)
       refine obl rfl ?_
       exact ov_sliceHi (j := a9) (k := 10) (n := (laidL (1 + q6) (l.take k)).length) Try.underlying22 Try.sizeOf36 e595 (RdS.base hrd94 hB99).sl e596 (by first | omega | (simp only [lens]; omega)) (fun vals' hv _ => ⟨rfl, hv⟩)
     ·intro k597 vals w598 hk601 hW600 hA599
      have hk6012 : k597 ∈ [1, 5] := hk601
      simp only [List.mem_cons, List.not_mem_nil, or_false] at hk6012
      rcases hk6012 with rfl | rfl
      ·skip
       obtain ⟨b415, he418, hS602⟩ := hW600
       refine obl rfl ?_
       have e603 := hA599 3 (by decide)
       have hS607 : Sep G96 w82 ((RowE (α := Ev) (shr G96 w82) 36 (.slice (some ⟨b415, 0, none⟩) 0 0) ([] : List Ev)) :: (SetO b11 (1 + q6) (laidL (1 + q6) (l.take (k + 1)))) :: (RowE (α := Int) own 3 v53 (vecE (1 + q6) (laidL (1 + q6) (l.take k)))) :: Rs) w598 := Sep.blkRow (src := (shr G96 w82)) (l := ([] : List Ev)) (css := []) hS602 rfl trivial (by first | decide | (simp only [List.length_cons, List.length_nil]; decide))
       have hr608 := hS607.row (i := 0) rfl
       have hr608s : ([] : List Ev).length * 96 ≤ 140737488355328 := hr608.2
       have h609 := RdS.sub_hi (j := a9) (RdS.base hrd94 hB99) (by first | omega | (simp only [List.length_drop, List.length_take]; omega))
       have h609s : ((laidL (1 + q6) (l.take k)).take a9).length * 96 ≤ 140737488355328 := h609.small
       refine (ov_appendS (src := (shr G96 w82)) (bytes := 96) hS607 el22 he418 e603 h609 (by first | omega | (simp only [List.length_append, List.length_cons, List.length_nil, List.length_take, List.length_drop]; omega)) rfl (hq' := fun _ _ h _ _ => h) ?_)
       intro v445 w604 hS606
       have hS606 : Sep G96 w82 ((RowE (α := Ev) (shr G96 w82) 36 v445 ((laidL (1 + q6) (l.take k)).take a9)) :: (SetO b11 (1 + q6) (laidL (1 + q6) (l.take (k + 1)))) :: (RowE (α := Int) own 3 v53 (vecE (1 + q6) (laidL (1 + q6) (l.take k)))) :: Rs) w604 := hS606
       have hr610 := hS606.row (i := 0) rfl
       have hr610s : ((laidL (1 + q6) (l.take k)).take a9).length * 96 ≤ 140737488355328 := hr610.2
       intro vals' hv hv'
       refine ⟨?_, trivial⟩
       show ∃ (b415 : Nat) (v445 : Value), (vals' 0 = ((.slice (some ⟨b415, 0, none⟩) 0 0) : Value)) ∧ (vals' 4 = (v445 : Value)) ∧ Sep G96 w82 ((RowE (α := Ev) (shr G96 w82) 36 v445 ((laidL (1 + q6) (l.take k)).take a9)) :: (SetO b11 (1 + q6) (laidL (1 + q6) (l.take (k + 1)))) :: (RowE (α := Int) own 3 v53 (vecE (1 + q6) (laidL (1 + q6) (l.take k)))) :: Rs) w604
       exact ⟨b415, v445, (by rw [hv' 0 (by decide)]; exact he418), hv, hS606⟩
      ·skip
       obtain ⟨b415, b490, he418, he493, hS611⟩ := hW600
       refine obl rfl ?_
       have e612 := hA599 3 (by decide)
       have hS616 : Sep G96 w82 ((RowE (α := Ev) (shr G96 w82) 36 (.slice (some ⟨b415, 0, none⟩) 0 0) ([] : List Ev)) :: (Blk b490 ((l.getD k default).cells (cellV w82 (sb vl) (so vl + k * 10 + 3))).toArray 36) :: (SetO b11 (1 + q6) (laidL (1 + q6) (l.take (k + 1)))) :: (RowE (α := Int) own 3 v53 (vecE (1 + q6) (laidL (1 + q6) (l.take k)))) :: Rs) w598 := Sep.blkRow (src := (shr G96 w82)) (l := ([] : List Ev)) (css := []) hS611 rfl trivial (by first | decide | (simp only [List.length_cons, List.length_nil]; decide))
       have hr617 := hS616.row (i := 0) rfl
       have hr617s : ([] : List Ev).length * 96 ≤ 140737488355328 := hr617.2
       have h618 := RdS.sub_hi (j := a9) (RdS.base hrd94 hB99) (by first | omega | (simp only [List.length_drop, List.length_take]; omega))
       have h618s : ((laidL (1 + q6) (l.take k)).take a9).length * 96 ≤ 140737488355328 := h618.small
       refine (ov_appendS (src := (shr G96 w82)) (bytes := 96) hS616 el22 he418 e612 h618 (by first | omega | (simp only [List.length_append, List.length_cons, List.length_nil, List.length_take, List.length_drop]; omega)) rfl (hq' := fun _ _ h _ _ => h) ?_)
       intro v445 w613 hS615
       have hS615 : Sep G96 w82 ((RowE (α := Ev) (shr G96 w82) 36 v445 ((laidL (1 + q6) (l.take k)).take a9)) :: (Blk b490 ((l.getD k default).cells (cellV w82 (sb vl) (so vl + k * 10 + 3))).toArray 36) :: (SetO b11 (1 + q6) (laidL (1 + q6) (l.take (k + 1)))) :: (RowE (α := Int) own 3 v53 (vecE (1 + q6) (laidL (1 + q6) (l.take k)))) :: Rs) w613 := hS615
       have hr619 := hS615.row (i := 0) rfl
       have hr619s : ((laidL (1 + q6) (l.take k)).take a9).length * 96 ≤ 140737488355328 := hr619.2
       have hS620 : Sep G96 w82 ((Blk b490 ((l.getD k default).cells (cellV w82 (sb vl) (so vl + k * 10 + 3))).toArray 36) :: (RowE (α := Ev) (shr G96 w82) 36 v445 ((laidL (1 + q6) (l.take k)).take a9)) :: (SetO b11 (1 + q6) (laidL (1 + q6) (l.take (k + 1)))) :: (RowE (α := Int) own 3 v53 (vecE (1 + q6) (laidL (1 + q6) (l.take k)))) :: Rs) w613 := hS615.sel 4 [1, 0, 2, 3] (Nat.le_add_left _ _) rfl rfl
       intro vals' hv hv'
       refine ⟨?_, trivial⟩
       show ∃ (b415 : Nat) (v445 : Value) (b490 : Nat), (vals' 0 = ((.slice (some ⟨b415, 0, none⟩) 0 0) : Value)) ∧ (vals' 4 = (v445 : Value)) ∧ (vals' 9 = ((.slice (some ⟨b490, 0, none⟩) 1 1) : Value)) ∧ Sep G96 w82 ((Blk b490 ((l.getD k default).cells (cellV w82 (sb vl) (so vl + k * 10 + 3))).toArray 36) :: (RowE (α := Ev) (shr G96 w82) 36 v445 ((laidL (1 + q6) (l.take k)).take a9)) :: (SetO b11 (1 + q6) (laidL (1 + q6) (l.take (k + 1)))) :: (RowE (α := Int) own 3 v53 (vecE (1 + q6) (laidL (1 + q6) (l.take k)))) :: Rs) w613
       exact ⟨b415, v445, b490, (by rw [hv' 0 (by decide)]; exact he418), hv, (by rw [hv' 9 (by decide)]; exact he493), hS620⟩
     ·intro k621 vals w622 hk625 hW624 hA623
      refine obl rfl ?_
      exact ov_move (v := vl) rfl (fun vals' hv _ => ⟨rfl, hv⟩)
     ·intro k626 vals w627 hk630 hW629 hA628
      refine obl rfl ?_
      exact ov_move (v := .int .i64 ((k : Nat) : Int)) rfl (fun vals' hv _ => ⟨rfl, hv⟩)
     ·intro k631 vals w632 hk635 hW634 hA633
      have hk6352 : k631 ∈ [0, 1, 3] := hk635
      simp only [List.mem_cons, List.not_mem_nil, or_false] at hk6352
      rcases hk6352 with rfl | rfl | rfl
      ·skip
       have hS636 : Sep G96 w82 ((SetO b11 (1 + q6) (laidL (1 + q6) (l.take (k + 1)))) :: (RowE (α := Int) own 3 v53 (vecE (1 + q6) (laidL (1 + q6) (l.take k)))) :: Rs) w632 := hW634
       have e637 := hA633 5 (by decide)
       have e638 := hA633 6 (by decide)
       refine obl rfl ?_
       have hi639 : k < l.length := (by first | omega | (simp only [lens]; omega))
       exact ov_indexAddrN (k := 10) (i := k) Try.underlying22 Try.sizeOf36 e637 (RdS.base (RdS.base hl hB91) hB99).sl e638 hi639 (fun vals' hv _ => ⟨rfl, hv⟩)
      ·skip
       obtain ⟨b415, he418, hS640⟩ := hW634
       have e641 := hA633 5 (by decide)
       have e642 := hA633 6 (by decide)
       refine obl rfl ?_
       have hi643 : k < l.length := (by first | omega | (simp only [lens]; omega))
       exact ov_indexAddrN (k := 10) (i := k) Try.underlying22 Try.sizeOf36 e641 (RdS.base (RdS.base hl hB91) hB99).sl e642 hi643 (fun vals' hv _ => ⟨rfl, hv⟩)
      ·skip
       obtain ⟨b415, v445, he418, he451, hS644⟩ := hW634
       have e645 := hA633 5 (by decide)
       have e646 := hA633 6 (by decide)
       refine obl rfl ?_
       have hi647 : k < l.length := (by first | omega | (simp only [lens]; omega))
       exact ov_indexAddrN (k := 10) (i := k) Try.underlying22 Try.sizeOf36 e645 (RdS.base (RdS.base hl hB91) hB99).sl e646 hi647 (fun vals' hv _ => ⟨rfl, hv⟩)
     ·intro k648 vals w649 hk652 hW651 hA650
      have hk6522 : k648 ∈ [0, 1, 3] := hk652
      simp only [List.mem_cons, List.not_mem_nil, or_false] at hk6522
      rcases hk6522 with rfl | rfl | rfl
      ·skip
       have hS653 : Sep G96 w82 ((SetO b11 (1 + q6) (laidL (1 + q6) (l.take (k + 1)))) :: (RowE (α := Int) own 3 v53 (vecE (1 + q6) (laidL (1 + q6) (l.take k)))) :: Rs) w649 := hW651
       have e654 := hA650 7 (by decide)
       refine obl rfl ?_
       have hi656 : k < l.length := (by first | omega | (simp only [lens]; omega))
       obtain ⟨hce655, hde655_0, hoke655⟩ := (RdS.base (RdS.base hl hB91) hB99).ev hi656
       rw [← getD_at default hi656] at hce655 hde655_0 hoke655
       have hsm657 : ((l.getD k default).deps).length * 8 ≤ 140737488355328 := hde655_0.small
       have hcw658 := hS653.cells hce655 ((RdS.base (RdS.base hl hB91) hB99).foot (ne_of_lt hi656))
       exact ov_loadk (k := 10) Try.isAgg36 Try.sizeOf36 rfl e654 hcw658 (fun vals' hv _ => ⟨rfl, hv⟩)
      ·skip
       obtain ⟨b415, he418, hS659⟩ := hW651
       have e660 := hA650 7 (by decide)
       refine obl rfl ?_
       have hi662 : k < l.length := (by first | omega | (simp only [lens]; omega))
       obtain ⟨hce661, hde661_0, hoke661⟩ := (RdS.base (RdS.base hl hB91) hB99).ev hi662
       rw [← getD_at default hi662] at hce661 hde661_0 hoke661
       have hsm663 : ((l.getD k default).deps).length * 8 ≤ 140737488355328 := hde661_0.small
       have hcw664 := hS659.cells hce661 ((RdS.base (RdS.base hl hB91) hB99).foot (ne_of_lt hi662))
       exact ov_loadk (k := 10) Try.isAgg36 Try.sizeOf36 rfl e660 hcw664 (fun vals' hv _ => ⟨rfl, hv⟩)
      ·skip
       obtain ⟨b415, v445, he418, he451, hS665⟩ := hW651
       have e666 := hA650 7 (by decide)
       refine obl rfl ?_
       have hi668 : k < l.length := (by first | omega | (simp only [lens]; omega))
       obtain ⟨hce667, hde667_0, hoke667⟩ := (RdS.base (RdS.base hl hB91) hB99).ev hi668
       rw [← getD_at default hi668] at hce667 hde667_0 hoke667
       have hsm669 : ((l.getD k default).deps).length * 8 ≤ 140737488355328 := hde667_0.small
       have hcw670 := hS665.cells hce667 ((RdS.base (RdS.base hl hB91) hB99).foot (ne_of_lt hi668))
       exact ov_loadk (k := 10) Try.isAgg36 Try.sizeOf36 rfl e666 hcw670 (fun vals' hv _ => ⟨rfl, hv⟩)
     ·intro k671 vals w672 hk675 hW674 hA673
      have hk6752 : k671 ∈ [0, 1, 3] := hk675
      simp only [List.mem_cons, List.not_mem_nil, or_false] at hk6752
      rcases hk6752 with rfl | rfl | rfl
      ·skip
       have hS676 : Sep G96 w82 ((SetO b11 (1 + q6) (laidL (1 + q6) (l.take (k + 1)))) :: (RowE (α := Int) own 3 v53 (vecE (1 + q6) (laidL (1 + q6) (l.take k)))) :: Rs) w672 := hW674
       refine obl rfl ?_
       have e677 := hA673 8 (by decide)
       refine (ov_buildSlice (k := 10) (parts' := [(0, .agg ((l.getD k default).cells (cellV w82 (sb vl) (so vl + k * 10 + 3))).toArray)]) (c := ((l.getD k default).cells (cellV w82 (sb vl) (so vl + k * 10 + 3))).toArray) Try.underlying22 Try.sizeOf36 Try.zeroValue36 (by decide) (mapP ⟨rfl, e677, trivial⟩) (by kernel_rfl) ?_)
       intro w680 b490 hn678
       have hS681 : Sep G96 w82 ((Blk b490 ((l.getD k default).cells (cellV w82 (sb vl) (so vl + k * 10 + 3))).toArray 36) :: (SetO b11 (1 + q6) (laidL (1 + q6) (l.take (k + 1)))) :: (RowE (α := Int) own 3 v53 (vecE (1 + q6) (laidL (1 + q6) (l.take k)))) :: Rs) w680 := hS676.new hn678
       intro vals' hv hv'
       refine ⟨?_, trivial⟩
       show ∃ (b490 : Nat), (vals' 9 = ((.slice (some ⟨b490, 0, none⟩) 1 1) : Value)) ∧ Sep G96 w82 ((Blk b490 ((l.getD k default).cells (cellV w82 (sb vl) (so vl + k * 10 + 3))).toArray 36) :: (SetO b11 (1 + q6) (laidL (1 + q6) (l.take (k + 1)))) :: (RowE (α := Int) own 3 v53 (vecE (1 + q6) (laidL (1 + q6) (l.take k)))) :: Rs) w680
       exact ⟨b490, hv, hS681⟩
      ·skip
       obtain ⟨b415, he418, hS682⟩ := hW674
       refine obl rfl ?_
       have e683 := hA673 8 (by decide)
       refine (ov_buildSlice (k := 10) (parts' := [(0, .agg ((l.getD k default).cells (cellV w82 (sb vl) (so vl + k * 10 + 3))).toArray)]) (c := ((l.getD k default).cells (cellV w82 (sb vl) (so vl + k * 10 + 3))).toArray) Try.underlying22 Try.sizeOf36 Try.zeroValue36 (by decide) (mapP ⟨rfl, e683, trivial⟩) (by kernel_rfl) ?_)
       intro w686 b490 hn684
       have hS687 : Sep G96 w82 ((Blk b490 ((l.getD k default).cells (cellV w82 (sb vl) (so vl + k * 10 + 3))).toArray 36) :: (Blk b415 #[] 36) :: (SetO b11 (1 + q6) (laidL (1 + q6) (l.take (k + 1)))) :: (RowE (α := Int) own 3 v53 (vecE (1 + q6) (laidL (1 + q6) (l.take k)))) :: Rs) w686 := hS682.new hn684
       have hS688 : Sep G96 w82 ((Blk b415 #[] 36) :: (Blk b490 ((l.getD k default).cells (cellV w82 (sb vl) (so vl + k * 10 + 3))).toArray 36) :: (SetO b11 (1 + q6) (laidL (1 + q6) (l.take (k + 1)))) :: (RowE (α := Int) own 3 v53 (vecE (1 + q6) (laidL (1 + q6) (l.take k)))) :: Rs) w686 := hS687.sel 4 [1, 0, 2, 3] (Nat.le_add_left _ _) rfl rfl
       intro vals' hv hv'
       refine ⟨?_, trivial⟩
       show ∃ (b415 : Nat) (b490 : Nat), (vals' 0 = ((.slice (some ⟨b415, 0, none⟩) 0 0) : Value)) ∧ (vals' 9 = ((.slice (some ⟨b490, 0, none⟩) 1 1) : Value)) ∧ Sep G96 w82 ((Blk b415 #[] 36) :: (Blk b490 ((l.getD k default).cells (cellV w82 (sb vl) (so vl + k * 10 + 3))).toArray 36) :: (SetO b11 (1 + q6) (laidL (1 + q6) (l.take (k + 1)))) :: (RowE (α := Int) own 3 v53 (vecE (1 + q6) (laidL (1 + q6) (l.take k)))) :: Rs) w686
       exact ⟨b415, b490, (by rw [hv' 0 (by decide)]; exact he418), hv, hS688⟩
      ·skip
       obtain ⟨b415, v445, he418, he451, hS689⟩ := hW674
       refine obl rfl ?_
       have e690 := hA673 8 (by decide)
       refine (ov_buildSlice (k := 10) (parts' := [(0, .agg ((l.getD k default).cells (cellV w82 (sb vl) (so vl + k * 10 + 3))).toArray)]) (c := ((l.getD k default).cells (cellV w82 (sb vl) (so vl + k * 10 + 3))).toArray) Try.underlying22 Try.sizeOf36 Try.zeroValue36 (by decide) (mapP ⟨rfl, e690, trivial⟩) (by kernel_rfl) ?_)
       intro w693 b490 hn691
       have hS694 : Sep G96 w82 ((Blk b490 ((l.getD k default).cells (cellV w82 (sb vl) (so vl + k * 10 + 3))).toArray 36) :: (RowE (α := Ev) (shr G96 w82) 36 v445 ((laidL (1 + q6) (l.take k)).take a9)) :: (SetO b11 (1 + q6) (laidL (1 + q6) (l.take (k + 1)))) :: (RowE (α := Int) own 3 v53 (vecE (1 + q6) (laidL (1 + q6) (l.take k)))) :: Rs) w693 := hS689.new hn691
       intro vals' hv hv'
       refine ⟨?_, trivial⟩
       show ∃ (b415 : Nat) (v445 : Value) (b490 : Nat), (vals' 0 = ((.slice (some ⟨b415, 0, none⟩) 0 0) : Value)) ∧ (vals' 4 = (v445 : Value)) ∧ (vals' 9 = ((.slice (some ⟨b490, 0, none⟩) 1 1) : Value)) ∧ Sep G96 w82 ((Blk b490 ((l.getD k default).cells (cellV w82 (sb vl) (so vl + k * 10 + 3))).toArray 36) :: (RowE (α := Ev) (shr G96 w82) 36 v445 ((laidL (1 + q6) (l.take k)).take a9)) :: (SetO b11 (1 + q6) (laidL (1 + q6) (l.take (k + 1)))) :: (RowE (α := Int) own 3 v53 (vecE (1 + q6) (laidL (1 + q6) (l.take k)))) :: Rs) w693
       exact ⟨b415, v445, b490, (by rw [hv' 0 (by decide)]; exact he418), (by rw [hv' 4 (by decide)]; exact he451), hv, hS694⟩
     ·intro k695 vals w696 hk699 hW698 hA697
      have hk6992 : k695 ∈ [7] := hk699
      simp only [List.mem_cons, List.not_mem_nil, or_false] at hk6992
      subst hk6992
      obtain ⟨b415, v445, b490, he418, he451, he493, hS700⟩ := hW698
      refine obl rfl ?_
      have hbk704 := hS700.blk (i := 0) rfl
      have hS705 : Sep G96 w82 ((RowE (α := Ev) (shr G96 w82) 36 v445 ((laidL (1 + q6) (l.take k)).take a9)) :: (SetO b11 (1 + q6) (laidL (1 + q6) (l.take (k + 1)))) :: (RowE (α := Int) own 3 v53 (vecE (1 + q6) (laidL (1 + q6) (l.take k)))) :: Rs) w696 := hS700.sel 4 [1, 2, 3] (Nat.le_add_left _ _) rfl rfl
      have hS706 : Sep G96 w82 ((RowE (α := Ev) (shr G96 w82) 36 v445 ((laidL (1 + q6) (l.take k)).take a9)) :: Emp :: (SetO b11 (1 + q6) (laidL (1 + q6) (l.take (k + 1)))) :: (RowE (α := Int) own 3 v53 (vecE (1 + q6) (laidL (1 + q6) (l.take k)))) :: Rs) w696 := hS705.emp1
      have hi708 : k < l.length := (by first | omega | (simp only [lens]; omega))
      obtain ⟨hce707, hde707_0, hoke707⟩ := (RdS.base (RdS.base hl hB91) hB99).ev hi708
      rw [← getD_at default hi708] at hce707 hde707_0 hoke707
      have hsm709 : ((l.getD k default).deps).length * 8 ≤ 140737488355328 := hde707_0.small
      have hcw710 := hS706.cells hce707 ((RdS.base (RdS.base hl hB91) hB99).foot (ne_of_lt hi708))
      refine (ov_append1S (src := (shr G96 w82)) (bytes := 96) (x1 := (l.getD k default)) hS706 el22 he451 he493 hbk704 (fun _ _ _ => (show _ from ⟨_, rfl, hde707_0, hoke707⟩)) (by first | omega | (simp only [List.length_append, List.length_cons, List.length_nil, List.length_take, List.length_drop]; omega)) rfl ?_)
      intro v507 w701 hS703
      have hr711 := hS703.row (i := 0) rfl
      have hr711s : ((laidL (1 + q6) (l.take k)).take a9 ++ [(l.getD k default)]).length * 96 ≤ 140737488355328 := hr711.2
      intro vals' hv hv'
      refine ⟨?_, trivial⟩
      show ∃ (b415 : Nat) (v445 : Value) (b490 : Nat) (v507 : Value), (vals' 0 = ((.slice (some ⟨b415, 0, none⟩) 0 0) : Value)) ∧ (vals' 4 = (v445 : Value)) ∧ (vals' 9 = ((.slice (some ⟨b490, 0, none⟩) 1 1) : Value)) ∧ (vals' 10 = (v507 : Value)) ∧ Sep G96 w82 ((RowE (α := Ev) (shr G96 w82) 36 v507 ((laidL (1 + q6) (l.take k)).take a9 ++ [(l.getD k default)])) :: (SetO b11 (1 + q6) (laidL (1 + q6) (l.take (k + 1)))) :: (RowE (α := Int) own 3 v53 (vecE (1 + q6) (laidL (1 + q6) (l.take k)))) :: Rs) w701
      exact ⟨b415, v445, b490, v507, (by rw [hv' 0 (by decide)]; exact he418), (by rw [hv' 4 (by decide)]; exact he451), (by rw [hv' 9 (by decide)]; exact he493), hv, hS703⟩
     ·intro k712 vals w713 hk716 hW715 hA714
      refine obl rfl ?_
      exact ov_move (v := v35) rfl (fun vals' hv _ => ⟨rfl, hv⟩)
     ·intro k717 vals w718 hk721 hW720 hA719
      refine obl rfl ?_
      exact ov_move (v := .int .i64 ((a9 : Nat) : Int)) rfl (fun vals' hv _ => ⟨rfl, hv⟩)
     ·intro k722 vals w723 hk726 hW725 hA724
      have hk7262 : k722 ∈ [0, 1, 3, 4, 5, 7, 15] := hk726
      simp only [List.mem_cons, List.not_mem_nil, or_false] at hk7262
      rcases hk7262 with rfl | rfl | rfl | rfl | rfl | rfl | rfl
      ·skip
       have hS727 : Sep G96 w82 ((SetO b11 (1 + q6) (laidL (1 + q6) (l.take (k + 1)))) :: (RowE (α := Int) own 3 v53 (vecE (1 + q6) (laidL (1 + q6) (l.take k)))) :: Rs) w723 := hW725
       have e728 := hA724 11 (by decide)
       have e729 := hA724 12 (by decide)
       refine obl rfl ?_
       exact ov_sliceLo (i := a9) (k := 10) (n := (laidL (1 + q6) (l.take k)).length) Try.underlying22 Try.sizeOf36 e728 (RdS.base hrd94 hB99).sl e729 (by first | omega | (simp only [lens]; omega)) (fun vals' hv _ => ⟨rfl, hv⟩)
      ·skip
       obtain ⟨b415, he418, hS730⟩ := hW725
       have e731 := hA724 11 (by decide)
       have e732 := hA724 12 (by decide)
       refine obl rfl ?_
       exact ov_sliceLo (i := a9) (k := 10) (n := (laidL (1 + q6) (l.take k)).length) Try.underlying22 Try.sizeOf36 e731 (RdS.base hrd94 hB99).sl e732 (by first | omega | (simp only [lens]; omega)) (fun vals' hv _ => ⟨rfl, hv⟩)
      ·skip
       obtain ⟨b415, v445, he418, he451, hS733⟩ := hW725
       have e734 := hA724 11 (by decide)
       have e735 := hA724 12 (by decide)
       refine obl rfl ?_
       exact ov_sliceLo (i := a9) (k := 10) (n := (laidL (1 + q6) (l.take k)).length) Try.underlying22 Try.sizeOf36 e734 (RdS.base hrd94 hB99).sl e735 (by first | omega | (simp only [lens]; omega)) (fun vals' hv _ => ⟨rfl, hv⟩)
      ·skip
       obtain ⟨b490, he493, hS736⟩ := hW725
       have e737 := hA724 11 (by decide)
       have e738 := hA724 12 (by decide)
       refine obl rfl ?_
       exact ov_sliceLo (i := a9) (k := 10) (n := (laidL (1 + q6) (l.take k)).length) Try.underlying22 Try.sizeOf36 e737 (RdS.base hrd94 hB99).sl e738 (by first | omega | (simp only [lens]; omega)) (fun vals' hv _ => ⟨rfl, hv⟩)
      ·skip
       obtain ⟨b415, b490, he418, he493, hS739⟩ := hW725
       have e740 := hA724 11 (by decide)
       have e741 := hA724 12 (by decide)
       refine obl rfl ?_
       exact ov_sliceLo (i := a9) (k := 10) (n := (laidL (1 + q6) (l.take k)).length) Try.underlying22 Try.sizeOf36 e740 (RdS.base hrd94 hB99).sl e741 (by first | omega | (simp only [lens]; omega)) (fun vals' hv _ => ⟨rfl, hv⟩)
      ·skip
       obtain ⟨b415, v445, b490, he418, he451, he493, hS742⟩ := hW725
       have e743 := hA724 11 (by decide)
       have e744 := hA724 12 (by decide)
       refine obl rfl ?_
       exact ov_sliceLo (i := a9) (k := 10) (n := (laidL (1 + q6) (l.take k)).length) Try.underlying22 Try.sizeOf36 e743 (RdS.base hrd94 hB99).sl e744 (by first | omega | (simp only [lens]; omega)) (fun vals' hv _ => ⟨rfl, hv⟩)
      ·skip
       obtain ⟨b415, v445, b490, v507, he418, he451, he493, he517, hS745⟩ := hW725
       have e746 := hA724 11 (by decide)
       have e747 := hA724 12 (by decide)
       refine obl rfl ?_
       exact ov_sliceLo (i := a9) (k := 10) (n := (laidL (1 + q6) (l.take k)).length) Try.underlying22 Try.sizeOf36 e746 (RdS.base hrd94 hB99).sl e747 (by first | omega | (simp only [lens]; omega)) (fun vals' hv _ => ⟨rfl, hv⟩)
     ·intro k748 vals w749 hk752 hW751 hA750
      have hk7522 : k748 ∈ [15] := hk752
      simp only [List.mem_cons, List.not_mem_nil, or_false] at hk7522
      subst hk7522
      obtain ⟨b415, v445, b490, v507, he418, he451, he493, he517, hS753⟩ := hW751
      refine obl rfl ?_
      have e754 := hA750 13 (by decide)
      have h758 := RdS.sub_lo (i := a9) (RdS.base hrd94 hB99) (by first | omega | (simp only [List.length_drop, List.length_take]; omega))
      have h758s : ((laidL (1 + q6) (l.take k)).drop a9).length * 96 ≤ 140737488355328 := h758.small
      refine (ov_appendS (src := (shr G96 w82)) (bytes := 96) hS753 el22 he517 e754 h758 (by first | omega | (simp only [List.length_append, List.length_cons, List.length_nil, List.length_take, List.length_drop]; omega)) rfl (hq' := fun _ _ h _ _ => h) ?_)
      intro v544 w755 hS757
      have hr759 := hS757.row (i := 0) rfl
      have hr759s : ((laidL (1 + q6) (l.take k)).take a9 ++ [(l.getD k default)] ++ (laidL (1 + q6) (l.take k)).drop a9).length * 96 ≤ 140737488355328 := hr759.2
      intro vals' hv hv'
      refine ⟨?_, trivial⟩
      show ∃ (b415 : Nat) (v445 : Value) (b490 : Nat) (v507 : Value) (v544 : Value), (vals' 0 = ((.slice (some ⟨b415, 0, none⟩) 0 0) : Value)) ∧ (vals' 4 = (v445 : Value)) ∧ (vals' 9 = ((.slice (some ⟨b490, 0, none⟩) 1 1) : Value)) ∧ (vals' 10 = (v507 : Value)) ∧ (vals' 14 = (v544 : Value)) ∧ Sep G96 w82 ((RowE (α := Ev) (shr G96 w82) 36 v544 ((laidL (1 + q6) (l.take k)).take a9 ++ [(l.getD k default)] ++ (laidL (1 + q6) (l.take k)).drop a9)) :: (SetO b11 (1 + q6) (laidL (1 + q6) (l.take (k + 1)))) :: (RowE (α := Int) own 3 v53 (vecE (1 + q6) (laidL (1 + q6) (l.take k)))) :: Rs) w755
      exact ⟨b415, v445, b490, v507, v544, (by rw [hv' 0 (by decide)]; exact he418), (by rw [hv' 4 (by decide)]; exact he451), (by rw [hv' 9 (by decide)]; exact he493), (by rw [hv' 10 (by decide)]; exact he517), hv, hS757⟩
     ·intro k760 vals w761 hk764 hW763 hA762
      have hk7642 : k760 ∈ [31] := hk764
      simp only [List.mem_cons, List.not_mem_nil, or_false] at hk7642
      subst hk7642
      obtain ⟨b415, v445, b490, v507, v544, he418, he451, he493, he517, he548, hS765⟩ := hW763
      refine obl rfl ?_
      refine ov_assign (v := v544) he548 (fun vals' hv hv' => ⟨rfl, ?_⟩)
      intro v544q hq0
      rw [hv' 14 (by decide)] at hq0; cases he548.symm.trans hq0
      exact hv
     intro vals w766 hW767 hA768
     obtain ⟨b415, v445, b490, v507, v544, he418, he451, he493, he517, he548, hS769⟩ := hW767
     have e770 : vals 15 = (v544 : Value) := hA768 15 (by decide) v544 he548
     refine st_env (kv := [(1, vl), (5, .pointer (some ⟨b11, 0, none⟩)), (6, .int .i64 ((k : Nat) : Int)), (7, v35), (10, v81), (11, .int .i64 ((a9 : Nat) : Int)), (74, .bool false), (12, v544)]) ⟨rfl, rfl, rfl, rfl, rfl, rfl, rfl, (by exact e770), trivial⟩ (fun ρw766 => ?_)
     refine st_nil ?_
     refine WP_seq ?_
     refine WP_draw4 (WF [fun vals wq => Sep G96 w82 ((RowE (α := Ev) (shr G96 w82) 36 v544 ((laidL (1 + q6) (l.take k)).take a9 ++ [(l.getD k default)] ++ (laidL (1 + q6) (l.take k)).drop a9)) :: (SetO b11 (1 + q6) (laidL (1 + q6) (l.take (k + 1)))) :: (RowE (α := Int) own 3 v53 (vecE (1 + q6) (laidL (1 + q6) (l.take k)))) :: Rs) wq, fun vals wq => (vals 2 = (.bool (decide ((laidL (1 + q6) (l.take (k + 1))) = ((laidL (1 + q6) (l.take k)).take a9 ++ [(l.getD k default)] ++ (laidL (1 + q6) (l.take k)).drop a9))) : Value)) ∧ Sep G96 w82 ((RowE (α := Ev) (shr G96 w82) 36 v544 ((laidL (1 + q6) (l.take k)).take a9 ++ [(l.getD k default)] ++ (laidL (1 + q6) (l.take k)).drop a9)) :: (SetO b11 (1 + q6) (laidL (1 + q6) (l.take (k + 1)))) :: (RowE (α := Int) own 3 v53 (vecE (1 + q6) (laidL (1 + q6) (l.take k)))) :: Rs) wq, fun vals wq => (vals 2 = (.bool (decide ((laidL (1 + q6) (l.take (k + 1))) = ((laidL (1 + q6) (l.take k)).take a9 ++ [(l.getD k default)] ++ (laidL (1 + q6) (l.take k)).drop a9))) : Value)) ∧ (vals 6 = (.int .i64 (topE (laidL (1 + q6) (l.take (k + 1)))) : Value)) ∧ Sep G96 w82 ((SetO b11 (1 + q6) (laidL (1 + q6) (l.take (k + 1)))) :: (RowE (α := Ev) (shr G96 w82) 36 v544 ((laidL (1 + q6) (l.take k)).take a9 ++ [(l.getD k default)] ++ (laidL (1 + q6) (l.take k)).drop a9)) :: (RowE (α := Int) own 3 v53 (vecE (1 + q6) (laidL (1 + q6) (l.take k)))) :: Rs) wq, fun vals wq => ∃ (L11001 : List Ev), (vals 2 = (.bool (decide ((laidL (1 + q6) (l.take (k + 1))) = ((laidL (1 + q6) (l.take k)).take a9 ++ [(l.getD k default)] ++ (laidL (1 + q6) (l.take k)).drop a9))) : Value)) ∧ (vals 6 = (.int .i64 (topE (laidL (1 + q6) (l.take (k + 1)))) : Value)) ∧ (vals 22 = (.int .i64 ((addE (1 + q6) (laidL (1 + q6) (l.take (k + 1))) (l.getD k default))) : Value)) ∧ (L11001 = addL (1 + q6) (laidL (1 + q6) (l.take (k + 1))) (l.getD k default)) ∧ Sep G96 w82 ((SetO b11 (1 + q6) L11001) :: (RowE (α := Ev) (shr G96 w82) 36 v544 ((laidL (1 + q6) (l.take k)).take a9 ++ [(l.getD k default)] ++ (laidL (1 + q6) (l.take k)).drop a9)) :: (RowE (α := Int) own 3 v53 (vecE (1 + q6) (laidL (1 + q6) (l.take k)))) :: Rs) wq]) (AF [Vl 0 (v81), Vl 1 (v544), fun _ => True, Vl 3 (.bool false), Vl 4 (.bool false), Vl 5 (.pointer (some ⟨b11, 0, none⟩)), fun _ => True, Vl 7 (v81), Vl 8 (v81), Vl 9 (.int .i64 (((laidL (1 + q6) (l.take (k + 1))).length : Nat) : Int)), Vl 10 (.int .i64 ((((laidL (1 + q6) (l.take (k + 1))).length) - 1 : Nat) : Int)), Vl 11 (.pointer (some ⟨sb v81, so v81 + (((laidL (1 + q6) (l.take (k + 1))).length) - 1) * 10, none⟩)), Vl 12 (.pointer (some ⟨sb v81, so v81 + (((laidL (1 + q6) (l.take (k + 1))).length) - 1) * 10 + 2, none⟩)), Vl 13 (.int .i64 (((laidL (1 + q6) (l.take (k + 1))).getD (((laidL (1 + q6) (l.take (k + 1))).length) - 1) default).lam)), Vl 14 (.bool false), Vl 15 (.bool false), Vl 16 (.bool false), Vl 17 (.pointer (some ⟨b11, 0, none⟩)), Vl 18 (vl), Vl 19 (.int .i64 ((k : Nat) : Int)), Vl 20 (.pointer (some ⟨sb vl, so vl + k * 10, none⟩)), Vl 21 (.agg ((l.getD k default).cells (cellV w82 (sb vl) (so vl + k * 10 + 3))).toArray), fun _ => True, Vl 23 (.bool false), Vl 24 (.bool false)]) [[], [], [0, 1], [0, 1, 2], [0, 1, 2, 3], [0, 1, 2, 3, 4], [0, 1, 2, 3, 4, 5], [0, 1, 2, 3, 4], [0, 1, 2, 3, 4], [0, 1, 2, 3, 4, 8], [0, 1, 2, 3, 4, 8, 9], [0, 1, 2, 3, 4, 7, 8, 9, 10], [0, 1, 2, 3, 4, 7, 8, 9, 10, 11], [0, 1, 2, 3, 4, 7, 8, 9, 10, 11, 12], [0, 1, 2, 3, 4, 5, 6, 7, 8, 9, 10, 11, 12, 13], [0, 1, 2, 3, 4, 5, 6, 7, 8, 9, 10, 11, 12, 13, 14], [0, 1, 2, 3, 4, 5, 6, 7, 8, 9, 10, 11, 12, 13, 14, 15], [0, 1, 2, 3, 4, 5, 6, 7, 8, 9, 10, 11, 12, 13, 14, 15, 16], [0, 1, 2, 3, 4, 5, 6, 7, 8, 9, 10, 11, 12, 13, 14, 15, 16], [0, 1, 2, 3, 4, 5, 6, 7, 8, 9, 10, 11, 12, 13, 14, 15, 16], [0, 1, 2, 3, 4, 5, 6, 7, 8, 9, 10, 11, 12, 13, 14, 15, 16, 18, 19], [0, 1, 2, 3, 4, 5, 6, 7, 8, 9, 10, 11, 12, 13, 14, 15, 16, 18, 19, 20], [0, 1, 2, 3, 4, 5, 6, 7, 8, 9, 10, 11, 12, 13, 14, 15, 16, 17, 18, 19, 20, 21], [0, 1, 2, 3, 4, 5, 6, 7, 8, 9, 10, 11, 12, 13, 14, 15, 16, 17, 18, 19, 20, 21, 22], [0, 1, 2, 3, 4, 5, 6, 7, 8, 9, 10, 11, 12, 13, 14, 15, 16, 17, 18, 19, 20, 21, 22, 23]] [2, 6, 22] [(0, 0), (0, 0), (0, 0), (1, 1), (1, 1), (1, 1), (1, 1), (1, 2), (1, 2), (1, 2), (1, 2), (1, 2), (1, 2), (1, 2), (2, 2), (2, 2), (2, 2), (2, 2), (2, 2), (2, 2), (2, 2), (2, 2), (2, 2), (3, 3), (3, 3)] (by kernel_rfl) (by kernel_rfl) (by kernel_rfl) rfl (by kernel_rfl) (by kernel_rfl) (fun _ h1 h2 h3 h4 _ => hS769.same h1 h2 h3 h4) ?_ (AF_loc ⟨dA, dA, dT, dA, dA, dA, dT, dA, dA, dA, dA, dA, dA, dA, dA, dA, dA, dA, dA, dA, dA, dA, dT, dA, dA, trivial⟩) ⟨?_, ?_, ?_, ?_, ?_, ?_, ?_, ?_, ?_, ?_, ?_, ?_, ?_, ?_, ?_, ?_, ?_, ?_, ?_, ?_, ?_, ?_, ?_, ?_, ?_, trivial⟩ ?_
     ·intro k vals vals' w hv h
      have e : ∀ j ∈ ([2, 6, 22] : List Nat), vals' j = vals j := hv
      match k, h with
      | 0, h => exact h
      | 1, h => exact (by simpa only [WF, List.getElem?_cons_zero, List.getElem?_cons_succ, e 2 (by decide)] using h)
      | 2, h => exact (by simpa only [WF, List.getElem?_cons_zero, List.getElem?_cons_succ, e 2 (by decide), e 6 (by decide)] using h)
      | 3, h => exact (by simpa only [WF, List.getElem?_cons_zero, List.getElem?_cons_succ, e 2 (by decide), e 6 (by decide), e 22 (by decide)] using h)
      | _ + 4, _ => trivial
     ·intro k1023 vals w1024 h1027 h1028 hW1026 hA1025
      refine obl rfl ?_
      exact ov_move (v := v81) rfl (fun vals' hv _ => ⟨rfl, hv⟩)
     ·intro k1029 vals w1030 h1033 h1034 hW1032 hA1031
      refine obl rfl ?_
      exact ov_move (v := v544) rfl (fun vals' hv _ => ⟨rfl, hv⟩)
     ·intro k783 vals w784 h787 h788 hW786 hA785
      obtain rfl : k783 = 0 := Nat.le_antisymm h788 h787
      have hS789 : Sep G96 w82 ((RowE (α := Ev) (shr G96 w82) 36 v544 ((laidL (1 + q6) (l.take k)).take a9 ++ [(l.getD k default)] ++ (laidL (1 + q6) (l.take k)).drop a9)) :: (SetO b11 (1 + q6) (laidL (1 + q6) (l.take (k + 1)))) :: (RowE (α := Int) own 3 v53 (vecE (1 + q6) (laidL (1 + q6) (l.take k)))) :: Rs) w784 := hW786
      have e790 := hA785 0 (by decide)
      have e791 := hA785 1 (by decide)
      refine obl rfl ?_
      obtain ⟨G792, hA794, hB795, hS796, hk797⟩ := hS789.lend
      have hrd798 := RowE.rdB hA794 hB795
      have hrd798s : ((laidL (1 + q6) (l.take k)).take a9 ++ [(l.getD k default)] ++ (laidL (1 + q6) (l.take k)).drop a9).length * 96 ≤ 140737488355328 := hrd798.small
      refine (ov_call (f := 22) (vals := [v81, v544]) (cap := []) (show _ = (.func (.func 22) #[] #[] : Value) from rfl) (mapL ⟨e790, e791, trivial⟩) Try.call22 (D_sameEvents (a := (laidL (1 + q6) (l.take (k + 1)))) (va := v81) (b := (laidL (1 + q6) (l.take k)).take a9 ++ [(l.getD k default)] ++ (laidL (1 + q6) (l.take k)).drop a9) (vb := v544) (RdS.base hrd102 hB795) hrd798 hS796) ?_)
      rintro _ w799 ⟨rfl, hS800⟩
      have hS801 : Sep G96 w82 ((RowE (α := Ev) (shr G96 w82) 36 v544 ((laidL (1 + q6) (l.take k)).take a9 ++ [(l.getD k default)] ++ (laidL (1 + q6) (l.take k)).drop a9)) :: (SetO b11 (1 + q6) (laidL (1 + q6) (l.take (k + 1)))) :: (RowE (α := Int) own 3 v53 (vecE (1 + q6) (laidL (1 + q6) (l.take k)))) :: Rs) w799 := hk797 _ _ hS800
      intro vals' hv hv'
      refine ⟨?_, trivial⟩
      show (vals' 2 = (.bool (decide ((laidL (1 + q6) (l.take (k + 1))) = ((laidL (1 + q6) (l.take k)).take a9 ++ [(l.getD k default)] ++ (laidL (1 + q6) (l.take k)).drop a9))) : Value)) ∧ Sep G96 w82 ((RowE (α := Ev) (shr G96 w82) 36 v544 ((laidL (1 + q6) (l.take k)).take a9 ++ [(l.getD k default)] ++ (laidL (1 + q6) (l.take k)).drop a9)) :: (SetO b11 (1 + q6) (laidL (1 + q6) (l.take (k + 1)))) :: (RowE (α := Int) own 3 v53 (vecE (1 + q6) (laidL (1 + q6) (l.take k)))) :: Rs) w799
      exact ⟨hv, hS801⟩
     ·intro k1035 vals w1036 h1039 h1040 hW1038 hA1037
      obtain rfl : k1035 = 1 := Nat.le_antisymm h1040 h1039
      obtain ⟨he802, hS1041⟩ := hW1038
      refine obl rfl ?_
      have hl1042 : (!(decide ((laidL (1 + q6) (l.take (k + 1))) = ((laidL (1 + q6) (l.take k)).take a9 ++ [(l.getD k default)] ++ (laidL (1 + q6) (l.take k)).drop a9)))) = false := by rw [decide_eq_true (hI9.trans hZ9)]; rfl
      exact ov_not (a := decide ((laidL (1 + q6) (l.take (k + 1))) = ((laidL (1 + q6) (l.take k)).take a9 ++ [(l.getD k default)] ++ (laidL (1 + q6) (l.take k)).drop a9))) he802 (fun vals' hv _ => ⟨rfl, hv.trans (congrArg Value.bool hl1042)⟩)
     ·intro k1043 vals w1044 h1047 h1048 hW1046 hA1045
      have e1049 := hA1045 3 (by decide)
      refine obl rfl ?_
      exact ov_move (v := .bool false) e1049 (fun vals' hv _ => ⟨rfl, hv⟩)
     ·intro k1050 vals w1051 h1054 h1055 hW1053 hA1052
      have e1056 := hA1052 4 (by decide)
      refine oblc rfl rfl e1056 (fun _ => ?_) (fun hb => absurd rfl hb)
      exact ov_move (v := .pointer (some ⟨b11, 0, none⟩)) rfl (fun vals' hv _ => ⟨rfl, hv⟩)
     ·intro k825 vals w826 h829 h830 hW828 hA827
      obtain rfl : k825 = 1 := Nat.le_antisymm h830 h829
      obtain ⟨he802, hS831⟩ := hW828
      have e832 := hA827 4 (by decide)
      have e833 := hA827 5 (by decide)
      refine oblc rfl rfl e832 (fun _ => ?_) (fun hb => absurd rfl hb)
      have hS834 : Sep G96 w82 ((SetO b11 (1 + q6) (laidL (1 + q6) (l.take (k + 1)))) :: (RowE (α := Ev) (shr G96 w82) 36 v544 ((laidL (1 + q6) (l.take k)).take a9 ++ [(l.getD k default)] ++ (laidL (1 + q6) (l.take k)).drop a9)) :: (RowE (α := Int) own 3 v53 (vecE (1 + q6) (laidL (1 + q6) (l.take k)))) :: Rs) w826 := hS831.sel 3 [1, 0, 2] (Nat.le_add_left _ _) rfl rfl
      obtain ⟨G835, hA837, hB838, hS839, hk840⟩ := hS834.lend
      obtain ⟨vv841, m842, R843, hb844, hv845, hr846⟩ := SetO.sh hA837
      have hsm847 : (vecE (1 + q6) (laidL (1 + q6) (l.take (k + 1)))).length * 8 ≤ 140737488355328 := hv845.small
      refine (ov_call (f := 23) (vals := [.pointer (some ⟨b11, 0, none⟩)]) (cap := []) (show _ = (.func (.func 23) #[] #[] : Value) from rfl) (mapL ⟨e833, trivial⟩) Try.call23 (D_Top  hA837 hS839) ?_)
      rintro _ w848 ⟨rfl, hS849⟩
      have hS850 : Sep G96 w82 ((SetO b11 (1 + q6) (laidL (1 + q6) (l.take (k + 1)))) :: (RowE (α := Ev) (shr G96 w82) 36 v544 ((laidL (1 + q6) (l.take k)).take a9 ++ [(l.getD k default)] ++ (laidL (1 + q6) (l.take k)).drop a9)) :: (RowE (α := Int) own 3 v53 (vecE (1 + q6) (laidL (1 + q6) (l.take k)))) :: Rs) w848 := hk840 _ _ hS849
      intro vals' hv hv'
      refine ⟨?_, trivial⟩
      show (vals' 2 = (.bool (decide ((laidL (1 + q6) (l.take (k + 1))) = ((laidL (1 + q6) (l.take k)).take a9 ++ [(l.getD k default)] ++ (laidL (1 + q6) (l.take k)).drop a9))) : Value)) ∧ (vals' 6 = (.int .i64 (topE (laidL (1 + q6) (l.take (k + 1)))) : Value)) ∧ Sep G96 w82 ((SetO b11 (1 + q6) (laidL (1 + q6) (l.take (k + 1)))) :: (RowE (α := Ev) (shr G96 w82) 36 v544 ((laidL (1 + q6) (l.take k)).take a9 ++ [(l.getD k default)] ++ (laidL (1 + q6) (l.take k)).drop a9)) :: (RowE (α := Int) own 3 v53 (vecE (1 + q6) (laidL (1 + q6) (l.take k)))) :: Rs) w848
      exact ⟨(by rw [hv' 2 (by decide)]; exact he802), hv, hS850⟩
     ·intro k1057 vals w1058 h1061 h1062 hW1060 hA1059
      have e1063 := hA1059 4 (by decide)
      refine oblc rfl rfl e1063 (fun _ => ?_) (fun hb => absurd rfl hb)
      exact ov_move (v := v81) rfl (fun vals' hv _ => ⟨rfl, hv⟩)
     ·intro k1064 vals w1065 h1068 h1069 hW1067 hA1066
      have e1070 := hA1066 4 (by decide)
      refine oblc rfl rfl e1070 (fun _ => ?_) (fun hb => absurd rfl hb)
      exact ov_move (v := v81) rfl (fun vals' hv _ => ⟨rfl, hv⟩)
     ·intro k1071 vals w1072 h1075 h1076 hW1074 hA1073
      have hkk : k1071 = 1 ∨ k1071 = 2 := by have h1 : 1 ≤ k1071 := h1075; have h2 : k1071 ≤ 2 := h1076; omega
      rcases hkk with rfl | rfl
      ·skip
       obtain ⟨he802, hS1077⟩ := hW1074
       have e1078 := hA1073 4 (by decide)
       have e1079 := hA1073 8 (by decide)
       refine oblc rfl rfl e1078 (fun _ => ?_) (fun hb => absurd rfl hb)
       exact ov_len (n := (laidL (1 + q6) (l.take (k + 1))).length) Try.underlying22 e1079 hrd102.sl (fun vals' hv _ => ⟨rfl, hv⟩)
      ·skip
       obtain ⟨he802, he851, hS1080⟩ := hW1074
       have e1081 := hA1073 4 (by decide)
       have e1082 := hA1073 8 (by decide)
       refine oblc rfl rfl e1081 (fun _ => ?_) (fun hb => absurd rfl hb)
       exact ov_len (n := (laidL (1 + q6) (l.take (k + 1))).length) Try.underlying22 e1082 hrd102.sl (fun vals' hv _ => ⟨rfl, hv⟩)
     ·intro k1083 vals w1084 h1087 h1088 hW1086 hA1085
      have hkk : k1083 = 1 ∨ k1083 = 2 := by have h1 : 1 ≤ k1083 := h1087; have h2 : k1083 ≤ 2 := h1088; omega
      rcases hkk with rfl | rfl
      ·skip
       obtain ⟨he802, hS1089⟩ := hW1086
       have e1090 := hA1085 4 (by decide)
       have e1091 := hA1085 9 (by decide)
       refine oblc rfl rfl e1090 (fun _ => ?_) (fun hb => absurd rfl hb)
       have hr1092 : InR ((((laidL (1 + q6) (l.take (k + 1))).length) - 1 : Nat) : Int) := by first | omega | (simp only [lens]; omega)
       exact ov_sub (r := ((((laidL (1 + q6) (l.take (k + 1))).length) - 1 : Nat) : Int)) (k := .i64) (a := (((laidL (1 + q6) (l.take (k + 1))).length : Nat) : Int)) (b := 1) e1091 rfl (by rw [show ((((laidL (1 + q6) (l.take (k + 1))).length : Nat) : Int) - 1 : Int) = ((((laidL (1 + q6) (l.take (k + 1))).length) - 1 : Nat) : Int) by first | omega | (simp only [lens]; omega)]; exact wrap_in hr1092) (fun vals' hv _ => ⟨rfl, hv⟩)
      ·skip
       obtain ⟨he802, he851, hS1093⟩ := hW1086
       have e1094 := hA1085 4 (by decide)
       have e1095 := hA1085 9 (by decide)
       refine oblc rfl rfl e1094 (fun _ => ?_) (fun hb => absurd rfl hb)
       have hr1096 : InR ((((laidL (1 + q6) (l.take (k + 1))).length) - 1 : Nat) : Int) := by first | omega | (simp only [lens]; omega)
       exact ov_sub (r := ((((laidL (1 + q6) (l.take (k + 1))).length) - 1 : Nat) : Int)) (k := .i64) (a := (((laidL (1 + q6) (l.take (k + 1))).length : Nat) : Int)) (b := 1) e1095 rfl (by rw [show ((((laidL (1 + q6) (l.take (k + 1))).length : Nat) : Int) - 1 : Int) = ((((laidL (1 + q6) (l.take (k + 1))).length) - 1 : Nat) : Int) by first | omega | (simp only [lens]; omega)]; exact wrap_in hr1096) (fun vals' hv _ => ⟨rfl, hv⟩)
     ·intro k1097 vals w1098 h1101 h1102 hW1100 hA1099
      have hkk : k1097 = 1 ∨ k1097 = 2 := by have h1 : 1 ≤ k1097 := h1101; have h2 : k1097 ≤ 2 := h1102; omega
      rcases hkk with rfl | rfl
      ·skip
       obtain ⟨he802, hS1103⟩ := hW1100
       have e1104 := hA1099 4 (by decide)
       have e1105 := hA1099 7 (by decide)
       have e1106 := hA1099 10 (by decide)
       refine oblc rfl rfl e1104 (fun _ => ?_) (fun hb => absurd rfl hb)
       have hi1107 : ((laidL (1 + q6) (l.take (k + 1))).length) - 1 < (laidL (1 + q6) (l.take (k + 1))).length := (by first | omega | (simp only [lens]; omega))
       exact ov_indexAddrN (k := 10) (i := ((laidL (1 + q6) (l.take (k + 1))).length) - 1) Try.underlying22 Try.sizeOf36 e1105 hrd102.sl e1106 hi1107 (fun vals' hv _ => ⟨rfl, hv⟩)
      ·skip
       obtain ⟨he802, he851, hS1108⟩ := hW1100
       have e1109 := hA1099 4 (by decide)
       have e1110 := hA1099 7 (by decide)
       have e1111 := hA1099 10 (by decide)
       refine oblc rfl rfl e1109 (fun _ => ?_) (fun hb => absurd rfl hb)
       have hi1112 : ((laidL (1 + q6) (l.take (k + 1))).length) - 1 < (laidL (1 + q6) (l.take (k + 1))).length := (by first | omega | (simp only [lens]; omega))
       exact ov_indexAddrN (k := 10) (i := ((laidL (1 + q6) (l.take (k + 1))).length) - 1) Try.underlying22 Try.sizeOf36 e1110 hrd102.sl e1111 hi1112 (fun vals' hv _ => ⟨rfl, hv⟩)
     ·intro k1113 vals w1114 h1117 h1118 hW1116 hA1115
      have e1119 := hA1115 4 (by decide)
      have e1120 := hA1115 11 (by decide)
      refine oblc rfl rfl e1119 (fun _ => ?_) (fun hb => absurd rfl hb)
      exact fd36_1 e1120 (fun vals' hv _ => ⟨rfl, hv⟩)
     ·intro k1121 vals w1122 h1125 h1126 hW1124 hA1123
      have hkk : k1121 = 1 ∨ k1121 = 2 := by have h1 : 1 ≤ k1121 := h1125; have h2 : k1121 ≤ 2 := h1126; omega
      rcases hkk with rfl | rfl
      ·skip
       obtain ⟨he802, hS1127⟩ := hW1124
       have e1128 := hA1123 4 (by decide)
       have e1129 := hA1123 12 (by decide)
       refine oblc rfl rfl e1128 (fun _ => ?_) (fun hb => absurd rfl hb)
       have hi1131 : ((laidL (1 + q6) (l.take (k + 1))).length) - 1 < (laidL (1 + q6) (l.take (k + 1))).length := (by first | omega | (simp only [lens]; omega))
       obtain ⟨hce1130, hde1130_0, hoke1130⟩ := hrd102.ev hi1131
       rw [← getD_at default hi1131] at hce1130 hde1130_0 hoke1130
       have hsm1132 : (((laidL (1 + q6) (l.take (k + 1))).getD (((laidL (1 + q6) (l.take (k + 1))).length) - 1) default).deps).length * 8 ≤ 140737488355328 := hde1130_0.small
       have hcw1133 := hS1127.cells hce1130 (hrd102.foot (ne_of_lt hi1131))
       exact ov_load1 (v := .int .i64 (((laidL (1 + q6) (l.take (k + 1))).getD (((laidL (1 + q6) (l.take (k + 1))).length) - 1) default).lam)) Try.isAgg3 e1129 (hcw1133.get (j := 2) rfl) (fun vals' hv _ => ⟨rfl, hv⟩)
      ·skip
       obtain ⟨he802, he851, hS1134⟩ := hW1124
       have e1135 := hA1123 4 (by decide)
       have e1136 := hA1123 12 (by decide)
       refine oblc rfl rfl e1135 (fun _ => ?_) (fun hb => absurd rfl hb)
       have hi1138 : ((laidL (1 + q6) (l.take (k + 1))).length) - 1 < (laidL (1 + q6) (l.take (k + 1))).length := (by first | omega | (simp only [lens]; omega))
       obtain ⟨hce1137, hde1137_0, hoke1137⟩ := hrd102.ev hi1138
       rw [← getD_at default hi1138] at hce1137 hde1137_0 hoke1137
       have hsm1139 : (((laidL (1 + q6) (l.take (k + 1))).getD (((laidL (1 + q6) (l.take (k + 1))).length) - 1) default).deps).length * 8 ≤ 140737488355328 := hde1137_0.small
       have hcw1140 := hS1134.cells hce1137 (hrd102.foot (ne_of_lt hi1138))
       exact ov_load1 (v := .int .i64 (((laidL (1 + q6) (l.take (k + 1))).getD (((laidL (1 + q6) (l.take (k + 1))).length) - 1) default).lam)) Try.isAgg3 e1136 (hcw1140.get (j := 2) rfl) (fun vals' hv _ => ⟨rfl, hv⟩)
     ·intro k1141 vals w1142 h1145 h1146 hW1144 hA1143
      obtain rfl : k1141 = 2 := Nat.le_antisymm h1146 h1145
      obtain ⟨he802, he851, hS1147⟩ := hW1144
      have e1148 := hA1143 4 (by decide)
      have e1149 := hA1143 13 (by decide)
      refine oblc rfl rfl e1148 (fun _ => ?_) (fun hb => absurd rfl hb)
      have hl1150 : (!decide ((topE (laidL (1 + q6) (l.take (k + 1)))) = (((laidL (1 + q6) (l.take (k + 1))).getD (((laidL (1 + q6) (l.take (k + 1))).length) - 1) default).lam))) = false := by rw [decide_eq_true (top_last laidL_good hP9)]; rfl
      exact ov_neq (k := .i64) (a := topE (laidL (1 + q6) (l.take (k + 1)))) (b := ((laidL (1 + q6) (l.take (k + 1))).getD (((laidL (1 + q6) (l.take (k + 1))).length) - 1) default).lam) he851 e1149 (fun vals' hv _ => ⟨rfl, hv.trans (congrArg Value.bool hl1150)⟩)
     ·intro k1151 vals w1152 h1155 h1156 hW1154 hA1153
      have e1157 := hA1153 4 (by decide)
      have e1158 := hA1153 14 (by decide)
      refine obl rfl ?_
      exact ov_pick_f (v := .bool false) e1157 e1158 (fun vals' hv _ => ⟨rfl, hv⟩)
     ·intro k1159 vals w1160 h1163 h1164 hW1162 hA1161
      have e1165 := hA1161 15 (by decide)
      refine obl rfl ?_
      exact ov_move (v := .bool false) e1165 (fun vals' hv _ => ⟨rfl, hv⟩)
     ·intro k1166 vals w1167 h1170 h1171 hW1169 hA1168
      have e1172 := hA1168 16 (by decide)
      refine oblc rfl rfl e1172 (fun _ => ?_) (fun hb => absurd rfl hb)
      exact ov_move (v := .pointer (some ⟨b11, 0, none⟩)) rfl (fun vals' hv _ => ⟨rfl, hv⟩)
     ·intro k1173 vals w1174 h1177 h1178 hW1176 hA1175
      have e1179 := hA1175 16 (by decide)
      refine oblc rfl rfl e1179 (fun _ => ?_) (fun hb => absurd rfl hb)
      exact ov_move (v := vl) rfl (fun vals' hv _ => ⟨rfl, hv⟩)
     ·intro k1180 vals w1181 h1184 h1185 hW1183 hA1182
      have e1186 := hA1182 16 (by decide)
      refine oblc rfl rfl e1186 (fun _ => ?_) (fun hb => absurd rfl hb)
      exact ov_move (v := .int .i64 ((k : Nat) : Int)) rfl (fun vals' hv _ => ⟨rfl, hv⟩)
     ·intro k1187 vals w1188 h1191 h1192 hW1190 hA1189
      obtain rfl : k1187 = 2 := Nat.le_antisymm h1192 h1191
      obtain ⟨he802, he851, hS1193⟩ := hW1190
      have e1194 := hA1189 16 (by decide)
      have e1195 := hA1189 18 (by decide)
      have e1196 := hA1189 19 (by decide)
      refine oblc rfl rfl e1194 (fun _ => ?_) (fun hb => absurd rfl hb)
      have hi1197 : k < l.length := (by first | omega | (simp only [lens]; omega))
      exact ov_indexAddrN (k := 10) (i := k) Try.underlying22 Try.sizeOf36 e1195 (RdS.base (RdS.base hl hB91) hB99).sl e1196 hi1197 (fun vals' hv _ => ⟨rfl, hv⟩)
     ·intro k1198 vals w1199 h1202 h1203 hW1201 hA1200
      obtain rfl : k1198 = 2 := Nat.le_antisymm h1203 h1202
      obtain ⟨he802, he851, hS1204⟩ := hW1201
      have e1205 := hA1200 16 (by decide)
      have e1206 := hA1200 20 (by decide)
      refine oblc rfl rfl e1205 (fun _ => ?_) (fun hb => absurd rfl hb)
      have hi1208 : k < l.length := (by first | omega | (simp only [lens]; omega))
      obtain ⟨hce1207, hde1207_0, hoke1207⟩ := (RdS.base (RdS.base hl hB91) hB99).ev hi1208
      rw [← getD_at default hi1208] at hce1207 hde1207_0 hoke1207
      have hsm1209 : ((l.getD k default).deps).length * 8 ≤ 140737488355328 := hde1207_0.small
      have hcw1210 := hS1204.cells hce1207 ((RdS.base (RdS.base hl hB91) hB99).foot (ne_of_lt hi1208))
      exact ov_loadk (k := 10) Try.isAgg36 Try.sizeOf36 rfl e1206 hcw1210 (fun vals' hv _ => ⟨rfl, hv⟩)
     ·intro k987 vals w988 h991 h992 hW990 hA989
      obtain rfl : k987 = 2 := Nat.le_antisymm h992 h991
      obtain ⟨he802, he851, hS993⟩ := hW990
      have e994 := hA989 16 (by decide)
      have e995 := hA989 17 (by decide)
      have e996 := hA989 21 (by decide)
      refine oblc rfl rfl e994 (fun _ => ?_) (fun hb => absurd rfl hb)
      have hi998 : k < l.length := (by first | omega | (simp only [lens]; omega))
      obtain ⟨hce997, hde997_0, hoke997⟩ := (RdS.base (RdS.base hl hB91) hB99).ev hi998
      rw [← getD_at default hi998] at hce997 hde997_0 hoke997
      have hsm999 : ((l.getD k default).deps).length * 8 ≤ 140737488355328 := hde997_0.small
      have hcw1000 := hS993.cells hce997 ((RdS.base (RdS.base hl hB91) hB99).foot (ne_of_lt hi998))
      refine (ov_call (f := 21) (vals := [.pointer (some ⟨b11, 0, none⟩), .agg ((l.getD k default).cells (cellV w82 (sb vl) (so vl + k * 10 + 3))).toArray]) (cap := []) (show _ = (.func (.func 21) #[] #[] : Value) from rfl) (mapL ⟨e995, e996, trivial⟩) Try.call21 (D_Add (e := (l.getD k default)) hde997_0 hoke997 hS993 ((Nat.le_trans laid_take (by omega))) (laidL_good.len)) ?_)
      rintro _ w1003 ⟨L11001, rfl, hL11002, hS1004⟩
      intro vals' hv hv'
      refine ⟨?_, trivial⟩
      show ∃ (L11001 : List Ev), (vals' 2 = (.bool (decide ((laidL (1 + q6) (l.take (k + 1))) = ((laidL (1 + q6) (l.take k)).take a9 ++ [(l.getD k default)] ++ (laidL (1 + q6) (l.take k)).drop a9))) : Value)) ∧ (vals' 6 = (.int .i64 (topE (laidL (1 + q6) (l.take (k + 1)))) : Value)) ∧ (vals' 22 = (.int .i64 ((addE (1 + q6) (laidL (1 + q6) (l.take (k + 1))) (l.getD k default))) : Value)) ∧ (L11001 = addL (1 + q6) (laidL (1 + q6) (l.take (k + 1))) (l.getD k default)) ∧ Sep G96 w82 ((SetO b11 (1 + q6) L11001) :: (RowE (α := Ev) (shr G96 w82) 36 v544 ((laidL (1 + q6) (l.take k)).take a9 ++ [(l.getD k default)] ++ (laidL (1 + q6) (l.take k)).drop a9)) :: (RowE (α := Int) own 3 v53 (vecE (1 + q6) (laidL (1 + q6) (l.take k)))) :: Rs) w1003
      exact ⟨L11001, (by rw [hv' 2 (by decide)]; exact he802), (by rw [hv' 6 (by decide)]; exact he851), hv, hL11002, hS1004⟩
     ·intro k1211 vals w1212 h1215 h1216 hW1214 hA1213
      obtain rfl : k1211 = 3 := Nat.le_antisymm h1216 h1215
      obtain ⟨L11001, he802, he851, he1005, hL11002, hS1217⟩ := hW1214
      have e1218 := hA1213 16 (by decide)
      refine oblc rfl rfl e1218 (fun _ => ?_) (fun hb => absurd rfl hb)
      have hl1219 : (!decide ((addE (1 + q6) (laidL (1 + q6) (l.take (k + 1))) (l.getD k default)) = 16)) = false := by rw [hT9]; rfl
      exact ov_neq (k := .i64) (a := (addE (1 + q6) (laidL (1 + q6) (l.take (k + 1))) (l.getD k default))) (b := 16) he1005 rfl (fun vals' hv _ => ⟨rfl, hv.trans (congrArg Value.bool hl1219)⟩)
     ·intro k1220 vals w1221 h1224 h1225 hW1223 hA1222
      have e1226 := hA1222 16 (by decide)
      have e1227 := hA1222 23 (by decide)
      refine obl rfl ?_
      exact ov_pick_f (v := .bool false) e1226 e1227 (fun vals' hv _ => ⟨rfl, hv⟩)
     intro vals w1228 hW1229 hA1230
     obtain ⟨L11001, he802, he851, he1005, hL11002, hS1231⟩ := hW1229
     have e1232 := hA1230 24 (by decide)
     refine st_env (kv := [(1, vl), (5, .pointer (some ⟨b11, 0, none⟩)), (6, .int .i64 ((k : Nat) : Int)), (7, v35), (10, v81), (11, .int .i64 ((a9 : Nat) : Int)), (74, .bool false), (12, v544), (116, .bool false)]) ⟨rfl, rfl, rfl, rfl, rfl, rfl, rfl, rfl, (by exact e1232), trivial⟩ (fun ρw1228 => ?_)
     refine st_nil ?_
     refine WP_cond_f rfl ?_
     refine WP_skip ?_
     refine WP_region0 (by kernel_rfl) (fun _ => ?_)
     refine st (ov_move (v := .int .i64 ((k : Nat) : Int)) rfl ?_)
     have hr1233 : InR ((k + 1 : Nat) : Int) := by first | omega | (simp only [lens]; omega)
     refine st (ov_add (r := ((k + 1 : Nat) : Int)) (k := .i64) (a := ((k : Nat) : Int)) (b := 1) rfl rfl (by rw [show (((k : Nat) : Int) + 1 : Int) = ((k + 1 : Nat) : Int) by first | omega | (simp only [lens]; omega)]; exact wrap_in hr1233) ?_)
     refine st (ov_assign (v := .int .i64 ((k + 1 : Nat) : Int)) rfl ?_)
     refine st_nil ?_
     have hS1234 : Sep G88 w82 ((RowE (α := Ev) own 36 v81 (laidL (1 + q6) (l.take (k + 1)))) :: (SetO b11 (1 + q6) L11001) :: (RowE (α := Ev) (shr G96 w82) 36 v544 ((laidL (1 + q6) (l.take k)).take a9 ++ [(l.getD k default)] ++ (laidL (1 + q6) (l.take k)).drop a9)) :: (RowE (α := Int) own 3 v53 (vecE (1 + q6) (laidL (1 + q6) (l.take k)))) :: Rs) w1228 := hk101 _ _ hS1231
     have hS1235 : Sep G W ((RowE (α := Ev) own 36 v35 (laidL (1 + q6) (l.take k))) :: (RowE (α := Ev) own 36 v81 (laidL (1 + q6) (l.take (k + 1)))) :: (SetO b11 (1 + q6) L11001) :: (RowE (α := Ev) (shr G96 w82) 36 v544 ((laidL (1 + q6) (l.take k)).take a9 ++ [(l.getD k default)] ++ (laidL (1 + q6) (l.take k)).drop a9)) :: (RowE (α := Int) own 3 v53 (vecE (1 + q6) (laidL (1 + q6) (l.take k)))) :: Rs) w1228 := hk93 _ _ hS1234
     have hS1236 : Sep G W ((SetO b11 (1 + q6) L11001) :: Rs) w1228 := hS1235.sel 5 [2] (Nat.le_add_left _ _) rfl rfl
     have hL1237 : (laidL (1 + q6) (l.take (k + 1))) = L11001 := (by rw [hL11002]; exact (addL_no (by rw [hT9]; decide)).symm)
     rw [← hL1237] at hS1236
     exact ⟨_, by omega, k + 1, _, rfl, setAll_self ⟨rfl, rfl, rfl, trivial⟩, by omega, hS1236⟩
    ·skip
     have hc407r := hc407
     try simp only [bools] at hc407
     refine WP_cond_t rfl ?_
     refine WP_skip ?_
     refine WP_block ?_
     refine WP_region0 (by kernel_rfl) (fun _ => ?_)
     refine st (ov_move (v := .int .i64 ((a9 : Nat) : Int)) rfl ?_)
     have hr1238 : InR ((a9 + 1 : Nat) : Int) := by first | omega | (simp only [lens]; omega)
     refine st (ov_add (r := ((a9 + 1 : Nat) : Int)) (k := .i64) (a := ((a9 : Nat) : Int)) (b := 1) rfl rfl (by rw [show (((a9 : Nat) : Int) + 1 : Int) = ((a9 + 1 : Nat) : Int) by first | omega | (simp only [lens]; omega)]; exact wrap_in hr1238) ?_)
     refine st (ov_assign (v := .int .i64 ((a9 + 1 : Nat) : Int)) rfl ?_)
     refine st_nil ?_
     exact ⟨_, by omega, a9 + 1, _, rfl, setAll_self ⟨rfl, rfl, rfl, rfl, rfl, rfl, trivial⟩, by omega, (all_step hm9 hc407.2), hS405⟩
   ·skip
    have hc86r := hc86
    have hc86 := ndec_true hc86
    have hN9 : laidL (1 + q6) (l.take (k + 1)) = laidL (1 + q6) (l.take k) := hL9.trans (addL_no hc86)
    refine WP_cond_t rfl ?_
    refine WP_seq ?_
    refine WP_seq ?_
    refine WP_region (by kernel_rfl) ?_
    refine st (ov_move (v := v81) rfl ?_)
    refine st (ov_move (v := v35) rfl ?_)
    have hS1239 : Sep G W ((RowE (α := Ev) own 36 v81 (laidL (1 + q6) (l.take (k + 1)))) :: (SetO b11 (1 + q6) (laidL (1 + q6) (l.take (k + 1)))) :: (RowE (α := Int) own 3 v53 (vecE (1 + q6) (laidL (1 + q6) (l.take k)))) :: (RowE (α := Ev) own 36 v35 (laidL (1 + q6) (l.take k))) :: Rs) w82 := hS85.sel 4 [1, 0, 2, 3] (Nat.le_add_left _ _) rfl rfl
    obtain ⟨G1240, hA1242, hB1243, hS1244, hk1245⟩ := hS1239.lend
    have hrd1246 := RowE.rd hA1242
    have hrd1246s : (laidL (1 + q6) (l.take (k + 1))).length * 96 ≤ 140737488355328 := hrd1246.small
    have hS1247 : Sep G1240 w82 ((RowE (α := Ev) own 36 v35 (laidL (1 + q6) (l.take k))) :: (SetO b11 (1 + q6) (laidL (1 + q6) (l.take (k + 1)))) :: (RowE (α := Int) own 3 v53 (vecE (1 + q6) (laidL (1 + q6) (l.take k)))) :: Rs) w82 := hS1244.sel 3 [2, 0, 1] (Nat.le_add_left _ _) rfl rfl
    obtain ⟨G1248, hA1250, hB1251, hS1252, hk1253⟩ := hS1247.lend
    have hrd1254 := RowE.rd hA1250
    have hrd1254s : (laidL (1 + q6) (l.take k)).length * 96 ≤ 140737488355328 := hrd1254.small
    refine st (ov_call (f := 22) (vals := [v81, v35]) (cap := []) (show _ = (.func (.func 22) #[] #[] : Value) from rfl) rfl Try.call22 (D_sameEvents (a := (laidL (1 + q6) (l.take (k + 1)))) (va := v81) (b := (laidL (1 + q6) (l.take k))) (vb := v35) (RdS.base hrd1246 hB1251) hrd1254 hS1252) ?_)
    rintro _ w1255 ⟨rfl, hS1256⟩
    have hS1257 : Sep G1240 w82 ((RowE (α := Ev) own 36 v35 (laidL (1 + q6) (l.take k))) :: (SetO b11 (1 + q6) (laidL (1 + q6) (l.take (k + 1)))) :: (RowE (α := Int) own 3 v53 (vecE (1 + q6) (laidL (1 + q6) (l.take k)))) :: Rs) w1255 := hk1253 _ _ hS1256
    have hS1258 : Sep G W ((RowE (α := Ev) own 36 v81 (laidL (1 + q6) (l.take (k + 1)))) :: (RowE (α := Ev) own 36 v35 (laidL (1 + q6) (l.take k))) :: (SetO b11 (1 + q6) (laidL (1 + q6) (l.take (k + 1)))) :: (RowE (α := Int) own 3 v53 (vecE (1 + q6) (laidL (1 + q6) (l.take k)))) :: Rs) w1255 := hk1245 _ _ hS1257
    have hkn1259 : (decide ((laidL (1 + q6) (l.take (k + 1))) = (laidL (1 + q6) (l.take k)))) = true := decide_eq_true hN9
    rw [hkn1259]
    refine st (ov_not (a := true) rfl ?_)
    refine st (ov_move (v := .bool false) rfl ?_)
    refine sty rfl rfl (ov_move (v := .pointer (some ⟨b11, 0, none⟩)) rfl ?_)
    have hS1260 : Sep G W ((SetO b11 (1 + q6) (laidL (1 + q6) (l.take (k + 1)))) :: (RowE (α := Ev) own 36 v81 (laidL (1 + q6) (l.take (k + 1)))) :: (RowE (α := Ev) own 36 v35 (laidL (1 + q6) (l.take k))) :: (RowE (α := Int) own 3 v53 (vecE (1 + q6) (laidL (1 + q6) (l.take k)))) :: Rs) w1255 := hS1258.sel 4 [2, 0, 1, 3] (Nat.le_add_left _ _) rfl rfl
    obtain ⟨G1261, hA1263, hB1264, hS1265, hk1266⟩ := hS1260.lend
    obtain ⟨vv1267, m1268, R1269, hb1270, hv1271, hr1272⟩ := SetO.sh hA1263
    have hsm1273 : (vecE (1 + q6) (laidL (1 + q6) (l.take (k + 1)))).length * 8 ≤ 140737488355328 := hv1271.small
    refine sty rfl rfl (ov_call (f := 26) (vals := [.pointer (some ⟨b11, 0, none⟩)]) (cap := []) (show _ = (.func (.func 26) #[] #[] : Value) from rfl) rfl Try.call26 (D_Vec  hA1263 hS1265) ?_)
    rintro v1274 w1275 ⟨_, rfl, hS1276⟩
    have hr1277 := hS1276.row (i := 0) rfl
    have hr1277s : (vecE (1 + q6) (laidL (1 + q6) (l.take (k + 1)))).length * 8 ≤ 140737488355328 := hr1277.2
    have hS1278 : Sep G W ((SetO b11 (1 + q6) (laidL (1 + q6) (l.take (k + 1)))) :: (RowE (α := Int) own 3 v1274 (vecE (1 + q6) (laidL (1 + q6) (l.take (k + 1))))) :: (RowE (α := Ev) own 36 v81 (laidL (1 + q6) (l.take (k + 1)))) :: (RowE (α := Ev) own 36 v35 (laidL (1 + q6) (l.take k))) :: (RowE (α := Int) own 3 v53 (vecE (1 + q6) (laidL (1 + q6) (l.take k)))) :: Rs) w1275 := hk1266 _ _ hS1276
    refine sty rfl rfl (ov_move (v := v53) rfl ?_)
    have hS1279 : Sep G W ((RowE (α := Int) own 3 v1274 (vecE (1 + q6) (laidL (1 + q6) (l.take (k + 1))))) :: (SetO b11 (1 + q6) (laidL (1 + q6) (l.take (k + 1)))) :: (RowE (α := Ev) own 36 v81 (laidL (1 + q6) (l.take (k + 1)))) :: (RowE (α := Ev) own 36 v35 (laidL (1 + q6) (l.take k))) :: (RowE (α := Int) own 3 v53 (vecE (1 + q6) (laidL (1 + q6) (l.take k)))) :: Rs) w1275 := hS1278.sel 5 [1, 0, 2, 3, 4] (Nat.le_add_left _ _) rfl rfl
    obtain ⟨G1280, hA1282, hB1283, hS1284, hk1285⟩ := hS1279.lend
    have hrd1286 := RowE.rd hA1282
    have hrd1286s : (vecE (1 + q6) (laidL (1 + q6) (l.take (k + 1)))).length * 8 ≤ 140737488355328 := hrd1286.small
    have hS1287 : Sep G1280 w1275 ((RowE (α := Int) own 3 v53 (vecE (1 + q6) (laidL (1 + q6) (l.take k)))) :: (SetO b11 (1 + q6) (laidL (1 + q6) (l.take (k + 1)))) :: (RowE (α := Ev) own 36 v81 (laidL (1 + q6) (l.take (k + 1)))) :: (RowE (α := Ev) own 36 v35 (laidL (1 + q6) (l.take k))) :: Rs) w1275 := hS1284.sel 4 [3, 0, 1, 2] (Nat.le_add_left _ _) rfl rfl
    obtain ⟨G1288, hA1290, hB1291, hS1292, hk1293⟩ := hS1287.lend
    have hrd1294 := RowE.rd hA1290
    have hrd1294s : (vecE (1 + q6) (laidL (1 + q6) (l.take k))).length * 8 ≤ 140737488355328 := hrd1294.small
    refine sty rfl rfl (ov_call (f := 27) (vals := [v1274, v53]) (cap := []) (show _ = (.func (.func 27) #[] #[] : Value) from rfl) rfl Try.call27 (D_SameInts (a := vecE (1 + q6) (laidL (1 + q6) (l.take (k + 1)))) (va := v1274) (b := vecE (1 + q6) (laidL (1 + q6) (l.take k))) (vb := v53) (RdS.base hrd1286 hB1291) hrd1294 hS1292) ?_)
    rintro _ w1295 ⟨rfl, hS1296⟩
    have hS1297 : Sep G1280 w1275 ((RowE (α := Int) own 3 v53 (vecE (1 + q6) (laidL (1 + q6) (l.take k)))) :: (SetO b11 (1 + q6) (laidL (1 + q6) (l.take (k + 1)))) :: (RowE (α := Ev) own 36 v81 (laidL (1 + q6) (l.take (k + 1)))) :: (RowE (α := Ev) own 36 v35 (laidL (1 + q6) (l.take k))) :: Rs) w1295 := hk1293 _ _ hS1296
    have hS1298 : Sep G W ((RowE (α := Int) own 3 v1274 (vecE (1 + q6) (laidL (1 + q6) (l.take (k + 1))))) :: (RowE (α := Int) own 3 v53 (vecE (1 + q6) (laidL (1 + q6) (l.take k)))) :: (SetO b11 (1 + q6) (laidL (1 + q6) (l.take (k + 1)))) :: (RowE (α := Ev) own 36 v81 (laidL (1 + q6) (l.take (k + 1)))) :: (RowE (α := Ev) own 36 v35 (laidL (1 + q6) (l.take k))) :: Rs) w1295 := hk1285 _ _ hS1297
    have hkn1299 : (decide ((vecE (1 + q6) (laidL (1 + q6) (l.take (k + 1)))) = (vecE (1 + q6) (laidL (1 + q6) (l.take k))))) = true := decide_eq_true (by rw [hN9])
    rw [hkn1299]
    refine sty rfl rfl (ov_not (a := true) rfl ?_)
    refine st (ov_pick_f (v := .bool false) rfl rfl ?_)
    refine st (ov_move (v := .bool false) rfl ?_)
    refine sty rfl rfl (ov_move (v := .pointer (some ⟨b11, 0, none⟩)) rfl ?_)
    have hS1300 : Sep G W ((SetO b11 (1 + q6) (laidL (1 + q6) (l.take (k + 1)))) :: (RowE (α := Int) own 3 v1274 (vecE (1 + q6) (laidL (1 + q6) (l.take (k + 1))))) :: (RowE (α := Int) own 3 v53 (vecE (1 + q6) (laidL (1 + q6) (l.take k)))) :: (RowE (α := Ev) own 36 v81 (laidL (1 + q6) (l.take (k + 1)))) :: (RowE (α := Ev) own 36 v35 (laidL (1 + q6) (l.take k))) :: Rs) w1295 := hS1298.sel 5 [2, 0, 1, 3, 4] (Nat.le_add_left _ _) rfl rfl
    obtain ⟨G1301, hA1303, hB1304, hS1305, hk1306⟩ := hS1300.lend
    obtain ⟨vv1307, m1308, R1309, hb1310, hv1311, hr1312⟩ := SetO.sh hA1303
    have hsm1313 : (vecE (1 + q6) (laidL (1 + q6) (l.take (k + 1)))).length * 8 ≤ 140737488355328 := hv1311.small
    refine sty rfl rfl (ov_call (f := 24) (vals := [.pointer (some ⟨b11, 0, none⟩)]) (cap := []) (show _ = (.func (.func 24) #[] #[] : Value) from rfl) rfl Try.call24 (D_Len  hA1303 hS1305 (laidL_good.ids)) ?_)
    rintro _ w1314 ⟨rfl, hS1315⟩
    have hS1316 : Sep G W ((SetO b11 (1 + q6) (laidL (1 + q6) (l.take (k + 1)))) :: (RowE (α := Int) own 3 v1274 (vecE (1 + q6) (laidL (1 + q6) (l.take (k + 1))))) :: (RowE (α := Int) own 3 v53 (vecE (1 + q6) (laidL (1 + q6) (l.take k)))) :: (RowE (α := Ev) own 36 v81 (laidL (1 + q6) (l.take (k + 1)))) :: (RowE (α := Ev) own 36 v35 (laidL (1 + q6) (l.take k))) :: Rs) w1314 := hk1306 _ _ hS1315
    refine sty rfl rfl (ov_move (v := v35) rfl ?_)
    refine sty rfl rfl (ov_len (n := (laidL (1 + q6) (l.take k)).length) Try.underlying22 rfl hr38.1 ?_)
    refine sty rfl rfl (ov_neq (k := .i64) (a := (((laidL (1 + q6) (l.take (k + 1))).length : Nat) : Int)) (b := (((laidL (1 + q6) (l.take k)).length : Nat) : Int)) rfl rfl ?_)
    have hkn1317 : (!decide ((((laidL (1 + q6) (l.take (k + 1))).length : Nat) : Int) = (((laidL (1 + q6) (l.take k)).length : Nat) : Int))) = false := by rw [hN9]; simp
    rw [hkn1317]
    refine st (ov_pick_f (v := .bool false) rfl rfl ?_)
    refine st_nil ?_
    refine WP_cond_f rfl ?_
    refine WP_skip ?_
    refine WP_exit ?_
    refine blk_exit ?_
    refine WP_region0 (by kernel_rfl) (fun _ => ?_)
    refine st (ov_move (v := .int .i64 ((k : Nat) : Int)) rfl ?_)
    have hr1318 : InR ((k + 1 : Nat) : Int) := by first | omega | (simp only [lens]; omega)
    refine st (ov_add (r := ((k + 1 : Nat) : Int)) (k := .i64) (a := ((k : Nat) : Int)) (b := 1) rfl rfl (by rw [show (((k : Nat) : Int) + 1 : Int) = ((k + 1 : Nat) : Int) by first | omega | (simp only [lens]; omega)]; exact wrap_in hr1318) ?_)
    refine st (ov_assign (v := .int .i64 ((k + 1 : Nat) : Int)) rfl ?_)
    refine st_nil ?_
    have hS1319 : Sep G W ((SetO b11 (1 + q6) (laidL (1 + q6) (l.take (k + 1)))) :: Rs) w1314 := hS1316.sel 5 [0] (Nat.le_add_left _ _) rfl rfl
    exact ⟨_, by omega, k + 1, _, rfl, setAll_self ⟨rfl, rfl, rfl, trivial⟩, by omega, hS1319⟩
 ·skip
  have hc5r := hc5
  refine WP_cond_t rfl ?_
  refine WP_seq ?_
  refine WP_region0 (by kernel_rfl) (fun _ => ?_)
  refine st (ov_call (f := 16) (vals := []) (cap := []) (show _ = (.func (.func 16) #[] #[] : Value) from rfl) rfl Try.call16 (D_known9  hS4) ?_)
  rintro _ w1320 ⟨rfl, hS1321⟩
  refine st (ov_assign (v := .bool true) rfl ?_)
  refine st_nil ?_
  refine WP_ret ?_
  refine fin1 Try.results5 (show _ = (.bool true : Value) from rfl) ?_
  refine ⟨rfl, hS1321⟩

end Go.Proofs.Ytgjgmojjeehieaa
