/- Steps of the proofs of this seat: part A15. -/
import Derived.Test.YtgjgmojjeehieaaA14
set_option linter.unusedSimpArgs false
set_option linter.unusedVariables false
set_option maxRecDepth 8000
set_option maxHeartbeats 4000000
namespace Go.Proofs.Ytgjgmojjeehieaa
open Go.Proofs Go.RowKit

def missL (L : List Ev) (l : List Int) (most : Int) : List Ev := (L.filter (missE l)).take most.toNat
theorem missL_of {M : List Ev} {most : Int} {j : Nat} (hj : min ((M.length : Nat) : Int) (max 0 most) = (j : Int)) : M.take j = M.take most.toNat := by
  rcases Int.lt_or_le most M.length with h | h
  · congr 1; omega
  · rw [List.take_of_length_le (by omega), List.take_of_length_le (by omega)]
theorem key_none {L : List Ev} {key : Int} (h : ((L.filter (keyP key)).length : Nat) = 0) : keyE L key = none := by
  have h1 := List.length_eq_zero_iff.1 h
  unfold keyE
  rw [← List.head?_filter, h1]; rfl
theorem key_some {L : List Ev} {key : Int} (h : 0 < (L.filter (keyP key)).length) : keyE L key = some ((L.filter (keyP key)).getD 0 default) := by
  unfold keyE
  rw [← List.head?_filter]
  cases hl : L.filter (keyP key) with
  | nil => rw [hl] at h; exact absurd h (Nat.lt_irrefl 0)
  | cons x l => rfl
theorem D_Missing {G : Nat → Prop} {W w : World} {Rs : List HP} {b : Nat} {n : Nat} {L : List Ev} (hb : (SetO b n L).p W G) {vl : Value} {l : List Int} (hl : RdS W G vl l) {most : Int} (hmost : InR most) (hS0 : Sep G W Rs w) (hid : (L.map idE).Nodup) (hsr : Srt L) (hL : L.length ≤ 1000000) : Ret Try.prog 25 [.pointer (some ⟨b, 0, none⟩), vl, .int .i64 (most)] w (fun r w' => ∃ (v : Value), r = (v : Value) ∧ Sep G W ((RowE (α := Ev) own 36 v (missL L l most)) :: Rs) w') := by
 have hls : l.length * 8 ≤ 140737488355328 := hl.small
 refine Calls_of_WP (args := [.pointer (some ⟨b, 0, none⟩), vl, .int .i64 (most)]) Try.func25 rfl rfl ?_
 obtain ⟨vv1, m2, R3, hb4, hv5, hr6⟩ := SetO.sh hb
 have hsm7 : (vecE n L).length * 8 ≤ 140737488355328 := hv5.small
 refine WP_seq ?_
 refine WP_region0 (by kernel_rfl) (fun _ => ?_)
 refine st (ov_box (v := vl) rfl ?_)
 intro w10 b9 hn8
 rw [oneCell_cells hl.sl.one] at hn8
 have hS11 : Sep G W ((Blk b9 #[vl] 34) :: Rs) w10 := hS0.new hn8
 refine st (ov_assign (v := (.slice none 0 0)) rfl ?_)
 refine st_nil ?_
 refine WP_seq ?_
 refine WP_region0 (by kernel_rfl) (fun _ => ?_)
 refine st (ov_move (v := .pointer (some ⟨b, 0, none⟩)) rfl ?_)
 refine st (ov_makeFunc (vals := [.pointer (some ⟨b9, 0, none⟩)]) rfl ?_)
 obtain ⟨G12, hA14, hB15, hS16, hk17⟩ := hS11.lend
 refine st (ov_call (f := 53) (vals := [.pointer (some ⟨b, 0, none⟩), .func (.func 58) #[] #[.pointer (some ⟨b9, 0, none⟩)]]) (cap := []) (show _ = (.func (.func 53) #[] #[] : Value) from rfl) rfl Try.call53 (D_some (p := missE l) (caps := [.pointer (some ⟨b9, 0, none⟩)]) (HP.base hb hB15) Try.call58 (fun hd9 ok9 hS9 => D_miss1 hd9 ok9 hA14 (RdS.base hl hB15) hS9) hS16 (hid) (hsr) (hL)) ?_)
 rintro v18 w19 ⟨_, rfl, hS20⟩
 have hr21 := hS20.row (i := 0) rfl
 have hr21s : (L.filter (missE l)).length * 96 ≤ 140737488355328 := hr21.2
 refine st (ov_assign (v := v18) rfl ?_)
 refine st_nil ?_
 refine WP_seq ?_
 refine WP_region0 (by kernel_rfl) (fun _ => ?_)
 refine st (ov_move (v := v18) rfl ?_)
 refine st (ov_move (v := v18) rfl ?_)
 refine st (ov_len (n := (L.filter (missE l)).length) Try.underlying22 rfl hr21.1 ?_)
 refine st (ov_move (v := .int .i64 (most)) rfl ?_)
 refine st (ov_max (k := .i64) (a := 0) (b := most) rfl rfl ?_)
 refine st (ov_min (k := .i64) (a := (((L.filter (missE l)).length : Nat) : Int)) (b := max 0 most) rfl rfl ?_)
 obtain ⟨j9, hj9⟩ : ∃ j : Nat, min (((L.filter (missE l)).length : Nat) : Int) (max 0 most) = (j : Int) := ⟨_, (Int.toNat_of_nonneg (by omega)).symm⟩
 rw [hj9]
 refine st (ov_sliceHi (j := j9) (k := 10) (n := (L.filter (missE l)).length) Try.underlying22 Try.sizeOf36 rfl hr21.1 rfl (by first | omega | (simp only [lens]; omega)) ?_)
 refine st (ov_assign (v := (subV 10 v18 0 j9)) rfl ?_)
 refine st_nil ?_
 refine WP_ret ?_
 refine fin1 Try.results25 (show _ = ((subV 10 v18 0 j9) : Value) from rfl) ?_
 have hS22 : Sep G W ((Blk b9 #[vl] 34) :: (RowE (α := Ev) own 36 v18 (L.filter (missE l))) :: Rs) w19 := hk17 _ _ hS20
 have hS23 : Sep G W ((RowE (α := Ev) own 36 v18 (L.filter (missE l))) :: (Blk b9 #[vl] 34) :: Rs) w19 := hS22.sel 2 [1, 0] (Nat.le_add_left _ _) rfl rfl
 have hS24 : Sep G W ((RowE (α := Ev) own 36 (subV 10 v18 0 j9) (List.take j9 (L.filter (missE l)))) :: (Blk b9 #[vl] 34) :: Rs) w19 := hS23.rowTake (j := j9) (by first | omega | (simp only [lens]; omega))
 rw [missL_of hj9] at hS24
 have hS25 : Sep G W ((RowE (α := Ev) own 36 (subV 10 v18 0 j9) (List.take most.toNat (L.filter (missE l)))) :: Rs) w19 := hS24.sel 2 [0] (Nat.le_add_left _ _) rfl rfl
 refine ⟨(subV 10 v18 0 j9), rfl, hS25⟩

theorem D_Keyed {G : Nat → Prop} {W w : World} {Rs : List HP} {b : Nat} {n : Nat} {L : List Ev} (hb : (SetO b n L).p W G) {key : Int} (hkey : InR key) (hS0 : Sep G W Rs w) (hid : (L.map idE).Nodup) (hsr : Srt L) (hL : L.length ≤ 1000000) : Ret Try.prog 31 [.pointer (some ⟨b, 0, none⟩), .int .i64 (key)] w (fun r w' => ∃ (d : Value), r = (.tuple #[.agg (((keyE L key).getD default).cells d).toArray, .bool (keyE L key).isSome] : Value) ∧ Sep G W ((DepO d (((keyE L key).getD default).deps)) :: Rs) w') := by
 refine Calls_of_WP (args := [.pointer (some ⟨b, 0, none⟩), .int .i64 (key)]) Try.func31 rfl rfl ?_
 obtain ⟨vv1, m2, R3, hb4, hv5, hr6⟩ := SetO.sh hb
 have hsm7 : (vecE n L).length * 8 ≤ 140737488355328 := hv5.small
 refine WP_seq ?_
 refine WP_region0 (by kernel_rfl) (fun _ => ?_)
 refine st (ov_box (v := .int .i64 (key)) rfl ?_)
 intro w10 b9 hn8
 have hS11 : Sep G W ((Blk b9 #[.int .i64 (key)] 3) :: Rs) w10 := hS0.new hn8
 refine st (ov_alloc Try.zeroValue36 ?_)
 intro w14 b13 hn12
 have hS15 : Sep G W ((Blk b13 #[.int .i64 (0), .int .i64 (0), .int .i64 (0), (.slice none 0 0), .int .i64 (0), .int .i64 (0), .int .i64 (0), .int .i64 (0), .int .i64 (0), .int .i64 (0)] 36) :: (Blk b9 #[.int .i64 (key)] 3) :: Rs) w14 := hS11.new hn12
 refine st (ov_assign (v := .bool false) rfl ?_)
 refine st_nil ?_
 refine WP_seq ?_
 refine WP_region0 (by kernel_rfl) (fun _ => ?_)
 refine st (ov_move (v := .pointer (some ⟨b, 0, none⟩)) rfl ?_)
 refine st (ov_makeFunc (vals := [.pointer (some ⟨b9, 0, none⟩)]) rfl ?_)
 have hS16 : Sep G W ((Blk b9 #[.int .i64 (key)] 3) :: (Blk b13 #[.int .i64 (0), .int .i64 (0), .int .i64 (0), (.slice none 0 0), .int .i64 (0), .int .i64 (0), .int .i64 (0), .int .i64 (0), .int .i64 (0), .int .i64 (0)] 36) :: Rs) w14 := hS15.sel 2 [1, 0] (Nat.le_add_left _ _) rfl rfl
 obtain ⟨G17, hA19, hB20, hS21, hk22⟩ := hS16.lend
 refine st (ov_call (f := 53) (vals := [.pointer (some ⟨b, 0, none⟩), .func (.func 61) #[] #[.pointer (some ⟨b9, 0, none⟩)]]) (cap := []) (show _ = (.func (.func 53) #[] #[] : Value) from rfl) rfl Try.call53 (D_some (p := keyP key) (caps := [.pointer (some ⟨b9, 0, none⟩)]) (HP.base hb hB20) Try.call61 (fun hd9 ok9 hS9 => D_key1 hd9 ok9 hA19 hS9) hS21 (hid) (hsr) (hL)) ?_)
 rintro v23 w24 ⟨_, rfl, hS25⟩
 have hr26 := hS25.row (i := 0) rfl
 have hr26s : (L.filter (keyP key)).length * 96 ≤ 140737488355328 := hr26.2
 refine st (ov_assign (v := v23) rfl ?_)
 refine st_nil ?_
 refine WP_seq ?_
 refine WP_seq ?_
 refine WP_region0 (by kernel_rfl) (fun _ => ?_)
 refine st (ov_move (v := v23) rfl ?_)
 refine st (ov_len (n := (L.filter (keyP key)).length) Try.underlying22 rfl hr26.1 ?_)
 refine st (ov_eql (k := .i64) (a := (((L.filter (keyP key)).length : Nat) : Int)) (b := 0) rfl rfl ?_)
 refine st_nil ?_
 cases hc27 : decide ((((L.filter (keyP key)).length : Nat) : Int) = 0)
 ·skip
  have hc27 := of_decide_eq_false hc27
  refine WP_cond_f rfl ?_
  refine WP_skip ?_
  refine WP_seq ?_
  refine WP_region0 (by kernel_rfl) (fun _ => ?_)
  refine st (ov_move (v := v23) rfl ?_)
  have hi28 : 0 < (L.filter (keyP key)).length := (by first | omega | (simp only [lens]; omega))
  refine st (ov_indexAddrN (k := 10) (i := 0) Try.underlying22 Try.sizeOf36 rfl hr26.1 rfl hi28 ?_)
  have hi33 : 0 < (L.filter (keyP key)).length := by omega
  obtain ⟨d29, hc30, ok31, hS32⟩ := hS25.depo hi33
  refine st (ov_loadk (k := 10) Try.isAgg36 Try.sizeOf36 rfl rfl hc30 ?_)
  have hone9 := (DepO.rd (Sep.get hS32 (i := 0) rfl).choose_spec.1).sl
  refine stn (ov_store (v := .agg (((L.filter (keyP key)).getD 0 default).cells d29).toArray) (c' := (((L.filter (keyP key)).getD 0 default).cells d29).toArray) Try.sizeOf36 rfl rfl (hS32.blk (i := 1) rfl) (all1 ⟨rfl, rfl, rfl, hone9.one, rfl, rfl, rfl, rfl, rfl, rfl, trivial⟩) (Nat.le_of_ble_eq_true rfl) rfl ?_)
  intro w34 hp35
  have hS36 : Sep G17 w14 ((DepO d29 (((L.filter (keyP key)).getD 0 default).deps)) :: (Blk b13 (((L.filter (keyP key)).getD 0 default).cells d29).toArray 36) :: Rs) w34 := hS32.put (i := 1) rfl hp35
  refine st (ov_assign (v := .bool true) rfl ?_)
  refine st_nil ?_
  refine WP_ret ?_
  refine fin2c (b := b13) Try.results31 Try.isAgg36 Try.sizeOf36 rfl rfl (CellsAt.all (hS36.blk (i := 1) rfl)) (show _ = (.bool true : Value) from rfl) ?_
  have hS37 : Sep G W ((Blk b9 #[.int .i64 (key)] 3) :: (DepO d29 (((L.filter (keyP key)).getD 0 default).deps)) :: (Blk b13 (((L.filter (keyP key)).getD 0 default).cells d29).toArray 36) :: Rs) w34 := hk22 _ _ hS36
  have hS38 : Sep G W ((DepO d29 (((L.filter (keyP key)).getD 0 default).deps)) :: Rs) w34 := hS37.sel 3 [1] (Nat.le_add_left _ _) rfl rfl
  rw [key_some (L := L) (key := key) (by omega)]
  refine ⟨d29, ?_, hS38⟩
  rfl
 ·skip
  have hc27 := of_decide_eq_true hc27
  refine WP_cond_t rfl ?_
  refine WP_seq ?_
  refine WP_region0 (by kernel_rfl) (fun _ => ?_)
  have ok39 : Ev.Ok (⟨0, 0, 0, [], 0, 0, 0, 0, 0, 0⟩ : Ev) := ⟨(show InR (0) from (by decide)), (show InR (0) from (by decide)), (show InR (0) from (by decide)), (show InR (0) from (by decide)), (show InR (0) from (by decide)), (show InR (0) from (by decide)), (show InR (0) from (by decide)), (show InR (0) from (by decide)), (show InR (0) from (by decide))⟩
  refine st (ov_build (parts' := []) (v := .agg ((⟨0, 0, 0, [], 0, 0, 0, 0, 0, 0⟩ : Ev).cells (.slice none 0 0)).toArray) rfl (by simp [Instr.build, Instr.fill, Ev.cells, go_sem, Ev.cells]) ?_)
  refine stn (ov_store (v := .agg ((⟨0, 0, 0, [], 0, 0, 0, 0, 0, 0⟩ : Ev).cells (.slice none 0 0)).toArray) (c' := ((⟨0, 0, 0, [], 0, 0, 0, 0, 0, 0⟩ : Ev).cells (.slice none 0 0)).toArray) Try.sizeOf36 rfl rfl (hS25.blk (i := 1) rfl) (all1 ⟨rfl, rfl, rfl, rfl, rfl, rfl, rfl, rfl, rfl, rfl, trivial⟩) (Nat.le_of_ble_eq_true rfl) rfl ?_)
  intro w40 hp41
  have hS42 : Sep G17 w14 ((RowE (α := Ev) own 36 v23 (L.filter (keyP key))) :: (Blk b13 ((⟨0, 0, 0, [], 0, 0, 0, 0, 0, 0⟩ : Ev).cells (.slice none 0 0)).toArray 36) :: Rs) w40 := hS25.put (i := 1) rfl hp41
  refine st (ov_assign (v := .bool false) rfl ?_)
  refine st_nil ?_
  refine WP_ret ?_
  refine fin2c (b := b13) Try.results31 Try.isAgg36 Try.sizeOf36 rfl rfl (CellsAt.all (hS42.blk (i := 1) rfl)) (show _ = (.bool false : Value) from rfl) ?_
  have hS43 : Sep G W ((Blk b9 #[.int .i64 (key)] 3) :: (RowE (α := Ev) own 36 v23 (L.filter (keyP key))) :: (Blk b13 ((⟨0, 0, 0, [], 0, 0, 0, 0, 0, 0⟩ : Ev).cells (.slice none 0 0)).toArray 36) :: Rs) w40 := hk22 _ _ hS42
  have hS44 : Sep G W ((DepO (.slice none 0 0) []) :: (Blk b9 #[.int .i64 (key)] 3) :: (RowE (α := Ev) own 36 v23 (L.filter (keyP key))) :: (Blk b13 ((⟨0, 0, 0, [], 0, 0, 0, 0, 0, 0⟩ : Ev).cells (.slice none 0 0)).toArray 36) :: Rs) w40 := hS43.depoNil
  have hS45 : Sep G W ((DepO (.slice none 0 0) []) :: Rs) w40 := hS44.sel 4 [0] (Nat.le_add_left _ _) rfl rfl
  rw [key_none (L := L) (key := key) (by omega)]
  refine ⟨(.slice none 0 0), ?_, hS45⟩
  rfl

end Go.Proofs.Ytgjgmojjeehieaa
