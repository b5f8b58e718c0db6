/- Texts of this claim, part 10. -/
import Derived.Test.YtgjgmojjeehieaaW9
set_option linter.unusedSimpArgs false
set_option linter.unusedVariables false
/- Steps of the proofs of this seat: part T5. -/
set_option linter.unusedSimpArgs false
set_option linter.unusedVariables false
set_option maxRecDepth 8000
set_option maxHeartbeats 4000000
namespace Go.Proofs.Ytgjgmojjeehieaa
open Go.Proofs Go.RowKit

theorem D_TalkKinds {G : Nat → Prop} {W w : World} {Rs : List HP} {n : Int} (hn : InR n) {vl : Value} {l : List Ev} (hl : RdS W G vl l) {self : Int} (hself : InR self) {m : Msg} {dm0 : Value} (hdm0 : RdS W G dm0 m.vec) {dm1 : Value} (hdm1 : RdS W G dm1 m.evs) (om : m.Ok) {chunk : Int} (hchunk : InR chunk) (hS0 : Sep G W Rs w) : Ret Try.prog 10 [.int .i64 (n), vl, .int .i64 (self), .agg (m.cells dm0 dm1).toArray, .int .i64 (chunk)] w (fun r w' => r = (.bool true : Value) ∧ Sep G W Rs w') := by
 have hls : l.length * 96 ≤ 140737488355328 := hl.small
 have hdm0s : m.vec.length * 8 ≤ 140737488355328 := hdm0.small
 have hdm1s : m.evs.length * 96 ≤ 140737488355328 := hdm1.small
 refine Calls_of_WP (args := [.int .i64 (n), vl, .int .i64 (self), .agg (m.cells dm0 dm1).toArray, .int .i64 (chunk)]) Try.func10 rfl rfl ?_
 refine WP_seq ?_
 refine WP_region0 (by kernel_rfl) (fun _ => ?_)
 refine st (ov_box (v := .agg (m.cells dm0 dm1).toArray) rfl ?_)
 intro w3 b2 hn1
 have hS4 : Sep G W ((Blk b2 (m.cells dm0 dm1).toArray 57) :: Rs) w3 := hS0.new hn1
 refine st (ov_assign (v := .bool false) rfl ?_)
 refine st_nil ?_
 refine WP_seq ?_
 refine WP_seq ?_
 refine WP_region (by kernel_rfl) ?_
 refine st (ov_move (v := vl) rfl ?_)
 refine st (ov_call (f := 15) (vals := [vl]) (cap := []) (show _ = (.func (.func 15) #[] #[] : Value) from rfl) rfl Try.call15 (D_long (l := l) (vl := vl) hl hS4) ?_)
 rintro _ w7 ⟨b5, rfl, hb6, hS8⟩
 refine st (ov_move (v := .bool b5) rfl ?_)
 refine stc (V := .pointer (some ⟨b2, 3, none⟩)) rfl rfl (fun hb9 => ?_) ?_
 ·have hl10 := hb9
  exact fd57_3 rfl ⟨rfl, rfl⟩
 refine stc (V := dm0) rfl rfl (fun hb11 => ?_) ?_
 ·have hl12 := hb11
  exact ov_load1 (v := dm0) Try.isAgg34 (show _ = (.pointer (some ⟨b2, 3, none⟩) : Value) from (if_pos hb11)) (blk_cellL (hS8.blk (i := 0) rfl) rfl) ⟨rfl, rfl⟩
 refine stc (V := .int .i64 ((m.vec.length : Nat) : Int)) rfl rfl (fun hb13 => ?_) ?_
 ·have hl14 := hb13
  exact ov_len (n := m.vec.length) Try.underlying34 (show _ = (dm0 : Value) from (if_pos hb13)) hdm0.sl ⟨rfl, rfl⟩
 refine stc (V := .bool (decide (80 < ((m.vec.length : Nat) : Int)))) rfl rfl (fun hb15 => ?_) ?_
 ·have hl16 := hb15
  exact ov_gtr (k := .i64) (a := ((m.vec.length : Nat) : Int)) (b := 80) (show _ = (.int .i64 ((m.vec.length : Nat) : Int) : Value) from (if_pos hb15)) rfl ⟨rfl, rfl⟩
 refine st (ov_pick_or (b := b5) (b' := decide (80 < ((m.vec.length : Nat) : Int))) rfl (fun hbp => (show _ = (.bool (decide (80 < ((m.vec.length : Nat) : Int))) : Value) from (if_pos hbp))) ?_)
 refine st_nil ?_
 cases hc17 : b5 || (decide (80 < ((m.vec.length : Nat) : Int)))
 ·skip
  have hc17r := hc17
  try simp only [bools] at hc17
  have hf9 : Few l := by have h9 := hc17r; simp only [Bool.or_eq_false_iff] at h9; exact hb6 h9.1
  obtain ⟨hf9, _⟩ := hf9
  refine WP_cond_f rfl ?_
  refine WP_skip ?_
  refine WP_seq ?_
  refine WP_region0 (by kernel_rfl) (fun _ => ?_)
  refine st (ov_move (v := .int .i64 (n)) rfl ?_)
  refine st (ov_call (f := 17) (vals := [.int .i64 (n), .int .i64 (64)]) (cap := []) (show _ = (.func (.func 17) #[] #[] : Value) from rfl) rfl Try.call17 (D_PickF (x := n) (n := 64) hn (by first | omega | (refine ⟨?_, ?_⟩ <;> omega)) hS8) ?_)
  rintro _ w21 ⟨q18, rfl, hq19, hqe20, hS22⟩
  have hr23 : InR ((1 + q18 : Nat) : Int) := by first | omega | (simp only [lens]; omega)
  refine st (ov_add (r := ((1 + q18 : Nat) : Int)) (k := .i64) (a := 1) (b := ((q18 : Nat) : Int)) rfl rfl (by rw [show (1 + ((q18 : Nat) : Int) : Int) = ((1 + q18 : Nat) : Int) by first | omega | (simp only [lens]; omega)]; exact wrap_in hr23) ?_)
  refine st (ov_move (v := vl) rfl ?_)
  refine st (ov_call (f := 40) (vals := [.int .i64 ((1 + q18 : Nat) : Int), vl]) (cap := []) (show _ = (.func (.func 40) #[] #[] : Value) from rfl) rfl Try.call40 (D_laid27 (n := 1 + q18) (l := l) (vl := vl) (by first | omega | (refine ⟨?_, ?_⟩ <;> omega)) hl hS22 (by first | omega | (simp only [lens]; omega))) ?_)
  rintro _ w25 ⟨b24, rfl, hS26⟩
  refine st (ov_assign (v := .pointer (some ⟨b24, 0, none⟩)) rfl ?_)
  refine st_nil ?_
  refine WP_seq ?_
  refine WP_seq ?_
  refine WP_region0 (by kernel_rfl) (fun _ => ?_)
  refine st (ov_move (v := .pointer (some ⟨b24, 0, none⟩)) rfl ?_)
  refine st (ov_eqlPtr (b := b24) (o := 0) Try.underlying26 rfl ?_)
  refine st_nil ?_
  refine WP_cond_f rfl ?_
  refine WP_skip ?_
  refine WP_seq ?_
  refine WP_region0 (by kernel_rfl) (fun _ => ?_)
  refine st (ov_move (v := .pointer (some ⟨b24, 0, none⟩)) rfl ?_)
  refine st (ov_move (v := .int .i64 (self)) rfl ?_)
  refine st (ov_loadk (k := 5) Try.isAgg57 Try.sizeOf57 rfl rfl (CellsAt.all (hS26.blk (i := 1) rfl)) ?_)
  refine st (ov_move (v := .int .i64 (chunk)) rfl ?_)
  obtain ⟨G27, hA29, hB30, hS31, hk32⟩ := hS26.lend
  obtain ⟨vv33, m34, R35, hb36, hv37, hr38⟩ := SetO.sh hA29
  have hsm39 : (vecE (1 + q18) (laidL (1 + q18) l)).length * 8 ≤ 140737488355328 := hv37.small
  refine st (ov_call (f := 41) (vals := [.pointer (some ⟨b24, 0, none⟩), .int .i64 (self), .agg (m.cells dm0 dm1).toArray, .int .i64 (chunk)]) (cap := []) (show _ = (.func (.func 41) #[] #[] : Value) from rfl) rfl Try.call41 (D_Answer (self := self) (m := m) (chunk := chunk) hA29 hself (RdS.base hdm0 hB30) (RdS.base hdm1 hB30) om hchunk hS31 (laidL_good.ids) (laidL_good.srt) ((Nat.le_trans laidL_len (by omega)))) ?_)
  rintro v40 w41 ⟨_, rfl, hS42⟩
  have hr43 := hS42.row (i := 0) rfl
  have hr43s : (ansL (1 + q18) (laidL (1 + q18) l) self m chunk).length * 72 ≤ 140737488355328 := hr43.2
  have hS44 : Sep G W ((SetO b24 (1 + q18) (laidL (1 + q18) l)) :: (RowE (α := Msg) own 57 v40 (ansL (1 + q18) (laidL (1 + q18) l) self m chunk)) :: (Blk b2 (m.cells dm0 dm1).toArray 57) :: Rs) w41 := hk32 _ _ hS42
  refine st (ov_assign (v := v40) rfl ?_)
  refine st_nil ?_
  refine WP_seq ?_
  refine WP_seq ?_
  refine WP_region (by kernel_rfl) ?_
  refine st (fd57_0 rfl ?_)
  refine st (ov_load1 (v := .int .i64 (m.kind)) Try.isAgg3 rfl (blk_cellL (hS44.blk (i := 2) rfl) rfl) ?_)
  refine st (ov_neq (k := .i64) (a := m.kind) (b := 1) rfl rfl ?_)
  refine st (ov_move (v := .bool (!decide (m.kind = 1))) rfl ?_)
  refine stc (V := .pointer (some ⟨b2, 0, none⟩)) rfl rfl (fun hb45 => ?_) ?_
  ·have hl46 := hb45
   have hl46 := ndec_true hl46
   exact fd57_0 rfl ⟨rfl, rfl⟩
  refine stc (V := .int .i64 (m.kind)) rfl rfl (fun hb47 => ?_) ?_
  ·have hl48 := hb47
   have hl48 := ndec_true hl48
   exact ov_load1 (v := .int .i64 (m.kind)) Try.isAgg3 (show _ = (.pointer (some ⟨b2, 0, none⟩) : Value) from (if_pos hb47)) (blk_cellL (hS44.blk (i := 2) rfl) rfl) ⟨rfl, rfl⟩
  refine stc (V := .bool (!decide (m.kind = 2))) rfl rfl (fun hb49 => ?_) ?_
  ·have hl50 := hb49
   have hl50 := ndec_true hl50
   exact ov_neq (k := .i64) (a := m.kind) (b := 2) (show _ = (.int .i64 (m.kind) : Value) from (if_pos hb49)) rfl ⟨rfl, rfl⟩
  refine st (ov_pick_and (b := !decide (m.kind = 1)) (b' := !decide (m.kind = 2)) rfl (fun hbp => (show _ = (.bool (!decide (m.kind = 2)) : Value) from (if_pos hbp))) ?_)
  refine st_nil ?_
  cases hc51 : (!decide (m.kind = 1)) && (!decide (m.kind = 2))
  ·skip
   have hc51r := hc51
   try simp only [bools] at hc51
   refine WP_cond_f rfl ?_
   refine WP_skip ?_
   refine WP_seq ?_
   refine WP_seq ?_
   have hS52 : Sep G W ((RowE (α := Msg) own 57 v40 (ansL (1 + q18) (laidL (1 + q18) l) self m chunk)) :: (SetO b24 (1 + q18) (laidL (1 + q18) l)) :: (Blk b2 (m.cells dm0 dm1).toArray 57) :: Rs) w41 := hS44.sel 3 [1, 0, 2] (Nat.le_add_left _ _) rfl rfl
   obtain ⟨G53, hA55, hB56, hS57, hk58⟩ := hS52.lend
   have hrd59 := RowE.rd hA55
   have hrd59s : (ansL (1 + q18) (laidL (1 + q18) l) self m chunk).length * 72 ≤ 140737488355328 := hrd59.small
   have hkd9 : m.kind = 1 ∨ m.kind = 2 := by have := hc51r; simp only [Bool.and_eq_false_iff, Bool.not_eq_false', decide_eq_true_eq] at this; exact this
   obtain ⟨hka9, hkb9, hkc9, hkx9⟩ := ansL_kinds (n := (1 + q18)) (L := (laidL (1 + q18) l)) (self := self) (c := chunk) hkd9
   refine WP_region (by kernel_rfl) ?_
   refine st (ov_move (v := v40) rfl ?_)
   refine st (ov_len (n := (ansL (1 + q18) (laidL (1 + q18) l) self m chunk).length) Try.underlying58 rfl hrd59.sl ?_)
   refine st (ov_lss (k := .i64) (a := (((ansL (1 + q18) (laidL (1 + q18) l) self m chunk).length : Nat) : Int)) (b := 1) rfl rfl ?_)
   refine st (ov_move (v := .bool (decide ((((ansL (1 + q18) (laidL (1 + q18) l) self m chunk).length : Nat) : Int) < 1))) rfl ?_)
   refine stc (V := v40) rfl rfl (fun hb60 => ?_) ?_
   ·have hl61 := hb60
    have hl61 := of_decide_eq_false hl61
    exact ov_move (v := v40) rfl ⟨rfl, rfl⟩
   refine stc (V := .int .i64 (((ansL (1 + q18) (laidL (1 + q18) l) self m chunk).length : Nat) : Int)) rfl rfl (fun hb62 => ?_) ?_
   ·have hl63 := hb62
    have hl63 := of_decide_eq_false hl63
    exact ov_len (n := (ansL (1 + q18) (laidL (1 + q18) l) self m chunk).length) Try.underlying58 (show _ = (v40 : Value) from (if_pos hb62)) hrd59.sl ⟨rfl, rfl⟩
   refine stc (V := .bool (decide (2 < (((ansL (1 + q18) (laidL (1 + q18) l) self m chunk).length : Nat) : Int)))) rfl rfl (fun hb64 => ?_) ?_
   ·have hl65 := hb64
    have hl65 := of_decide_eq_false hl65
    exact ov_gtr (k := .i64) (a := (((ansL (1 + q18) (laidL (1 + q18) l) self m chunk).length : Nat) : Int)) (b := 2) (show _ = (.int .i64 (((ansL (1 + q18) (laidL (1 + q18) l) self m chunk).length : Nat) : Int) : Value) from (if_pos hb64)) rfl ⟨rfl, rfl⟩
   refine st (ov_pick_or (b := decide ((((ansL (1 + q18) (laidL (1 + q18) l) self m chunk).length : Nat) : Int) < 1)) (b' := decide (2 < (((ansL (1 + q18) (laidL (1 + q18) l) self m chunk).length : Nat) : Int))) rfl (fun hbp => (show _ = (.bool (decide (2 < (((ansL (1 + q18) (laidL (1 + q18) l) self m chunk).length : Nat) : Int))) : Value) from (if_pos hbp))) ?_)
   refine st (ov_move (v := .bool ((decide ((((ansL (1 + q18) (laidL (1 + q18) l) self m chunk).length : Nat) : Int) < 1)) || (decide (2 < (((ansL (1 + q18) (laidL (1 + q18) l) self m chunk).length : Nat) : Int))))) rfl ?_)
   refine stc (V := .pointer (some ⟨b2, 0, none⟩)) rfl rfl (fun hb66 => ?_) ?_
   ·have hl67 := hb66
    try simp only [bools] at hl67
    exact fd57_0 rfl ⟨rfl, rfl⟩
   refine stc (V := .int .i64 (m.kind)) rfl rfl (fun hb68 => ?_) ?_
   ·have hl69 := hb68
    try simp only [bools] at hl69
    exact ov_load1 (v := .int .i64 (m.kind)) Try.isAgg3 (show _ = (.pointer (some ⟨b2, 0, none⟩) : Value) from (if_pos hb68)) (blk_cellL (hS57.blk (i := 1) rfl) rfl) ⟨rfl, rfl⟩
   refine stc (V := .bool (decide (m.kind = 2))) rfl rfl (fun hb70 => ?_) ?_
   ·have hl71 := hb70
    try simp only [bools] at hl71
    exact ov_eql (k := .i64) (a := m.kind) (b := 2) (show _ = (.int .i64 (m.kind) : Value) from (if_pos hb70)) rfl ⟨rfl, rfl⟩
   refine stc (V := .bool (decide (m.kind = 2))) rfl rfl (fun hb72 => ?_) ?_
   ·have hl73 := hb72
    try simp only [bools] at hl73
    exact ov_move (v := .bool (decide (m.kind = 2))) (show _ = (.bool (decide (m.kind = 2)) : Value) from (if_pos hb72)) ⟨rfl, rfl⟩
   refine stcP (V := v40) rfl rfl (fun hb74 => ?_) ?_
   ·have hl75 := hb74.1
    try simp only [bools] at hl75
    have hl76 := hb74.2
    have hl76 := of_decide_eq_true hl76
    exact ov_move (v := v40) rfl ⟨rfl, rfl⟩
   refine stcP (V := .int .i64 (((ansL (1 + q18) (laidL (1 + q18) l) self m chunk).length : Nat) : Int)) rfl rfl (fun hb77 => ?_) ?_
   ·have hl78 := hb77.1
    try simp only [bools] at hl78
    have hl79 := hb77.2
    have hl79 := of_decide_eq_true hl79
    exact ov_len (n := (ansL (1 + q18) (laidL (1 + q18) l) self m chunk).length) Try.underlying58 (show _ = (v40 : Value) from (if_pos ⟨hb77.1, hb77.2⟩)) hrd59.sl ⟨rfl, rfl⟩
   refine stcP (V := .bool (decide (1 < (((ansL (1 + q18) (laidL (1 + q18) l) self m chunk).length : Nat) : Int)))) rfl rfl (fun hb80 => ?_) ?_
   ·have hl81 := hb80.1
    try simp only [bools] at hl81
    have hl82 := hb80.2
    have hl82 := of_decide_eq_true hl82
    exact ov_gtr (k := .i64) (a := (((ansL (1 + q18) (laidL (1 + q18) l) self m chunk).length : Nat) : Int)) (b := 1) (show _ = (.int .i64 (((ansL (1 + q18) (laidL (1 + q18) l) self m chunk).length : Nat) : Int) : Value) from (if_pos ⟨hb80.1, hb80.2⟩)) rfl ⟨rfl, rfl⟩
   refine stc (V := .bool ((decide (m.kind = 2)) && (decide (1 < (((ansL (1 + q18) (laidL (1 + q18) l) self m chunk).length : Nat) : Int))))) rfl rfl (fun hb83 => ?_) ?_
   ·have hl84 := hb83
    try simp only [bools] at hl84
    exact ov_pick_and (b := decide (m.kind = 2)) (b' := decide (1 < (((ansL (1 + q18) (laidL (1 + q18) l) self m chunk).length : Nat) : Int))) (show _ = (.bool (decide (m.kind = 2)) : Value) from (if_pos hb83)) (fun hbp => (show _ = (.bool (decide (1 < (((ansL (1 + q18) (laidL (1 + q18) l) self m chunk).length : Nat) : Int))) : Value) from (if_pos ⟨hb83, hbp⟩))) ⟨rfl, rfl⟩
   refine st (ov_pick_or (b := (decide ((((ansL (1 + q18) (laidL (1 + q18) l) self m chunk).length : Nat) : Int) < 1)) || (decide (2 < (((ansL (1 + q18) (laidL (1 + q18) l) self m chunk).length : Nat) : Int)))) (b' := (decide (m.kind = 2)) && (decide (1 < (((ansL (1 + q18) (laidL (1 + q18) l) self m chunk).length : Nat) : Int)))) rfl (fun hbp => (show _ = (.bool ((decide (m.kind = 2)) && (decide (1 < (((ansL (1 + q18) (laidL (1 + q18) l) self m chunk).length : Nat) : Int)))) : Value) from (if_pos hbp))) ?_)
   refine st_nil ?_
   cases hc85 : ((decide ((((ansL (1 + q18) (laidL (1 + q18) l) self m chunk).length : Nat) : Int) < 1)) || (decide (2 < (((ansL (1 + q18) (laidL (1 + q18) l) self m chunk).length : Nat) : Int)))) || ((decide (m.kind = 2)) && (decide (1 < (((ansL (1 + q18) (laidL (1 + q18) l) self m chunk).length : Nat) : Int))))
   ·skip
    have hc85r := hc85
    try simp only [bools] at hc85
    refine WP_cond_f rfl ?_
    refine WP_skip ?_
    refine WP_seq ?_
    refine WP_seq ?_
    refine WP_region0 (by kernel_rfl) (fun _ => ?_)
    refine st (ov_assign (v := .int .i64 (0)) rfl ?_)
    refine st_nil ?_
    refine WP_block ?_
    refine WP_loop (fun mq σ wq => ∃ (k9 : Nat) (ρ : Env), mq = (ansL (1 + q18) (laidL (1 + q18) l) self m chunk).length - k9 ∧ σ = setAll ρ [(2, .int .i64 (self)), (8, .pointer (some ⟨b2, 0, none⟩)), (11, .pointer (some ⟨b24, 0, none⟩)), (12, v40), (13, .int .i64 ((k9 : Nat) : Int))] ∧ (k9 ≤ (ansL (1 + q18) (laidL (1 + q18) l) self m chunk).length) ∧ Sep G53 w41 ((SetO b24 (1 + q18) (laidL (1 + q18) l)) :: (Blk b2 (m.cells dm0 dm1).toArray 57) :: Rs) wq) ⟨0, _, rfl, setAll_self ⟨rfl, rfl, rfl, rfl, rfl, trivial⟩, Nat.zero_le _, hS57⟩ ?_
    rintro m87 σ88 w86 ⟨k9, ρl1, rfl, rfl, hk9, hS89⟩
    refine WP_seq ?_
    refine WP_seq ?_
    refine WP_region0 (by kernel_rfl) (fun _ => ?_)
    refine st (ov_move (v := .int .i64 ((k9 : Nat) : Int)) rfl ?_)
    refine st (ov_move (v := v40) rfl ?_)
    refine st (ov_len (n := (ansL (1 + q18) (laidL (1 + q18) l) self m chunk).length) Try.underlying58 rfl hrd59.sl ?_)
    refine st (ov_lss (k := .i64) (a := ((k9 : Nat) : Int)) (b := (((ansL (1 + q18) (laidL (1 + q18) l) self m chunk).length : Nat) : Int)) rfl rfl ?_)
    refine st_nil ?_
    cases hc90 : decide (((k9 : Nat) : Int) < (((ansL (1 + q18) (laidL (1 + q18) l) self m chunk).length : Nat) : Int))
    ·skip
     have hc90r := hc90
     have hc90 := of_decide_eq_false hc90
     refine WP_cond_f rfl ?_
     refine WP_exit ?_
     refine blk_exit ?_
     refine WP_seq ?_
     refine WP_region0 (by kernel_rfl) (fun _ => ?_)
     refine st (ov_call (f := 39) (vals := []) (cap := []) (show _ = (.func (.func 39) #[] #[] : Value) from rfl) rfl Try.call39 (D_known27  hS89) ?_)
     rintro _ w91 ⟨rfl, hS92⟩
     refine st (ov_assign (v := .bool true) rfl ?_)
     refine st_nil ?_
     refine WP_ret ?_
     refine fin1 Try.results10 (show _ = (.bool true : Value) from rfl) ?_
     have hS93 : Sep G W ((RowE (α := Msg) own 57 v40 (ansL (1 + q18) (laidL (1 + q18) l) self m chunk)) :: (SetO b24 (1 + q18) (laidL (1 + q18) l)) :: (Blk b2 (m.cells dm0 dm1).toArray 57) :: Rs) w91 := hk58 _ _ hS92
     have hS94 : Sep G W Rs w91 := hS93.sel 3 [] (Nat.le_add_left _ _) rfl rfl
     refine ⟨rfl, hS94⟩
    ·skip
     have hc90r := hc90
     have hc90 := of_decide_eq_true hc90
     refine WP_cond_t rfl ?_
     refine WP_skip ?_
     refine WP_seq ?_
     refine WP_block ?_
     refine WP_seq ?_
     refine WP_region0 (by kernel_rfl) (fun _ => ?_)
     refine st (ov_move (v := v40) rfl ?_)
     refine st (ov_move (v := .int .i64 ((k9 : Nat) : Int)) rfl ?_)
     have hi95 : k9 < (ansL (1 + q18) (laidL (1 + q18) l) self m chunk).length := (by first | omega | (simp only [lens]; omega))
     refine st (ov_indexAddrN (k := 5) (i := k9) Try.underlying58 Try.sizeOf57 rfl hrd59.sl rfl hi95 ?_)
     have hi97 : k9 < (ansL (1 + q18) (laidL (1 + q18) l) self m chunk).length := (by first | omega | (simp only [lens]; omega))
     obtain ⟨hce96, hde96_0, hde96_1, hoke96⟩ := hrd59.msg hi97
     rw [← getD_at default hi97] at hce96 hde96_0 hde96_1 hoke96
     have hsm98 : (((ansL (1 + q18) (laidL (1 + q18) l) self m chunk).getD k9 default).vec).length * 8 ≤ 140737488355328 := hde96_0.small
     have hsm99 : (((ansL (1 + q18) (laidL (1 + q18) l) self m chunk).getD k9 default).evs).length * 96 ≤ 140737488355328 := hde96_1.small
     have hcw100 := hS89.cells hce96 (hrd59.foot (ne_of_lt hi97))
     refine st (ov_loadk (k := 5) Try.isAgg57 Try.sizeOf57 rfl rfl hcw100 ?_)
     refine st (ov_alloc Try.zeroValue57 ?_)
     intro w103 b102 hn101
     have hS104 : Sep G53 w41 ((Blk b102 #[.int .i64 (0), .int .i64 (0), .int .i64 (0), (.slice none 0 0), (.slice none 0 0)] 57) :: (SetO b24 (1 + q18) (laidL (1 + q18) l)) :: (Blk b2 (m.cells dm0 dm1).toArray 57) :: Rs) w103 := hS89.new hn101
     refine stn (ov_store (v := .agg (((ansL (1 + q18) (laidL (1 + q18) l) self m chunk).getD k9 default).cells (cellV w41 (sb v40) (so v40 + k9 * 5 + 3)) (cellV w41 (sb v40) (so v40 + k9 * 5 + 4))).toArray) (c' := (((ansL (1 + q18) (laidL (1 + q18) l) self m chunk).getD k9 default).cells (cellV w41 (sb v40) (so v40 + k9 * 5 + 3)) (cellV w41 (sb v40) (so v40 + k9 * 5 + 4))).toArray) Try.sizeOf57 rfl rfl (hS104.blk (i := 0) rfl) (all1 ⟨rfl, rfl, rfl, hde96_0.sl.one, hde96_1.sl.one, trivial⟩) (Nat.le_of_ble_eq_true rfl) rfl ?_)
     intro w105 hp106
     have hS107 : Sep G53 w41 ((Blk b102 (((ansL (1 + q18) (laidL (1 + q18) l) self m chunk).getD k9 default).cells (cellV w41 (sb v40) (so v40 + k9 * 5 + 3)) (cellV w41 (sb v40) (so v40 + k9 * 5 + 4))).toArray 57) :: (SetO b24 (1 + q18) (laidL (1 + q18) l)) :: (Blk b2 (m.cells dm0 dm1).toArray 57) :: Rs) w105 := hS104.put (i := 0) rfl hp106
     refine st_nil ?_
     refine WP_seq ?_
     obtain ⟨hxa9, hxb9, hxc9⟩ := hkx9 k9 (by omega)
     rcases hxc9 with hq9 | hq9 | hq9
     ·skip
      obtain ⟨hq1, hq2, hq3, hq4, hq5⟩ := hq9
      refine WP_draw4 (WF [fun vals wq => Sep G53 w41 ((Blk b102 (((ansL (1 + q18) (laidL (1 + q18) l) self m chunk).getD k9 default).cells (cellV w41 (sb v40) (so v40 + k9 * 5 + 3)) (cellV w41 (sb v40) (so v40 + k9 * 5 + 4))).toArray 57) :: (SetO b24 (1 + q18) (laidL (1 + q18) l)) :: (Blk b2 (m.cells dm0 dm1).toArray 57) :: Rs) wq, fun vals wq => Sep G53 w41 ((Blk b102 (((ansL (1 + q18) (laidL (1 + q18) l) self m chunk).getD k9 default).cells (cellV w41 (sb v40) (so v40 + k9 * 5 + 3)) (cellV w41 (sb v40) (so v40 + k9 * 5 + 4))).toArray 57) :: (SetO b24 (1 + q18) (laidL (1 + q18) l)) :: (Blk b2 (m.cells dm0 dm1).toArray 57) :: Rs) wq, fun vals wq => Sep G53 w41 ((Blk b102 (((ansL (1 + q18) (laidL (1 + q18) l) self m chunk).getD k9 default).cells (cellV w41 (sb v40) (so v40 + k9 * 5 + 3)) (cellV w41 (sb v40) (so v40 + k9 * 5 + 4))).toArray 57) :: (SetO b24 (1 + q18) (laidL (1 + q18) l)) :: (Blk b2 (m.cells dm0 dm1).toArray 57) :: Rs) wq]) (AF [Vl 0 (.pointer (some ⟨b102, 1, none⟩)), Vl 1 (.int .i64 (((ansL (1 + q18) (laidL (1 + q18) l) self m chunk).getD k9 default).frm)), Vl 2 (.int .i64 (self)), Vl 3 (.bool false), Vl 4 (.bool false), Vl 5 (.pointer (some ⟨b102, 2, none⟩)), Vl 6 (.int .i64 (((ansL (1 + q18) (laidL (1 + q18) l) self m chunk).getD k9 default).dst)), Vl 7 (.pointer (some ⟨b2, 1, none⟩)), Vl 8 (.int .i64 (m.frm)), Vl 9 (.bool false), Vl 10 (.bool false), Vl 11 (.bool false), Vl 12 (.pointer (some ⟨b102, 0, none⟩)), Vl 13 (.int .i64 (((ansL (1 + q18) (laidL (1 + q18) l) self m chunk).getD k9 default).kind)), Vl 14 (.bool true), Vl 15 (.bool true), Vl 16 (.int .i64 ((k9 : Nat) : Int)), Vl 17 (.bool false), Vl 18 (.bool false), Vl 19 (.pointer (some ⟨b102, 4, none⟩)), Vl 20 ((cellV w41 (sb v40) (so v40 + k9 * 5 + 4))), Vl 21 (.int .i64 (((((ansL (1 + q18) (laidL (1 + q18) l) self m chunk).getD k9 default).evs).length : Nat) : Int)), Vl 22 (.bool false), Vl 23 (.bool false), Vl 24 (.bool false), Vl 25 (.pointer (some ⟨b102, 4, none⟩)), Vl 26 ((cellV w41 (sb v40) (so v40 + k9 * 5 + 4))), Vl 27 (.int .i64 (((((ansL (1 + q18) (laidL (1 + q18) l) self m chunk).getD k9 default).evs).length : Nat) : Int)), Vl 28 (.bool false), Vl 29 (.bool false), Vl 30 (.bool false), Vl 31 (.pointer (some ⟨b102, 3, none⟩)), Vl 32 ((cellV w41 (sb v40) (so v40 + k9 * 5 + 3))), Vl 33 (.int .i64 (((((ansL (1 + q18) (laidL (1 + q18) l) self m chunk).getD k9 default).vec).length : Nat) : Int)), Vl 34 (.bool false), Vl 35 (.bool false), Vl 36 (.bool false), Vl 37 (.bool false), Vl 38 (.bool false), Vl 39 (.pointer (some ⟨b102, 0, none⟩)), Vl 40 (.int .i64 (((ansL (1 + q18) (laidL (1 + q18) l) self m chunk).getD k9 default).kind)), Vl 41 (.bool false), Vl 42 (.bool false), Vl 43 (undef), Vl 44 (undef), Vl 45 (undef), Vl 46 (undef), Vl 47 (undef), Vl 48 (undef), Vl 49 (undef), Vl 50 (undef), Vl 51 (undef), Vl 52 (undef), Vl 53 (.bool false), Vl 54 (.bool false), Vl 55 (.bool false), Vl 56 (.pointer (some ⟨b102, 0, none⟩)), Vl 57 (.int .i64 (((ansL (1 + q18) (laidL (1 + q18) l) self m chunk).getD k9 default).kind)), Vl 58 (.bool false), Vl 59 (.bool false), Vl 60 (undef), Vl 61 (undef), Vl 62 (undef), Vl 63 (.bool false), Vl 64 (.bool false), Vl 65 (.bool false), Vl 66 (.pointer (some ⟨b102, 0, none⟩)), Vl 67 (.int .i64 (((ansL (1 + q18) (laidL (1 + q18) l) self m chunk).getD k9 default).kind)), Vl 68 (.bool false), Vl 69 (.bool false), Vl 70 (.bool false), Vl 71 (.pointer (some ⟨b102, 0, none⟩)), Vl 72 (.int .i64 (((ansL (1 + q18) (laidL (1 + q18) l) self m chunk).getD k9 default).kind)), Vl 73 (.bool false), Vl 74 (.bool false), Vl 75 (undef), Vl 76 (undef), Vl 77 (undef), Vl 78 (undef), Vl 79 (undef), Vl 80 (undef), Vl 81 (undef), Vl 82 (undef), fun _ => True, fun _ => True, Vl 85 (undef), Vl 86 (undef), Vl 87 (.bool false), Vl 88 (.bool false)]) [[], [0], [], [0, 1, 2], [0, 1, 2, 3], [0, 1, 2, 3, 4], [0, 1, 2, 3, 4, 5], [0, 1, 2, 3, 4], [0, 1, 2, 3, 4, 7], [0, 1, 2, 3, 4, 5, 6, 7, 8], [0, 1, 2, 3, 4, 5, 6, 7, 8, 9], [0, 1, 2, 3, 4, 5, 6, 7, 8, 9, 10], [0, 1, 2, 3, 4, 5, 6, 7, 8, 9, 10, 11], [0, 1, 2, 3, 4, 5, 6, 7, 8, 9, 10, 11, 12], [0, 1, 2, 3, 4, 5, 6, 7, 8, 9, 10, 11, 12, 13], [0, 1, 2, 3, 4, 5, 6, 7, 8, 9, 10, 11, 12, 13, 14], [0, 1, 2, 3, 4, 5, 6, 7, 8, 9, 10, 11, 12, 13, 14, 15], [0, 1, 2, 3, 4, 5, 6, 7, 8, 9, 10, 11, 12, 13, 14, 15, 16], [0, 1, 2, 3, 4, 5, 6, 7, 8, 9, 10, 11, 12, 13, 14, 15, 16, 17], [0, 1, 2, 3, 4, 5, 6, 7, 8, 9, 10, 11, 12, 13, 14, 15, 16, 17, 18], [0, 1, 2, 3, 4, 5, 6, 7, 8, 9, 10, 11, 12, 13, 14, 15, 16, 17, 18, 19], [0, 1, 2, 3, 4, 5, 6, 7, 8, 9, 10, 11, 12, 13, 14, 15, 16, 17, 18, 19, 20], [0, 1, 2, 3, 4, 5, 6, 7, 8, 9, 10, 11, 12, 13, 14, 15, 16, 17, 18, 19, 20, 21], [0, 1, 2, 3, 4, 5, 6, 7, 8, 9, 10, 11, 12, 13, 14, 15, 16, 17, 18, 19, 20, 21, 22], [0, 1, 2, 3, 4, 5, 6, 7, 8, 9, 10, 11, 12, 13, 14, 15, 16, 17, 18, 19, 20, 21, 22, 23], [0, 1, 2, 3, 4, 5, 6, 7, 8, 9, 10, 11, 12, 13, 14, 15, 16, 17, 18, 19, 20, 21, 22, 23, 24], [0, 1, 2, 3, 4, 5, 6, 7, 8, 9, 10, 11, 12, 13, 14, 15, 16, 17, 18, 19, 20, 21, 22, 23, 24, 25], [0, 1, 2, 3, 4, 5, 6, 7, 8, 9, 10, 11, 12, 13, 14, 15, 16, 17, 18, 19, 20, 21, 22, 23, 24, 25, 26], [0, 1, 2, 3, 4, 5, 6, 7, 8, 9, 10, 11, 12, 13, 14, 15, 16, 17, 18, 19, 20, 21, 22, 23, 24, 25, 26, 27], [0, 1, 2, 3, 4, 5, 6, 7, 8, 9, 10, 11, 12, 13, 14, 15, 16, 17, 18, 19, 20, 21, 22, 23, 24, 25, 26, 27, 28], [0, 1, 2, 3, 4, 5, 6, 7, 8, 9, 10, 11, 12, 13, 14, 15, 16, 17, 18, 19, 20, 21, 22, 23, 24, 25, 26, 27, 28, 29], [0, 1, 2, 3, 4, 5, 6, 7, 8, 9, 10, 11, 12, 13, 14, 15, 16, 17, 18, 19, 20, 21, 22, 23, 24, 25, 26, 27, 28, 29, 30], [0, 1, 2, 3, 4, 5, 6, 7, 8, 9, 10, 11, 12, 13, 14, 15, 16, 17, 18, 19, 20, 21, 22, 23, 24, 25, 26, 27, 28, 29, 30, 31], [0, 1, 2, 3, 4, 5, 6, 7, 8, 9, 10, 11, 12, 13, 14, 15, 16, 17, 18, 19, 20, 21, 22, 23, 24, 25, 26, 27, 28, 29, 30, 31, 32], [0, 1, 2, 3, 4, 5, 6, 7, 8, 9, 10, 11, 12, 13, 14, 15, 16, 17, 18, 19, 20, 21, 22, 23, 24, 25, 26, 27, 28, 29, 30, 31, 32, 33], [0, 1, 2, 3, 4, 5, 6, 7, 8, 9, 10, 11, 12, 13, 14, 15, 16, 17, 18, 19, 20, 21, 22, 23, 24, 25, 26, 27, 28, 29, 30, 31, 32, 33, 34], [0, 1, 2, 3, 4, 5, 6, 7, 8, 9, 10, 11, 12, 13, 14, 15, 16, 17, 18, 19, 20, 21, 22, 23, 24, 25, 26, 27, 28, 29, 30, 31, 32, 33, 34, 35], [0, 1, 2, 3, 4, 5, 6, 7, 8, 9, 10, 11, 12, 13, 14, 15, 16, 17, 18, 19, 20, 21, 22, 23, 24, 25, 26, 27, 28, 29, 30, 31, 32, 33, 34, 35, 36], [0, 1, 2, 3, 4, 5, 6, 7, 8, 9, 10, 11, 12, 13, 14, 15, 16, 17, 18, 19, 20, 21, 22, 23, 24, 25, 26, 27, 28, 29, 30, 31, 32, 33, 34, 35, 36, 37], [0, 1, 2, 3, 4, 5, 6, 7, 8, 9, 10, 11, 12, 13, 14, 15, 16, 17, 18, 19, 20, 21, 22, 23, 24, 25, 26, 27, 28, 29, 30, 31, 32, 33, 34, 35, 36, 37, 38], [0, 1, 2, 3, 4, 5, 6, 7, 8, 9, 10, 11, 12, 13, 14, 15, 16, 17, 18, 19, 20, 21, 22, 23, 24, 25, 26, 27, 28, 29, 30, 31, 32, 33, 34, 35, 36, 37, 38, 39], [0, 1, 2, 3, 4, 5, 6, 7, 8, 9, 10, 11, 12, 13, 14, 15, 16, 17, 18, 19, 20, 21, 22, 23, 24, 25, 26, 27, 28, 29, 30, 31, 32, 33, 34, 35, 36, 37, 38, 39, 40], [0, 1, 2, 3, 4, 5, 6, 7, 8, 9, 10, 11, 12, 13, 14, 15, 16, 17, 18, 19, 20, 21, 22, 23, 24, 25, 26, 27, 28, 29, 30, 31, 32, 33, 34, 35, 36, 37, 38, 39, 40, 41], [0, 1, 2, 3, 4, 5, 6, 7, 8, 9, 10, 11, 12, 13, 14, 15, 16, 17, 18, 19, 20, 21, 22, 23, 24, 25, 26, 27, 28, 29, 30, 31, 32, 33, 34, 35, 36, 37, 38, 39, 40, 41, 42], [0, 1, 2, 3, 4, 5, 6, 7, 8, 9, 10, 11, 12, 13, 14, 15, 16, 17, 18, 19, 20, 21, 22, 23, 24, 25, 26, 27, 28, 29, 30, 31, 32, 33, 34, 35, 36, 37, 38, 39, 40, 41, 42, 43], [0, 1, 2, 3, 4, 5, 6, 7, 8, 9, 10, 11, 12, 13, 14, 15, 16, 17, 18, 19, 20, 21, 22, 23, 24, 25, 26, 27, 28, 29, 30, 31, 32, 33, 34, 35, 36, 37, 38, 39, 40, 41, 42, 43, 44], [0, 1, 2, 3, 4, 5, 6, 7, 8, 9, 10, 11, 12, 13, 14, 15, 16, 17, 18, 19, 20, 21, 22, 23, 24, 25, 26, 27, 28, 29, 30, 31, 32, 33, 34, 35, 36, 37, 38, 39, 40, 41, 42, 43, 44, 45], [0, 1, 2, 3, 4, 5, 6, 7, 8, 9, 10, 11, 12, 13, 14, 15, 16, 17, 18, 19, 20, 21, 22, 23, 24, 25, 26, 27, 28, 29, 30, 31, 32, 33, 34, 35, 36, 37, 38, 39, 40, 41, 42, 43, 44, 45, 46], [0, 1, 2, 3, 4, 5, 6, 7, 8, 9, 10, 11, 12, 13, 14, 15, 16, 17, 18, 19, 20, 21, 22, 23, 24, 25, 26, 27, 28, 29, 30, 31, 32, 33, 34, 35, 36, 37, 38, 39, 40, 41, 42, 43, 44, 45, 46], [0, 1, 2, 3, 4, 5, 6, 7, 8, 9, 10, 11, 12, 13, 14, 15, 16, 17, 18, 19, 20, 21, 22, 23, 24, 25, 26, 27, 28, 29, 30, 31, 32, 33, 34, 35, 36, 37, 38, 39, 40, 41, 42, 43, 44, 45, 46, 48], [0, 1, 2, 3, 4, 5, 6, 7, 8, 9, 10, 11, 12, 13, 14, 15, 16, 17, 18, 19, 20, 21, 22, 23, 24, 25, 26, 27, 28, 29, 30, 31, 32, 33, 34, 35, 36, 37, 38, 39, 40, 41, 42, 43, 44, 45, 46, 48, 49], [0, 1, 2, 3, 4, 5, 6, 7, 8, 9, 10, 11, 12, 13, 14, 15, 16, 17, 18, 19, 20, 21, 22, 23, 24, 25, 26, 27, 28, 29, 30, 31, 32, 33, 34, 35, 36, 37, 38, 39, 40, 41, 42, 43, 44, 45, 46, 47, 48, 49, 50], [0, 1, 2, 3, 4, 5, 6, 7, 8, 9, 10, 11, 12, 13, 14, 15, 16, 17, 18, 19, 20, 21, 22, 23, 24, 25, 26, 27, 28, 29, 30, 31, 32, 33, 34, 35, 36, 37, 38, 39, 40, 41, 42, 43, 44, 45, 46, 47, 48, 49, 50, 51], [0, 1, 2, 3, 4, 5, 6, 7, 8, 9, 10, 11, 12, 13, 14, 15, 16, 17, 18, 19, 20, 21, 22, 23, 24, 25, 26, 27, 28, 29, 30, 31, 32, 33, 34, 35, 36, 37, 38, 39, 40, 41, 42, 43, 44, 45, 46, 47, 48, 49, 50, 51, 52], [0, 1, 2, 3, 4, 5, 6, 7, 8, 9, 10, 11, 12, 13, 14, 15, 16, 17, 18, 19, 20, 21, 22, 23, 24, 25, 26, 27, 28, 29, 30, 31, 32, 33, 34, 35, 36, 37, 38, 39, 40, 41, 42, 43, 44, 45, 46, 47, 48, 49, 50, 51, 52, 53], [0, 1, 2, 3, 4, 5, 6, 7, 8, 9, 10, 11, 12, 13, 14, 15, 16, 17, 18, 19, 20, 21, 22, 23, 24, 25, 26, 27, 28, 29, 30, 31, 32, 33, 34, 35, 36, 37, 38, 39, 40, 41, 42, 43, 44, 45, 46, 47, 48, 49, 50, 51, 52, 53, 54], [0, 1, 2, 3, 4, 5, 6, 7, 8, 9, 10, 11, 12, 13, 14, 15, 16, 17, 18, 19, 20, 21, 22, 23, 24, 25, 26, 27, 28, 29, 30, 31, 32, 33, 34, 35, 36, 37, 38, 39, 40, 41, 42, 43, 44, 45, 46, 47, 48, 49, 50, 51, 52, 53, 54, 55], [0, 1, 2, 3, 4, 5, 6, 7, 8, 9, 10, 11, 12, 13, 14, 15, 16, 17, 18, 19, 20, 21, 22, 23, 24, 25, 26, 27, 28, 29, 30, 31, 32, 33, 34, 35, 36, 37, 38, 39, 40, 41, 42, 43, 44, 45, 46, 47, 48, 49, 50, 51, 52, 53, 54, 55, 56], [0, 1, 2, 3, 4, 5, 6, 7, 8, 9, 10, 11, 12, 13, 14, 15, 16, 17, 18, 19, 20, 21, 22, 23, 24, 25, 26, 27, 28, 29, 30, 31, 32, 33, 34, 35, 36, 37, 38, 39, 40, 41, 42, 43, 44, 45, 46, 47, 48, 49, 50, 51, 52, 53, 54, 55, 56, 57], [0, 1, 2, 3, 4, 5, 6, 7, 8, 9, 10, 11, 12, 13, 14, 15, 16, 17, 18, 19, 20, 21, 22, 23, 24, 25, 26, 27, 28, 29, 30, 31, 32, 33, 34, 35, 36, 37, 38, 39, 40, 41, 42, 43, 44, 45, 46, 47, 48, 49, 50, 51, 52, 53, 54, 55, 56, 57, 58], [0, 1, 2, 3, 4, 5, 6, 7, 8, 9, 10, 11, 12, 13, 14, 15, 16, 17, 18, 19, 20, 21, 22, 23, 24, 25, 26, 27, 28, 29, 30, 31, 32, 33, 34, 35, 36, 37, 38, 39, 40, 41, 42, 43, 44, 45, 46, 47, 48, 49, 50, 51, 52, 53, 54, 55, 56, 57, 58, 59], [0, 1, 2, 3, 4, 5, 6, 7, 8, 9, 10, 11, 12, 13, 14, 15, 16, 17, 18, 19, 20, 21, 22, 23, 24, 25, 26, 27, 28, 29, 30, 31, 32, 33, 34, 35, 36, 37, 38, 39, 40, 41, 42, 43, 44, 45, 46, 47, 48, 49, 50, 51, 52, 53, 54, 55, 56, 57, 58, 59, 60], [0, 1, 2, 3, 4, 5, 6, 7, 8, 9, 10, 11, 12, 13, 14, 15, 16, 17, 18, 19, 20, 21, 22, 23, 24, 25, 26, 27, 28, 29, 30, 31, 32, 33, 34, 35, 36, 37, 38, 39, 40, 41, 42, 43, 44, 45, 46, 47, 48, 49, 50, 51, 52, 53, 54, 55, 56, 57, 58, 59, 60, 61], [0, 1, 2, 3, 4, 5, 6, 7, 8, 9, 10, 11, 12, 13, 14, 15, 16, 17, 18, 19, 20, 21, 22, 23, 24, 25, 26, 27, 28, 29, 30, 31, 32, 33, 34, 35, 36, 37, 38, 39, 40, 41, 42, 43, 44, 45, 46, 47, 48, 49, 50, 51, 52, 53, 54, 55, 56, 57, 58, 59, 60, 61, 62], [0, 1, 2, 3, 4, 5, 6, 7, 8, 9, 10, 11, 12, 13, 14, 15, 16, 17, 18, 19, 20, 21, 22, 23, 24, 25, 26, 27, 28, 29, 30, 31, 32, 33, 34, 35, 36, 37, 38, 39, 40, 41, 42, 43, 44, 45, 46, 47, 48, 49, 50, 51, 52, 53, 54, 55, 56, 57, 58, 59, 60, 61, 62, 63], [0, 1, 2, 3, 4, 5, 6, 7, 8, 9, 10, 11, 12, 13, 14, 15, 16, 17, 18, 19, 20, 21, 22, 23, 24, 25, 26, 27, 28, 29, 30, 31, 32, 33, 34, 35, 36, 37, 38, 39, 40, 41, 42, 43, 44, 45, 46, 47, 48, 49, 50, 51, 52, 53, 54, 55, 56, 57, 58, 59, 60, 61, 62, 63, 64], [0, 1, 2, 3, 4, 5, 6, 7, 8, 9, 10, 11, 12, 13, 14, 15, 16, 17, 18, 19, 20, 21, 22, 23, 24, 25, 26, 27, 28, 29, 30, 31, 32, 33, 34, 35, 36, 37, 38, 39, 40, 41, 42, 43, 44, 45, 46, 47, 48, 49, 50, 51, 52, 53, 54, 55, 56, 57, 58, 59, 60, 61, 62, 63, 64, 65], [0, 1, 2, 3, 4, 5, 6, 7, 8, 9, 10, 11, 12, 13, 14, 15, 16, 17, 18, 19, 20, 21, 22, 23, 24, 25, 26, 27, 28, 29, 30, 31, 32, 33, 34, 35, 36, 37, 38, 39, 40, 41, 42, 43, 44, 45, 46, 47, 48, 49, 50, 51, 52, 53, 54, 55, 56, 57, 58, 59, 60, 61, 62, 63, 64, 65, 66], [0, 1, 2, 3, 4, 5, 6, 7, 8, 9, 10, 11, 12, 13, 14, 15, 16, 17, 18, 19, 20, 21, 22, 23, 24, 25, 26, 27, 28, 29, 30, 31, 32, 33, 34, 35, 36, 37, 38, 39, 40, 41, 42, 43, 44, 45, 46, 47, 48, 49, 50, 51, 52, 53, 54, 55, 56, 57, 58, 59, 60, 61, 62, 63, 64, 65, 66, 67], [0, 1, 2, 3, 4, 5, 6, 7, 8, 9, 10, 11, 12, 13, 14, 15, 16, 17, 18, 19, 20, 21, 22, 23, 24, 25, 26, 27, 28, 29, 30, 31, 32, 33, 34, 35, 36, 37, 38, 39, 40, 41, 42, 43, 44, 45, 46, 47, 48, 49, 50, 51, 52, 53, 54, 55, 56, 57, 58, 59, 60, 61, 62, 63, 64, 65, 66, 67, 68], [0, 1, 2, 3, 4, 5, 6, 7, 8, 9, 10, 11, 12, 13, 14, 15, 16, 17, 18, 19, 20, 21, 22, 23, 24, 25, 26, 27, 28, 29, 30, 31, 32, 33, 34, 35, 36, 37, 38, 39, 40, 41, 42, 43, 44, 45, 46, 47, 48, 49, 50, 51, 52, 53, 54, 55, 56, 57, 58, 59, 60, 61, 62, 63, 64, 65, 66, 67, 68, 69], [0, 1, 2, 3, 4, 5, 6, 7, 8, 9, 10, 11, 12, 13, 14, 15, 16, 17, 18, 19, 20, 21, 22, 23, 24, 25, 26, 27, 28, 29, 30, 31, 32, 33, 34, 35, 36, 37, 38, 39, 40, 41, 42, 43, 44, 45, 46, 47, 48, 49, 50, 51, 52, 53, 54, 55, 56, 57, 58, 59, 60, 61, 62, 63, 64, 65, 66, 67, 68, 69, 70], [0, 1, 2, 3, 4, 5, 6, 7, 8, 9, 10, 11, 12, 13, 14, 15, 16, 17, 18, 19, 20, 21, 22, 23, 24, 25, 26, 27, 28, 29, 30, 31, 32, 33, 34, 35, 36, 37, 38, 39, 40, 41, 42, 43, 44, 45, 46, 47, 48, 49, 50, 51, 52, 53, 54, 55, 56, 57, 58, 59, 60, 61, 62, 63, 64, 65, 66, 67, 68, 69, 70, 71], [0, 1, 2, 3, 4, 5, 6, 7, 8, 9, 10, 11, 12, 13, 14, 15, 16, 17, 18, 19, 20, 21, 22, 23, 24, 25, 26, 27, 28, 29, 30, 31, 32, 33, 34, 35, 36, 37, 38, 39, 40, 41, 42, 43, 44, 45, 46, 47, 48, 49, 50, 51, 52, 53, 54, 55, 56, 57, 58, 59, 60, 61, 62, 63, 64, 65, 66, 67, 68, 69, 70, 71, 72], [0, 1, 2, 3, 4, 5, 6, 7, 8, 9, 10, 11, 12, 13, 14, 15, 16, 17, 18, 19, 20, 21, 22, 23, 24, 25, 26, 27, 28, 29, 30, 31, 32, 33, 34, 35, 36, 37, 38, 39, 40, 41, 42, 43, 44, 45, 46, 47, 48, 49, 50, 51, 52, 53, 54, 55, 56, 57, 58, 59, 60, 61, 62, 63, 64, 65, 66, 67, 68, 69, 70, 71, 72, 73], [0, 1, 2, 3, 4, 5, 6, 7, 8, 9, 10, 11, 12, 13, 14, 15, 16, 17, 18, 19, 20, 21, 22, 23, 24, 25, 26, 27, 28, 29, 30, 31, 32, 33, 34, 35, 36, 37, 38, 39, 40, 41, 42, 43, 44, 45, 46, 47, 48, 49, 50, 51, 52, 53, 54, 55, 56, 57, 58, 59, 60, 61, 62, 63, 64, 65, 66, 67, 68, 69, 70, 71, 72, 73, 74], [0, 1, 2, 3, 4, 5, 6, 7, 8, 9, 10, 11, 12, 13, 14, 15, 16, 17, 18, 19, 20, 21, 22, 23, 24, 25, 26, 27, 28, 29, 30, 31, 32, 33, 34, 35, 36, 37, 38, 39, 40, 41, 42, 43, 44, 45, 46, 47, 48, 49, 50, 51, 52, 53, 54, 55, 56, 57, 58, 59, 60, 61, 62, 63, 64, 65, 66, 67, 68, 69, 70, 71, 72, 73, 74, 75], [0, 1, 2, 3, 4, 5, 6, 7, 8, 9, 10, 11, 12, 13, 14, 15, 16, 17, 18, 19, 20, 21, 22, 23, 24, 25, 26, 27, 28, 29, 30, 31, 32, 33, 34, 35, 36, 37, 38, 39, 40, 41, 42, 43, 44, 45, 46, 47, 48, 49, 50, 51, 52, 53, 54, 55, 56, 57, 58, 59, 60, 61, 62, 63, 64, 65, 66, 67, 68, 69, 70, 71, 72, 73, 74, 75, 76], [0, 1, 2, 3, 4, 5, 6, 7, 8, 9, 10, 11, 12, 13, 14, 15, 16, 17, 18, 19, 20, 21, 22, 23, 24, 25, 26, 27, 28, 29, 30, 31, 32, 33, 34, 35, 36, 37, 38, 39, 40, 41, 42, 43, 44, 45, 46, 47, 48, 49, 50, 51, 52, 53, 54, 55, 56, 57, 58, 59, 60, 61, 62, 63, 64, 65, 66, 67, 68, 69, 70, 71, 72, 73, 74, 75, 76, 77], [0, 1, 2, 3, 4, 5, 6, 7, 8, 9, 10, 11, 12, 13, 14, 15, 16, 17, 18, 19, 20, 21, 22, 23, 24, 25, 26, 27, 28, 29, 30, 31, 32, 33, 34, 35, 36, 37, 38, 39, 40, 41, 42, 43, 44, 45, 46, 47, 48, 49, 50, 51, 52, 53, 54, 55, 56, 57, 58, 59, 60, 61, 62, 63, 64, 65, 66, 67, 68, 69, 70, 71, 72, 73, 74, 75, 76, 77, 78], [0, 1, 2, 3, 4, 5, 6, 7, 8, 9, 10, 11, 12, 13, 14, 15, 16, 17, 18, 19, 20, 21, 22, 23, 24, 25, 26, 27, 28, 29, 30, 31, 32, 33, 34, 35, 36, 37, 38, 39, 40, 41, 42, 43, 44, 45, 46, 47, 48, 49, 50, 51, 52, 53, 54, 55, 56, 57, 58, 59, 60, 61, 62, 63, 64, 65, 66, 67, 68, 69, 70, 71, 72, 73, 74, 75, 76, 77, 78, 79], [0, 1, 2, 3, 4, 5, 6, 7, 8, 9, 10, 11, 12, 13, 14, 15, 16, 17, 18, 19, 20, 21, 22, 23, 24, 25, 26, 27, 28, 29, 30, 31, 32, 33, 34, 35, 36, 37, 38, 39, 40, 41, 42, 43, 44, 45, 46, 47, 48, 49, 50, 51, 52, 53, 54, 55, 56, 57, 58, 59, 60, 61, 62, 63, 64, 65, 66, 67, 68, 69, 70, 71, 72, 73, 74, 75, 76, 77, 78, 79, 80], [0, 1, 2, 3, 4, 5, 6, 7, 8, 9, 10, 11, 12, 13, 14, 15, 16, 17, 18, 19, 20, 21, 22, 23, 24, 25, 26, 27, 28, 29, 30, 31, 32, 33, 34, 35, 36, 37, 38, 39, 40, 41, 42, 43, 44, 45, 46, 47, 48, 49, 50, 51, 52, 53, 54, 55, 56, 57, 58, 59, 60, 61, 62, 63, 64, 65, 66, 67, 68, 69, 70, 71, 72, 73, 74, 75, 76, 77, 78, 79], [0, 1, 2, 3, 4, 5, 6, 7, 8, 9, 10, 11, 12, 13, 14, 15, 16, 17, 18, 19, 20, 21, 22, 23, 24, 25, 26, 27, 28, 29, 30, 31, 32, 33, 34, 35, 36, 37, 38, 39, 40, 41, 42, 43, 44, 45, 46, 47, 48, 49, 50, 51, 52, 53, 54, 55, 56, 57, 58, 59, 60, 61, 62, 63, 64, 65, 66, 67, 68, 69, 70, 71, 72, 73, 74, 75, 76, 77, 78, 79, 82], [0, 1, 2, 3, 4, 5, 6, 7, 8, 9, 10, 11, 12, 13, 14, 15, 16, 17, 18, 19, 20, 21, 22, 23, 24, 25, 26, 27, 28, 29, 30, 31, 32, 33, 34, 35, 36, 37, 38, 39, 40, 41, 42, 43, 44, 45, 46, 47, 48, 49, 50, 51, 52, 53, 54, 55, 56, 57, 58, 59, 60, 61, 62, 63, 64, 65, 66, 67, 68, 69, 70, 71, 72, 73, 74, 75, 76, 77, 78, 79, 80, 81, 82, 83], [0, 1, 2, 3, 4, 5, 6, 7, 8, 9, 10, 11, 12, 13, 14, 15, 16, 17, 18, 19, 20, 21, 22, 23, 24, 25, 26, 27, 28, 29, 30, 31, 32, 33, 34, 35, 36, 37, 38, 39, 40, 41, 42, 43, 44, 45, 46, 47, 48, 49, 50, 51, 52, 53, 54, 55, 56, 57, 58, 59, 60, 61, 62, 63, 64, 65, 66, 67, 68, 69, 70, 71, 72, 73, 74, 75, 76, 77, 78, 79, 80, 81, 82, 83, 84], [0, 1, 2, 3, 4, 5, 6, 7, 8, 9, 10, 11, 12, 13, 14, 15, 16, 17, 18, 19, 20, 21, 22, 23, 24, 25, 26, 27, 28, 29, 30, 31, 32, 33, 34, 35, 36, 37, 38, 39, 40, 41, 42, 43, 44, 45, 46, 47, 48, 49, 50, 51, 52, 53, 54, 55, 56, 57, 58, 59, 60, 61, 62, 63, 64, 65, 66, 67, 68, 69, 70, 71, 72, 73, 74, 75, 76, 77, 78, 79, 80, 81, 82, 83, 84, 85], [0, 1, 2, 3, 4, 5, 6, 7, 8, 9, 10, 11, 12, 13, 14, 15, 16, 17, 18, 19, 20, 21, 22, 23, 24, 25, 26, 27, 28, 29, 30, 31, 32, 33, 34, 35, 36, 37, 38, 39, 40, 41, 42, 43, 44, 45, 46, 47, 48, 49, 50, 51, 52, 53, 54, 55, 56, 57, 58, 59, 60, 61, 62, 63, 64, 65, 66, 67, 68, 69, 70, 71, 72, 73, 74, 75, 76, 77, 78, 79, 80, 81, 82, 83, 84, 85, 86], [0, 1, 2, 3, 4, 5, 6, 7, 8, 9, 10, 11, 12, 13, 14, 15, 16, 17, 18, 19, 20, 21, 22, 23, 24, 25, 26, 27, 28, 29, 30, 31, 32, 33, 34, 35, 36, 37, 38, 39, 40, 41, 42, 43, 44, 45, 46, 47, 48, 49, 50, 51, 52, 53, 54, 55, 56, 57, 58, 59, 60, 61, 62, 63, 64, 65, 66, 67, 68, 69, 70, 71, 72, 73, 74, 75, 76, 77, 78, 79, 80, 81, 82, 83, 84, 85, 86, 87]] [83, 84] [(0, 0), (0, 0), (0, 0), (0, 0), (0, 0), (0, 0), (0, 0), (0, 0), (0, 0), (0, 0), (0, 0), (0, 0), (0, 0), (0, 0), (0, 0), (0, 0), (0, 0), (0, 0), (0, 0), (0, 0), (0, 0), (0, 0), (0, 0), (0, 0), (0, 0), (0, 0), (0, 0), (0, 0), (0, 0), (0, 0), (0, 0), (0, 0), (0, 0), (0, 0), (0, 0), (0, 0), (0, 0), (0, 0), (0, 0), (0, 0), (0, 0), (0, 0), (0, 0), (0, 0), (0, 0), (0, 0), (0, 0), (0, 0), (0, 0), (0, 0), (0, 0), (0, 0), (0, 0), (0, 0), (0, 0), (0, 0), (0, 0), (0, 0), (0, 0), (0, 0), (0, 0), (0, 0), (0, 0), (0, 0), (0, 0), (0, 0), (0, 0), (0, 0), (0, 0), (0, 0), (0, 0), (0, 0), (0, 0), (0, 0), (0, 0), (0, 0), (0, 0), (0, 0), (0, 0), (0, 0), (0, 1), (0, 1), (0, 0), (0, 0), (1, 1), (2, 2), (2, 2), (2, 2), (2, 2)] (by kernel_rfl) (by kernel_rfl) (by kernel_rfl) rfl (by kernel_rfl) (by kernel_rfl) (fun _ h1 h2 h3 h4 _ => hS107.same h1 h2 h3 h4) ?_ (AF_loc ⟨dA, dA, dA, dA, dA, dA, dA, dA, dA, dA, dA, dA, dA, dA, dA, dA, dA, dA, dA, dA, dA, dA, dA, dA, dA, dA, dA, dA, dA, dA, dA, dA, dA, dA, dA, dA, dA, dA, dA, dA, dA, dA, dA, dA, dA, dA, dA, dA, dA, dA, dA, dA, dA, dA, dA, dA, dA, dA, dA, dA, dA, dA, dA, dA, dA, dA, dA, dA, dA, dA, dA, dA, dA, dA, dA, dA, dA, dA, dA, dA, dA, dA, dA, dT, dT, dA, dA, dA, dA, trivial⟩) ⟨?_, ?_, ?_, ?_, ?_, ?_, ?_, ?_, ?_, ?_, ?_, ?_, ?_, ?_, ?_, ?_, ?_, ?_, ?_, ?_, ?_, ?_, ?_, ?_, ?_, ?_, ?_, ?_, ?_, ?_, ?_, ?_, ?_, ?_, ?_, ?_, ?_, ?_, ?_, ?_, ?_, ?_, ?_, ?_, ?_, ?_, ?_, ?_, ?_, ?_, ?_, ?_, ?_, ?_, ?_, ?_, ?_, ?_, ?_, ?_, ?_, ?_, ?_, ?_, ?_, ?_, ?_, ?_, ?_, ?_, ?_, ?_, ?_, ?_, ?_, ?_, ?_, ?_, ?_, ?_, ?_, ?_, ?_, ?_, ?_, ?_, ?_, ?_, ?_, trivial⟩ ?_
      ·intro k vals vals' w hv h
       have e : ∀ j ∈ ([83, 84] : List Nat), vals' j = vals j := hv
       match k, h with
       | 0, h => exact h
       | 1, h => exact h
       | 2, h => exact h
       | _ + 3, _ => trivial
      ·intro k851 vals w852 h855 h856 hW854 hA853
       refine obl rfl ?_
       exact fd57_1 rfl (fun vals' hv _ => ⟨rfl, hv⟩)
      ·intro k857 vals w858 h861 h862 hW860 hA859
       obtain rfl : k857 = 0 := Nat.le_antisymm h862 h861
       have hS863 : Sep G53 w41 ((Blk b102 (((ansL (1 + q18) (laidL (1 + q18) l) self m chunk).getD k9 default).cells (cellV w41 (sb v40) (so v40 + k9 * 5 + 3)) (cellV w41 (sb v40) (so v40 + k9 * 5 + 4))).toArray 57) :: (SetO b24 (1 + q18) (laidL (1 + q18) l)) :: (Blk b2 (m.cells dm0 dm1).toArray 57) :: Rs) w858 := hW860
       have e864 := hA859 0 (by decide)
       refine obl rfl ?_
       exact ov_load1 (v := .int .i64 (((ansL (1 + q18) (laidL (1 + q18) l) self m chunk).getD k9 default).frm)) Try.isAgg3 e864 (blk_cellL (hS863.blk (i := 0) rfl) rfl) (fun vals' hv _ => ⟨rfl, hv⟩)
      ·intro k865 vals w866 h869 h870 hW868 hA867
       refine obl rfl ?_
       exact ov_move (v := .int .i64 (self)) rfl (fun vals' hv _ => ⟨rfl, hv⟩)
      ·intro k871 vals w872 h875 h876 hW874 hA873
       obtain rfl : k871 = 0 := Nat.le_antisymm h876 h875
       have hS877 : Sep G53 w41 ((Blk b102 (((ansL (1 + q18) (laidL (1 + q18) l) self m chunk).getD k9 default).cells (cellV w41 (sb v40) (so v40 + k9 * 5 + 3)) (cellV w41 (sb v40) (so v40 + k9 * 5 + 4))).toArray 57) :: (SetO b24 (1 + q18) (laidL (1 + q18) l)) :: (Blk b2 (m.cells dm0 dm1).toArray 57) :: Rs) w872 := hW874
       have e878 := hA873 1 (by decide)
       have e879 := hA873 2 (by decide)
       refine obl rfl ?_
       have hl880 : (!decide ((((ansL (1 + q18) (laidL (1 + q18) l) self m chunk).getD k9 default).frm) = self)) = false := by rw [hxa9]; simp
       exact ov_neq (k := .i64) (a := ((ansL (1 + q18) (laidL (1 + q18) l) self m chunk).getD k9 default).frm) (b := self) e878 e879 (fun vals' hv _ => ⟨rfl, hv.trans (congrArg Value.bool hl880)⟩)
      ·intro k881 vals w882 h885 h886 hW884 hA883
       have e887 := hA883 3 (by decide)
       refine obl rfl ?_
       exact ov_move (v := .bool false) e887 (fun vals' hv _ => ⟨rfl, hv⟩)
      ·intro k888 vals w889 h892 h893 hW891 hA890
       have e894 := hA890 4 (by decide)
       refine oblc rfl rfl e894 (fun _ => ?_) (fun hb => absurd rfl hb)
       exact fd57_2 rfl (fun vals' hv _ => ⟨rfl, hv⟩)
      ·intro k895 vals w896 h899 h900 hW898 hA897
       obtain rfl : k895 = 0 := Nat.le_antisymm h900 h899
       have hS901 : Sep G53 w41 ((Blk b102 (((ansL (1 + q18) (laidL (1 + q18) l) self m chunk).getD k9 default).cells (cellV w41 (sb v40) (so v40 + k9 * 5 + 3)) (cellV w41 (sb v40) (so v40 + k9 * 5 + 4))).toArray 57) :: (SetO b24 (1 + q18) (laidL (1 + q18) l)) :: (Blk b2 (m.cells dm0 dm1).toArray 57) :: Rs) w896 := hW898
       have e902 := hA897 4 (by decide)
       have e903 := hA897 5 (by decide)
       refine oblc rfl rfl e902 (fun _ => ?_) (fun hb => absurd rfl hb)
       exact ov_load1 (v := .int .i64 (((ansL (1 + q18) (laidL (1 + q18) l) self m chunk).getD k9 default).dst)) Try.isAgg3 e903 (blk_cellL (hS901.blk (i := 0) rfl) rfl) (fun vals' hv _ => ⟨rfl, hv⟩)
      ·intro k904 vals w905 h908 h909 hW907 hA906
       have e910 := hA906 4 (by decide)
       refine oblc rfl rfl e910 (fun _ => ?_) (fun hb => absurd rfl hb)
       exact fd57_1 rfl (fun vals' hv _ => ⟨rfl, hv⟩)
      ·intro k911 vals w912 h915 h916 hW914 hA913
       obtain rfl : k911 = 0 := Nat.le_antisymm h916 h915
       have hS917 : Sep G53 w41 ((Blk b102 (((ansL (1 + q18) (laidL (1 + q18) l) self m chunk).getD k9 default).cells (cellV w41 (sb v40) (so v40 + k9 * 5 + 3)) (cellV w41 (sb v40) (so v40 + k9 * 5 + 4))).toArray 57) :: (SetO b24 (1 + q18) (laidL (1 + q18) l)) :: (Blk b2 (m.cells dm0 dm1).toArray 57) :: Rs) w912 := hW914
       have e918 := hA913 4 (by decide)
       have e919 := hA913 7 (by decide)
       refine oblc rfl rfl e918 (fun _ => ?_) (fun hb => absurd rfl hb)
       exact ov_load1 (v := .int .i64 (m.frm)) Try.isAgg3 e919 (blk_cellL (hS917.blk (i := 2) rfl) rfl) (fun vals' hv _ => ⟨rfl, hv⟩)
      ·intro k920 vals w921 h924 h925 hW923 hA922
       obtain rfl : k920 = 0 := Nat.le_antisymm h925 h924
       have hS926 : Sep G53 w41 ((Blk b102 (((ansL (1 + q18) (laidL (1 + q18) l) self m chunk).getD k9 default).cells (cellV w41 (sb v40) (so v40 + k9 * 5 + 3)) (cellV w41 (sb v40) (so v40 + k9 * 5 + 4))).toArray 57) :: (SetO b24 (1 + q18) (laidL (1 + q18) l)) :: (Blk b2 (m.cells dm0 dm1).toArray 57) :: Rs) w921 := hW923
       have e927 := hA922 4 (by decide)
       have e928 := hA922 6 (by decide)
       have e929 := hA922 8 (by decide)
       refine oblc rfl rfl e927 (fun _ => ?_) (fun hb => absurd rfl hb)
       have hl930 : (!decide ((((ansL (1 + q18) (laidL (1 + q18) l) self m chunk).getD k9 default).dst) = m.frm)) = false := by rw [hxb9]; simp
       exact ov_neq (k := .i64) (a := ((ansL (1 + q18) (laidL (1 + q18) l) self m chunk).getD k9 default).dst) (b := m.frm) e928 e929 (fun vals' hv _ => ⟨rfl, hv.trans (congrArg Value.bool hl930)⟩)
      ·intro k931 vals w932 h935 h936 hW934 hA933
       have e937 := hA933 4 (by decide)
       have e938 := hA933 9 (by decide)
       refine obl rfl ?_
       exact ov_pick_f (v := .bool false) e937 e938 (fun vals' hv _ => ⟨rfl, hv⟩)
      ·intro k939 vals w940 h943 h944 hW942 hA941
       have e945 := hA941 10 (by decide)
       refine obl rfl ?_
       exact ov_move (v := .bool false) e945 (fun vals' hv _ => ⟨rfl, hv⟩)
      ·intro k946 vals w947 h950 h951 hW949 hA948
       have e952 := hA948 11 (by decide)
       refine oblc rfl rfl e952 (fun _ => ?_) (fun hb => absurd rfl hb)
       exact fd57_0 rfl (fun vals' hv _ => ⟨rfl, hv⟩)
      ·intro k953 vals w954 h957 h958 hW956 hA955
       obtain rfl : k953 = 0 := Nat.le_antisymm h958 h957
       have hS959 : Sep G53 w41 ((Blk b102 (((ansL (1 + q18) (laidL (1 + q18) l) self m chunk).getD k9 default).cells (cellV w41 (sb v40) (so v40 + k9 * 5 + 3)) (cellV w41 (sb v40) (so v40 + k9 * 5 + 4))).toArray 57) :: (SetO b24 (1 + q18) (laidL (1 + q18) l)) :: (Blk b2 (m.cells dm0 dm1).toArray 57) :: Rs) w954 := hW956
       have e960 := hA955 11 (by decide)
       have e961 := hA955 12 (by decide)
       refine oblc rfl rfl e960 (fun _ => ?_) (fun hb => absurd rfl hb)
       exact ov_load1 (v := .int .i64 (((ansL (1 + q18) (laidL (1 + q18) l) self m chunk).getD k9 default).kind)) Try.isAgg3 e961 (blk_cellL (hS959.blk (i := 0) rfl) rfl) (fun vals' hv _ => ⟨rfl, hv⟩)
      ·intro k962 vals w963 h966 h967 hW965 hA964
       obtain rfl : k962 = 0 := Nat.le_antisymm h967 h966
       have hS968 : Sep G53 w41 ((Blk b102 (((ansL (1 + q18) (laidL (1 + q18) l) self m chunk).getD k9 default).cells (cellV w41 (sb v40) (so v40 + k9 * 5 + 3)) (cellV w41 (sb v40) (so v40 + k9 * 5 + 4))).toArray 57) :: (SetO b24 (1 + q18) (laidL (1 + q18) l)) :: (Blk b2 (m.cells dm0 dm1).toArray 57) :: Rs) w963 := hW965
       have e969 := hA964 11 (by decide)
       have e970 := hA964 13 (by decide)
       refine oblc rfl rfl e969 (fun _ => ?_) (fun hb => absurd rfl hb)
       have hl971 : (decide ((((ansL (1 + q18) (laidL (1 + q18) l) self m chunk).getD k9 default).kind) = 3)) = true := decide_eq_true (by omega)
       exact ov_eql (k := .i64) (a := ((ansL (1 + q18) (laidL (1 + q18) l) self m chunk).getD k9 default).kind) (b := 3) e970 rfl (fun vals' hv _ => ⟨rfl, hv.trans (congrArg Value.bool hl971)⟩)
      ·intro k972 vals w973 h976 h977 hW975 hA974
       have e978 := hA974 11 (by decide)
       have e979 := hA974 14 (by decide)
       refine oblc rfl rfl e978 (fun _ => ?_) (fun hb => absurd rfl hb)
       exact ov_move (v := .bool true) e979 (fun vals' hv _ => ⟨rfl, hv⟩)
      ·intro k980 vals w981 h984 h985 hW983 hA982
       have e986 := hA982 15 (by decide)
       refine oblc rfl rfl e986 (fun _ => ?_) (fun hb => absurd rfl hb)
       exact ov_move (v := .int .i64 ((k9 : Nat) : Int)) rfl (fun vals' hv _ => ⟨rfl, hv⟩)
      ·intro k987 vals w988 h991 h992 hW990 hA989
       obtain rfl : k987 = 0 := Nat.le_antisymm h992 h991
       have hS993 : Sep G53 w41 ((Blk b102 (((ansL (1 + q18) (laidL (1 + q18) l) self m chunk).getD k9 default).cells (cellV w41 (sb v40) (so v40 + k9 * 5 + 3)) (cellV w41 (sb v40) (so v40 + k9 * 5 + 4))).toArray 57) :: (SetO b24 (1 + q18) (laidL (1 + q18) l)) :: (Blk b2 (m.cells dm0 dm1).toArray 57) :: Rs) w988 := hW990
       have e994 := hA989 15 (by decide)
       have e995 := hA989 16 (by decide)
       refine oblc rfl rfl e994 (fun _ => ?_) (fun hb => absurd rfl hb)
       have hl996 : (decide (0 < ((k9 : Nat) : Int))) = false := decide_eq_false (by omega)
       exact ov_gtr (k := .i64) (a := ((k9 : Nat) : Int)) (b := 0) e995 rfl (fun vals' hv _ => ⟨rfl, hv.trans (congrArg Value.bool hl996)⟩)
      ·intro k997 vals w998 h1001 h1002 hW1000 hA999
       have e1003 := hA999 15 (by decide)
       have e1004 := hA999 17 (by decide)
       refine oblc rfl rfl e1003 (fun _ => ?_) (fun hb => absurd rfl hb)
       exact ov_move (v := .bool false) e1004 (fun vals' hv _ => ⟨rfl, hv⟩)
      ·intro k1005 vals w1006 h1009 h1010 hW1008 hA1007
       have e1011 := hA1007 18 (by decide)
       refine oblc rfl rfl e1011 (fun _ => ?_) (fun hb => absurd rfl hb)
       exact fd57_4 rfl (fun vals' hv _ => ⟨rfl, hv⟩)
      ·intro k1012 vals w1013 h1016 h1017 hW1015 hA1014
       obtain rfl : k1012 = 0 := Nat.le_antisymm h1017 h1016
       have hS1018 : Sep G53 w41 ((Blk b102 (((ansL (1 + q18) (laidL (1 + q18) l) self m chunk).getD k9 default).cells (cellV w41 (sb v40) (so v40 + k9 * 5 + 3)) (cellV w41 (sb v40) (so v40 + k9 * 5 + 4))).toArray 57) :: (SetO b24 (1 + q18) (laidL (1 + q18) l)) :: (Blk b2 (m.cells dm0 dm1).toArray 57) :: Rs) w1013 := hW1015
       have e1019 := hA1014 18 (by decide)
       have e1020 := hA1014 19 (by decide)
       refine oblc rfl rfl e1019 (fun _ => ?_) (fun hb => absurd rfl hb)
       exact ov_load1 (v := (cellV w41 (sb v40) (so v40 + k9 * 5 + 4))) Try.isAgg22 e1020 (blk_cellL (hS1018.blk (i := 0) rfl) rfl) (fun vals' hv _ => ⟨rfl, hv⟩)
      ·intro k1021 vals w1022 h1025 h1026 hW1024 hA1023
       obtain rfl : k1021 = 0 := Nat.le_antisymm h1026 h1025
       have hS1027 : Sep G53 w41 ((Blk b102 (((ansL (1 + q18) (laidL (1 + q18) l) self m chunk).getD k9 default).cells (cellV w41 (sb v40) (so v40 + k9 * 5 + 3)) (cellV w41 (sb v40) (so v40 + k9 * 5 + 4))).toArray 57) :: (SetO b24 (1 + q18) (laidL (1 + q18) l)) :: (Blk b2 (m.cells dm0 dm1).toArray 57) :: Rs) w1022 := hW1024
       have e1028 := hA1023 18 (by decide)
       have e1029 := hA1023 20 (by decide)
       refine oblc rfl rfl e1028 (fun _ => ?_) (fun hb => absurd rfl hb)
       exact ov_len (n := (((ansL (1 + q18) (laidL (1 + q18) l) self m chunk).getD k9 default).evs).length) Try.underlying22 e1029 hde96_1.sl (fun vals' hv _ => ⟨rfl, hv⟩)
      ·intro k1030 vals w1031 h1034 h1035 hW1033 hA1032
       obtain rfl : k1030 = 0 := Nat.le_antisymm h1035 h1034
       have hS1036 : Sep G53 w41 ((Blk b102 (((ansL (1 + q18) (laidL (1 + q18) l) self m chunk).getD k9 default).cells (cellV w41 (sb v40) (so v40 + k9 * 5 + 3)) (cellV w41 (sb v40) (so v40 + k9 * 5 + 4))).toArray 57) :: (SetO b24 (1 + q18) (laidL (1 + q18) l)) :: (Blk b2 (m.cells dm0 dm1).toArray 57) :: Rs) w1031 := hW1033
       have e1037 := hA1032 18 (by decide)
       have e1038 := hA1032 21 (by decide)
       refine oblc rfl rfl e1037 (fun _ => ?_) (fun hb => absurd rfl hb)
       have hl1039 : (decide ((((((ansL (1 + q18) (laidL (1 + q18) l) self m chunk).getD k9 default).evs).length : Nat) : Int) < 1)) = false := decide_eq_false (by omega)
       exact ov_lss (k := .i64) (a := (((((ansL (1 + q18) (laidL (1 + q18) l) self m chunk).getD k9 default).evs).length : Nat) : Int)) (b := 1) e1038 rfl (fun vals' hv _ => ⟨rfl, hv.trans (congrArg Value.bool hl1039)⟩)
      ·intro k1040 vals w1041 h1044 h1045 hW1043 hA1042
       have e1046 := hA1042 15 (by decide)
       have e1047 := hA1042 18 (by decide)
       have e1048 := hA1042 22 (by decide)
       refine oblc rfl rfl e1046 (fun _ => ?_) (fun hb => absurd rfl hb)
       exact ov_pick_f (v := .bool false) e1047 e1048 (fun vals' hv _ => ⟨rfl, hv⟩)
      ·intro k1049 vals w1050 h1053 h1054 hW1052 hA1051
       have e1055 := hA1051 15 (by decide)
       have e1056 := hA1051 23 (by decide)
       refine oblc rfl rfl e1055 (fun _ => ?_) (fun hb => absurd rfl hb)
       exact ov_move (v := .bool false) e1056 (fun vals' hv _ => ⟨rfl, hv⟩)
      ·intro k1057 vals w1058 h1061 h1062 hW1060 hA1059
       have e1063 := hA1059 24 (by decide)
       refine oblc rfl rfl e1063 (fun _ => ?_) (fun hb => absurd rfl hb)
       exact fd57_4 rfl (fun vals' hv _ => ⟨rfl, hv⟩)
      ·intro k1064 vals w1065 h1068 h1069 hW1067 hA1066
       obtain rfl : k1064 = 0 := Nat.le_antisymm h1069 h1068
       have hS1070 : Sep G53 w41 ((Blk b102 (((ansL (1 + q18) (laidL (1 + q18) l) self m chunk).getD k9 default).cells (cellV w41 (sb v40) (so v40 + k9 * 5 + 3)) (cellV w41 (sb v40) (so v40 + k9 * 5 + 4))).toArray 57) :: (SetO b24 (1 + q18) (laidL (1 + q18) l)) :: (Blk b2 (m.cells dm0 dm1).toArray 57) :: Rs) w1065 := hW1067
       have e1071 := hA1066 24 (by decide)
       have e1072 := hA1066 25 (by decide)
       refine oblc rfl rfl e1071 (fun _ => ?_) (fun hb => absurd rfl hb)
       exact ov_load1 (v := (cellV w41 (sb v40) (so v40 + k9 * 5 + 4))) Try.isAgg22 e1072 (blk_cellL (hS1070.blk (i := 0) rfl) rfl) (fun vals' hv _ => ⟨rfl, hv⟩)
      ·intro k1073 vals w1074 h1077 h1078 hW1076 hA1075
       obtain rfl : k1073 = 0 := Nat.le_antisymm h1078 h1077
       have hS1079 : Sep G53 w41 ((Blk b102 (((ansL (1 + q18) (laidL (1 + q18) l) self m chunk).getD k9 default).cells (cellV w41 (sb v40) (so v40 + k9 * 5 + 3)) (cellV w41 (sb v40) (so v40 + k9 * 5 + 4))).toArray 57) :: (SetO b24 (1 + q18) (laidL (1 + q18) l)) :: (Blk b2 (m.cells dm0 dm1).toArray 57) :: Rs) w1074 := hW1076
       have e1080 := hA1075 24 (by decide)
       have e1081 := hA1075 26 (by decide)
       refine oblc rfl rfl e1080 (fun _ => ?_) (fun hb => absurd rfl hb)
       exact ov_len (n := (((ansL (1 + q18) (laidL (1 + q18) l) self m chunk).getD k9 default).evs).length) Try.underlying22 e1081 hde96_1.sl (fun vals' hv _ => ⟨rfl, hv⟩)
      ·intro k1082 vals w1083 h1086 h1087 hW1085 hA1084
       obtain rfl : k1082 = 0 := Nat.le_antisymm h1087 h1086
       have hS1088 : Sep G53 w41 ((Blk b102 (((ansL (1 + q18) (laidL (1 + q18) l) self m chunk).getD k9 default).cells (cellV w41 (sb v40) (so v40 + k9 * 5 + 3)) (cellV w41 (sb v40) (so v40 + k9 * 5 + 4))).toArray 57) :: (SetO b24 (1 + q18) (laidL (1 + q18) l)) :: (Blk b2 (m.cells dm0 dm1).toArray 57) :: Rs) w1083 := hW1085
       have e1089 := hA1084 24 (by decide)
       have e1090 := hA1084 27 (by decide)
       refine oblc rfl rfl e1089 (fun _ => ?_) (fun hb => absurd rfl hb)
       have hl1091 : (decide (32 < (((((ansL (1 + q18) (laidL (1 + q18) l) self m chunk).getD k9 default).evs).length : Nat) : Int))) = false := decide_eq_false (by omega)
       exact ov_gtr (k := .i64) (a := (((((ansL (1 + q18) (laidL (1 + q18) l) self m chunk).getD k9 default).evs).length : Nat) : Int)) (b := 32) e1090 rfl (fun vals' hv _ => ⟨rfl, hv.trans (congrArg Value.bool hl1091)⟩)
      ·intro k1092 vals w1093 h1096 h1097 hW1095 hA1094
       have e1098 := hA1094 15 (by decide)
       have e1099 := hA1094 24 (by decide)
       have e1100 := hA1094 28 (by decide)
       refine oblc rfl rfl e1098 (fun _ => ?_) (fun hb => absurd rfl hb)
       exact ov_pick_f (v := .bool false) e1099 e1100 (fun vals' hv _ => ⟨rfl, hv⟩)
      ·intro k1101 vals w1102 h1105 h1106 hW1104 hA1103
       have e1107 := hA1103 15 (by decide)
       have e1108 := hA1103 29 (by decide)
       refine oblc rfl rfl e1107 (fun _ => ?_) (fun hb => absurd rfl hb)
       exact ov_move (v := .bool false) e1108 (fun vals' hv _ => ⟨rfl, hv⟩)
      ·intro k1109 vals w1110 h1113 h1114 hW1112 hA1111
       have e1115 := hA1111 30 (by decide)
       refine oblc rfl rfl e1115 (fun _ => ?_) (fun hb => absurd rfl hb)
       exact fd57_3 rfl (fun vals' hv _ => ⟨rfl, hv⟩)
      ·intro k1116 vals w1117 h1120 h1121 hW1119 hA1118
       obtain rfl : k1116 = 0 := Nat.le_antisymm h1121 h1120
       have hS1122 : Sep G53 w41 ((Blk b102 (((ansL (1 + q18) (laidL (1 + q18) l) self m chunk).getD k9 default).cells (cellV w41 (sb v40) (so v40 + k9 * 5 + 3)) (cellV w41 (sb v40) (so v40 + k9 * 5 + 4))).toArray 57) :: (SetO b24 (1 + q18) (laidL (1 + q18) l)) :: (Blk b2 (m.cells dm0 dm1).toArray 57) :: Rs) w1117 := hW1119
       have e1123 := hA1118 30 (by decide)
       have e1124 := hA1118 31 (by decide)
       refine oblc rfl rfl e1123 (fun _ => ?_) (fun hb => absurd rfl hb)
       exact ov_load1 (v := (cellV w41 (sb v40) (so v40 + k9 * 5 + 3))) Try.isAgg34 e1124 (blk_cellL (hS1122.blk (i := 0) rfl) rfl) (fun vals' hv _ => ⟨rfl, hv⟩)
      ·intro k1125 vals w1126 h1129 h1130 hW1128 hA1127
       obtain rfl : k1125 = 0 := Nat.le_antisymm h1130 h1129
       have hS1131 : Sep G53 w41 ((Blk b102 (((ansL (1 + q18) (laidL (1 + q18) l) self m chunk).getD k9 default).cells (cellV w41 (sb v40) (so v40 + k9 * 5 + 3)) (cellV w41 (sb v40) (so v40 + k9 * 5 + 4))).toArray 57) :: (SetO b24 (1 + q18) (laidL (1 + q18) l)) :: (Blk b2 (m.cells dm0 dm1).toArray 57) :: Rs) w1126 := hW1128
       have e1132 := hA1127 30 (by decide)
       have e1133 := hA1127 32 (by decide)
       refine oblc rfl rfl e1132 (fun _ => ?_) (fun hb => absurd rfl hb)
       exact ov_len (n := (((ansL (1 + q18) (laidL (1 + q18) l) self m chunk).getD k9 default).vec).length) Try.underlying34 e1133 hde96_0.sl (fun vals' hv _ => ⟨rfl, hv⟩)
      ·intro k1134 vals w1135 h1138 h1139 hW1137 hA1136
       obtain rfl : k1134 = 0 := Nat.le_antisymm h1139 h1138
       have hS1140 : Sep G53 w41 ((Blk b102 (((ansL (1 + q18) (laidL (1 + q18) l) self m chunk).getD k9 default).cells (cellV w41 (sb v40) (so v40 + k9 * 5 + 3)) (cellV w41 (sb v40) (so v40 + k9 * 5 + 4))).toArray 57) :: (SetO b24 (1 + q18) (laidL (1 + q18) l)) :: (Blk b2 (m.cells dm0 dm1).toArray 57) :: Rs) w1135 := hW1137
       have e1141 := hA1136 30 (by decide)
       have e1142 := hA1136 33 (by decide)
       refine oblc rfl rfl e1141 (fun _ => ?_) (fun hb => absurd rfl hb)
       have hl1143 : (decide (0 < (((((ansL (1 + q18) (laidL (1 + q18) l) self m chunk).getD k9 default).vec).length : Nat) : Int))) = false := decide_eq_false (by omega)
       exact ov_gtr (k := .i64) (a := (((((ansL (1 + q18) (laidL (1 + q18) l) self m chunk).getD k9 default).vec).length : Nat) : Int)) (b := 0) e1142 rfl (fun vals' hv _ => ⟨rfl, hv.trans (congrArg Value.bool hl1143)⟩)
      ·intro k1144 vals w1145 h1148 h1149 hW1147 hA1146
       have e1150 := hA1146 15 (by decide)
       have e1151 := hA1146 30 (by decide)
       have e1152 := hA1146 34 (by decide)
       refine oblc rfl rfl e1150 (fun _ => ?_) (fun hb => absurd rfl hb)
       exact ov_pick_f (v := .bool false) e1151 e1152 (fun vals' hv _ => ⟨rfl, hv⟩)
      ·intro k1153 vals w1154 h1157 h1158 hW1156 hA1155
       have e1159 := hA1155 11 (by decide)
       have e1160 := hA1155 15 (by decide)
       have e1161 := hA1155 35 (by decide)
       refine oblc rfl rfl e1159 (fun _ => ?_) (fun hb => absurd rfl hb)
       exact ov_pick_t (v := .bool false) e1160 e1161 (fun vals' hv _ => ⟨rfl, hv⟩)
      ·intro k1162 vals w1163 h1166 h1167 hW1165 hA1164
       have e1168 := hA1164 11 (by decide)
       have e1169 := hA1164 36 (by decide)
       refine obl rfl ?_
       exact ov_pick_f (v := .bool false) e1168 e1169 (fun vals' hv _ => ⟨rfl, hv⟩)
      ·intro k1170 vals w1171 h1174 h1175 hW1173 hA1172
       have e1176 := hA1172 37 (by decide)
       refine obl rfl ?_
       exact ov_move (v := .bool false) e1176 (fun vals' hv _ => ⟨rfl, hv⟩)
      ·intro k1177 vals w1178 h1181 h1182 hW1180 hA1179
       have e1183 := hA1179 38 (by decide)
       refine oblc rfl rfl e1183 (fun _ => ?_) (fun hb => absurd rfl hb)
       exact fd57_0 rfl (fun vals' hv _ => ⟨rfl, hv⟩)
      ·intro k1184 vals w1185 h1188 h1189 hW1187 hA1186
       obtain rfl : k1184 = 0 := Nat.le_antisymm h1189 h1188
       have hS1190 : Sep G53 w41 ((Blk b102 (((ansL (1 + q18) (laidL (1 + q18) l) self m chunk).getD k9 default).cells (cellV w41 (sb v40) (so v40 + k9 * 5 + 3)) (cellV w41 (sb v40) (so v40 + k9 * 5 + 4))).toArray 57) :: (SetO b24 (1 + q18) (laidL (1 + q18) l)) :: (Blk b2 (m.cells dm0 dm1).toArray 57) :: Rs) w1185 := hW1187
       have e1191 := hA1186 38 (by decide)
       have e1192 := hA1186 39 (by decide)
       refine oblc rfl rfl e1191 (fun _ => ?_) (fun hb => absurd rfl hb)
       exact ov_load1 (v := .int .i64 (((ansL (1 + q18) (laidL (1 + q18) l) self m chunk).getD k9 default).kind)) Try.isAgg3 e1192 (blk_cellL (hS1190.blk (i := 0) rfl) rfl) (fun vals' hv _ => ⟨rfl, hv⟩)
      ·intro k1193 vals w1194 h1197 h1198 hW1196 hA1195
       obtain rfl : k1193 = 0 := Nat.le_antisymm h1198 h1197
       have hS1199 : Sep G53 w41 ((Blk b102 (((ansL (1 + q18) (laidL (1 + q18) l) self m chunk).getD k9 default).cells (cellV w41 (sb v40) (so v40 + k9 * 5 + 3)) (cellV w41 (sb v40) (so v40 + k9 * 5 + 4))).toArray 57) :: (SetO b24 (1 + q18) (laidL (1 + q18) l)) :: (Blk b2 (m.cells dm0 dm1).toArray 57) :: Rs) w1194 := hW1196
       have e1200 := hA1195 38 (by decide)
       have e1201 := hA1195 40 (by decide)
       refine oblc rfl rfl e1200 (fun _ => ?_) (fun hb => absurd rfl hb)
       have hl1202 : (decide ((((ansL (1 + q18) (laidL (1 + q18) l) self m chunk).getD k9 default).kind) = 2)) = false := decide_eq_false (by omega)
       exact ov_eql (k := .i64) (a := ((ansL (1 + q18) (laidL (1 + q18) l) self m chunk).getD k9 default).kind) (b := 2) e1201 rfl (fun vals' hv _ => ⟨rfl, hv.trans (congrArg Value.bool hl1202)⟩)
      ·intro k1203 vals w1204 h1207 h1208 hW1206 hA1205
       have e1209 := hA1205 38 (by decide)
       have e1210 := hA1205 41 (by decide)
       refine oblc rfl rfl e1209 (fun _ => ?_) (fun hb => absurd rfl hb)
       exact ov_move (v := .bool false) e1210 (fun vals' hv _ => ⟨rfl, hv⟩)
      ·intro k1211 vals w1212 h1215 h1216 hW1214 hA1213
       have e1217 := hA1213 42 (by decide)
       exact oblc rfl rfl e1217 (fun hb => absurd hb (by decide)) (fun _ vals' hv _ => ⟨trivial, hv⟩)
      ·intro k1218 vals w1219 h1222 h1223 hW1221 hA1220
       obtain rfl : k1218 = 0 := Nat.le_antisymm h1223 h1222
       have hS1224 : Sep G53 w41 ((Blk b102 (((ansL (1 + q18) (laidL (1 + q18) l) self m chunk).getD k9 default).cells (cellV w41 (sb v40) (so v40 + k9 * 5 + 3)) (cellV w41 (sb v40) (so v40 + k9 * 5 + 4))).toArray 57) :: (SetO b24 (1 + q18) (laidL (1 + q18) l)) :: (Blk b2 (m.cells dm0 dm1).toArray 57) :: Rs) w1219 := hW1221
       have e1225 := hA1220 42 (by decide)
       have e1226 := hA1220 43 (by decide)
       exact oblc rfl rfl e1225 (fun hb => absurd hb (by decide)) (fun _ vals' hv _ => ⟨trivial, hv⟩)
      ·intro k1227 vals w1228 h1231 h1232 hW1230 hA1229
       obtain rfl : k1227 = 0 := Nat.le_antisymm h1232 h1231
       have hS1233 : Sep G53 w41 ((Blk b102 (((ansL (1 + q18) (laidL (1 + q18) l) self m chunk).getD k9 default).cells (cellV w41 (sb v40) (so v40 + k9 * 5 + 3)) (cellV w41 (sb v40) (so v40 + k9 * 5 + 4))).toArray 57) :: (SetO b24 (1 + q18) (laidL (1 + q18) l)) :: (Blk b2 (m.cells dm0 dm1).toArray 57) :: Rs) w1228 := hW1230
       have e1234 := hA1229 42 (by decide)
       have e1235 := hA1229 44 (by decide)
       exact oblc rfl rfl e1234 (fun hb => absurd hb (by decide)) (fun _ vals' hv _ => ⟨trivial, hv⟩)
      ·intro k1236 vals w1237 h1240 h1241 hW1239 hA1238
       have e1242 := hA1238 42 (by decide)
       have e1243 := hA1238 45 (by decide)
       exact oblc rfl rfl e1242 (fun hb => absurd hb (by decide)) (fun _ vals' hv _ => ⟨trivial, hv⟩)
      ·intro k1244 vals w1245 h1248 h1249 hW1247 hA1246
       have e1250 := hA1246 46 (by decide)
       exact oblu rfl rfl e1250 (fun vals' hv _ => ⟨trivial, hv⟩)
      ·intro k1251 vals w1252 h1255 h1256 hW1254 hA1253
       have e1257 := hA1253 46 (by decide)
       exact oblu rfl rfl e1257 (fun vals' hv _ => ⟨trivial, hv⟩)
      ·intro k1258 vals w1259 h1262 h1263 hW1261 hA1260
       obtain rfl : k1258 = 0 := Nat.le_antisymm h1263 h1262
       have hS1264 : Sep G53 w41 ((Blk b102 (((ansL (1 + q18) (laidL (1 + q18) l) self m chunk).getD k9 default).cells (cellV w41 (sb v40) (so v40 + k9 * 5 + 3)) (cellV w41 (sb v40) (so v40 + k9 * 5 + 4))).toArray 57) :: (SetO b24 (1 + q18) (laidL (1 + q18) l)) :: (Blk b2 (m.cells dm0 dm1).toArray 57) :: Rs) w1259 := hW1261
       have e1265 := hA1260 46 (by decide)
       have e1266 := hA1260 48 (by decide)
       exact oblu rfl rfl e1265 (fun vals' hv _ => ⟨trivial, hv⟩)
      ·intro k1267 vals w1268 h1271 h1272 hW1270 hA1269
       obtain rfl : k1267 = 0 := Nat.le_antisymm h1272 h1271
       have hS1273 : Sep G53 w41 ((Blk b102 (((ansL (1 + q18) (laidL (1 + q18) l) self m chunk).getD k9 default).cells (cellV w41 (sb v40) (so v40 + k9 * 5 + 3)) (cellV w41 (sb v40) (so v40 + k9 * 5 + 4))).toArray 57) :: (SetO b24 (1 + q18) (laidL (1 + q18) l)) :: (Blk b2 (m.cells dm0 dm1).toArray 57) :: Rs) w1268 := hW1270
       have e1274 := hA1269 46 (by decide)
       have e1275 := hA1269 49 (by decide)
       exact oblu rfl rfl e1274 (fun vals' hv _ => ⟨trivial, hv⟩)
      ·intro k1276 vals w1277 h1280 h1281 hW1279 hA1278
       obtain rfl : k1276 = 0 := Nat.le_antisymm h1281 h1280
       have hS1282 : Sep G53 w41 ((Blk b102 (((ansL (1 + q18) (laidL (1 + q18) l) self m chunk).getD k9 default).cells (cellV w41 (sb v40) (so v40 + k9 * 5 + 3)) (cellV w41 (sb v40) (so v40 + k9 * 5 + 4))).toArray 57) :: (SetO b24 (1 + q18) (laidL (1 + q18) l)) :: (Blk b2 (m.cells dm0 dm1).toArray 57) :: Rs) w1277 := hW1279
       have e1283 := hA1278 46 (by decide)
       have e1284 := hA1278 47 (by decide)
       have e1285 := hA1278 50 (by decide)
       exact oblu rfl rfl e1283 (fun vals' hv _ => ⟨trivial, hv⟩)
      ·intro k1286 vals w1287 h1290 h1291 hW1289 hA1288
       have e1292 := hA1288 42 (by decide)
       have e1293 := hA1288 46 (by decide)
       have e1294 := hA1288 51 (by decide)
       exact oblc rfl rfl e1292 (fun hb => absurd hb (by decide)) (fun _ vals' hv _ => ⟨trivial, hv⟩)
      ·intro k1295 vals w1296 h1299 h1300 hW1298 hA1297
       have e1301 := hA1297 38 (by decide)
       have e1302 := hA1297 42 (by decide)
       have e1303 := hA1297 52 (by decide)
       refine oblc rfl rfl e1301 (fun _ => ?_) (fun hb => absurd rfl hb)
       exact ov_pick_f (v := .bool false) e1302 rfl (fun vals' hv _ => ⟨rfl, hv⟩)
      ·intro k1304 vals w1305 h1308 h1309 hW1307 hA1306
       have e1310 := hA1306 38 (by decide)
       have e1311 := hA1306 53 (by decide)
       refine obl rfl ?_
       exact ov_pick_f (v := .bool false) e1310 e1311 (fun vals' hv _ => ⟨rfl, hv⟩)
      ·intro k1312 vals w1313 h1316 h1317 hW1315 hA1314
       have e1318 := hA1314 54 (by decide)
       refine obl rfl ?_
       exact ov_move (v := .bool false) e1318 (fun vals' hv _ => ⟨rfl, hv⟩)
      ·intro k1319 vals w1320 h1323 h1324 hW1322 hA1321
       have e1325 := hA1321 55 (by decide)
       refine oblc rfl rfl e1325 (fun _ => ?_) (fun hb => absurd rfl hb)
       exact fd57_0 rfl (fun vals' hv _ => ⟨rfl, hv⟩)
      ·intro k1326 vals w1327 h1330 h1331 hW1329 hA1328
       obtain rfl : k1326 = 0 := Nat.le_antisymm h1331 h1330
       have hS1332 : Sep G53 w41 ((Blk b102 (((ansL (1 + q18) (laidL (1 + q18) l) self m chunk).getD k9 default).cells (cellV w41 (sb v40) (so v40 + k9 * 5 + 3)) (cellV w41 (sb v40) (so v40 + k9 * 5 + 4))).toArray 57) :: (SetO b24 (1 + q18) (laidL (1 + q18) l)) :: (Blk b2 (m.cells dm0 dm1).toArray 57) :: Rs) w1327 := hW1329
       have e1333 := hA1328 55 (by decide)
       have e1334 := hA1328 56 (by decide)
       refine oblc rfl rfl e1333 (fun _ => ?_) (fun hb => absurd rfl hb)
       exact ov_load1 (v := .int .i64 (((ansL (1 + q18) (laidL (1 + q18) l) self m chunk).getD k9 default).kind)) Try.isAgg3 e1334 (blk_cellL (hS1332.blk (i := 0) rfl) rfl) (fun vals' hv _ => ⟨rfl, hv⟩)
      ·intro k1335 vals w1336 h1339 h1340 hW1338 hA1337
       obtain rfl : k1335 = 0 := Nat.le_antisymm h1340 h1339
       have hS1341 : Sep G53 w41 ((Blk b102 (((ansL (1 + q18) (laidL (1 + q18) l) self m chunk).getD k9 default).cells (cellV w41 (sb v40) (so v40 + k9 * 5 + 3)) (cellV w41 (sb v40) (so v40 + k9 * 5 + 4))).toArray 57) :: (SetO b24 (1 + q18) (laidL (1 + q18) l)) :: (Blk b2 (m.cells dm0 dm1).toArray 57) :: Rs) w1336 := hW1338
       have e1342 := hA1337 55 (by decide)
       have e1343 := hA1337 57 (by decide)
       refine oblc rfl rfl e1342 (fun _ => ?_) (fun hb => absurd rfl hb)
       have hl1344 : (decide ((((ansL (1 + q18) (laidL (1 + q18) l) self m chunk).getD k9 default).kind) = 4)) = false := decide_eq_false (by omega)
       exact ov_eql (k := .i64) (a := ((ansL (1 + q18) (laidL (1 + q18) l) self m chunk).getD k9 default).kind) (b := 4) e1343 rfl (fun vals' hv _ => ⟨rfl, hv.trans (congrArg Value.bool hl1344)⟩)
      ·intro k1345 vals w1346 h1349 h1350 hW1348 hA1347
       have e1351 := hA1347 55 (by decide)
       have e1352 := hA1347 58 (by decide)
       refine oblc rfl rfl e1351 (fun _ => ?_) (fun hb => absurd rfl hb)
       exact ov_move (v := .bool false) e1352 (fun vals' hv _ => ⟨rfl, hv⟩)
      ·intro k1353 vals w1354 h1357 h1358 hW1356 hA1355
       have e1359 := hA1355 59 (by decide)
       exact oblc rfl rfl e1359 (fun hb => absurd hb (by decide)) (fun _ vals' hv _ => ⟨trivial, hv⟩)
      ·intro k1360 vals w1361 h1364 h1365 hW1363 hA1362
       obtain rfl : k1360 = 0 := Nat.le_antisymm h1365 h1364
       have hS1366 : Sep G53 w41 ((Blk b102 (((ansL (1 + q18) (laidL (1 + q18) l) self m chunk).getD k9 default).cells (cellV w41 (sb v40) (so v40 + k9 * 5 + 3)) (cellV w41 (sb v40) (so v40 + k9 * 5 + 4))).toArray 57) :: (SetO b24 (1 + q18) (laidL (1 + q18) l)) :: (Blk b2 (m.cells dm0 dm1).toArray 57) :: Rs) w1361 := hW1363
       have e1367 := hA1362 59 (by decide)
       have e1368 := hA1362 60 (by decide)
       exact oblc rfl rfl e1367 (fun hb => absurd hb (by decide)) (fun _ vals' hv _ => ⟨trivial, hv⟩)
      ·intro k1369 vals w1370 h1373 h1374 hW1372 hA1371
       obtain rfl : k1369 = 0 := Nat.le_antisymm h1374 h1373
       have hS1375 : Sep G53 w41 ((Blk b102 (((ansL (1 + q18) (laidL (1 + q18) l) self m chunk).getD k9 default).cells (cellV w41 (sb v40) (so v40 + k9 * 5 + 3)) (cellV w41 (sb v40) (so v40 + k9 * 5 + 4))).toArray 57) :: (SetO b24 (1 + q18) (laidL (1 + q18) l)) :: (Blk b2 (m.cells dm0 dm1).toArray 57) :: Rs) w1370 := hW1372
       have e1376 := hA1371 59 (by decide)
       have e1377 := hA1371 61 (by decide)
       exact oblc rfl rfl e1376 (fun hb => absurd hb (by decide)) (fun _ vals' hv _ => ⟨trivial, hv⟩)
      ·intro k1378 vals w1379 h1382 h1383 hW1381 hA1380
       have e1384 := hA1380 55 (by decide)
       have e1385 := hA1380 59 (by decide)
       have e1386 := hA1380 62 (by decide)
       refine oblc rfl rfl e1384 (fun _ => ?_) (fun hb => absurd rfl hb)
       exact ov_pick_f (v := .bool false) e1385 rfl (fun vals' hv _ => ⟨rfl, hv⟩)
      ·intro k1387 vals w1388 h1391 h1392 hW1390 hA1389
       have e1393 := hA1389 55 (by decide)
       have e1394 := hA1389 63 (by decide)
       refine obl rfl ?_
       exact ov_pick_f (v := .bool false) e1393 e1394 (fun vals' hv _ => ⟨rfl, hv⟩)
      ·intro k1395 vals w1396 h1399 h1400 hW1398 hA1397
       have e1401 := hA1397 64 (by decide)
       refine obl rfl ?_
       exact ov_move (v := .bool false) e1401 (fun vals' hv _ => ⟨rfl, hv⟩)
      ·intro k1402 vals w1403 h1406 h1407 hW1405 hA1404
       have e1408 := hA1404 65 (by decide)
       refine oblc rfl rfl e1408 (fun _ => ?_) (fun hb => absurd rfl hb)
       exact fd57_0 rfl (fun vals' hv _ => ⟨rfl, hv⟩)
      ·intro k1409 vals w1410 h1413 h1414 hW1412 hA1411
       obtain rfl : k1409 = 0 := Nat.le_antisymm h1414 h1413
       have hS1415 : Sep G53 w41 ((Blk b102 (((ansL (1 + q18) (laidL (1 + q18) l) self m chunk).getD k9 default).cells (cellV w41 (sb v40) (so v40 + k9 * 5 + 3)) (cellV w41 (sb v40) (so v40 + k9 * 5 + 4))).toArray 57) :: (SetO b24 (1 + q18) (laidL (1 + q18) l)) :: (Blk b2 (m.cells dm0 dm1).toArray 57) :: Rs) w1410 := hW1412
       have e1416 := hA1411 65 (by decide)
       have e1417 := hA1411 66 (by decide)
       refine oblc rfl rfl e1416 (fun _ => ?_) (fun hb => absurd rfl hb)
       exact ov_load1 (v := .int .i64 (((ansL (1 + q18) (laidL (1 + q18) l) self m chunk).getD k9 default).kind)) Try.isAgg3 e1417 (blk_cellL (hS1415.blk (i := 0) rfl) rfl) (fun vals' hv _ => ⟨rfl, hv⟩)
      ·intro k1418 vals w1419 h1422 h1423 hW1421 hA1420
       obtain rfl : k1418 = 0 := Nat.le_antisymm h1423 h1422
       have hS1424 : Sep G53 w41 ((Blk b102 (((ansL (1 + q18) (laidL (1 + q18) l) self m chunk).getD k9 default).cells (cellV w41 (sb v40) (so v40 + k9 * 5 + 3)) (cellV w41 (sb v40) (so v40 + k9 * 5 + 4))).toArray 57) :: (SetO b24 (1 + q18) (laidL (1 + q18) l)) :: (Blk b2 (m.cells dm0 dm1).toArray 57) :: Rs) w1419 := hW1421
       have e1425 := hA1420 65 (by decide)
       have e1426 := hA1420 67 (by decide)
       refine oblc rfl rfl e1425 (fun _ => ?_) (fun hb => absurd rfl hb)
       have hl1427 : (decide ((((ansL (1 + q18) (laidL (1 + q18) l) self m chunk).getD k9 default).kind) = 1)) = false := decide_eq_false (by omega)
       exact ov_eql (k := .i64) (a := ((ansL (1 + q18) (laidL (1 + q18) l) self m chunk).getD k9 default).kind) (b := 1) e1426 rfl (fun vals' hv _ => ⟨rfl, hv.trans (congrArg Value.bool hl1427)⟩)
      ·intro k1428 vals w1429 h1432 h1433 hW1431 hA1430
       have e1434 := hA1430 65 (by decide)
       have e1435 := hA1430 68 (by decide)
       refine obl rfl ?_
       exact ov_pick_f (v := .bool false) e1434 e1435 (fun vals' hv _ => ⟨rfl, hv⟩)
      ·intro k1436 vals w1437 h1440 h1441 hW1439 hA1438
       have e1442 := hA1438 69 (by decide)
       refine obl rfl ?_
       exact ov_move (v := .bool false) e1442 (fun vals' hv _ => ⟨rfl, hv⟩)
      ·intro k1443 vals w1444 h1447 h1448 hW1446 hA1445
       have e1449 := hA1445 70 (by decide)
       refine oblc rfl rfl e1449 (fun _ => ?_) (fun hb => absurd rfl hb)
       exact fd57_0 rfl (fun vals' hv _ => ⟨rfl, hv⟩)
      ·intro k1450 vals w1451 h1454 h1455 hW1453 hA1452
       obtain rfl : k1450 = 0 := Nat.le_antisymm h1455 h1454
       have hS1456 : Sep G53 w41 ((Blk b102 (((ansL (1 + q18) (laidL (1 + q18) l) self m chunk).getD k9 default).cells (cellV w41 (sb v40) (so v40 + k9 * 5 + 3)) (cellV w41 (sb v40) (so v40 + k9 * 5 + 4))).toArray 57) :: (SetO b24 (1 + q18) (laidL (1 + q18) l)) :: (Blk b2 (m.cells dm0 dm1).toArray 57) :: Rs) w1451 := hW1453
       have e1457 := hA1452 70 (by decide)
       have e1458 := hA1452 71 (by decide)
       refine oblc rfl rfl e1457 (fun _ => ?_) (fun hb => absurd rfl hb)
       exact ov_load1 (v := .int .i64 (((ansL (1 + q18) (laidL (1 + q18) l) self m chunk).getD k9 default).kind)) Try.isAgg3 e1458 (blk_cellL (hS1456.blk (i := 0) rfl) rfl) (fun vals' hv _ => ⟨rfl, hv⟩)
      ·intro k1459 vals w1460 h1463 h1464 hW1462 hA1461
       obtain rfl : k1459 = 0 := Nat.le_antisymm h1464 h1463
       have hS1465 : Sep G53 w41 ((Blk b102 (((ansL (1 + q18) (laidL (1 + q18) l) self m chunk).getD k9 default).cells (cellV w41 (sb v40) (so v40 + k9 * 5 + 3)) (cellV w41 (sb v40) (so v40 + k9 * 5 + 4))).toArray 57) :: (SetO b24 (1 + q18) (laidL (1 + q18) l)) :: (Blk b2 (m.cells dm0 dm1).toArray 57) :: Rs) w1460 := hW1462
       have e1466 := hA1461 70 (by decide)
       have e1467 := hA1461 72 (by decide)
       refine oblc rfl rfl e1466 (fun _ => ?_) (fun hb => absurd rfl hb)
       have hl1468 : (!decide ((((ansL (1 + q18) (laidL (1 + q18) l) self m chunk).getD k9 default).kind) = 3)) = false := by rw [hq1]; simp
       exact ov_neq (k := .i64) (a := ((ansL (1 + q18) (laidL (1 + q18) l) self m chunk).getD k9 default).kind) (b := 3) e1467 rfl (fun vals' hv _ => ⟨rfl, hv.trans (congrArg Value.bool hl1468)⟩)
      ·intro k1469 vals w1470 h1473 h1474 hW1472 hA1471
       have e1475 := hA1471 70 (by decide)
       have e1476 := hA1471 73 (by decide)
       refine oblc rfl rfl e1475 (fun _ => ?_) (fun hb => absurd rfl hb)
       exact ov_move (v := .bool false) e1476 (fun vals' hv _ => ⟨rfl, hv⟩)
      ·intro k1477 vals w1478 h1481 h1482 hW1480 hA1479
       have e1483 := hA1479 74 (by decide)
       exact oblc rfl rfl e1483 (fun hb => absurd hb (by decide)) (fun _ vals' hv _ => ⟨trivial, hv⟩)
      ·intro k1484 vals w1485 h1488 h1489 hW1487 hA1486
       obtain rfl : k1484 = 0 := Nat.le_antisymm h1489 h1488
       have hS1490 : Sep G53 w41 ((Blk b102 (((ansL (1 + q18) (laidL (1 + q18) l) self m chunk).getD k9 default).cells (cellV w41 (sb v40) (so v40 + k9 * 5 + 3)) (cellV w41 (sb v40) (so v40 + k9 * 5 + 4))).toArray 57) :: (SetO b24 (1 + q18) (laidL (1 + q18) l)) :: (Blk b2 (m.cells dm0 dm1).toArray 57) :: Rs) w1485 := hW1487
       have e1491 := hA1486 74 (by decide)
       have e1492 := hA1486 75 (by decide)
       exact oblc rfl rfl e1491 (fun hb => absurd hb (by decide)) (fun _ vals' hv _ => ⟨trivial, hv⟩)
      ·intro k1493 vals w1494 h1497 h1498 hW1496 hA1495
       obtain rfl : k1493 = 0 := Nat.le_antisymm h1498 h1497
       have hS1499 : Sep G53 w41 ((Blk b102 (((ansL (1 + q18) (laidL (1 + q18) l) self m chunk).getD k9 default).cells (cellV w41 (sb v40) (so v40 + k9 * 5 + 3)) (cellV w41 (sb v40) (so v40 + k9 * 5 + 4))).toArray 57) :: (SetO b24 (1 + q18) (laidL (1 + q18) l)) :: (Blk b2 (m.cells dm0 dm1).toArray 57) :: Rs) w1494 := hW1496
       have e1500 := hA1495 74 (by decide)
       have e1501 := hA1495 76 (by decide)
       exact oblc rfl rfl e1500 (fun hb => absurd hb (by decide)) (fun _ vals' hv _ => ⟨trivial, hv⟩)
      ·intro k1502 vals w1503 h1506 h1507 hW1505 hA1504
       obtain rfl : k1502 = 0 := Nat.le_antisymm h1507 h1506
       have hS1508 : Sep G53 w41 ((Blk b102 (((ansL (1 + q18) (laidL (1 + q18) l) self m chunk).getD k9 default).cells (cellV w41 (sb v40) (so v40 + k9 * 5 + 3)) (cellV w41 (sb v40) (so v40 + k9 * 5 + 4))).toArray 57) :: (SetO b24 (1 + q18) (laidL (1 + q18) l)) :: (Blk b2 (m.cells dm0 dm1).toArray 57) :: Rs) w1503 := hW1505
       have e1509 := hA1504 74 (by decide)
       have e1510 := hA1504 77 (by decide)
       exact oblc rfl rfl e1509 (fun hb => absurd hb (by decide)) (fun _ vals' hv _ => ⟨trivial, hv⟩)
      ·intro k1511 vals w1512 h1515 h1516 hW1514 hA1513
       have e1517 := hA1513 74 (by decide)
       have e1518 := hA1513 78 (by decide)
       exact oblc rfl rfl e1517 (fun hb => absurd hb (by decide)) (fun _ vals' hv _ => ⟨trivial, hv⟩)
      ·intro k1519 vals w1520 h1523 h1524 hW1522 hA1521
       have e1525 := hA1521 79 (by decide)
       exact oblu rfl rfl e1525 (fun vals' hv _ => ⟨trivial, hv⟩)
      ·intro k1526 vals w1527 h1530 h1531 hW1529 hA1528
       have hkk : k1526 = 0 ∨ k1526 = 1 := by have h1 : 0 ≤ k1526 := h1530; have h2 : k1526 ≤ 1 := h1531; omega
       rcases hkk with rfl | rfl
       ·skip
        have hS1532 : Sep G53 w41 ((Blk b102 (((ansL (1 + q18) (laidL (1 + q18) l) self m chunk).getD k9 default).cells (cellV w41 (sb v40) (so v40 + k9 * 5 + 3)) (cellV w41 (sb v40) (so v40 + k9 * 5 + 4))).toArray 57) :: (SetO b24 (1 + q18) (laidL (1 + q18) l)) :: (Blk b2 (m.cells dm0 dm1).toArray 57) :: Rs) w1527 := hW1529
        have e1533 := hA1528 79 (by decide)
        have e1534 := hA1528 80 (by decide)
        exact oblu rfl rfl e1533 (fun vals' hv _ => ⟨trivial, hv⟩)
       ·skip
        have hS1535 : Sep G53 w41 ((Blk b102 (((ansL (1 + q18) (laidL (1 + q18) l) self m chunk).getD k9 default).cells (cellV w41 (sb v40) (so v40 + k9 * 5 + 3)) (cellV w41 (sb v40) (so v40 + k9 * 5 + 4))).toArray 57) :: (SetO b24 (1 + q18) (laidL (1 + q18) l)) :: (Blk b2 (m.cells dm0 dm1).toArray 57) :: Rs) w1527 := hW1529
        have e1536 := hA1528 79 (by decide)
        have e1537 := hA1528 80 (by decide)
        exact oblu rfl rfl e1536 (fun vals' hv _ => ⟨trivial, hv⟩)
      ·intro k1538 vals w1539 h1542 h1543 hW1541 hA1540
       have e1544 := hA1540 79 (by decide)
       exact oblu rfl rfl e1544 (fun vals' hv _ => ⟨trivial, hv⟩)
      ·intro k799 vals w800 h803 h804 hW802 hA801
       obtain rfl : k799 = 0 := Nat.le_antisymm h804 h803
       have hS805 : Sep G53 w41 ((Blk b102 (((ansL (1 + q18) (laidL (1 + q18) l) self m chunk).getD k9 default).cells (cellV w41 (sb v40) (so v40 + k9 * 5 + 3)) (cellV w41 (sb v40) (so v40 + k9 * 5 + 4))).toArray 57) :: (SetO b24 (1 + q18) (laidL (1 + q18) l)) :: (Blk b2 (m.cells dm0 dm1).toArray 57) :: Rs) w800 := hW802
       have e806 := hA801 79 (by decide)
       have e807 := hA801 82 (by decide)
       refine oblu rfl rfl e806 (fun vals' hv hv' => ?_)
       refine ⟨?_, trivial⟩
       show Sep G53 w41 ((Blk b102 (((ansL (1 + q18) (laidL (1 + q18) l) self m chunk).getD k9 default).cells (cellV w41 (sb v40) (so v40 + k9 * 5 + 3)) (cellV w41 (sb v40) (so v40 + k9 * 5 + 4))).toArray 57) :: (SetO b24 (1 + q18) (laidL (1 + q18) l)) :: (Blk b2 (m.cells dm0 dm1).toArray 57) :: Rs) w800
       exact hS805
      ·intro k808 vals w809 h812 h813 hW811 hA810
       obtain rfl : k808 = 1 := Nat.le_antisymm h813 h812
       have hS814 : Sep G53 w41 ((Blk b102 (((ansL (1 + q18) (laidL (1 + q18) l) self m chunk).getD k9 default).cells (cellV w41 (sb v40) (so v40 + k9 * 5 + 3)) (cellV w41 (sb v40) (so v40 + k9 * 5 + 4))).toArray 57) :: (SetO b24 (1 + q18) (laidL (1 + q18) l)) :: (Blk b2 (m.cells dm0 dm1).toArray 57) :: Rs) w809 := hW811
       have e815 := hA810 79 (by decide)
       have e816 := hA810 81 (by decide)
       refine oblu rfl rfl e815 (fun vals' hv hv' => ?_)
       refine ⟨?_, trivial⟩
       show Sep G53 w41 ((Blk b102 (((ansL (1 + q18) (laidL (1 + q18) l) self m chunk).getD k9 default).cells (cellV w41 (sb v40) (so v40 + k9 * 5 + 3)) (cellV w41 (sb v40) (so v40 + k9 * 5 + 4))).toArray 57) :: (SetO b24 (1 + q18) (laidL (1 + q18) l)) :: (Blk b2 (m.cells dm0 dm1).toArray 57) :: Rs) w809
       exact hS814
      ·intro k1545 vals w1546 h1549 h1550 hW1548 hA1547
       obtain rfl : k1545 = 2 := Nat.le_antisymm h1550 h1549
       have hS1551 : Sep G53 w41 ((Blk b102 (((ansL (1 + q18) (laidL (1 + q18) l) self m chunk).getD k9 default).cells (cellV w41 (sb v40) (so v40 + k9 * 5 + 3)) (cellV w41 (sb v40) (so v40 + k9 * 5 + 4))).toArray 57) :: (SetO b24 (1 + q18) (laidL (1 + q18) l)) :: (Blk b2 (m.cells dm0 dm1).toArray 57) :: Rs) w1546 := hW1548
       have e1552 := hA1547 79 (by decide)
       exact oblu rfl rfl e1552 (fun vals' hv _ => ⟨trivial, hv⟩)
      ·intro k1553 vals w1554 h1557 h1558 hW1556 hA1555
       have e1559 := hA1555 74 (by decide)
       have e1560 := hA1555 79 (by decide)
       have e1561 := hA1555 85 (by decide)
       exact oblc rfl rfl e1559 (fun hb => absurd hb (by decide)) (fun _ vals' hv _ => ⟨trivial, hv⟩)
      ·intro k1562 vals w1563 h1566 h1567 hW1565 hA1564
       have e1568 := hA1564 70 (by decide)
       have e1569 := hA1564 74 (by decide)
       have e1570 := hA1564 86 (by decide)
       refine oblc rfl rfl e1568 (fun _ => ?_) (fun hb => absurd rfl hb)
       exact ov_pick_f (v := .bool false) e1569 rfl (fun vals' hv _ => ⟨rfl, hv⟩)
      ·intro k1571 vals w1572 h1575 h1576 hW1574 hA1573
       have e1577 := hA1573 70 (by decide)
       have e1578 := hA1573 87 (by decide)
       refine obl rfl ?_
       exact ov_pick_f (v := .bool false) e1577 e1578 (fun vals' hv _ => ⟨rfl, hv⟩)
      intro vals w1579 hW1580 hA1581
      have hS1582 : Sep G53 w41 ((Blk b102 (((ansL (1 + q18) (laidL (1 + q18) l) self m chunk).getD k9 default).cells (cellV w41 (sb v40) (so v40 + k9 * 5 + 3)) (cellV w41 (sb v40) (so v40 + k9 * 5 + 4))).toArray 57) :: (SetO b24 (1 + q18) (laidL (1 + q18) l)) :: (Blk b2 (m.cells dm0 dm1).toArray 57) :: Rs) w1579 := hW1580
      have e1583 := hA1581 88 (by decide)
      refine st_env (kv := [(2, .int .i64 (self)), (8, .pointer (some ⟨b2, 0, none⟩)), (11, .pointer (some ⟨b24, 0, none⟩)), (12, v40), (13, .int .i64 ((k9 : Nat) : Int)), (68, .int .i64 ((k9 : Nat) : Int)), (69, v40), (70, .int .i64 (((ansL (1 + q18) (laidL (1 + q18) l) self m chunk).length : Nat) : Int)), (71, .bool true), (74, v40), (75, .int .i64 ((k9 : Nat) : Int)), (76, .pointer (some ⟨sb v40, so v40 + k9 * 5, none⟩)), (77, .agg (((ansL (1 + q18) (laidL (1 + q18) l) self m chunk).getD k9 default).cells (cellV w41 (sb v40) (so v40 + k9 * 5 + 3)) (cellV w41 (sb v40) (so v40 + k9 * 5 + 4))).toArray), (14, .pointer (some ⟨b102, 0, none⟩)), (166, .bool false)]) ⟨rfl, rfl, rfl, rfl, rfl, rfl, rfl, rfl, rfl, rfl, rfl, rfl, rfl, rfl, (by exact e1583), trivial⟩ (fun ρw1579 => ?_)
      refine st_nil ?_
      refine WP_cond_f rfl ?_
      refine WP_skip ?_
      refine WP_region0 (by kernel_rfl) (fun _ => ?_)
      refine st (ov_move (v := .int .i64 ((k9 : Nat) : Int)) rfl ?_)
      have hr1584 : InR ((k9 + 1 : Nat) : Int) := by first | omega | (simp only [lens]; omega)
      refine st (ov_add (r := ((k9 + 1 : Nat) : Int)) (k := .i64) (a := ((k9 : Nat) : Int)) (b := 1) rfl rfl (by rw [show (((k9 : Nat) : Int) + 1 : Int) = ((k9 + 1 : Nat) : Int) by first | omega | (simp only [lens]; omega)]; exact wrap_in hr1584) ?_)
      refine st (ov_assign (v := .int .i64 ((k9 + 1 : Nat) : Int)) rfl ?_)
      refine st_nil ?_
      have hS1585 : Sep G53 w41 ((SetO b24 (1 + q18) (laidL (1 + q18) l)) :: (Blk b2 (m.cells dm0 dm1).toArray 57) :: Rs) w1579 := hS1582.sel 3 [1, 2] (Nat.le_add_left _ _) rfl rfl
      exact ⟨_, by omega, k9 + 1, _, rfl, setAll_self ⟨rfl, rfl, rfl, rfl, rfl, trivial⟩, by omega, hS1585⟩
     ·skip
      obtain ⟨hq1, hq2, hq3, hq4, hq5⟩ := hq9
      refine WP_draw4 (WF [fun vals wq => Sep G53 w41 ((Blk b102 (((ansL (1 + q18) (laidL (1 + q18) l) self m chunk).getD k9 default).cells (cellV w41 (sb v40) (so v40 + k9 * 5 + 3)) (cellV w41 (sb v40) (so v40 + k9 * 5 + 4))).toArray 57) :: (SetO b24 (1 + q18) (laidL (1 + q18) l)) :: (Blk b2 (m.cells dm0 dm1).toArray 57) :: Rs) wq, fun vals wq => ∃ (v2300 : Value), (vals 83 = (v2300 : Value)) ∧ Sep G53 w41 ((SetO b24 (1 + q18) (laidL (1 + q18) l)) :: (RowE (α := Int) own 3 v2300 (vecE (1 + q18) (laidL (1 + q18) l))) :: (Blk b102 (((ansL (1 + q18) (laidL (1 + q18) l) self m chunk).getD k9 default).cells (cellV w41 (sb v40) (so v40 + k9 * 5 + 3)) (cellV w41 (sb v40) (so v40 + k9 * 5 + 4))).toArray 57) :: (Blk b2 (m.cells dm0 dm1).toArray 57) :: Rs) wq, fun vals wq => ∃ (v2300 : Value), (vals 83 = (v2300 : Value)) ∧ (vals 84 = (.bool (decide ((((ansL (1 + q18) (laidL (1 + q18) l) self m chunk).getD k9 default).vec) = (vecE (1 + q18) (laidL (1 + q18) l)))) : Value)) ∧ Sep G53 w41 ((RowE (α := Int) own 3 v2300 (vecE (1 + q18) (laidL (1 + q18) l))) :: (SetO b24 (1 + q18) (laidL (1 + q18) l)) :: (Blk b102 (((ansL (1 + q18) (laidL (1 + q18) l) self m chunk).getD k9 default).cells (cellV w41 (sb v40) (so v40 + k9 * 5 + 3)) (cellV w41 (sb v40) (so v40 + k9 * 5 + 4))).toArray 57) :: (Blk b2 (m.cells dm0 dm1).toArray 57) :: Rs) wq]) (AF [Vl 0 (.pointer (some ⟨b102, 1, none⟩)), Vl 1 (.int .i64 (((ansL (1 + q18) (laidL (1 + q18) l) self m chunk).getD k9 default).frm)), Vl 2 (.int .i64 (self)), Vl 3 (.bool false), Vl 4 (.bool false), Vl 5 (.pointer (some ⟨b102, 2, none⟩)), Vl 6 (.int .i64 (((ansL (1 + q18) (laidL (1 + q18) l) self m chunk).getD k9 default).dst)), Vl 7 (.pointer (some ⟨b2, 1, none⟩)), Vl 8 (.int .i64 (m.frm)), Vl 9 (.bool false), Vl 10 (.bool false), Vl 11 (.bool false), Vl 12 (.pointer (some ⟨b102, 0, none⟩)), Vl 13 (.int .i64 (((ansL (1 + q18) (laidL (1 + q18) l) self m chunk).getD k9 default).kind)), Vl 14 (.bool false), Vl 15 (.bool false), Vl 16 (undef), Vl 17 (undef), Vl 18 (undef), Vl 19 (undef), Vl 20 (undef), Vl 21 (undef), Vl 22 (undef), Vl 23 (undef), Vl 24 (undef), Vl 25 (undef), Vl 26 (undef), Vl 27 (undef), Vl 28 (undef), Vl 29 (undef), Vl 30 (undef), Vl 31 (undef), Vl 32 (undef), Vl 33 (undef), Vl 34 (undef), Vl 35 (undef), Vl 36 (.bool false), Vl 37 (.bool false), Vl 38 (.bool false), Vl 39 (.pointer (some ⟨b102, 0, none⟩)), Vl 40 (.int .i64 (((ansL (1 + q18) (laidL (1 + q18) l) self m chunk).getD k9 default).kind)), Vl 41 (.bool true), Vl 42 (.bool true), Vl 43 (.pointer (some ⟨b2, 0, none⟩)), Vl 44 (.int .i64 (m.kind)), Vl 45 (.bool false), Vl 46 (.bool false), Vl 47 (.int .i64 ((k9 : Nat) : Int)), Vl 48 (v40), Vl 49 (.int .i64 (((ansL (1 + q18) (laidL (1 + q18) l) self m chunk).length : Nat) : Int)), Vl 50 (.int .i64 ((((ansL (1 + q18) (laidL (1 + q18) l) self m chunk).length) - 1 : Nat) : Int)), Vl 51 (.bool false), Vl 52 (.bool false), Vl 53 (.bool false), Vl 54 (.bool false), Vl 55 (.bool false), Vl 56 (.pointer (some ⟨b102, 0, none⟩)), Vl 57 (.int .i64 (((ansL (1 + q18) (laidL (1 + q18) l) self m chunk).getD k9 default).kind)), Vl 58 (.bool false), Vl 59 (.bool false), Vl 60 (undef), Vl 61 (undef), Vl 62 (undef), Vl 63 (.bool false), Vl 64 (.bool false), Vl 65 (.bool false), Vl 66 (.pointer (some ⟨b102, 0, none⟩)), Vl 67 (.int .i64 (((ansL (1 + q18) (laidL (1 + q18) l) self m chunk).getD k9 default).kind)), Vl 68 (.bool false), Vl 69 (.bool false), Vl 70 (.bool false), Vl 71 (.pointer (some ⟨b102, 0, none⟩)), Vl 72 (.int .i64 (((ansL (1 + q18) (laidL (1 + q18) l) self m chunk).getD k9 default).kind)), Vl 73 (.bool true), Vl 74 (.bool true), Vl 75 (.pointer (some ⟨b102, 4, none⟩)), Vl 76 ((cellV w41 (sb v40) (so v40 + k9 * 5 + 4))), Vl 77 (.int .i64 (((((ansL (1 + q18) (laidL (1 + q18) l) self m chunk).getD k9 default).evs).length : Nat) : Int)), Vl 78 (.bool false), Vl 79 (.bool false), Vl 80 (.pointer (some ⟨b102, 3, none⟩)), Vl 81 ((cellV w41 (sb v40) (so v40 + k9 * 5 + 3))), Vl 82 (.pointer (some ⟨b24, 0, none⟩)), fun _ => True, fun _ => True, Vl 85 (.bool false), Vl 86 (.bool false), Vl 87 (.bool false), Vl 88 (.bool false)]) [[], [0], [], [0, 1, 2], [0, 1, 2, 3], [0, 1, 2, 3, 4], [0, 1, 2, 3, 4, 5], [0, 1, 2, 3, 4], [0, 1, 2, 3, 4, 7], [0, 1, 2, 3, 4, 5, 6, 7, 8], [0, 1, 2, 3, 4, 5, 6, 7, 8, 9], [0, 1, 2, 3, 4, 5, 6, 7, 8, 9, 10], [0, 1, 2, 3, 4, 5, 6, 7, 8, 9, 10, 11], [0, 1, 2, 3, 4, 5, 6, 7, 8, 9, 10, 11, 12], [0, 1, 2, 3, 4, 5, 6, 7, 8, 9, 10, 11, 12, 13], [0, 1, 2, 3, 4, 5, 6, 7, 8, 9, 10, 11, 12, 13, 14], [0, 1, 2, 3, 4, 5, 6, 7, 8, 9, 10, 11, 12, 13, 14, 15], [0, 1, 2, 3, 4, 5, 6, 7, 8, 9, 10, 11, 12, 13, 14, 15, 16], [0, 1, 2, 3, 4, 5, 6, 7, 8, 9, 10, 11, 12, 13, 14, 15, 16, 17], [0, 1, 2, 3, 4, 5, 6, 7, 8, 9, 10, 11, 12, 13, 14, 15, 16, 17, 18], [0, 1, 2, 3, 4, 5, 6, 7, 8, 9, 10, 11, 12, 13, 14, 15, 16, 17, 18, 19], [0, 1, 2, 3, 4, 5, 6, 7, 8, 9, 10, 11, 12, 13, 14, 15, 16, 17, 18, 19, 20], [0, 1, 2, 3, 4, 5, 6, 7, 8, 9, 10, 11, 12, 13, 14, 15, 16, 17, 18, 19, 20, 21], [0, 1, 2, 3, 4, 5, 6, 7, 8, 9, 10, 11, 12, 13, 14, 15, 16, 17, 18, 19, 20, 21, 22], [0, 1, 2, 3, 4, 5, 6, 7, 8, 9, 10, 11, 12, 13, 14, 15, 16, 17, 18, 19, 20, 21, 22, 23], [0, 1, 2, 3, 4, 5, 6, 7, 8, 9, 10, 11, 12, 13, 14, 15, 16, 17, 18, 19, 20, 21, 22, 23, 24], [0, 1, 2, 3, 4, 5, 6, 7, 8, 9, 10, 11, 12, 13, 14, 15, 16, 17, 18, 19, 20, 21, 22, 23, 24, 25], [0, 1, 2, 3, 4, 5, 6, 7, 8, 9, 10, 11, 12, 13, 14, 15, 16, 17, 18, 19, 20, 21, 22, 23, 24, 25, 26], [0, 1, 2, 3, 4, 5, 6, 7, 8, 9, 10, 11, 12, 13, 14, 15, 16, 17, 18, 19, 20, 21, 22, 23, 24, 25, 26, 27], [0, 1, 2, 3, 4, 5, 6, 7, 8, 9, 10, 11, 12, 13, 14, 15, 16, 17, 18, 19, 20, 21, 22, 23, 24, 25, 26, 27, 28], [0, 1, 2, 3, 4, 5, 6, 7, 8, 9, 10, 11, 12, 13, 14, 15, 16, 17, 18, 19, 20, 21, 22, 23, 24, 25, 26, 27, 28, 29], [0, 1, 2, 3, 4, 5, 6, 7, 8, 9, 10, 11, 12, 13, 14, 15, 16, 17, 18, 19, 20, 21, 22, 23, 24, 25, 26, 27, 28, 29, 30], [0, 1, 2, 3, 4, 5, 6, 7, 8, 9, 10, 11, 12, 13, 14, 15, 16, 17, 18, 19, 20, 21, 22, 23, 24, 25, 26, 27, 28, 29, 30, 31], [0, 1, 2, 3, 4, 5, 6, 7, 8, 9, 10, 11, 12, 13, 14, 15, 16, 17, 18, 19, 20, 21, 22, 23, 24, 25, 26, 27, 28, 29, 30, 31, 32], [0, 1, 2, 3, 4, 5, 6, 7, 8, 9, 10, 11, 12, 13, 14, 15, 16, 17, 18, 19, 20, 21, 22, 23, 24, 25, 26, 27, 28, 29, 30, 31, 32, 33], [0, 1, 2, 3, 4, 5, 6, 7, 8, 9, 10, 11, 12, 13, 14, 15, 16, 17, 18, 19, 20, 21, 22, 23, 24, 25, 26, 27, 28, 29, 30, 31, 32, 33, 34], [0, 1, 2, 3, 4, 5, 6, 7, 8, 9, 10, 11, 12, 13, 14, 15, 16, 17, 18, 19, 20, 21, 22, 23, 24, 25, 26, 27, 28, 29, 30, 31, 32, 33, 34, 35], [0, 1, 2, 3, 4, 5, 6, 7, 8, 9, 10, 11, 12, 13, 14, 15, 16, 17, 18, 19, 20, 21, 22, 23, 24, 25, 26, 27, 28, 29, 30, 31, 32, 33, 34, 35, 36], [0, 1, 2, 3, 4, 5, 6, 7, 8, 9, 10, 11, 12, 13, 14, 15, 16, 17, 18, 19, 20, 21, 22, 23, 24, 25, 26, 27, 28, 29, 30, 31, 32, 33, 34, 35, 36, 37], [0, 1, 2, 3, 4, 5, 6, 7, 8, 9, 10, 11, 12, 13, 14, 15, 16, 17, 18, 19, 20, 21, 22, 23, 24, 25, 26, 27, 28, 29, 30, 31, 32, 33, 34, 35, 36, 37, 38], [0, 1, 2, 3, 4, 5, 6, 7, 8, 9, 10, 11, 12, 13, 14, 15, 16, 17, 18, 19, 20, 21, 22, 23, 24, 25, 26, 27, 28, 29, 30, 31, 32, 33, 34, 35, 36, 37, 38, 39], [0, 1, 2, 3, 4, 5, 6, 7, 8, 9, 10, 11, 12, 13, 14, 15, 16, 17, 18, 19, 20, 21, 22, 23, 24, 25, 26, 27, 28, 29, 30, 31, 32, 33, 34, 35, 36, 37, 38, 39, 40], [0, 1, 2, 3, 4, 5, 6, 7, 8, 9, 10, 11, 12, 13, 14, 15, 16, 17, 18, 19, 20, 21, 22, 23, 24, 25, 26, 27, 28, 29, 30, 31, 32, 33, 34, 35, 36, 37, 38, 39, 40, 41], [0, 1, 2, 3, 4, 5, 6, 7, 8, 9, 10, 11, 12, 13, 14, 15, 16, 17, 18, 19, 20, 21, 22, 23, 24, 25, 26, 27, 28, 29, 30, 31, 32, 33, 34, 35, 36, 37, 38, 39, 40, 41, 42], [0, 1, 2, 3, 4, 5, 6, 7, 8, 9, 10, 11, 12, 13, 14, 15, 16, 17, 18, 19, 20, 21, 22, 23, 24, 25, 26, 27, 28, 29, 30, 31, 32, 33, 34, 35, 36, 37, 38, 39, 40, 41, 42, 43], [0, 1, 2, 3, 4, 5, 6, 7, 8, 9, 10, 11, 12, 13, 14, 15, 16, 17, 18, 19, 20, 21, 22, 23, 24, 25, 26, 27, 28, 29, 30, 31, 32, 33, 34, 35, 36, 37, 38, 39, 40, 41, 42, 43, 44], [0, 1, 2, 3, 4, 5, 6, 7, 8, 9, 10, 11, 12, 13, 14, 15, 16, 17, 18, 19, 20, 21, 22, 23, 24, 25, 26, 27, 28, 29, 30, 31, 32, 33, 34, 35, 36, 37, 38, 39, 40, 41, 42, 43, 44, 45], [0, 1, 2, 3, 4, 5, 6, 7, 8, 9, 10, 11, 12, 13, 14, 15, 16, 17, 18, 19, 20, 21, 22, 23, 24, 25, 26, 27, 28, 29, 30, 31, 32, 33, 34, 35, 36, 37, 38, 39, 40, 41, 42, 43, 44, 45, 46], [0, 1, 2, 3, 4, 5, 6, 7, 8, 9, 10, 11, 12, 13, 14, 15, 16, 17, 18, 19, 20, 21, 22, 23, 24, 25, 26, 27, 28, 29, 30, 31, 32, 33, 34, 35, 36, 37, 38, 39, 40, 41, 42, 43, 44, 45, 46], [0, 1, 2, 3, 4, 5, 6, 7, 8, 9, 10, 11, 12, 13, 14, 15, 16, 17, 18, 19, 20, 21, 22, 23, 24, 25, 26, 27, 28, 29, 30, 31, 32, 33, 34, 35, 36, 37, 38, 39, 40, 41, 42, 43, 44, 45, 46, 48], [0, 1, 2, 3, 4, 5, 6, 7, 8, 9, 10, 11, 12, 13, 14, 15, 16, 17, 18, 19, 20, 21, 22, 23, 24, 25, 26, 27, 28, 29, 30, 31, 32, 33, 34, 35, 36, 37, 38, 39, 40, 41, 42, 43, 44, 45, 46, 48, 49], [0, 1, 2, 3, 4, 5, 6, 7, 8, 9, 10, 11, 12, 13, 14, 15, 16, 17, 18, 19, 20, 21, 22, 23, 24, 25, 26, 27, 28, 29, 30, 31, 32, 33, 34, 35, 36, 37, 38, 39, 40, 41, 42, 43, 44, 45, 46, 47, 48, 49, 50], [0, 1, 2, 3, 4, 5, 6, 7, 8, 9, 10, 11, 12, 13, 14, 15, 16, 17, 18, 19, 20, 21, 22, 23, 24, 25, 26, 27, 28, 29, 30, 31, 32, 33, 34, 35, 36, 37, 38, 39, 40, 41, 42, 43, 44, 45, 46, 47, 48, 49, 50, 51], [0, 1, 2, 3, 4, 5, 6, 7, 8, 9, 10, 11, 12, 13, 14, 15, 16, 17, 18, 19, 20, 21, 22, 23, 24, 25, 26, 27, 28, 29, 30, 31, 32, 33, 34, 35, 36, 37, 38, 39, 40, 41, 42, 43, 44, 45, 46, 47, 48, 49, 50, 51, 52], [0, 1, 2, 3, 4, 5, 6, 7, 8, 9, 10, 11, 12, 13, 14, 15, 16, 17, 18, 19, 20, 21, 22, 23, 24, 25, 26, 27, 28, 29, 30, 31, 32, 33, 34, 35, 36, 37, 38, 39, 40, 41, 42, 43, 44, 45, 46, 47, 48, 49, 50, 51, 52, 53], [0, 1, 2, 3, 4, 5, 6, 7, 8, 9, 10, 11, 12, 13, 14, 15, 16, 17, 18, 19, 20, 21, 22, 23, 24, 25, 26, 27, 28, 29, 30, 31, 32, 33, 34, 35, 36, 37, 38, 39, 40, 41, 42, 43, 44, 45, 46, 47, 48, 49, 50, 51, 52, 53, 54], [0, 1, 2, 3, 4, 5, 6, 7, 8, 9, 10, 11, 12, 13, 14, 15, 16, 17, 18, 19, 20, 21, 22, 23, 24, 25, 26, 27, 28, 29, 30, 31, 32, 33, 34, 35, 36, 37, 38, 39, 40, 41, 42, 43, 44, 45, 46, 47, 48, 49, 50, 51, 52, 53, 54, 55], [0, 1, 2, 3, 4, 5, 6, 7, 8, 9, 10, 11, 12, 13, 14, 15, 16, 17, 18, 19, 20, 21, 22, 23, 24, 25, 26, 27, 28, 29, 30, 31, 32, 33, 34, 35, 36, 37, 38, 39, 40, 41, 42, 43, 44, 45, 46, 47, 48, 49, 50, 51, 52, 53, 54, 55, 56], [0, 1, 2, 3, 4, 5, 6, 7, 8, 9, 10, 11, 12, 13, 14, 15, 16, 17, 18, 19, 20, 21, 22, 23, 24, 25, 26, 27, 28, 29, 30, 31, 32, 33, 34, 35, 36, 37, 38, 39, 40, 41, 42, 43, 44, 45, 46, 47, 48, 49, 50, 51, 52, 53, 54, 55, 56, 57], [0, 1, 2, 3, 4, 5, 6, 7, 8, 9, 10, 11, 12, 13, 14, 15, 16, 17, 18, 19, 20, 21, 22, 23, 24, 25, 26, 27, 28, 29, 30, 31, 32, 33, 34, 35, 36, 37, 38, 39, 40, 41, 42, 43, 44, 45, 46, 47, 48, 49, 50, 51, 52, 53, 54, 55, 56, 57, 58], [0, 1, 2, 3, 4, 5, 6, 7, 8, 9, 10, 11, 12, 13, 14, 15, 16, 17, 18, 19, 20, 21, 22, 23, 24, 25, 26, 27, 28, 29, 30, 31, 32, 33, 34, 35, 36, 37, 38, 39, 40, 41, 42, 43, 44, 45, 46, 47, 48, 49, 50, 51, 52, 53, 54, 55, 56, 57, 58, 59], [0, 1, 2, 3, 4, 5, 6, 7, 8, 9, 10, 11, 12, 13, 14, 15, 16, 17, 18, 19, 20, 21, 22, 23, 24, 25, 26, 27, 28, 29, 30, 31, 32, 33, 34, 35, 36, 37, 38, 39, 40, 41, 42, 43, 44, 45, 46, 47, 48, 49, 50, 51, 52, 53, 54, 55, 56, 57, 58, 59, 60], [0, 1, 2, 3, 4, 5, 6, 7, 8, 9, 10, 11, 12, 13, 14, 15, 16, 17, 18, 19, 20, 21, 22, 23, 24, 25, 26, 27, 28, 29, 30, 31, 32, 33, 34, 35, 36, 37, 38, 39, 40, 41, 42, 43, 44, 45, 46, 47, 48, 49, 50, 51, 52, 53, 54, 55, 56, 57, 58, 59, 60, 61], [0, 1, 2, 3, 4, 5, 6, 7, 8, 9, 10, 11, 12, 13, 14, 15, 16, 17, 18, 19, 20, 21, 22, 23, 24, 25, 26, 27, 28, 29, 30, 31, 32, 33, 34, 35, 36, 37, 38, 39, 40, 41, 42, 43, 44, 45, 46, 47, 48, 49, 50, 51, 52, 53, 54, 55, 56, 57, 58, 59, 60, 61, 62], [0, 1, 2, 3, 4, 5, 6, 7, 8, 9, 10, 11, 12, 13, 14, 15, 16, 17, 18, 19, 20, 21, 22, 23, 24, 25, 26, 27, 28, 29, 30, 31, 32, 33, 34, 35, 36, 37, 38, 39, 40, 41, 42, 43, 44, 45, 46, 47, 48, 49, 50, 51, 52, 53, 54, 55, 56, 57, 58, 59, 60, 61, 62, 63], [0, 1, 2, 3, 4, 5, 6, 7, 8, 9, 10, 11, 12, 13, 14, 15, 16, 17, 18, 19, 20, 21, 22, 23, 24, 25, 26, 27, 28, 29, 30, 31, 32, 33, 34, 35, 36, 37, 38, 39, 40, 41, 42, 43, 44, 45, 46, 47, 48, 49, 50, 51, 52, 53, 54, 55, 56, 57, 58, 59, 60, 61, 62, 63, 64], [0, 1, 2, 3, 4, 5, 6, 7, 8, 9, 10, 11, 12, 13, 14, 15, 16, 17, 18, 19, 20, 21, 22, 23, 24, 25, 26, 27, 28, 29, 30, 31, 32, 33, 34, 35, 36, 37, 38, 39, 40, 41, 42, 43, 44, 45, 46, 47, 48, 49, 50, 51, 52, 53, 54, 55, 56, 57, 58, 59, 60, 61, 62, 63, 64, 65], [0, 1, 2, 3, 4, 5, 6, 7, 8, 9, 10, 11, 12, 13, 14, 15, 16, 17, 18, 19, 20, 21, 22, 23, 24, 25, 26, 27, 28, 29, 30, 31, 32, 33, 34, 35, 36, 37, 38, 39, 40, 41, 42, 43, 44, 45, 46, 47, 48, 49, 50, 51, 52, 53, 54, 55, 56, 57, 58, 59, 60, 61, 62, 63, 64, 65, 66], [0, 1, 2, 3, 4, 5, 6, 7, 8, 9, 10, 11, 12, 13, 14, 15, 16, 17, 18, 19, 20, 21, 22, 23, 24, 25, 26, 27, 28, 29, 30, 31, 32, 33, 34, 35, 36, 37, 38, 39, 40, 41, 42, 43, 44, 45, 46, 47, 48, 49, 50, 51, 52, 53, 54, 55, 56, 57, 58, 59, 60, 61, 62, 63, 64, 65, 66, 67], [0, 1, 2, 3, 4, 5, 6, 7, 8, 9, 10, 11, 12, 13, 14, 15, 16, 17, 18, 19, 20, 21, 22, 23, 24, 25, 26, 27, 28, 29, 30, 31, 32, 33, 34, 35, 36, 37, 38, 39, 40, 41, 42, 43, 44, 45, 46, 47, 48, 49, 50, 51, 52, 53, 54, 55, 56, 57, 58, 59, 60, 61, 62, 63, 64, 65, 66, 67, 68], [0, 1, 2, 3, 4, 5, 6, 7, 8, 9, 10, 11, 12, 13, 14, 15, 16, 17, 18, 19, 20, 21, 22, 23, 24, 25, 26, 27, 28, 29, 30, 31, 32, 33, 34, 35, 36, 37, 38, 39, 40, 41, 42, 43, 44, 45, 46, 47, 48, 49, 50, 51, 52, 53, 54, 55, 56, 57, 58, 59, 60, 61, 62, 63, 64, 65, 66, 67, 68, 69], [0, 1, 2, 3, 4, 5, 6, 7, 8, 9, 10, 11, 12, 13, 14, 15, 16, 17, 18, 19, 20, 21, 22, 23, 24, 25, 26, 27, 28, 29, 30, 31, 32, 33, 34, 35, 36, 37, 38, 39, 40, 41, 42, 43, 44, 45, 46, 47, 48, 49, 50, 51, 52, 53, 54, 55, 56, 57, 58, 59, 60, 61, 62, 63, 64, 65, 66, 67, 68, 69, 70], [0, 1, 2, 3, 4, 5, 6, 7, 8, 9, 10, 11, 12, 13, 14, 15, 16, 17, 18, 19, 20, 21, 22, 23, 24, 25, 26, 27, 28, 29, 30, 31, 32, 33, 34, 35, 36, 37, 38, 39, 40, 41, 42, 43, 44, 45, 46, 47, 48, 49, 50, 51, 52, 53, 54, 55, 56, 57, 58, 59, 60, 61, 62, 63, 64, 65, 66, 67, 68, 69, 70, 71], [0, 1, 2, 3, 4, 5, 6, 7, 8, 9, 10, 11, 12, 13, 14, 15, 16, 17, 18, 19, 20, 21, 22, 23, 24, 25, 26, 27, 28, 29, 30, 31, 32, 33, 34, 35, 36, 37, 38, 39, 40, 41, 42, 43, 44, 45, 46, 47, 48, 49, 50, 51, 52, 53, 54, 55, 56, 57, 58, 59, 60, 61, 62, 63, 64, 65, 66, 67, 68, 69, 70, 71, 72], [0, 1, 2, 3, 4, 5, 6, 7, 8, 9, 10, 11, 12, 13, 14, 15, 16, 17, 18, 19, 20, 21, 22, 23, 24, 25, 26, 27, 28, 29, 30, 31, 32, 33, 34, 35, 36, 37, 38, 39, 40, 41, 42, 43, 44, 45, 46, 47, 48, 49, 50, 51, 52, 53, 54, 55, 56, 57, 58, 59, 60, 61, 62, 63, 64, 65, 66, 67, 68, 69, 70, 71, 72, 73], [0, 1, 2, 3, 4, 5, 6, 7, 8, 9, 10, 11, 12, 13, 14, 15, 16, 17, 18, 19, 20, 21, 22, 23, 24, 25, 26, 27, 28, 29, 30, 31, 32, 33, 34, 35, 36, 37, 38, 39, 40, 41, 42, 43, 44, 45, 46, 47, 48, 49, 50, 51, 52, 53, 54, 55, 56, 57, 58, 59, 60, 61, 62, 63, 64, 65, 66, 67, 68, 69, 70, 71, 72, 73, 74], [0, 1, 2, 3, 4, 5, 6, 7, 8, 9, 10, 11, 12, 13, 14, 15, 16, 17, 18, 19, 20, 21, 22, 23, 24, 25, 26, 27, 28, 29, 30, 31, 32, 33, 34, 35, 36, 37, 38, 39, 40, 41, 42, 43, 44, 45, 46, 47, 48, 49, 50, 51, 52, 53, 54, 55, 56, 57, 58, 59, 60, 61, 62, 63, 64, 65, 66, 67, 68, 69, 70, 71, 72, 73, 74, 75], [0, 1, 2, 3, 4, 5, 6, 7, 8, 9, 10, 11, 12, 13, 14, 15, 16, 17, 18, 19, 20, 21, 22, 23, 24, 25, 26, 27, 28, 29, 30, 31, 32, 33, 34, 35, 36, 37, 38, 39, 40, 41, 42, 43, 44, 45, 46, 47, 48, 49, 50, 51, 52, 53, 54, 55, 56, 57, 58, 59, 60, 61, 62, 63, 64, 65, 66, 67, 68, 69, 70, 71, 72, 73, 74, 75, 76], [0, 1, 2, 3, 4, 5, 6, 7, 8, 9, 10, 11, 12, 13, 14, 15, 16, 17, 18, 19, 20, 21, 22, 23, 24, 25, 26, 27, 28, 29, 30, 31, 32, 33, 34, 35, 36, 37, 38, 39, 40, 41, 42, 43, 44, 45, 46, 47, 48, 49, 50, 51, 52, 53, 54, 55, 56, 57, 58, 59, 60, 61, 62, 63, 64, 65, 66, 67, 68, 69, 70, 71, 72, 73, 74, 75, 76, 77], [0, 1, 2, 3, 4, 5, 6, 7, 8, 9, 10, 11, 12, 13, 14, 15, 16, 17, 18, 19, 20, 21, 22, 23, 24, 25, 26, 27, 28, 29, 30, 31, 32, 33, 34, 35, 36, 37, 38, 39, 40, 41, 42, 43, 44, 45, 46, 47, 48, 49, 50, 51, 52, 53, 54, 55, 56, 57, 58, 59, 60, 61, 62, 63, 64, 65, 66, 67, 68, 69, 70, 71, 72, 73, 74, 75, 76, 77, 78], [0, 1, 2, 3, 4, 5, 6, 7, 8, 9, 10, 11, 12, 13, 14, 15, 16, 17, 18, 19, 20, 21, 22, 23, 24, 25, 26, 27, 28, 29, 30, 31, 32, 33, 34, 35, 36, 37, 38, 39, 40, 41, 42, 43, 44, 45, 46, 47, 48, 49, 50, 51, 52, 53, 54, 55, 56, 57, 58, 59, 60, 61, 62, 63, 64, 65, 66, 67, 68, 69, 70, 71, 72, 73, 74, 75, 76, 77, 78, 79], [0, 1, 2, 3, 4, 5, 6, 7, 8, 9, 10, 11, 12, 13, 14, 15, 16, 17, 18, 19, 20, 21, 22, 23, 24, 25, 26, 27, 28, 29, 30, 31, 32, 33, 34, 35, 36, 37, 38, 39, 40, 41, 42, 43, 44, 45, 46, 47, 48, 49, 50, 51, 52, 53, 54, 55, 56, 57, 58, 59, 60, 61, 62, 63, 64, 65, 66, 67, 68, 69, 70, 71, 72, 73, 74, 75, 76, 77, 78, 79, 80], [0, 1, 2, 3, 4, 5, 6, 7, 8, 9, 10, 11, 12, 13, 14, 15, 16, 17, 18, 19, 20, 21, 22, 23, 24, 25, 26, 27, 28, 29, 30, 31, 32, 33, 34, 35, 36, 37, 38, 39, 40, 41, 42, 43, 44, 45, 46, 47, 48, 49, 50, 51, 52, 53, 54, 55, 56, 57, 58, 59, 60, 61, 62, 63, 64, 65, 66, 67, 68, 69, 70, 71, 72, 73, 74, 75, 76, 77, 78, 79], [0, 1, 2, 3, 4, 5, 6, 7, 8, 9, 10, 11, 12, 13, 14, 15, 16, 17, 18, 19, 20, 21, 22, 23, 24, 25, 26, 27, 28, 29, 30, 31, 32, 33, 34, 35, 36, 37, 38, 39, 40, 41, 42, 43, 44, 45, 46, 47, 48, 49, 50, 51, 52, 53, 54, 55, 56, 57, 58, 59, 60, 61, 62, 63, 64, 65, 66, 67, 68, 69, 70, 71, 72, 73, 74, 75, 76, 77, 78, 79, 82], [0, 1, 2, 3, 4, 5, 6, 7, 8, 9, 10, 11, 12, 13, 14, 15, 16, 17, 18, 19, 20, 21, 22, 23, 24, 25, 26, 27, 28, 29, 30, 31, 32, 33, 34, 35, 36, 37, 38, 39, 40, 41, 42, 43, 44, 45, 46, 47, 48, 49, 50, 51, 52, 53, 54, 55, 56, 57, 58, 59, 60, 61, 62, 63, 64, 65, 66, 67, 68, 69, 70, 71, 72, 73, 74, 75, 76, 77, 78, 79, 80, 81, 82, 83], [0, 1, 2, 3, 4, 5, 6, 7, 8, 9, 10, 11, 12, 13, 14, 15, 16, 17, 18, 19, 20, 21, 22, 23, 24, 25, 26, 27, 28, 29, 30, 31, 32, 33, 34, 35, 36, 37, 38, 39, 40, 41, 42, 43, 44, 45, 46, 47, 48, 49, 50, 51, 52, 53, 54, 55, 56, 57, 58, 59, 60, 61, 62, 63, 64, 65, 66, 67, 68, 69, 70, 71, 72, 73, 74, 75, 76, 77, 78, 79, 80, 81, 82, 83, 84], [0, 1, 2, 3, 4, 5, 6, 7, 8, 9, 10, 11, 12, 13, 14, 15, 16, 17, 18, 19, 20, 21, 22, 23, 24, 25, 26, 27, 28, 29, 30, 31, 32, 33, 34, 35, 36, 37, 38, 39, 40, 41, 42, 43, 44, 45, 46, 47, 48, 49, 50, 51, 52, 53, 54, 55, 56, 57, 58, 59, 60, 61, 62, 63, 64, 65, 66, 67, 68, 69, 70, 71, 72, 73, 74, 75, 76, 77, 78, 79, 80, 81, 82, 83, 84, 85], [0, 1, 2, 3, 4, 5, 6, 7, 8, 9, 10, 11, 12, 13, 14, 15, 16, 17, 18, 19, 20, 21, 22, 23, 24, 25, 26, 27, 28, 29, 30, 31, 32, 33, 34, 35, 36, 37, 38, 39, 40, 41, 42, 43, 44, 45, 46, 47, 48, 49, 50, 51, 52, 53, 54, 55, 56, 57, 58, 59, 60, 61, 62, 63, 64, 65, 66, 67, 68, 69, 70, 71, 72, 73, 74, 75, 76, 77, 78, 79, 80, 81, 82, 83, 84, 85, 86], [0, 1, 2, 3, 4, 5, 6, 7, 8, 9, 10, 11, 12, 13, 14, 15, 16, 17, 18, 19, 20, 21, 22, 23, 24, 25, 26, 27, 28, 29, 30, 31, 32, 33, 34, 35, 36, 37, 38, 39, 40, 41, 42, 43, 44, 45, 46, 47, 48, 49, 50, 51, 52, 53, 54, 55, 56, 57, 58, 59, 60, 61, 62, 63, 64, 65, 66, 67, 68, 69, 70, 71, 72, 73, 74, 75, 76, 77, 78, 79, 80, 81, 82, 83, 84, 85, 86, 87]] [83, 84] [(0, 0), (0, 0), (0, 0), (0, 0), (0, 0), (0, 0), (0, 0), (0, 0), (0, 0), (0, 0), (0, 0), (0, 0), (0, 0), (0, 0), (0, 0), (0, 0), (0, 0), (0, 0), (0, 0), (0, 0), (0, 0), (0, 0), (0, 0), (0, 0), (0, 0), (0, 0), (0, 0), (0, 0), (0, 0), (0, 0), (0, 0), (0, 0), (0, 0), (0, 0), (0, 0), (0, 0), (0, 0), (0, 0), (0, 0), (0, 0), (0, 0), (0, 0), (0, 0), (0, 0), (0, 0), (0, 0), (0, 0), (0, 0), (0, 0), (0, 0), (0, 0), (0, 0), (0, 0), (0, 0), (0, 0), (0, 0), (0, 0), (0, 0), (0, 0), (0, 0), (0, 0), (0, 0), (0, 0), (0, 0), (0, 0), (0, 0), (0, 0), (0, 0), (0, 0), (0, 0), (0, 0), (0, 0), (0, 0), (0, 0), (0, 0), (0, 0), (0, 0), (0, 0), (0, 0), (0, 0), (0, 1), (0, 1), (0, 0), (0, 0), (1, 1), (2, 2), (2, 2), (2, 2), (2, 2)] (by kernel_rfl) (by kernel_rfl) (by kernel_rfl) rfl (by kernel_rfl) (by kernel_rfl) (fun _ h1 h2 h3 h4 _ => hS107.same h1 h2 h3 h4) ?_ (AF_loc ⟨dA, dA, dA, dA, dA, dA, dA, dA, dA, dA, dA, dA, dA, dA, dA, dA, dA, dA, dA, dA, dA, dA, dA, dA, dA, dA, dA, dA, dA, dA, dA, dA, dA, dA, dA, dA, dA, dA, dA, dA, dA, dA, dA, dA, dA, dA, dA, dA, dA, dA, dA, dA, dA, dA, dA, dA, dA, dA, dA, dA, dA, dA, dA, dA, dA, dA, dA, dA, dA, dA, dA, dA, dA, dA, dA, dA, dA, dA, dA, dA, dA, dA, dA, dT, dT, dA, dA, dA, dA, trivial⟩) ⟨?_, ?_, ?_, ?_, ?_, ?_, ?_, ?_, ?_, ?_, ?_, ?_, ?_, ?_, ?_, ?_, ?_, ?_, ?_, ?_, ?_, ?_, ?_, ?_, ?_, ?_, ?_, ?_, ?_, ?_, ?_, ?_, ?_, ?_, ?_, ?_, ?_, ?_, ?_, ?_, ?_, ?_, ?_, ?_, ?_, ?_, ?_, ?_, ?_, ?_, ?_, ?_, ?_, ?_, ?_, ?_, ?_, ?_, ?_, ?_, ?_, ?_, ?_, ?_, ?_, ?_, ?_, ?_, ?_, ?_, ?_, ?_, ?_, ?_, ?_, ?_, ?_, ?_, ?_, ?_, ?_, ?_, ?_, ?_, ?_, ?_, ?_, ?_, ?_, trivial⟩ ?_
      ·intro k vals vals' w hv h
       have e : ∀ j ∈ ([83, 84] : List Nat), vals' j = vals j := hv
       match k, h with
       | 0, h => exact h
       | 1, h => exact (by simpa only [WF, List.getElem?_cons_zero, List.getElem?_cons_succ, e 83 (by decide)] using h)
       | 2, h => exact (by simpa only [WF, List.getElem?_cons_zero, List.getElem?_cons_succ, e 83 (by decide), e 84 (by decide)] using h)
       | _ + 3, _ => trivial
      ·intro k2362 vals w2363 h2366 h2367 hW2365 hA2364
       refine obl rfl ?_
       exact fd57_1 rfl (fun vals' hv _ => ⟨rfl, hv⟩)
      ·intro k2368 vals w2369 h2372 h2373 hW2371 hA2370
       obtain rfl : k2368 = 0 := Nat.le_antisymm h2373 h2372
       have hS2374 : Sep G53 w41 ((Blk b102 (((ansL (1 + q18) (laidL (1 + q18) l) self m chunk).getD k9 default).cells (cellV w41 (sb v40) (so v40 + k9 * 5 + 3)) (cellV w41 (sb v40) (so v40 + k9 * 5 + 4))).toArray 57) :: (SetO b24 (1 + q18) (laidL (1 + q18) l)) :: (Blk b2 (m.cells dm0 dm1).toArray 57) :: Rs) w2369 := hW2371
       have e2375 := hA2370 0 (by decide)
       refine obl rfl ?_
       exact ov_load1 (v := .int .i64 (((ansL (1 + q18) (laidL (1 + q18) l) self m chunk).getD k9 default).frm)) Try.isAgg3 e2375 (blk_cellL (hS2374.blk (i := 0) rfl) rfl) (fun vals' hv _ => ⟨rfl, hv⟩)
      ·intro k2376 vals w2377 h2380 h2381 hW2379 hA2378
       refine obl rfl ?_
       exact ov_move (v := .int .i64 (self)) rfl (fun vals' hv _ => ⟨rfl, hv⟩)
      ·intro k2382 vals w2383 h2386 h2387 hW2385 hA2384
       obtain rfl : k2382 = 0 := Nat.le_antisymm h2387 h2386
       have hS2388 : Sep G53 w41 ((Blk b102 (((ansL (1 + q18) (laidL (1 + q18) l) self m chunk).getD k9 default).cells (cellV w41 (sb v40) (so v40 + k9 * 5 + 3)) (cellV w41 (sb v40) (so v40 + k9 * 5 + 4))).toArray 57) :: (SetO b24 (1 + q18) (laidL (1 + q18) l)) :: (Blk b2 (m.cells dm0 dm1).toArray 57) :: Rs) w2383 := hW2385
       have e2389 := hA2384 1 (by decide)
       have e2390 := hA2384 2 (by decide)
       refine obl rfl ?_
       have hl2391 : (!decide ((((ansL (1 + q18) (laidL (1 + q18) l) self m chunk).getD k9 default).frm) = self)) = false := by rw [hxa9]; simp
       exact ov_neq (k := .i64) (a := ((ansL (1 + q18) (laidL (1 + q18) l) self m chunk).getD k9 default).frm) (b := self) e2389 e2390 (fun vals' hv _ => ⟨rfl, hv.trans (congrArg Value.bool hl2391)⟩)
      ·intro k2392 vals w2393 h2396 h2397 hW2395 hA2394
       have e2398 := hA2394 3 (by decide)
       refine obl rfl ?_
       exact ov_move (v := .bool false) e2398 (fun vals' hv _ => ⟨rfl, hv⟩)
      ·intro k2399 vals w2400 h2403 h2404 hW2402 hA2401
       have e2405 := hA2401 4 (by decide)
       refine oblc rfl rfl e2405 (fun _ => ?_) (fun hb => absurd rfl hb)
       exact fd57_2 rfl (fun vals' hv _ => ⟨rfl, hv⟩)
      ·intro k2406 vals w2407 h2410 h2411 hW2409 hA2408
       obtain rfl : k2406 = 0 := Nat.le_antisymm h2411 h2410
       have hS2412 : Sep G53 w41 ((Blk b102 (((ansL (1 + q18) (laidL (1 + q18) l) self m chunk).getD k9 default).cells (cellV w41 (sb v40) (so v40 + k9 * 5 + 3)) (cellV w41 (sb v40) (so v40 + k9 * 5 + 4))).toArray 57) :: (SetO b24 (1 + q18) (laidL (1 + q18) l)) :: (Blk b2 (m.cells dm0 dm1).toArray 57) :: Rs) w2407 := hW2409
       have e2413 := hA2408 4 (by decide)
       have e2414 := hA2408 5 (by decide)
       refine oblc rfl rfl e2413 (fun _ => ?_) (fun hb => absurd rfl hb)
       exact ov_load1 (v := .int .i64 (((ansL (1 + q18) (laidL (1 + q18) l) self m chunk).getD k9 default).dst)) Try.isAgg3 e2414 (blk_cellL (hS2412.blk (i := 0) rfl) rfl) (fun vals' hv _ => ⟨rfl, hv⟩)
      ·intro k2415 vals w2416 h2419 h2420 hW2418 hA2417
       have e2421 := hA2417 4 (by decide)
       refine oblc rfl rfl e2421 (fun _ => ?_) (fun hb => absurd rfl hb)
       exact fd57_1 rfl (fun vals' hv _ => ⟨rfl, hv⟩)
      ·intro k2422 vals w2423 h2426 h2427 hW2425 hA2424
       obtain rfl : k2422 = 0 := Nat.le_antisymm h2427 h2426
       have hS2428 : Sep G53 w41 ((Blk b102 (((ansL (1 + q18) (laidL (1 + q18) l) self m chunk).getD k9 default).cells (cellV w41 (sb v40) (so v40 + k9 * 5 + 3)) (cellV w41 (sb v40) (so v40 + k9 * 5 + 4))).toArray 57) :: (SetO b24 (1 + q18) (laidL (1 + q18) l)) :: (Blk b2 (m.cells dm0 dm1).toArray 57) :: Rs) w2423 := hW2425
       have e2429 := hA2424 4 (by decide)
       have e2430 := hA2424 7 (by decide)
       refine oblc rfl rfl e2429 (fun _ => ?_) (fun hb => absurd rfl hb)
       exact ov_load1 (v := .int .i64 (m.frm)) Try.isAgg3 e2430 (blk_cellL (hS2428.blk (i := 2) rfl) rfl) (fun vals' hv _ => ⟨rfl, hv⟩)
      ·intro k2431 vals w2432 h2435 h2436 hW2434 hA2433
       obtain rfl : k2431 = 0 := Nat.le_antisymm h2436 h2435
       have hS2437 : Sep G53 w41 ((Blk b102 (((ansL (1 + q18) (laidL (1 + q18) l) self m chunk).getD k9 default).cells (cellV w41 (sb v40) (so v40 + k9 * 5 + 3)) (cellV w41 (sb v40) (so v40 + k9 * 5 + 4))).toArray 57) :: (SetO b24 (1 + q18) (laidL (1 + q18) l)) :: (Blk b2 (m.cells dm0 dm1).toArray 57) :: Rs) w2432 := hW2434
       have e2438 := hA2433 4 (by decide)
       have e2439 := hA2433 6 (by decide)
       have e2440 := hA2433 8 (by decide)
       refine oblc rfl rfl e2438 (fun _ => ?_) (fun hb => absurd rfl hb)
       have hl2441 : (!decide ((((ansL (1 + q18) (laidL (1 + q18) l) self m chunk).getD k9 default).dst) = m.frm)) = false := by rw [hxb9]; simp
       exact ov_neq (k := .i64) (a := ((ansL (1 + q18) (laidL (1 + q18) l) self m chunk).getD k9 default).dst) (b := m.frm) e2439 e2440 (fun vals' hv _ => ⟨rfl, hv.trans (congrArg Value.bool hl2441)⟩)
      ·intro k2442 vals w2443 h2446 h2447 hW2445 hA2444
       have e2448 := hA2444 4 (by decide)
       have e2449 := hA2444 9 (by decide)
       refine obl rfl ?_
       exact ov_pick_f (v := .bool false) e2448 e2449 (fun vals' hv _ => ⟨rfl, hv⟩)
      ·intro k2450 vals w2451 h2454 h2455 hW2453 hA2452
       have e2456 := hA2452 10 (by decide)
       refine obl rfl ?_
       exact ov_move (v := .bool false) e2456 (fun vals' hv _ => ⟨rfl, hv⟩)
      ·intro k2457 vals w2458 h2461 h2462 hW2460 hA2459
       have e2463 := hA2459 11 (by decide)
       refine oblc rfl rfl e2463 (fun _ => ?_) (fun hb => absurd rfl hb)
       exact fd57_0 rfl (fun vals' hv _ => ⟨rfl, hv⟩)
      ·intro k2464 vals w2465 h2468 h2469 hW2467 hA2466
       obtain rfl : k2464 = 0 := Nat.le_antisymm h2469 h2468
       have hS2470 : Sep G53 w41 ((Blk b102 (((ansL (1 + q18) (laidL (1 + q18) l) self m chunk).getD k9 default).cells (cellV w41 (sb v40) (so v40 + k9 * 5 + 3)) (cellV w41 (sb v40) (so v40 + k9 * 5 + 4))).toArray 57) :: (SetO b24 (1 + q18) (laidL (1 + q18) l)) :: (Blk b2 (m.cells dm0 dm1).toArray 57) :: Rs) w2465 := hW2467
       have e2471 := hA2466 11 (by decide)
       have e2472 := hA2466 12 (by decide)
       refine oblc rfl rfl e2471 (fun _ => ?_) (fun hb => absurd rfl hb)
       exact ov_load1 (v := .int .i64 (((ansL (1 + q18) (laidL (1 + q18) l) self m chunk).getD k9 default).kind)) Try.isAgg3 e2472 (blk_cellL (hS2470.blk (i := 0) rfl) rfl) (fun vals' hv _ => ⟨rfl, hv⟩)
      ·intro k2473 vals w2474 h2477 h2478 hW2476 hA2475
       obtain rfl : k2473 = 0 := Nat.le_antisymm h2478 h2477
       have hS2479 : Sep G53 w41 ((Blk b102 (((ansL (1 + q18) (laidL (1 + q18) l) self m chunk).getD k9 default).cells (cellV w41 (sb v40) (so v40 + k9 * 5 + 3)) (cellV w41 (sb v40) (so v40 + k9 * 5 + 4))).toArray 57) :: (SetO b24 (1 + q18) (laidL (1 + q18) l)) :: (Blk b2 (m.cells dm0 dm1).toArray 57) :: Rs) w2474 := hW2476
       have e2480 := hA2475 11 (by decide)
       have e2481 := hA2475 13 (by decide)
       refine oblc rfl rfl e2480 (fun _ => ?_) (fun hb => absurd rfl hb)
       have hl2482 : (decide ((((ansL (1 + q18) (laidL (1 + q18) l) self m chunk).getD k9 default).kind) = 3)) = false := decide_eq_false (by omega)
       exact ov_eql (k := .i64) (a := ((ansL (1 + q18) (laidL (1 + q18) l) self m chunk).getD k9 default).kind) (b := 3) e2481 rfl (fun vals' hv _ => ⟨rfl, hv.trans (congrArg Value.bool hl2482)⟩)
      ·intro k2483 vals w2484 h2487 h2488 hW2486 hA2485
       have e2489 := hA2485 11 (by decide)
       have e2490 := hA2485 14 (by decide)
       refine oblc rfl rfl e2489 (fun _ => ?_) (fun hb => absurd rfl hb)
       exact ov_move (v := .bool false) e2490 (fun vals' hv _ => ⟨rfl, hv⟩)
      ·intro k2491 vals w2492 h2495 h2496 hW2494 hA2493
       have e2497 := hA2493 15 (by decide)
       exact oblc rfl rfl e2497 (fun hb => absurd hb (by decide)) (fun _ vals' hv _ => ⟨trivial, hv⟩)
      ·intro k2498 vals w2499 h2502 h2503 hW2501 hA2500
       obtain rfl : k2498 = 0 := Nat.le_antisymm h2503 h2502
       have hS2504 : Sep G53 w41 ((Blk b102 (((ansL (1 + q18) (laidL (1 + q18) l) self m chunk).getD k9 default).cells (cellV w41 (sb v40) (so v40 + k9 * 5 + 3)) (cellV w41 (sb v40) (so v40 + k9 * 5 + 4))).toArray 57) :: (SetO b24 (1 + q18) (laidL (1 + q18) l)) :: (Blk b2 (m.cells dm0 dm1).toArray 57) :: Rs) w2499 := hW2501
       have e2505 := hA2500 15 (by decide)
       have e2506 := hA2500 16 (by decide)
       exact oblc rfl rfl e2505 (fun hb => absurd hb (by decide)) (fun _ vals' hv _ => ⟨trivial, hv⟩)
      ·intro k2507 vals w2508 h2511 h2512 hW2510 hA2509
       have e2513 := hA2509 15 (by decide)
       have e2514 := hA2509 17 (by decide)
       exact oblc rfl rfl e2513 (fun hb => absurd hb (by decide)) (fun _ vals' hv _ => ⟨trivial, hv⟩)
      ·intro k2515 vals w2516 h2519 h2520 hW2518 hA2517
       have e2521 := hA2517 18 (by decide)
       exact oblu rfl rfl e2521 (fun vals' hv _ => ⟨trivial, hv⟩)
      ·intro k2522 vals w2523 h2526 h2527 hW2525 hA2524
       obtain rfl : k2522 = 0 := Nat.le_antisymm h2527 h2526
       have hS2528 : Sep G53 w41 ((Blk b102 (((ansL (1 + q18) (laidL (1 + q18) l) self m chunk).getD k9 default).cells (cellV w41 (sb v40) (so v40 + k9 * 5 + 3)) (cellV w41 (sb v40) (so v40 + k9 * 5 + 4))).toArray 57) :: (SetO b24 (1 + q18) (laidL (1 + q18) l)) :: (Blk b2 (m.cells dm0 dm1).toArray 57) :: Rs) w2523 := hW2525
       have e2529 := hA2524 18 (by decide)
       have e2530 := hA2524 19 (by decide)
       exact oblu rfl rfl e2529 (fun vals' hv _ => ⟨trivial, hv⟩)
      ·intro k2531 vals w2532 h2535 h2536 hW2534 hA2533
       obtain rfl : k2531 = 0 := Nat.le_antisymm h2536 h2535
       have hS2537 : Sep G53 w41 ((Blk b102 (((ansL (1 + q18) (laidL (1 + q18) l) self m chunk).getD k9 default).cells (cellV w41 (sb v40) (so v40 + k9 * 5 + 3)) (cellV w41 (sb v40) (so v40 + k9 * 5 + 4))).toArray 57) :: (SetO b24 (1 + q18) (laidL (1 + q18) l)) :: (Blk b2 (m.cells dm0 dm1).toArray 57) :: Rs) w2532 := hW2534
       have e2538 := hA2533 18 (by decide)
       have e2539 := hA2533 20 (by decide)
       exact oblu rfl rfl e2538 (fun vals' hv _ => ⟨trivial, hv⟩)
      ·intro k2540 vals w2541 h2544 h2545 hW2543 hA2542
       obtain rfl : k2540 = 0 := Nat.le_antisymm h2545 h2544
       have hS2546 : Sep G53 w41 ((Blk b102 (((ansL (1 + q18) (laidL (1 + q18) l) self m chunk).getD k9 default).cells (cellV w41 (sb v40) (so v40 + k9 * 5 + 3)) (cellV w41 (sb v40) (so v40 + k9 * 5 + 4))).toArray 57) :: (SetO b24 (1 + q18) (laidL (1 + q18) l)) :: (Blk b2 (m.cells dm0 dm1).toArray 57) :: Rs) w2541 := hW2543
       have e2547 := hA2542 18 (by decide)
       have e2548 := hA2542 21 (by decide)
       exact oblu rfl rfl e2547 (fun vals' hv _ => ⟨trivial, hv⟩)
      ·intro k2549 vals w2550 h2553 h2554 hW2552 hA2551
       have e2555 := hA2551 15 (by decide)
       have e2556 := hA2551 18 (by decide)
       have e2557 := hA2551 22 (by decide)
       exact oblc rfl rfl e2555 (fun hb => absurd hb (by decide)) (fun _ vals' hv _ => ⟨trivial, hv⟩)
      ·intro k2558 vals w2559 h2562 h2563 hW2561 hA2560
       have e2564 := hA2560 15 (by decide)
       have e2565 := hA2560 23 (by decide)
       exact oblc rfl rfl e2564 (fun hb => absurd hb (by decide)) (fun _ vals' hv _ => ⟨trivial, hv⟩)
      ·intro k2566 vals w2567 h2570 h2571 hW2569 hA2568
       have e2572 := hA2568 24 (by decide)
       exact oblu rfl rfl e2572 (fun vals' hv _ => ⟨trivial, hv⟩)
      ·intro k2573 vals w2574 h2577 h2578 hW2576 hA2575
       obtain rfl : k2573 = 0 := Nat.le_antisymm h2578 h2577
       have hS2579 : Sep G53 w41 ((Blk b102 (((ansL (1 + q18) (laidL (1 + q18) l) self m chunk).getD k9 default).cells (cellV w41 (sb v40) (so v40 + k9 * 5 + 3)) (cellV w41 (sb v40) (so v40 + k9 * 5 + 4))).toArray 57) :: (SetO b24 (1 + q18) (laidL (1 + q18) l)) :: (Blk b2 (m.cells dm0 dm1).toArray 57) :: Rs) w2574 := hW2576
       have e2580 := hA2575 24 (by decide)
       have e2581 := hA2575 25 (by decide)
       exact oblu rfl rfl e2580 (fun vals' hv _ => ⟨trivial, hv⟩)
      ·intro k2582 vals w2583 h2586 h2587 hW2585 hA2584
       obtain rfl : k2582 = 0 := Nat.le_antisymm h2587 h2586
       have hS2588 : Sep G53 w41 ((Blk b102 (((ansL (1 + q18) (laidL (1 + q18) l) self m chunk).getD k9 default).cells (cellV w41 (sb v40) (so v40 + k9 * 5 + 3)) (cellV w41 (sb v40) (so v40 + k9 * 5 + 4))).toArray 57) :: (SetO b24 (1 + q18) (laidL (1 + q18) l)) :: (Blk b2 (m.cells dm0 dm1).toArray 57) :: Rs) w2583 := hW2585
       have e2589 := hA2584 24 (by decide)
       have e2590 := hA2584 26 (by decide)
       exact oblu rfl rfl e2589 (fun vals' hv _ => ⟨trivial, hv⟩)
      ·intro k2591 vals w2592 h2595 h2596 hW2594 hA2593
       obtain rfl : k2591 = 0 := Nat.le_antisymm h2596 h2595
       have hS2597 : Sep G53 w41 ((Blk b102 (((ansL (1 + q18) (laidL (1 + q18) l) self m chunk).getD k9 default).cells (cellV w41 (sb v40) (so v40 + k9 * 5 + 3)) (cellV w41 (sb v40) (so v40 + k9 * 5 + 4))).toArray 57) :: (SetO b24 (1 + q18) (laidL (1 + q18) l)) :: (Blk b2 (m.cells dm0 dm1).toArray 57) :: Rs) w2592 := hW2594
       have e2598 := hA2593 24 (by decide)
       have e2599 := hA2593 27 (by decide)
       exact oblu rfl rfl e2598 (fun vals' hv _ => ⟨trivial, hv⟩)
      ·intro k2600 vals w2601 h2604 h2605 hW2603 hA2602
       have e2606 := hA2602 15 (by decide)
       have e2607 := hA2602 24 (by decide)
       have e2608 := hA2602 28 (by decide)
       exact oblc rfl rfl e2606 (fun hb => absurd hb (by decide)) (fun _ vals' hv _ => ⟨trivial, hv⟩)
      ·intro k2609 vals w2610 h2613 h2614 hW2612 hA2611
       have e2615 := hA2611 15 (by decide)
       have e2616 := hA2611 29 (by decide)
       exact oblc rfl rfl e2615 (fun hb => absurd hb (by decide)) (fun _ vals' hv _ => ⟨trivial, hv⟩)
      ·intro k2617 vals w2618 h2621 h2622 hW2620 hA2619
       have e2623 := hA2619 30 (by decide)
       exact oblu rfl rfl e2623 (fun vals' hv _ => ⟨trivial, hv⟩)
      ·intro k2624 vals w2625 h2628 h2629 hW2627 hA2626
       obtain rfl : k2624 = 0 := Nat.le_antisymm h2629 h2628
       have hS2630 : Sep G53 w41 ((Blk b102 (((ansL (1 + q18) (laidL (1 + q18) l) self m chunk).getD k9 default).cells (cellV w41 (sb v40) (so v40 + k9 * 5 + 3)) (cellV w41 (sb v40) (so v40 + k9 * 5 + 4))).toArray 57) :: (SetO b24 (1 + q18) (laidL (1 + q18) l)) :: (Blk b2 (m.cells dm0 dm1).toArray 57) :: Rs) w2625 := hW2627
       have e2631 := hA2626 30 (by decide)
       have e2632 := hA2626 31 (by decide)
       exact oblu rfl rfl e2631 (fun vals' hv _ => ⟨trivial, hv⟩)
      ·intro k2633 vals w2634 h2637 h2638 hW2636 hA2635
       obtain rfl : k2633 = 0 := Nat.le_antisymm h2638 h2637
       have hS2639 : Sep G53 w41 ((Blk b102 (((ansL (1 + q18) (laidL (1 + q18) l) self m chunk).getD k9 default).cells (cellV w41 (sb v40) (so v40 + k9 * 5 + 3)) (cellV w41 (sb v40) (so v40 + k9 * 5 + 4))).toArray 57) :: (SetO b24 (1 + q18) (laidL (1 + q18) l)) :: (Blk b2 (m.cells dm0 dm1).toArray 57) :: Rs) w2634 := hW2636
       have e2640 := hA2635 30 (by decide)
       have e2641 := hA2635 32 (by decide)
       exact oblu rfl rfl e2640 (fun vals' hv _ => ⟨trivial, hv⟩)
      ·intro k2642 vals w2643 h2646 h2647 hW2645 hA2644
       obtain rfl : k2642 = 0 := Nat.le_antisymm h2647 h2646
       have hS2648 : Sep G53 w41 ((Blk b102 (((ansL (1 + q18) (laidL (1 + q18) l) self m chunk).getD k9 default).cells (cellV w41 (sb v40) (so v40 + k9 * 5 + 3)) (cellV w41 (sb v40) (so v40 + k9 * 5 + 4))).toArray 57) :: (SetO b24 (1 + q18) (laidL (1 + q18) l)) :: (Blk b2 (m.cells dm0 dm1).toArray 57) :: Rs) w2643 := hW2645
       have e2649 := hA2644 30 (by decide)
       have e2650 := hA2644 33 (by decide)
       exact oblu rfl rfl e2649 (fun vals' hv _ => ⟨trivial, hv⟩)
      ·intro k2651 vals w2652 h2655 h2656 hW2654 hA2653
       have e2657 := hA2653 15 (by decide)
       have e2658 := hA2653 30 (by decide)
       have e2659 := hA2653 34 (by decide)
       exact oblc rfl rfl e2657 (fun hb => absurd hb (by decide)) (fun _ vals' hv _ => ⟨trivial, hv⟩)
      ·intro k2660 vals w2661 h2664 h2665 hW2663 hA2662
       have e2666 := hA2662 11 (by decide)
       have e2667 := hA2662 15 (by decide)
       have e2668 := hA2662 35 (by decide)
       refine oblc rfl rfl e2666 (fun _ => ?_) (fun hb => absurd rfl hb)
       exact ov_pick_f (v := .bool false) e2667 rfl (fun vals' hv _ => ⟨rfl, hv⟩)
      ·intro k2669 vals w2670 h2673 h2674 hW2672 hA2671
       have e2675 := hA2671 11 (by decide)
       have e2676 := hA2671 36 (by decide)
       refine obl rfl ?_
       exact ov_pick_f (v := .bool false) e2675 e2676 (fun vals' hv _ => ⟨rfl, hv⟩)
      ·intro k2677 vals w2678 h2681 h2682 hW2680 hA2679
       have e2683 := hA2679 37 (by decide)
       refine obl rfl ?_
       exact ov_move (v := .bool false) e2683 (fun vals' hv _ => ⟨rfl, hv⟩)
      ·intro k2684 vals w2685 h2688 h2689 hW2687 hA2686
       have e2690 := hA2686 38 (by decide)
       refine oblc rfl rfl e2690 (fun _ => ?_) (fun hb => absurd rfl hb)
       exact fd57_0 rfl (fun vals' hv _ => ⟨rfl, hv⟩)
      ·intro k2691 vals w2692 h2695 h2696 hW2694 hA2693
       obtain rfl : k2691 = 0 := Nat.le_antisymm h2696 h2695
       have hS2697 : Sep G53 w41 ((Blk b102 (((ansL (1 + q18) (laidL (1 + q18) l) self m chunk).getD k9 default).cells (cellV w41 (sb v40) (so v40 + k9 * 5 + 3)) (cellV w41 (sb v40) (so v40 + k9 * 5 + 4))).toArray 57) :: (SetO b24 (1 + q18) (laidL (1 + q18) l)) :: (Blk b2 (m.cells dm0 dm1).toArray 57) :: Rs) w2692 := hW2694
       have e2698 := hA2693 38 (by decide)
       have e2699 := hA2693 39 (by decide)
       refine oblc rfl rfl e2698 (fun _ => ?_) (fun hb => absurd rfl hb)
       exact ov_load1 (v := .int .i64 (((ansL (1 + q18) (laidL (1 + q18) l) self m chunk).getD k9 default).kind)) Try.isAgg3 e2699 (blk_cellL (hS2697.blk (i := 0) rfl) rfl) (fun vals' hv _ => ⟨rfl, hv⟩)
      ·intro k2700 vals w2701 h2704 h2705 hW2703 hA2702
       obtain rfl : k2700 = 0 := Nat.le_antisymm h2705 h2704
       have hS2706 : Sep G53 w41 ((Blk b102 (((ansL (1 + q18) (laidL (1 + q18) l) self m chunk).getD k9 default).cells (cellV w41 (sb v40) (so v40 + k9 * 5 + 3)) (cellV w41 (sb v40) (so v40 + k9 * 5 + 4))).toArray 57) :: (SetO b24 (1 + q18) (laidL (1 + q18) l)) :: (Blk b2 (m.cells dm0 dm1).toArray 57) :: Rs) w2701 := hW2703
       have e2707 := hA2702 38 (by decide)
       have e2708 := hA2702 40 (by decide)
       refine oblc rfl rfl e2707 (fun _ => ?_) (fun hb => absurd rfl hb)
       have hl2709 : (decide ((((ansL (1 + q18) (laidL (1 + q18) l) self m chunk).getD k9 default).kind) = 2)) = true := decide_eq_true (by omega)
       exact ov_eql (k := .i64) (a := ((ansL (1 + q18) (laidL (1 + q18) l) self m chunk).getD k9 default).kind) (b := 2) e2708 rfl (fun vals' hv _ => ⟨rfl, hv.trans (congrArg Value.bool hl2709)⟩)
      ·intro k2710 vals w2711 h2714 h2715 hW2713 hA2712
       have e2716 := hA2712 38 (by decide)
       have e2717 := hA2712 41 (by decide)
       refine oblc rfl rfl e2716 (fun _ => ?_) (fun hb => absurd rfl hb)
       exact ov_move (v := .bool true) e2717 (fun vals' hv _ => ⟨rfl, hv⟩)
      ·intro k2718 vals w2719 h2722 h2723 hW2721 hA2720
       have e2724 := hA2720 42 (by decide)
       refine oblc rfl rfl e2724 (fun _ => ?_) (fun hb => absurd rfl hb)
       exact fd57_0 rfl (fun vals' hv _ => ⟨rfl, hv⟩)
      ·intro k2725 vals w2726 h2729 h2730 hW2728 hA2727
       obtain rfl : k2725 = 0 := Nat.le_antisymm h2730 h2729
       have hS2731 : Sep G53 w41 ((Blk b102 (((ansL (1 + q18) (laidL (1 + q18) l) self m chunk).getD k9 default).cells (cellV w41 (sb v40) (so v40 + k9 * 5 + 3)) (cellV w41 (sb v40) (so v40 + k9 * 5 + 4))).toArray 57) :: (SetO b24 (1 + q18) (laidL (1 + q18) l)) :: (Blk b2 (m.cells dm0 dm1).toArray 57) :: Rs) w2726 := hW2728
       have e2732 := hA2727 42 (by decide)
       have e2733 := hA2727 43 (by decide)
       refine oblc rfl rfl e2732 (fun _ => ?_) (fun hb => absurd rfl hb)
       exact ov_load1 (v := .int .i64 (m.kind)) Try.isAgg3 e2733 (blk_cellL (hS2731.blk (i := 2) rfl) rfl) (fun vals' hv _ => ⟨rfl, hv⟩)
      ·intro k2734 vals w2735 h2738 h2739 hW2737 hA2736
       obtain rfl : k2734 = 0 := Nat.le_antisymm h2739 h2738
       have hS2740 : Sep G53 w41 ((Blk b102 (((ansL (1 + q18) (laidL (1 + q18) l) self m chunk).getD k9 default).cells (cellV w41 (sb v40) (so v40 + k9 * 5 + 3)) (cellV w41 (sb v40) (so v40 + k9 * 5 + 4))).toArray 57) :: (SetO b24 (1 + q18) (laidL (1 + q18) l)) :: (Blk b2 (m.cells dm0 dm1).toArray 57) :: Rs) w2735 := hW2737
       have e2741 := hA2736 42 (by decide)
       have e2742 := hA2736 44 (by decide)
       refine oblc rfl rfl e2741 (fun _ => ?_) (fun hb => absurd rfl hb)
       have hl2743 : (!decide (m.kind = 1)) = false := by rw [hq2]; simp
       exact ov_neq (k := .i64) (a := m.kind) (b := 1) e2742 rfl (fun vals' hv _ => ⟨rfl, hv.trans (congrArg Value.bool hl2743)⟩)
      ·intro k2744 vals w2745 h2748 h2749 hW2747 hA2746
       have e2750 := hA2746 42 (by decide)
       have e2751 := hA2746 45 (by decide)
       refine oblc rfl rfl e2750 (fun _ => ?_) (fun hb => absurd rfl hb)
       exact ov_move (v := .bool false) e2751 (fun vals' hv _ => ⟨rfl, hv⟩)
      ·intro k2752 vals w2753 h2756 h2757 hW2755 hA2754
       have e2758 := hA2754 46 (by decide)
       refine oblc rfl rfl e2758 (fun _ => ?_) (fun hb => absurd rfl hb)
       exact ov_move (v := .int .i64 ((k9 : Nat) : Int)) rfl (fun vals' hv _ => ⟨rfl, hv⟩)
      ·intro k2759 vals w2760 h2763 h2764 hW2762 hA2761
       have e2765 := hA2761 46 (by decide)
       refine oblc rfl rfl e2765 (fun _ => ?_) (fun hb => absurd rfl hb)
       exact ov_move (v := v40) rfl (fun vals' hv _ => ⟨rfl, hv⟩)
      ·intro k2766 vals w2767 h2770 h2771 hW2769 hA2768
       obtain rfl : k2766 = 0 := Nat.le_antisymm h2771 h2770
       have hS2772 : Sep G53 w41 ((Blk b102 (((ansL (1 + q18) (laidL (1 + q18) l) self m chunk).getD k9 default).cells (cellV w41 (sb v40) (so v40 + k9 * 5 + 3)) (cellV w41 (sb v40) (so v40 + k9 * 5 + 4))).toArray 57) :: (SetO b24 (1 + q18) (laidL (1 + q18) l)) :: (Blk b2 (m.cells dm0 dm1).toArray 57) :: Rs) w2767 := hW2769
       have e2773 := hA2768 46 (by decide)
       have e2774 := hA2768 48 (by decide)
       refine oblc rfl rfl e2773 (fun _ => ?_) (fun hb => absurd rfl hb)
       exact ov_len (n := (ansL (1 + q18) (laidL (1 + q18) l) self m chunk).length) Try.underlying58 e2774 hrd59.sl (fun vals' hv _ => ⟨rfl, hv⟩)
      ·intro k2775 vals w2776 h2779 h2780 hW2778 hA2777
       obtain rfl : k2775 = 0 := Nat.le_antisymm h2780 h2779
       have hS2781 : Sep G53 w41 ((Blk b102 (((ansL (1 + q18) (laidL (1 + q18) l) self m chunk).getD k9 default).cells (cellV w41 (sb v40) (so v40 + k9 * 5 + 3)) (cellV w41 (sb v40) (so v40 + k9 * 5 + 4))).toArray 57) :: (SetO b24 (1 + q18) (laidL (1 + q18) l)) :: (Blk b2 (m.cells dm0 dm1).toArray 57) :: Rs) w2776 := hW2778
       have e2782 := hA2777 46 (by decide)
       have e2783 := hA2777 49 (by decide)
       refine oblc rfl rfl e2782 (fun _ => ?_) (fun hb => absurd rfl hb)
       have hr2784 : InR ((((ansL (1 + q18) (laidL (1 + q18) l) self m chunk).length) - 1 : Nat) : Int) := by first | omega | (simp only [lens]; omega)
       exact ov_sub (r := ((((ansL (1 + q18) (laidL (1 + q18) l) self m chunk).length) - 1 : Nat) : Int)) (k := .i64) (a := (((ansL (1 + q18) (laidL (1 + q18) l) self m chunk).length : Nat) : Int)) (b := 1) e2783 rfl (by rw [show ((((ansL (1 + q18) (laidL (1 + q18) l) self m chunk).length : Nat) : Int) - 1 : Int) = ((((ansL (1 + q18) (laidL (1 + q18) l) self m chunk).length) - 1 : Nat) : Int) by first | omega | (simp only [lens]; omega)]; exact wrap_in hr2784) (fun vals' hv _ => ⟨rfl, hv⟩)
      ·intro k2785 vals w2786 h2789 h2790 hW2788 hA2787
       obtain rfl : k2785 = 0 := Nat.le_antisymm h2790 h2789
       have hS2791 : Sep G53 w41 ((Blk b102 (((ansL (1 + q18) (laidL (1 + q18) l) self m chunk).getD k9 default).cells (cellV w41 (sb v40) (so v40 + k9 * 5 + 3)) (cellV w41 (sb v40) (so v40 + k9 * 5 + 4))).toArray 57) :: (SetO b24 (1 + q18) (laidL (1 + q18) l)) :: (Blk b2 (m.cells dm0 dm1).toArray 57) :: Rs) w2786 := hW2788
       have e2792 := hA2787 46 (by decide)
       have e2793 := hA2787 47 (by decide)
       have e2794 := hA2787 50 (by decide)
       refine oblc rfl rfl e2792 (fun _ => ?_) (fun hb => absurd rfl hb)
       have hl2795 : (!decide (((k9 : Nat) : Int) = ((((ansL (1 + q18) (laidL (1 + q18) l) self m chunk).length) - 1 : Nat) : Int))) = false := by simp; omega
       exact ov_neq (k := .i64) (a := ((k9 : Nat) : Int)) (b := ((((ansL (1 + q18) (laidL (1 + q18) l) self m chunk).length) - 1 : Nat) : Int)) e2793 e2794 (fun vals' hv _ => ⟨rfl, hv.trans (congrArg Value.bool hl2795)⟩)
      ·intro k2796 vals w2797 h2800 h2801 hW2799 hA2798
       have e2802 := hA2798 42 (by decide)
       have e2803 := hA2798 46 (by decide)
       have e2804 := hA2798 51 (by decide)
       refine oblc rfl rfl e2802 (fun _ => ?_) (fun hb => absurd rfl hb)
       exact ov_pick_f (v := .bool false) e2803 e2804 (fun vals' hv _ => ⟨rfl, hv⟩)
      ·intro k2805 vals w2806 h2809 h2810 hW2808 hA2807
       have e2811 := hA2807 38 (by decide)
       have e2812 := hA2807 42 (by decide)
       have e2813 := hA2807 52 (by decide)
       refine oblc rfl rfl e2811 (fun _ => ?_) (fun hb => absurd rfl hb)
       exact ov_pick_t (v := .bool false) e2812 e2813 (fun vals' hv _ => ⟨rfl, hv⟩)
      ·intro k2814 vals w2815 h2818 h2819 hW2817 hA2816
       have e2820 := hA2816 38 (by decide)
       have e2821 := hA2816 53 (by decide)
       refine obl rfl ?_
       exact ov_pick_f (v := .bool false) e2820 e2821 (fun vals' hv _ => ⟨rfl, hv⟩)
      ·intro k2822 vals w2823 h2826 h2827 hW2825 hA2824
       have e2828 := hA2824 54 (by decide)
       refine obl rfl ?_
       exact ov_move (v := .bool false) e2828 (fun vals' hv _ => ⟨rfl, hv⟩)
      ·intro k2829 vals w2830 h2833 h2834 hW2832 hA2831
       have e2835 := hA2831 55 (by decide)
       refine oblc rfl rfl e2835 (fun _ => ?_) (fun hb => absurd rfl hb)
       exact fd57_0 rfl (fun vals' hv _ => ⟨rfl, hv⟩)
      ·intro k2836 vals w2837 h2840 h2841 hW2839 hA2838
       obtain rfl : k2836 = 0 := Nat.le_antisymm h2841 h2840
       have hS2842 : Sep G53 w41 ((Blk b102 (((ansL (1 + q18) (laidL (1 + q18) l) self m chunk).getD k9 default).cells (cellV w41 (sb v40) (so v40 + k9 * 5 + 3)) (cellV w41 (sb v40) (so v40 + k9 * 5 + 4))).toArray 57) :: (SetO b24 (1 + q18) (laidL (1 + q18) l)) :: (Blk b2 (m.cells dm0 dm1).toArray 57) :: Rs) w2837 := hW2839
       have e2843 := hA2838 55 (by decide)
       have e2844 := hA2838 56 (by decide)
       refine oblc rfl rfl e2843 (fun _ => ?_) (fun hb => absurd rfl hb)
       exact ov_load1 (v := .int .i64 (((ansL (1 + q18) (laidL (1 + q18) l) self m chunk).getD k9 default).kind)) Try.isAgg3 e2844 (blk_cellL (hS2842.blk (i := 0) rfl) rfl) (fun vals' hv _ => ⟨rfl, hv⟩)
      ·intro k2845 vals w2846 h2849 h2850 hW2848 hA2847
       obtain rfl : k2845 = 0 := Nat.le_antisymm h2850 h2849
       have hS2851 : Sep G53 w41 ((Blk b102 (((ansL (1 + q18) (laidL (1 + q18) l) self m chunk).getD k9 default).cells (cellV w41 (sb v40) (so v40 + k9 * 5 + 3)) (cellV w41 (sb v40) (so v40 + k9 * 5 + 4))).toArray 57) :: (SetO b24 (1 + q18) (laidL (1 + q18) l)) :: (Blk b2 (m.cells dm0 dm1).toArray 57) :: Rs) w2846 := hW2848
       have e2852 := hA2847 55 (by decide)
       have e2853 := hA2847 57 (by decide)
       refine oblc rfl rfl e2852 (fun _ => ?_) (fun hb => absurd rfl hb)
       have hl2854 : (decide ((((ansL (1 + q18) (laidL (1 + q18) l) self m chunk).getD k9 default).kind) = 4)) = false := decide_eq_false (by omega)
       exact ov_eql (k := .i64) (a := ((ansL (1 + q18) (laidL (1 + q18) l) self m chunk).getD k9 default).kind) (b := 4) e2853 rfl (fun vals' hv _ => ⟨rfl, hv.trans (congrArg Value.bool hl2854)⟩)
      ·intro k2855 vals w2856 h2859 h2860 hW2858 hA2857
       have e2861 := hA2857 55 (by decide)
       have e2862 := hA2857 58 (by decide)
       refine oblc rfl rfl e2861 (fun _ => ?_) (fun hb => absurd rfl hb)
       exact ov_move (v := .bool false) e2862 (fun vals' hv _ => ⟨rfl, hv⟩)
      ·intro k2863 vals w2864 h2867 h2868 hW2866 hA2865
       have e2869 := hA2865 59 (by decide)
       exact oblc rfl rfl e2869 (fun hb => absurd hb (by decide)) (fun _ vals' hv _ => ⟨trivial, hv⟩)
      ·intro k2870 vals w2871 h2874 h2875 hW2873 hA2872
       obtain rfl : k2870 = 0 := Nat.le_antisymm h2875 h2874
       have hS2876 : Sep G53 w41 ((Blk b102 (((ansL (1 + q18) (laidL (1 + q18) l) self m chunk).getD k9 default).cells (cellV w41 (sb v40) (so v40 + k9 * 5 + 3)) (cellV w41 (sb v40) (so v40 + k9 * 5 + 4))).toArray 57) :: (SetO b24 (1 + q18) (laidL (1 + q18) l)) :: (Blk b2 (m.cells dm0 dm1).toArray 57) :: Rs) w2871 := hW2873
       have e2877 := hA2872 59 (by decide)
       have e2878 := hA2872 60 (by decide)
       exact oblc rfl rfl e2877 (fun hb => absurd hb (by decide)) (fun _ vals' hv _ => ⟨trivial, hv⟩)
      ·intro k2879 vals w2880 h2883 h2884 hW2882 hA2881
       obtain rfl : k2879 = 0 := Nat.le_antisymm h2884 h2883
       have hS2885 : Sep G53 w41 ((Blk b102 (((ansL (1 + q18) (laidL (1 + q18) l) self m chunk).getD k9 default).cells (cellV w41 (sb v40) (so v40 + k9 * 5 + 3)) (cellV w41 (sb v40) (so v40 + k9 * 5 + 4))).toArray 57) :: (SetO b24 (1 + q18) (laidL (1 + q18) l)) :: (Blk b2 (m.cells dm0 dm1).toArray 57) :: Rs) w2880 := hW2882
       have e2886 := hA2881 59 (by decide)
       have e2887 := hA2881 61 (by decide)
       exact oblc rfl rfl e2886 (fun hb => absurd hb (by decide)) (fun _ vals' hv _ => ⟨trivial, hv⟩)
      ·intro k2888 vals w2889 h2892 h2893 hW2891 hA2890
       have e2894 := hA2890 55 (by decide)
       have e2895 := hA2890 59 (by decide)
       have e2896 := hA2890 62 (by decide)
       refine oblc rfl rfl e2894 (fun _ => ?_) (fun hb => absurd rfl hb)
       exact ov_pick_f (v := .bool false) e2895 rfl (fun vals' hv _ => ⟨rfl, hv⟩)
      ·intro k2897 vals w2898 h2901 h2902 hW2900 hA2899
       have e2903 := hA2899 55 (by decide)
       have e2904 := hA2899 63 (by decide)
       refine obl rfl ?_
       exact ov_pick_f (v := .bool false) e2903 e2904 (fun vals' hv _ => ⟨rfl, hv⟩)
      ·intro k2905 vals w2906 h2909 h2910 hW2908 hA2907
       have e2911 := hA2907 64 (by decide)
       refine obl rfl ?_
       exact ov_move (v := .bool false) e2911 (fun vals' hv _ => ⟨rfl, hv⟩)
      ·intro k2912 vals w2913 h2916 h2917 hW2915 hA2914
       have e2918 := hA2914 65 (by decide)
       refine oblc rfl rfl e2918 (fun _ => ?_) (fun hb => absurd rfl hb)
       exact fd57_0 rfl (fun vals' hv _ => ⟨rfl, hv⟩)
      ·intro k2919 vals w2920 h2923 h2924 hW2922 hA2921
       obtain rfl : k2919 = 0 := Nat.le_antisymm h2924 h2923
       have hS2925 : Sep G53 w41 ((Blk b102 (((ansL (1 + q18) (laidL (1 + q18) l) self m chunk).getD k9 default).cells (cellV w41 (sb v40) (so v40 + k9 * 5 + 3)) (cellV w41 (sb v40) (so v40 + k9 * 5 + 4))).toArray 57) :: (SetO b24 (1 + q18) (laidL (1 + q18) l)) :: (Blk b2 (m.cells dm0 dm1).toArray 57) :: Rs) w2920 := hW2922
       have e2926 := hA2921 65 (by decide)
       have e2927 := hA2921 66 (by decide)
       refine oblc rfl rfl e2926 (fun _ => ?_) (fun hb => absurd rfl hb)
       exact ov_load1 (v := .int .i64 (((ansL (1 + q18) (laidL (1 + q18) l) self m chunk).getD k9 default).kind)) Try.isAgg3 e2927 (blk_cellL (hS2925.blk (i := 0) rfl) rfl) (fun vals' hv _ => ⟨rfl, hv⟩)
      ·intro k2928 vals w2929 h2932 h2933 hW2931 hA2930
       obtain rfl : k2928 = 0 := Nat.le_antisymm h2933 h2932
       have hS2934 : Sep G53 w41 ((Blk b102 (((ansL (1 + q18) (laidL (1 + q18) l) self m chunk).getD k9 default).cells (cellV w41 (sb v40) (so v40 + k9 * 5 + 3)) (cellV w41 (sb v40) (so v40 + k9 * 5 + 4))).toArray 57) :: (SetO b24 (1 + q18) (laidL (1 + q18) l)) :: (Blk b2 (m.cells dm0 dm1).toArray 57) :: Rs) w2929 := hW2931
       have e2935 := hA2930 65 (by decide)
       have e2936 := hA2930 67 (by decide)
       refine oblc rfl rfl e2935 (fun _ => ?_) (fun hb => absurd rfl hb)
       have hl2937 : (decide ((((ansL (1 + q18) (laidL (1 + q18) l) self m chunk).getD k9 default).kind) = 1)) = false := decide_eq_false (by omega)
       exact ov_eql (k := .i64) (a := ((ansL (1 + q18) (laidL (1 + q18) l) self m chunk).getD k9 default).kind) (b := 1) e2936 rfl (fun vals' hv _ => ⟨rfl, hv.trans (congrArg Value.bool hl2937)⟩)
      ·intro k2938 vals w2939 h2942 h2943 hW2941 hA2940
       have e2944 := hA2940 65 (by decide)
       have e2945 := hA2940 68 (by decide)
       refine obl rfl ?_
       exact ov_pick_f (v := .bool false) e2944 e2945 (fun vals' hv _ => ⟨rfl, hv⟩)
      ·intro k2946 vals w2947 h2950 h2951 hW2949 hA2948
       have e2952 := hA2948 69 (by decide)
       refine obl rfl ?_
       exact ov_move (v := .bool false) e2952 (fun vals' hv _ => ⟨rfl, hv⟩)
      ·intro k2953 vals w2954 h2957 h2958 hW2956 hA2955
       have e2959 := hA2955 70 (by decide)
       refine oblc rfl rfl e2959 (fun _ => ?_) (fun hb => absurd rfl hb)
       exact fd57_0 rfl (fun vals' hv _ => ⟨rfl, hv⟩)
      ·intro k2960 vals w2961 h2964 h2965 hW2963 hA2962
       obtain rfl : k2960 = 0 := Nat.le_antisymm h2965 h2964
       have hS2966 : Sep G53 w41 ((Blk b102 (((ansL (1 + q18) (laidL (1 + q18) l) self m chunk).getD k9 default).cells (cellV w41 (sb v40) (so v40 + k9 * 5 + 3)) (cellV w41 (sb v40) (so v40 + k9 * 5 + 4))).toArray 57) :: (SetO b24 (1 + q18) (laidL (1 + q18) l)) :: (Blk b2 (m.cells dm0 dm1).toArray 57) :: Rs) w2961 := hW2963
       have e2967 := hA2962 70 (by decide)
       have e2968 := hA2962 71 (by decide)
       refine oblc rfl rfl e2967 (fun _ => ?_) (fun hb => absurd rfl hb)
       exact ov_load1 (v := .int .i64 (((ansL (1 + q18) (laidL (1 + q18) l) self m chunk).getD k9 default).kind)) Try.isAgg3 e2968 (blk_cellL (hS2966.blk (i := 0) rfl) rfl) (fun vals' hv _ => ⟨rfl, hv⟩)
      ·intro k2969 vals w2970 h2973 h2974 hW2972 hA2971
       obtain rfl : k2969 = 0 := Nat.le_antisymm h2974 h2973
       have hS2975 : Sep G53 w41 ((Blk b102 (((ansL (1 + q18) (laidL (1 + q18) l) self m chunk).getD k9 default).cells (cellV w41 (sb v40) (so v40 + k9 * 5 + 3)) (cellV w41 (sb v40) (so v40 + k9 * 5 + 4))).toArray 57) :: (SetO b24 (1 + q18) (laidL (1 + q18) l)) :: (Blk b2 (m.cells dm0 dm1).toArray 57) :: Rs) w2970 := hW2972
       have e2976 := hA2971 70 (by decide)
       have e2977 := hA2971 72 (by decide)
       refine oblc rfl rfl e2976 (fun _ => ?_) (fun hb => absurd rfl hb)
       have hl2978 : (!decide ((((ansL (1 + q18) (laidL (1 + q18) l) self m chunk).getD k9 default).kind) = 3)) = true := by rw [hq1]; simp
       exact ov_neq (k := .i64) (a := ((ansL (1 + q18) (laidL (1 + q18) l) self m chunk).getD k9 default).kind) (b := 3) e2977 rfl (fun vals' hv _ => ⟨rfl, hv.trans (congrArg Value.bool hl2978)⟩)
      ·intro k2979 vals w2980 h2983 h2984 hW2982 hA2981
       have e2985 := hA2981 70 (by decide)
       have e2986 := hA2981 73 (by decide)
       refine oblc rfl rfl e2985 (fun _ => ?_) (fun hb => absurd rfl hb)
       exact ov_move (v := .bool true) e2986 (fun vals' hv _ => ⟨rfl, hv⟩)
      ·intro k2987 vals w2988 h2991 h2992 hW2990 hA2989
       have e2993 := hA2989 74 (by decide)
       refine oblc rfl rfl e2993 (fun _ => ?_) (fun hb => absurd rfl hb)
       exact fd57_4 rfl (fun vals' hv _ => ⟨rfl, hv⟩)
      ·intro k2994 vals w2995 h2998 h2999 hW2997 hA2996
       obtain rfl : k2994 = 0 := Nat.le_antisymm h2999 h2998
       have hS3000 : Sep G53 w41 ((Blk b102 (((ansL (1 + q18) (laidL (1 + q18) l) self m chunk).getD k9 default).cells (cellV w41 (sb v40) (so v40 + k9 * 5 + 3)) (cellV w41 (sb v40) (so v40 + k9 * 5 + 4))).toArray 57) :: (SetO b24 (1 + q18) (laidL (1 + q18) l)) :: (Blk b2 (m.cells dm0 dm1).toArray 57) :: Rs) w2995 := hW2997
       have e3001 := hA2996 74 (by decide)
       have e3002 := hA2996 75 (by decide)
       refine oblc rfl rfl e3001 (fun _ => ?_) (fun hb => absurd rfl hb)
       exact ov_load1 (v := (cellV w41 (sb v40) (so v40 + k9 * 5 + 4))) Try.isAgg22 e3002 (blk_cellL (hS3000.blk (i := 0) rfl) rfl) (fun vals' hv _ => ⟨rfl, hv⟩)
      ·intro k3003 vals w3004 h3007 h3008 hW3006 hA3005
       obtain rfl : k3003 = 0 := Nat.le_antisymm h3008 h3007
       have hS3009 : Sep G53 w41 ((Blk b102 (((ansL (1 + q18) (laidL (1 + q18) l) self m chunk).getD k9 default).cells (cellV w41 (sb v40) (so v40 + k9 * 5 + 3)) (cellV w41 (sb v40) (so v40 + k9 * 5 + 4))).toArray 57) :: (SetO b24 (1 + q18) (laidL (1 + q18) l)) :: (Blk b2 (m.cells dm0 dm1).toArray 57) :: Rs) w3004 := hW3006
       have e3010 := hA3005 74 (by decide)
       have e3011 := hA3005 76 (by decide)
       refine oblc rfl rfl e3010 (fun _ => ?_) (fun hb => absurd rfl hb)
       exact ov_len (n := (((ansL (1 + q18) (laidL (1 + q18) l) self m chunk).getD k9 default).evs).length) Try.underlying22 e3011 hde96_1.sl (fun vals' hv _ => ⟨rfl, hv⟩)
      ·intro k3012 vals w3013 h3016 h3017 hW3015 hA3014
       obtain rfl : k3012 = 0 := Nat.le_antisymm h3017 h3016
       have hS3018 : Sep G53 w41 ((Blk b102 (((ansL (1 + q18) (laidL (1 + q18) l) self m chunk).getD k9 default).cells (cellV w41 (sb v40) (so v40 + k9 * 5 + 3)) (cellV w41 (sb v40) (so v40 + k9 * 5 + 4))).toArray 57) :: (SetO b24 (1 + q18) (laidL (1 + q18) l)) :: (Blk b2 (m.cells dm0 dm1).toArray 57) :: Rs) w3013 := hW3015
       have e3019 := hA3014 74 (by decide)
       have e3020 := hA3014 77 (by decide)
       refine oblc rfl rfl e3019 (fun _ => ?_) (fun hb => absurd rfl hb)
       have hl3021 : (decide (0 < (((((ansL (1 + q18) (laidL (1 + q18) l) self m chunk).getD k9 default).evs).length : Nat) : Int))) = false := decide_eq_false (by omega)
       exact ov_gtr (k := .i64) (a := (((((ansL (1 + q18) (laidL (1 + q18) l) self m chunk).getD k9 default).evs).length : Nat) : Int)) (b := 0) e3020 rfl (fun vals' hv _ => ⟨rfl, hv.trans (congrArg Value.bool hl3021)⟩)
      ·intro k3022 vals w3023 h3026 h3027 hW3025 hA3024
       have e3028 := hA3024 74 (by decide)
       have e3029 := hA3024 78 (by decide)
       refine oblc rfl rfl e3028 (fun _ => ?_) (fun hb => absurd rfl hb)
       exact ov_move (v := .bool false) e3029 (fun vals' hv _ => ⟨rfl, hv⟩)
      ·intro k3030 vals w3031 h3034 h3035 hW3033 hA3032
       have e3036 := hA3032 79 (by decide)
       refine oblc rfl rfl e3036 (fun _ => ?_) (fun hb => absurd rfl hb)
       exact fd57_3 rfl (fun vals' hv _ => ⟨rfl, hv⟩)
      ·intro k3037 vals w3038 h3041 h3042 hW3040 hA3039
       have hkk : k3037 = 0 ∨ k3037 = 1 := by have h1 : 0 ≤ k3037 := h3041; have h2 : k3037 ≤ 1 := h3042; omega
       rcases hkk with rfl | rfl
       ·skip
        have hS3043 : Sep G53 w41 ((Blk b102 (((ansL (1 + q18) (laidL (1 + q18) l) self m chunk).getD k9 default).cells (cellV w41 (sb v40) (so v40 + k9 * 5 + 3)) (cellV w41 (sb v40) (so v40 + k9 * 5 + 4))).toArray 57) :: (SetO b24 (1 + q18) (laidL (1 + q18) l)) :: (Blk b2 (m.cells dm0 dm1).toArray 57) :: Rs) w3038 := hW3040
        have e3044 := hA3039 79 (by decide)
        have e3045 := hA3039 80 (by decide)
        refine oblc rfl rfl e3044 (fun _ => ?_) (fun hb => absurd rfl hb)
        exact ov_load1 (v := (cellV w41 (sb v40) (so v40 + k9 * 5 + 3))) Try.isAgg34 e3045 (blk_cellL (hS3043.blk (i := 0) rfl) rfl) (fun vals' hv _ => ⟨rfl, hv⟩)
       ·skip
        obtain ⟨v2300, he2305, hS3046⟩ := hW3040
        have e3047 := hA3039 79 (by decide)
        have e3048 := hA3039 80 (by decide)
        refine oblc rfl rfl e3047 (fun _ => ?_) (fun hb => absurd rfl hb)
        exact ov_load1 (v := (cellV w41 (sb v40) (so v40 + k9 * 5 + 3))) Try.isAgg34 e3048 (blk_cellL (hS3046.blk (i := 2) rfl) rfl) (fun vals' hv _ => ⟨rfl, hv⟩)
      ·intro k3049 vals w3050 h3053 h3054 hW3052 hA3051
       have e3055 := hA3051 79 (by decide)
       refine oblc rfl rfl e3055 (fun _ => ?_) (fun hb => absurd rfl hb)
       exact ov_move (v := .pointer (some ⟨b24, 0, none⟩)) rfl (fun vals' hv _ => ⟨rfl, hv⟩)
      ·intro k2277 vals w2278 h2281 h2282 hW2280 hA2279
       obtain rfl : k2277 = 0 := Nat.le_antisymm h2282 h2281
       have hS2283 : Sep G53 w41 ((Blk b102 (((ansL (1 + q18) (laidL (1 + q18) l) self m chunk).getD k9 default).cells (cellV w41 (sb v40) (so v40 + k9 * 5 + 3)) (cellV w41 (sb v40) (so v40 + k9 * 5 + 4))).toArray 57) :: (SetO b24 (1 + q18) (laidL (1 + q18) l)) :: (Blk b2 (m.cells dm0 dm1).toArray 57) :: Rs) w2278 := hW2280
       have e2284 := hA2279 79 (by decide)
       have e2285 := hA2279 82 (by decide)
       refine oblc rfl rfl e2284 (fun _ => ?_) (fun hb => absurd rfl hb)
       have hS2286 : Sep G53 w41 ((SetO b24 (1 + q18) (laidL (1 + q18) l)) :: (Blk b102 (((ansL (1 + q18) (laidL (1 + q18) l) self m chunk).getD k9 default).cells (cellV w41 (sb v40) (so v40 + k9 * 5 + 3)) (cellV w41 (sb v40) (so v40 + k9 * 5 + 4))).toArray 57) :: (Blk b2 (m.cells dm0 dm1).toArray 57) :: Rs) w2278 := hS2283.sel 3 [1, 0, 2] (Nat.le_add_left _ _) rfl rfl
       obtain ⟨G2287, hA2289, hB2290, hS2291, hk2292⟩ := hS2286.lend
       obtain ⟨vv2293, m2294, R2295, hb2296, hv2297, hr2298⟩ := SetO.sh hA2289
       have hsm2299 : (vecE (1 + q18) (laidL (1 + q18) l)).length * 8 ≤ 140737488355328 := hv2297.small
       refine (ov_call (f := 26) (vals := [.pointer (some ⟨b24, 0, none⟩)]) (cap := []) (show _ = (.func (.func 26) #[] #[] : Value) from rfl) (mapL ⟨e2285, trivial⟩) Try.call26 (D_Vec  hA2289 hS2291) ?_)
       rintro v2300 w2301 ⟨_, rfl, hS2302⟩
       have hr2303 := hS2302.row (i := 0) rfl
       have hr2303s : (vecE (1 + q18) (laidL (1 + q18) l)).length * 8 ≤ 140737488355328 := hr2303.2
       have hS2304 : Sep G53 w41 ((SetO b24 (1 + q18) (laidL (1 + q18) l)) :: (RowE (α := Int) own 3 v2300 (vecE (1 + q18) (laidL (1 + q18) l))) :: (Blk b102 (((ansL (1 + q18) (laidL (1 + q18) l) self m chunk).getD k9 default).cells (cellV w41 (sb v40) (so v40 + k9 * 5 + 3)) (cellV w41 (sb v40) (so v40 + k9 * 5 + 4))).toArray 57) :: (Blk b2 (m.cells dm0 dm1).toArray 57) :: Rs) w2301 := hk2292 _ _ hS2302
       intro vals' hv hv'
       refine ⟨?_, trivial⟩
       show ∃ (v2300 : Value), (vals' 83 = (v2300 : Value)) ∧ Sep G53 w41 ((SetO b24 (1 + q18) (laidL (1 + q18) l)) :: (RowE (α := Int) own 3 v2300 (vecE (1 + q18) (laidL (1 + q18) l))) :: (Blk b102 (((ansL (1 + q18) (laidL (1 + q18) l) self m chunk).getD k9 default).cells (cellV w41 (sb v40) (so v40 + k9 * 5 + 3)) (cellV w41 (sb v40) (so v40 + k9 * 5 + 4))).toArray 57) :: (Blk b2 (m.cells dm0 dm1).toArray 57) :: Rs) w2301
       exact ⟨v2300, hv, hS2304⟩
      ·intro k2306 vals w2307 h2310 h2311 hW2309 hA2308
       obtain rfl : k2306 = 1 := Nat.le_antisymm h2311 h2310
       obtain ⟨v2300, he2305, hS2312⟩ := hW2309
       have e2313 := hA2308 79 (by decide)
       have e2314 := hA2308 81 (by decide)
       refine oblc rfl rfl e2313 (fun _ => ?_) (fun hb => absurd rfl hb)
       have hS2315 : Sep G53 w41 ((RowE (α := Int) own 3 v2300 (vecE (1 + q18) (laidL (1 + q18) l))) :: (SetO b24 (1 + q18) (laidL (1 + q18) l)) :: (Blk b102 (((ansL (1 + q18) (laidL (1 + q18) l) self m chunk).getD k9 default).cells (cellV w41 (sb v40) (so v40 + k9 * 5 + 3)) (cellV w41 (sb v40) (so v40 + k9 * 5 + 4))).toArray 57) :: (Blk b2 (m.cells dm0 dm1).toArray 57) :: Rs) w2307 := hS2312.sel 4 [1, 0, 2, 3] (Nat.le_add_left _ _) rfl rfl
       obtain ⟨G2316, hA2318, hB2319, hS2320, hk2321⟩ := hS2315.lend
       have hrd2322 := RowE.rd hA2318
       have hrd2322s : (vecE (1 + q18) (laidL (1 + q18) l)).length * 8 ≤ 140737488355328 := hrd2322.small
       refine (ov_call (f := 27) (vals := [(cellV w41 (sb v40) (so v40 + k9 * 5 + 3)), v2300]) (cap := []) (show _ = (.func (.func 27) #[] #[] : Value) from rfl) (mapL ⟨e2314, he2305, trivial⟩) Try.call27 (D_SameInts (a := ((ansL (1 + q18) (laidL (1 + q18) l) self m chunk).getD k9 default).vec) (va := (cellV w41 (sb v40) (so v40 + k9 * 5 + 3))) (b := vecE (1 + q18) (laidL (1 + q18) l)) (vb := v2300) (RdS.base hde96_0 hB2319) hrd2322 hS2320) ?_)
       rintro _ w2323 ⟨rfl, hS2324⟩
       have hS2325 : Sep G53 w41 ((RowE (α := Int) own 3 v2300 (vecE (1 + q18) (laidL (1 + q18) l))) :: (SetO b24 (1 + q18) (laidL (1 + q18) l)) :: (Blk b102 (((ansL (1 + q18) (laidL (1 + q18) l) self m chunk).getD k9 default).cells (cellV w41 (sb v40) (so v40 + k9 * 5 + 3)) (cellV w41 (sb v40) (so v40 + k9 * 5 + 4))).toArray 57) :: (Blk b2 (m.cells dm0 dm1).toArray 57) :: Rs) w2323 := hk2321 _ _ hS2324
       intro vals' hv hv'
       refine ⟨?_, trivial⟩
       show ∃ (v2300 : Value), (vals' 83 = (v2300 : Value)) ∧ (vals' 84 = (.bool (decide ((((ansL (1 + q18) (laidL (1 + q18) l) self m chunk).getD k9 default).vec) = (vecE (1 + q18) (laidL (1 + q18) l)))) : Value)) ∧ Sep G53 w41 ((RowE (α := Int) own 3 v2300 (vecE (1 + q18) (laidL (1 + q18) l))) :: (SetO b24 (1 + q18) (laidL (1 + q18) l)) :: (Blk b102 (((ansL (1 + q18) (laidL (1 + q18) l) self m chunk).getD k9 default).cells (cellV w41 (sb v40) (so v40 + k9 * 5 + 3)) (cellV w41 (sb v40) (so v40 + k9 * 5 + 4))).toArray 57) :: (Blk b2 (m.cells dm0 dm1).toArray 57) :: Rs) w2323
       exact ⟨v2300, (by rw [hv' 83 (by decide)]; exact he2305), hv, hS2325⟩
      ·intro k3056 vals w3057 h3060 h3061 hW3059 hA3058
       obtain rfl : k3056 = 2 := Nat.le_antisymm h3061 h3060
       obtain ⟨v2300, he2305, he2326, hS3062⟩ := hW3059
       have e3063 := hA3058 79 (by decide)
       refine oblc rfl rfl e3063 (fun _ => ?_) (fun hb => absurd rfl hb)
       have hl3064 : (!(decide ((((ansL (1 + q18) (laidL (1 + q18) l) self m chunk).getD k9 default).vec) = (vecE (1 + q18) (laidL (1 + q18) l))))) = false := by rw [hq5]; simp
       exact ov_not (a := decide ((((ansL (1 + q18) (laidL (1 + q18) l) self m chunk).getD k9 default).vec) = (vecE (1 + q18) (laidL (1 + q18) l)))) he2326 (fun vals' hv _ => ⟨rfl, hv.trans (congrArg Value.bool hl3064)⟩)
      ·intro k3065 vals w3066 h3069 h3070 hW3068 hA3067
       have e3071 := hA3067 74 (by decide)
       have e3072 := hA3067 79 (by decide)
       have e3073 := hA3067 85 (by decide)
       refine oblc rfl rfl e3071 (fun _ => ?_) (fun hb => absurd rfl hb)
       exact ov_pick_f (v := .bool false) e3072 e3073 (fun vals' hv _ => ⟨rfl, hv⟩)
      ·intro k3074 vals w3075 h3078 h3079 hW3077 hA3076
       have e3080 := hA3076 70 (by decide)
       have e3081 := hA3076 74 (by decide)
       have e3082 := hA3076 86 (by decide)
       refine oblc rfl rfl e3080 (fun _ => ?_) (fun hb => absurd rfl hb)
       exact ov_pick_t (v := .bool false) e3081 e3082 (fun vals' hv _ => ⟨rfl, hv⟩)
      ·intro k3083 vals w3084 h3087 h3088 hW3086 hA3085
       have e3089 := hA3085 70 (by decide)
       have e3090 := hA3085 87 (by decide)
       refine obl rfl ?_
       exact ov_pick_f (v := .bool false) e3089 e3090 (fun vals' hv _ => ⟨rfl, hv⟩)
      intro vals w3091 hW3092 hA3093
      obtain ⟨v2300, he2305, he2326, hS3094⟩ := hW3092
      have e3095 := hA3093 88 (by decide)
      refine st_env (kv := [(2, .int .i64 (self)), (8, .pointer (some ⟨b2, 0, none⟩)), (11, .pointer (some ⟨b24, 0, none⟩)), (12, v40), (13, .int .i64 ((k9 : Nat) : Int)), (68, .int .i64 ((k9 : Nat) : Int)), (69, v40), (70, .int .i64 (((ansL (1 + q18) (laidL (1 + q18) l) self m chunk).length : Nat) : Int)), (71, .bool true), (74, v40), (75, .int .i64 ((k9 : Nat) : Int)), (76, .pointer (some ⟨sb v40, so v40 + k9 * 5, none⟩)), (77, .agg (((ansL (1 + q18) (laidL (1 + q18) l) self m chunk).getD k9 default).cells (cellV w41 (sb v40) (so v40 + k9 * 5 + 3)) (cellV w41 (sb v40) (so v40 + k9 * 5 + 4))).toArray), (14, .pointer (some ⟨b102, 0, none⟩)), (166, .bool false)]) ⟨rfl, rfl, rfl, rfl, rfl, rfl, rfl, rfl, rfl, rfl, rfl, rfl, rfl, rfl, (by exact e3095), trivial⟩ (fun ρw3091 => ?_)
      refine st_nil ?_
      refine WP_cond_f rfl ?_
      refine WP_skip ?_
      refine WP_region0 (by kernel_rfl) (fun _ => ?_)
      refine st (ov_move (v := .int .i64 ((k9 : Nat) : Int)) rfl ?_)
      have hr3096 : InR ((k9 + 1 : Nat) : Int) := by first | omega | (simp only [lens]; omega)
      refine st (ov_add (r := ((k9 + 1 : Nat) : Int)) (k := .i64) (a := ((k9 : Nat) : Int)) (b := 1) rfl rfl (by rw [show (((k9 : Nat) : Int) + 1 : Int) = ((k9 + 1 : Nat) : Int) by first | omega | (simp only [lens]; omega)]; exact wrap_in hr3096) ?_)
      refine st (ov_assign (v := .int .i64 ((k9 + 1 : Nat) : Int)) rfl ?_)
      refine st_nil ?_
      have hS3097 : Sep G53 w41 ((SetO b24 (1 + q18) (laidL (1 + q18) l)) :: (Blk b2 (m.cells dm0 dm1).toArray 57) :: Rs) w3091 := hS3094.sel 4 [1, 3] (Nat.le_add_left _ _) rfl rfl
      exact ⟨_, by omega, k9 + 1, _, rfl, setAll_self ⟨rfl, rfl, rfl, rfl, rfl, trivial⟩, by omega, hS3097⟩
     ·skip
      obtain ⟨hq1, hq2, hq3, hq5⟩ := hq9
      refine WP_draw4 (WF [fun vals wq => Sep G53 w41 ((Blk b102 (((ansL (1 + q18) (laidL (1 + q18) l) self m chunk).getD k9 default).cells (cellV w41 (sb v40) (so v40 + k9 * 5 + 3)) (cellV w41 (sb v40) (so v40 + k9 * 5 + 4))).toArray 57) :: (SetO b24 (1 + q18) (laidL (1 + q18) l)) :: (Blk b2 (m.cells dm0 dm1).toArray 57) :: Rs) wq, fun vals wq => ∃ (v3810 : Value), (vals 83 = (v3810 : Value)) ∧ Sep G53 w41 ((SetO b24 (1 + q18) (laidL (1 + q18) l)) :: (RowE (α := Int) own 3 v3810 (vecE (1 + q18) (laidL (1 + q18) l))) :: (Blk b102 (((ansL (1 + q18) (laidL (1 + q18) l) self m chunk).getD k9 default).cells (cellV w41 (sb v40) (so v40 + k9 * 5 + 3)) (cellV w41 (sb v40) (so v40 + k9 * 5 + 4))).toArray 57) :: (Blk b2 (m.cells dm0 dm1).toArray 57) :: Rs) wq, fun vals wq => ∃ (v3810 : Value), (vals 83 = (v3810 : Value)) ∧ (vals 84 = (.bool (decide ((((ansL (1 + q18) (laidL (1 + q18) l) self m chunk).getD k9 default).vec) = (vecE (1 + q18) (laidL (1 + q18) l)))) : Value)) ∧ Sep G53 w41 ((RowE (α := Int) own 3 v3810 (vecE (1 + q18) (laidL (1 + q18) l))) :: (SetO b24 (1 + q18) (laidL (1 + q18) l)) :: (Blk b102 (((ansL (1 + q18) (laidL (1 + q18) l) self m chunk).getD k9 default).cells (cellV w41 (sb v40) (so v40 + k9 * 5 + 3)) (cellV w41 (sb v40) (so v40 + k9 * 5 + 4))).toArray 57) :: (Blk b2 (m.cells dm0 dm1).toArray 57) :: Rs) wq]) (AF [Vl 0 (.pointer (some ⟨b102, 1, none⟩)), Vl 1 (.int .i64 (((ansL (1 + q18) (laidL (1 + q18) l) self m chunk).getD k9 default).frm)), Vl 2 (.int .i64 (self)), Vl 3 (.bool false), Vl 4 (.bool false), Vl 5 (.pointer (some ⟨b102, 2, none⟩)), Vl 6 (.int .i64 (((ansL (1 + q18) (laidL (1 + q18) l) self m chunk).getD k9 default).dst)), Vl 7 (.pointer (some ⟨b2, 1, none⟩)), Vl 8 (.int .i64 (m.frm)), Vl 9 (.bool false), Vl 10 (.bool false), Vl 11 (.bool false), Vl 12 (.pointer (some ⟨b102, 0, none⟩)), Vl 13 (.int .i64 (((ansL (1 + q18) (laidL (1 + q18) l) self m chunk).getD k9 default).kind)), Vl 14 (.bool false), Vl 15 (.bool false), Vl 16 (undef), Vl 17 (undef), Vl 18 (undef), Vl 19 (undef), Vl 20 (undef), Vl 21 (undef), Vl 22 (undef), Vl 23 (undef), Vl 24 (undef), Vl 25 (undef), Vl 26 (undef), Vl 27 (undef), Vl 28 (undef), Vl 29 (undef), Vl 30 (undef), Vl 31 (undef), Vl 32 (undef), Vl 33 (undef), Vl 34 (undef), Vl 35 (undef), Vl 36 (.bool false), Vl 37 (.bool false), Vl 38 (.bool false), Vl 39 (.pointer (some ⟨b102, 0, none⟩)), Vl 40 (.int .i64 (((ansL (1 + q18) (laidL (1 + q18) l) self m chunk).getD k9 default).kind)), Vl 41 (.bool false), Vl 42 (.bool false), Vl 43 (undef), Vl 44 (undef), Vl 45 (undef), Vl 46 (undef), Vl 47 (undef), Vl 48 (undef), Vl 49 (undef), Vl 50 (undef), Vl 51 (undef), Vl 52 (undef), Vl 53 (.bool false), Vl 54 (.bool false), Vl 55 (.bool false), Vl 56 (.pointer (some ⟨b102, 0, none⟩)), Vl 57 (.int .i64 (((ansL (1 + q18) (laidL (1 + q18) l) self m chunk).getD k9 default).kind)), Vl 58 (.bool true), Vl 59 (.bool true), Vl 60 (v40), Vl 61 (.int .i64 (((ansL (1 + q18) (laidL (1 + q18) l) self m chunk).length : Nat) : Int)), Vl 62 (.bool false), Vl 63 (.bool false), Vl 64 (.bool false), Vl 65 (.bool false), Vl 66 (.pointer (some ⟨b102, 0, none⟩)), Vl 67 (.int .i64 (((ansL (1 + q18) (laidL (1 + q18) l) self m chunk).getD k9 default).kind)), Vl 68 (.bool false), Vl 69 (.bool false), Vl 70 (.bool false), Vl 71 (.pointer (some ⟨b102, 0, none⟩)), Vl 72 (.int .i64 (((ansL (1 + q18) (laidL (1 + q18) l) self m chunk).getD k9 default).kind)), Vl 73 (.bool true), Vl 74 (.bool true), Vl 75 (.pointer (some ⟨b102, 4, none⟩)), Vl 76 ((cellV w41 (sb v40) (so v40 + k9 * 5 + 4))), Vl 77 (.int .i64 (((((ansL (1 + q18) (laidL (1 + q18) l) self m chunk).getD k9 default).evs).length : Nat) : Int)), Vl 78 (.bool false), Vl 79 (.bool false), Vl 80 (.pointer (some ⟨b102, 3, none⟩)), Vl 81 ((cellV w41 (sb v40) (so v40 + k9 * 5 + 3))), Vl 82 (.pointer (some ⟨b24, 0, none⟩)), fun _ => True, fun _ => True, Vl 85 (.bool false), Vl 86 (.bool false), Vl 87 (.bool false), Vl 88 (.bool false)]) [[], [0], [], [0, 1, 2], [0, 1, 2, 3], [0, 1, 2, 3, 4], [0, 1, 2, 3, 4, 5], [0, 1, 2, 3, 4], [0, 1, 2, 3, 4, 7], [0, 1, 2, 3, 4, 5, 6, 7, 8], [0, 1, 2, 3, 4, 5, 6, 7, 8, 9], [0, 1, 2, 3, 4, 5, 6, 7, 8, 9, 10], [0, 1, 2, 3, 4, 5, 6, 7, 8, 9, 10, 11], [0, 1, 2, 3, 4, 5, 6, 7, 8, 9, 10, 11, 12], [0, 1, 2, 3, 4, 5, 6, 7, 8, 9, 10, 11, 12, 13], [0, 1, 2, 3, 4, 5, 6, 7, 8, 9, 10, 11, 12, 13, 14], [0, 1, 2, 3, 4, 5, 6, 7, 8, 9, 10, 11, 12, 13, 14, 15], [0, 1, 2, 3, 4, 5, 6, 7, 8, 9, 10, 11, 12, 13, 14, 15, 16], [0, 1, 2, 3, 4, 5, 6, 7, 8, 9, 10, 11, 12, 13, 14, 15, 16, 17], [0, 1, 2, 3, 4, 5, 6, 7, 8, 9, 10, 11, 12, 13, 14, 15, 16, 17, 18], [0, 1, 2, 3, 4, 5, 6, 7, 8, 9, 10, 11, 12, 13, 14, 15, 16, 17, 18, 19], [0, 1, 2, 3, 4, 5, 6, 7, 8, 9, 10, 11, 12, 13, 14, 15, 16, 17, 18, 19, 20], [0, 1, 2, 3, 4, 5, 6, 7, 8, 9, 10, 11, 12, 13, 14, 15, 16, 17, 18, 19, 20, 21], [0, 1, 2, 3, 4, 5, 6, 7, 8, 9, 10, 11, 12, 13, 14, 15, 16, 17, 18, 19, 20, 21, 22], [0, 1, 2, 3, 4, 5, 6, 7, 8, 9, 10, 11, 12, 13, 14, 15, 16, 17, 18, 19, 20, 21, 22, 23], [0, 1, 2, 3, 4, 5, 6, 7, 8, 9, 10, 11, 12, 13, 14, 15, 16, 17, 18, 19, 20, 21, 22, 23, 24], [0, 1, 2, 3, 4, 5, 6, 7, 8, 9, 10, 11, 12, 13, 14, 15, 16, 17, 18, 19, 20, 21, 22, 23, 24, 25], [0, 1, 2, 3, 4, 5, 6, 7, 8, 9, 10, 11, 12, 13, 14, 15, 16, 17, 18, 19, 20, 21, 22, 23, 24, 25, 26], [0, 1, 2, 3, 4, 5, 6, 7, 8, 9, 10, 11, 12, 13, 14, 15, 16, 17, 18, 19, 20, 21, 22, 23, 24, 25, 26, 27], [0, 1, 2, 3, 4, 5, 6, 7, 8, 9, 10, 11, 12, 13, 14, 15, 16, 17, 18, 19, 20, 21, 22, 23, 24, 25, 26, 27, 28], [0, 1, 2, 3, 4, 5, 6, 7, 8, 9, 10, 11, 12, 13, 14, 15, 16, 17, 18, 19, 20, 21, 22, 23, 24, 25, 26, 27, 28, 29], [0, 1, 2, 3, 4, 5, 6, 7, 8, 9, 10, 11, 12, 13, 14, 15, 16, 17, 18, 19, 20, 21, 22, 23, 24, 25, 26, 27, 28, 29, 30], [0, 1, 2, 3, 4, 5, 6, 7, 8, 9, 10, 11, 12, 13, 14, 15, 16, 17, 18, 19, 20, 21, 22, 23, 24, 25, 26, 27, 28, 29, 30, 31], [0, 1, 2, 3, 4, 5, 6, 7, 8, 9, 10, 11, 12, 13, 14, 15, 16, 17, 18, 19, 20, 21, 22, 23, 24, 25, 26, 27, 28, 29, 30, 31, 32], [0, 1, 2, 3, 4, 5, 6, 7, 8, 9, 10, 11, 12, 13, 14, 15, 16, 17, 18, 19, 20, 21, 22, 23, 24, 25, 26, 27, 28, 29, 30, 31, 32, 33], [0, 1, 2, 3, 4, 5, 6, 7, 8, 9, 10, 11, 12, 13, 14, 15, 16, 17, 18, 19, 20, 21, 22, 23, 24, 25, 26, 27, 28, 29, 30, 31, 32, 33, 34], [0, 1, 2, 3, 4, 5, 6, 7, 8, 9, 10, 11, 12, 13, 14, 15, 16, 17, 18, 19, 20, 21, 22, 23, 24, 25, 26, 27, 28, 29, 30, 31, 32, 33, 34, 35], [0, 1, 2, 3, 4, 5, 6, 7, 8, 9, 10, 11, 12, 13, 14, 15, 16, 17, 18, 19, 20, 21, 22, 23, 24, 25, 26, 27, 28, 29, 30, 31, 32, 33, 34, 35, 36], [0, 1, 2, 3, 4, 5, 6, 7, 8, 9, 10, 11, 12, 13, 14, 15, 16, 17, 18, 19, 20, 21, 22, 23, 24, 25, 26, 27, 28, 29, 30, 31, 32, 33, 34, 35, 36, 37], [0, 1, 2, 3, 4, 5, 6, 7, 8, 9, 10, 11, 12, 13, 14, 15, 16, 17, 18, 19, 20, 21, 22, 23, 24, 25, 26, 27, 28, 29, 30, 31, 32, 33, 34, 35, 36, 37, 38], [0, 1, 2, 3, 4, 5, 6, 7, 8, 9, 10, 11, 12, 13, 14, 15, 16, 17, 18, 19, 20, 21, 22, 23, 24, 25, 26, 27, 28, 29, 30, 31, 32, 33, 34, 35, 36, 37, 38, 39], [0, 1, 2, 3, 4, 5, 6, 7, 8, 9, 10, 11, 12, 13, 14, 15, 16, 17, 18, 19, 20, 21, 22, 23, 24, 25, 26, 27, 28, 29, 30, 31, 32, 33, 34, 35, 36, 37, 38, 39, 40], [0, 1, 2, 3, 4, 5, 6, 7, 8, 9, 10, 11, 12, 13, 14, 15, 16, 17, 18, 19, 20, 21, 22, 23, 24, 25, 26, 27, 28, 29, 30, 31, 32, 33, 34, 35, 36, 37, 38, 39, 40, 41], [0, 1, 2, 3, 4, 5, 6, 7, 8, 9, 10, 11, 12, 13, 14, 15, 16, 17, 18, 19, 20, 21, 22, 23, 24, 25, 26, 27, 28, 29, 30, 31, 32, 33, 34, 35, 36, 37, 38, 39, 40, 41, 42], [0, 1, 2, 3, 4, 5, 6, 7, 8, 9, 10, 11, 12, 13, 14, 15, 16, 17, 18, 19, 20, 21, 22, 23, 24, 25, 26, 27, 28, 29, 30, 31, 32, 33, 34, 35, 36, 37, 38, 39, 40, 41, 42, 43], [0, 1, 2, 3, 4, 5, 6, 7, 8, 9, 10, 11, 12, 13, 14, 15, 16, 17, 18, 19, 20, 21, 22, 23, 24, 25, 26, 27, 28, 29, 30, 31, 32, 33, 34, 35, 36, 37, 38, 39, 40, 41, 42, 43, 44], [0, 1, 2, 3, 4, 5, 6, 7, 8, 9, 10, 11, 12, 13, 14, 15, 16, 17, 18, 19, 20, 21, 22, 23, 24, 25, 26, 27, 28, 29, 30, 31, 32, 33, 34, 35, 36, 37, 38, 39, 40, 41, 42, 43, 44, 45], [0, 1, 2, 3, 4, 5, 6, 7, 8, 9, 10, 11, 12, 13, 14, 15, 16, 17, 18, 19, 20, 21, 22, 23, 24, 25, 26, 27, 28, 29, 30, 31, 32, 33, 34, 35, 36, 37, 38, 39, 40, 41, 42, 43, 44, 45, 46], [0, 1, 2, 3, 4, 5, 6, 7, 8, 9, 10, 11, 12, 13, 14, 15, 16, 17, 18, 19, 20, 21, 22, 23, 24, 25, 26, 27, 28, 29, 30, 31, 32, 33, 34, 35, 36, 37, 38, 39, 40, 41, 42, 43, 44, 45, 46], [0, 1, 2, 3, 4, 5, 6, 7, 8, 9, 10, 11, 12, 13, 14, 15, 16, 17, 18, 19, 20, 21, 22, 23, 24, 25, 26, 27, 28, 29, 30, 31, 32, 33, 34, 35, 36, 37, 38, 39, 40, 41, 42, 43, 44, 45, 46, 48], [0, 1, 2, 3, 4, 5, 6, 7, 8, 9, 10, 11, 12, 13, 14, 15, 16, 17, 18, 19, 20, 21, 22, 23, 24, 25, 26, 27, 28, 29, 30, 31, 32, 33, 34, 35, 36, 37, 38, 39, 40, 41, 42, 43, 44, 45, 46, 48, 49], [0, 1, 2, 3, 4, 5, 6, 7, 8, 9, 10, 11, 12, 13, 14, 15, 16, 17, 18, 19, 20, 21, 22, 23, 24, 25, 26, 27, 28, 29, 30, 31, 32, 33, 34, 35, 36, 37, 38, 39, 40, 41, 42, 43, 44, 45, 46, 47, 48, 49, 50], [0, 1, 2, 3, 4, 5, 6, 7, 8, 9, 10, 11, 12, 13, 14, 15, 16, 17, 18, 19, 20, 21, 22, 23, 24, 25, 26, 27, 28, 29, 30, 31, 32, 33, 34, 35, 36, 37, 38, 39, 40, 41, 42, 43, 44, 45, 46, 47, 48, 49, 50, 51], [0, 1, 2, 3, 4, 5, 6, 7, 8, 9, 10, 11, 12, 13, 14, 15, 16, 17, 18, 19, 20, 21, 22, 23, 24, 25, 26, 27, 28, 29, 30, 31, 32, 33, 34, 35, 36, 37, 38, 39, 40, 41, 42, 43, 44, 45, 46, 47, 48, 49, 50, 51, 52], [0, 1, 2, 3, 4, 5, 6, 7, 8, 9, 10, 11, 12, 13, 14, 15, 16, 17, 18, 19, 20, 21, 22, 23, 24, 25, 26, 27, 28, 29, 30, 31, 32, 33, 34, 35, 36, 37, 38, 39, 40, 41, 42, 43, 44, 45, 46, 47, 48, 49, 50, 51, 52, 53], [0, 1, 2, 3, 4, 5, 6, 7, 8, 9, 10, 11, 12, 13, 14, 15, 16, 17, 18, 19, 20, 21, 22, 23, 24, 25, 26, 27, 28, 29, 30, 31, 32, 33, 34, 35, 36, 37, 38, 39, 40, 41, 42, 43, 44, 45, 46, 47, 48, 49, 50, 51, 52, 53, 54], [0, 1, 2, 3, 4, 5, 6, 7, 8, 9, 10, 11, 12, 13, 14, 15, 16, 17, 18, 19, 20, 21, 22, 23, 24, 25, 26, 27, 28, 29, 30, 31, 32, 33, 34, 35, 36, 37, 38, 39, 40, 41, 42, 43, 44, 45, 46, 47, 48, 49, 50, 51, 52, 53, 54, 55], [0, 1, 2, 3, 4, 5, 6, 7, 8, 9, 10, 11, 12, 13, 14, 15, 16, 17, 18, 19, 20, 21, 22, 23, 24, 25, 26, 27, 28, 29, 30, 31, 32, 33, 34, 35, 36, 37, 38, 39, 40, 41, 42, 43, 44, 45, 46, 47, 48, 49, 50, 51, 52, 53, 54, 55, 56], [0, 1, 2, 3, 4, 5, 6, 7, 8, 9, 10, 11, 12, 13, 14, 15, 16, 17, 18, 19, 20, 21, 22, 23, 24, 25, 26, 27, 28, 29, 30, 31, 32, 33, 34, 35, 36, 37, 38, 39, 40, 41, 42, 43, 44, 45, 46, 47, 48, 49, 50, 51, 52, 53, 54, 55, 56, 57], [0, 1, 2, 3, 4, 5, 6, 7, 8, 9, 10, 11, 12, 13, 14, 15, 16, 17, 18, 19, 20, 21, 22, 23, 24, 25, 26, 27, 28, 29, 30, 31, 32, 33, 34, 35, 36, 37, 38, 39, 40, 41, 42, 43, 44, 45, 46, 47, 48, 49, 50, 51, 52, 53, 54, 55, 56, 57, 58], [0, 1, 2, 3, 4, 5, 6, 7, 8, 9, 10, 11, 12, 13, 14, 15, 16, 17, 18, 19, 20, 21, 22, 23, 24, 25, 26, 27, 28, 29, 30, 31, 32, 33, 34, 35, 36, 37, 38, 39, 40, 41, 42, 43, 44, 45, 46, 47, 48, 49, 50, 51, 52, 53, 54, 55, 56, 57, 58, 59], [0, 1, 2, 3, 4, 5, 6, 7, 8, 9, 10, 11, 12, 13, 14, 15, 16, 17, 18, 19, 20, 21, 22, 23, 24, 25, 26, 27, 28, 29, 30, 31, 32, 33, 34, 35, 36, 37, 38, 39, 40, 41, 42, 43, 44, 45, 46, 47, 48, 49, 50, 51, 52, 53, 54, 55, 56, 57, 58, 59, 60], [0, 1, 2, 3, 4, 5, 6, 7, 8, 9, 10, 11, 12, 13, 14, 15, 16, 17, 18, 19, 20, 21, 22, 23, 24, 25, 26, 27, 28, 29, 30, 31, 32, 33, 34, 35, 36, 37, 38, 39, 40, 41, 42, 43, 44, 45, 46, 47, 48, 49, 50, 51, 52, 53, 54, 55, 56, 57, 58, 59, 60, 61], [0, 1, 2, 3, 4, 5, 6, 7, 8, 9, 10, 11, 12, 13, 14, 15, 16, 17, 18, 19, 20, 21, 22, 23, 24, 25, 26, 27, 28, 29, 30, 31, 32, 33, 34, 35, 36, 37, 38, 39, 40, 41, 42, 43, 44, 45, 46, 47, 48, 49, 50, 51, 52, 53, 54, 55, 56, 57, 58, 59, 60, 61, 62], [0, 1, 2, 3, 4, 5, 6, 7, 8, 9, 10, 11, 12, 13, 14, 15, 16, 17, 18, 19, 20, 21, 22, 23, 24, 25, 26, 27, 28, 29, 30, 31, 32, 33, 34, 35, 36, 37, 38, 39, 40, 41, 42, 43, 44, 45, 46, 47, 48, 49, 50, 51, 52, 53, 54, 55, 56, 57, 58, 59, 60, 61, 62, 63], [0, 1, 2, 3, 4, 5, 6, 7, 8, 9, 10, 11, 12, 13, 14, 15, 16, 17, 18, 19, 20, 21, 22, 23, 24, 25, 26, 27, 28, 29, 30, 31, 32, 33, 34, 35, 36, 37, 38, 39, 40, 41, 42, 43, 44, 45, 46, 47, 48, 49, 50, 51, 52, 53, 54, 55, 56, 57, 58, 59, 60, 61, 62, 63, 64], [0, 1, 2, 3, 4, 5, 6, 7, 8, 9, 10, 11, 12, 13, 14, 15, 16, 17, 18, 19, 20, 21, 22, 23, 24, 25, 26, 27, 28, 29, 30, 31, 32, 33, 34, 35, 36, 37, 38, 39, 40, 41, 42, 43, 44, 45, 46, 47, 48, 49, 50, 51, 52, 53, 54, 55, 56, 57, 58, 59, 60, 61, 62, 63, 64, 65], [0, 1, 2, 3, 4, 5, 6, 7, 8, 9, 10, 11, 12, 13, 14, 15, 16, 17, 18, 19, 20, 21, 22, 23, 24, 25, 26, 27, 28, 29, 30, 31, 32, 33, 34, 35, 36, 37, 38, 39, 40, 41, 42, 43, 44, 45, 46, 47, 48, 49, 50, 51, 52, 53, 54, 55, 56, 57, 58, 59, 60, 61, 62, 63, 64, 65, 66], [0, 1, 2, 3, 4, 5, 6, 7, 8, 9, 10, 11, 12, 13, 14, 15, 16, 17, 18, 19, 20, 21, 22, 23, 24, 25, 26, 27, 28, 29, 30, 31, 32, 33, 34, 35, 36, 37, 38, 39, 40, 41, 42, 43, 44, 45, 46, 47, 48, 49, 50, 51, 52, 53, 54, 55, 56, 57, 58, 59, 60, 61, 62, 63, 64, 65, 66, 67], [0, 1, 2, 3, 4, 5, 6, 7, 8, 9, 10, 11, 12, 13, 14, 15, 16, 17, 18, 19, 20, 21, 22, 23, 24, 25, 26, 27, 28, 29, 30, 31, 32, 33, 34, 35, 36, 37, 38, 39, 40, 41, 42, 43, 44, 45, 46, 47, 48, 49, 50, 51, 52, 53, 54, 55, 56, 57, 58, 59, 60, 61, 62, 63, 64, 65, 66, 67, 68], [0, 1, 2, 3, 4, 5, 6, 7, 8, 9, 10, 11, 12, 13, 14, 15, 16, 17, 18, 19, 20, 21, 22, 23, 24, 25, 26, 27, 28, 29, 30, 31, 32, 33, 34, 35, 36, 37, 38, 39, 40, 41, 42, 43, 44, 45, 46, 47, 48, 49, 50, 51, 52, 53, 54, 55, 56, 57, 58, 59, 60, 61, 62, 63, 64, 65, 66, 67, 68, 69], [0, 1, 2, 3, 4, 5, 6, 7, 8, 9, 10, 11, 12, 13, 14, 15, 16, 17, 18, 19, 20, 21, 22, 23, 24, 25, 26, 27, 28, 29, 30, 31, 32, 33, 34, 35, 36, 37, 38, 39, 40, 41, 42, 43, 44, 45, 46, 47, 48, 49, 50, 51, 52, 53, 54, 55, 56, 57, 58, 59, 60, 61, 62, 63, 64, 65, 66, 67, 68, 69, 70], [0, 1, 2, 3, 4, 5, 6, 7, 8, 9, 10, 11, 12, 13, 14, 15, 16, 17, 18, 19, 20, 21, 22, 23, 24, 25, 26, 27, 28, 29, 30, 31, 32, 33, 34, 35, 36, 37, 38, 39, 40, 41, 42, 43, 44, 45, 46, 47, 48, 49, 50, 51, 52, 53, 54, 55, 56, 57, 58, 59, 60, 61, 62, 63, 64, 65, 66, 67, 68, 69, 70, 71], [0, 1, 2, 3, 4, 5, 6, 7, 8, 9, 10, 11, 12, 13, 14, 15, 16, 17, 18, 19, 20, 21, 22, 23, 24, 25, 26, 27, 28, 29, 30, 31, 32, 33, 34, 35, 36, 37, 38, 39, 40, 41, 42, 43, 44, 45, 46, 47, 48, 49, 50, 51, 52, 53, 54, 55, 56, 57, 58, 59, 60, 61, 62, 63, 64, 65, 66, 67, 68, 69, 70, 71, 72], [0, 1, 2, 3, 4, 5, 6, 7, 8, 9, 10, 11, 12, 13, 14, 15, 16, 17, 18, 19, 20, 21, 22, 23, 24, 25, 26, 27, 28, 29, 30, 31, 32, 33, 34, 35, 36, 37, 38, 39, 40, 41, 42, 43, 44, 45, 46, 47, 48, 49, 50, 51, 52, 53, 54, 55, 56, 57, 58, 59, 60, 61, 62, 63, 64, 65, 66, 67, 68, 69, 70, 71, 72, 73], [0, 1, 2, 3, 4, 5, 6, 7, 8, 9, 10, 11, 12, 13, 14, 15, 16, 17, 18, 19, 20, 21, 22, 23, 24, 25, 26, 27, 28, 29, 30, 31, 32, 33, 34, 35, 36, 37, 38, 39, 40, 41, 42, 43, 44, 45, 46, 47, 48, 49, 50, 51, 52, 53, 54, 55, 56, 57, 58, 59, 60, 61, 62, 63, 64, 65, 66, 67, 68, 69, 70, 71, 72, 73, 74], [0, 1, 2, 3, 4, 5, 6, 7, 8, 9, 10, 11, 12, 13, 14, 15, 16, 17, 18, 19, 20, 21, 22, 23, 24, 25, 26, 27, 28, 29, 30, 31, 32, 33, 34, 35, 36, 37, 38, 39, 40, 41, 42, 43, 44, 45, 46, 47, 48, 49, 50, 51, 52, 53, 54, 55, 56, 57, 58, 59, 60, 61, 62, 63, 64, 65, 66, 67, 68, 69, 70, 71, 72, 73, 74, 75], [0, 1, 2, 3, 4, 5, 6, 7, 8, 9, 10, 11, 12, 13, 14, 15, 16, 17, 18, 19, 20, 21, 22, 23, 24, 25, 26, 27, 28, 29, 30, 31, 32, 33, 34, 35, 36, 37, 38, 39, 40, 41, 42, 43, 44, 45, 46, 47, 48, 49, 50, 51, 52, 53, 54, 55, 56, 57, 58, 59, 60, 61, 62, 63, 64, 65, 66, 67, 68, 69, 70, 71, 72, 73, 74, 75, 76], [0, 1, 2, 3, 4, 5, 6, 7, 8, 9, 10, 11, 12, 13, 14, 15, 16, 17, 18, 19, 20, 21, 22, 23, 24, 25, 26, 27, 28, 29, 30, 31, 32, 33, 34, 35, 36, 37, 38, 39, 40, 41, 42, 43, 44, 45, 46, 47, 48, 49, 50, 51, 52, 53, 54, 55, 56, 57, 58, 59, 60, 61, 62, 63, 64, 65, 66, 67, 68, 69, 70, 71, 72, 73, 74, 75, 76, 77], [0, 1, 2, 3, 4, 5, 6, 7, 8, 9, 10, 11, 12, 13, 14, 15, 16, 17, 18, 19, 20, 21, 22, 23, 24, 25, 26, 27, 28, 29, 30, 31, 32, 33, 34, 35, 36, 37, 38, 39, 40, 41, 42, 43, 44, 45, 46, 47, 48, 49, 50, 51, 52, 53, 54, 55, 56, 57, 58, 59, 60, 61, 62, 63, 64, 65, 66, 67, 68, 69, 70, 71, 72, 73, 74, 75, 76, 77, 78], [0, 1, 2, 3, 4, 5, 6, 7, 8, 9, 10, 11, 12, 13, 14, 15, 16, 17, 18, 19, 20, 21, 22, 23, 24, 25, 26, 27, 28, 29, 30, 31, 32, 33, 34, 35, 36, 37, 38, 39, 40, 41, 42, 43, 44, 45, 46, 47, 48, 49, 50, 51, 52, 53, 54, 55, 56, 57, 58, 59, 60, 61, 62, 63, 64, 65, 66, 67, 68, 69, 70, 71, 72, 73, 74, 75, 76, 77, 78, 79], [0, 1, 2, 3, 4, 5, 6, 7, 8, 9, 10, 11, 12, 13, 14, 15, 16, 17, 18, 19, 20, 21, 22, 23, 24, 25, 26, 27, 28, 29, 30, 31, 32, 33, 34, 35, 36, 37, 38, 39, 40, 41, 42, 43, 44, 45, 46, 47, 48, 49, 50, 51, 52, 53, 54, 55, 56, 57, 58, 59, 60, 61, 62, 63, 64, 65, 66, 67, 68, 69, 70, 71, 72, 73, 74, 75, 76, 77, 78, 79, 80], [0, 1, 2, 3, 4, 5, 6, 7, 8, 9, 10, 11, 12, 13, 14, 15, 16, 17, 18, 19, 20, 21, 22, 23, 24, 25, 26, 27, 28, 29, 30, 31, 32, 33, 34, 35, 36, 37, 38, 39, 40, 41, 42, 43, 44, 45, 46, 47, 48, 49, 50, 51, 52, 53, 54, 55, 56, 57, 58, 59, 60, 61, 62, 63, 64, 65, 66, 67, 68, 69, 70, 71, 72, 73, 74, 75, 76, 77, 78, 79], [0, 1, 2, 3, 4, 5, 6, 7, 8, 9, 10, 11, 12, 13, 14, 15, 16, 17, 18, 19, 20, 21, 22, 23, 24, 25, 26, 27, 28, 29, 30, 31, 32, 33, 34, 35, 36, 37, 38, 39, 40, 41, 42, 43, 44, 45, 46, 47, 48, 49, 50, 51, 52, 53, 54, 55, 56, 57, 58, 59, 60, 61, 62, 63, 64, 65, 66, 67, 68, 69, 70, 71, 72, 73, 74, 75, 76, 77, 78, 79, 82], [0, 1, 2, 3, 4, 5, 6, 7, 8, 9, 10, 11, 12, 13, 14, 15, 16, 17, 18, 19, 20, 21, 22, 23, 24, 25, 26, 27, 28, 29, 30, 31, 32, 33, 34, 35, 36, 37, 38, 39, 40, 41, 42, 43, 44, 45, 46, 47, 48, 49, 50, 51, 52, 53, 54, 55, 56, 57, 58, 59, 60, 61, 62, 63, 64, 65, 66, 67, 68, 69, 70, 71, 72, 73, 74, 75, 76, 77, 78, 79, 80, 81, 82, 83], [0, 1, 2, 3, 4, 5, 6, 7, 8, 9, 10, 11, 12, 13, 14, 15, 16, 17, 18, 19, 20, 21, 22, 23, 24, 25, 26, 27, 28, 29, 30, 31, 32, 33, 34, 35, 36, 37, 38, 39, 40, 41, 42, 43, 44, 45, 46, 47, 48, 49, 50, 51, 52, 53, 54, 55, 56, 57, 58, 59, 60, 61, 62, 63, 64, 65, 66, 67, 68, 69, 70, 71, 72, 73, 74, 75, 76, 77, 78, 79, 80, 81, 82, 83, 84], [0, 1, 2, 3, 4, 5, 6, 7, 8, 9, 10, 11, 12, 13, 14, 15, 16, 17, 18, 19, 20, 21, 22, 23, 24, 25, 26, 27, 28, 29, 30, 31, 32, 33, 34, 35, 36, 37, 38, 39, 40, 41, 42, 43, 44, 45, 46, 47, 48, 49, 50, 51, 52, 53, 54, 55, 56, 57, 58, 59, 60, 61, 62, 63, 64, 65, 66, 67, 68, 69, 70, 71, 72, 73, 74, 75, 76, 77, 78, 79, 80, 81, 82, 83, 84, 85], [0, 1, 2, 3, 4, 5, 6, 7, 8, 9, 10, 11, 12, 13, 14, 15, 16, 17, 18, 19, 20, 21, 22, 23, 24, 25, 26, 27, 28, 29, 30, 31, 32, 33, 34, 35, 36, 37, 38, 39, 40, 41, 42, 43, 44, 45, 46, 47, 48, 49, 50, 51, 52, 53, 54, 55, 56, 57, 58, 59, 60, 61, 62, 63, 64, 65, 66, 67, 68, 69, 70, 71, 72, 73, 74, 75, 76, 77, 78, 79, 80, 81, 82, 83, 84, 85, 86], [0, 1, 2, 3, 4, 5, 6, 7, 8, 9, 10, 11, 12, 13, 14, 15, 16, 17, 18, 19, 20, 21, 22, 23, 24, 25, 26, 27, 28, 29, 30, 31, 32, 33, 34, 35, 36, 37, 38, 39, 40, 41, 42, 43, 44, 45, 46, 47, 48, 49, 50, 51, 52, 53, 54, 55, 56, 57, 58, 59, 60, 61, 62, 63, 64, 65, 66, 67, 68, 69, 70, 71, 72, 73, 74, 75, 76, 77, 78, 79, 80, 81, 82, 83, 84, 85, 86, 87]] [83, 84] [(0, 0), (0, 0), (0, 0), (0, 0), (0, 0), (0, 0), (0, 0), (0, 0), (0, 0), (0, 0), (0, 0), (0, 0), (0, 0), (0, 0), (0, 0), (0, 0), (0, 0), (0, 0), (0, 0), (0, 0), (0, 0), (0, 0), (0, 0), (0, 0), (0, 0), (0, 0), (0, 0), (0, 0), (0, 0), (0, 0), (0, 0), (0, 0), (0, 0), (0, 0), (0, 0), (0, 0), (0, 0), (0, 0), (0, 0), (0, 0), (0, 0), (0, 0), (0, 0), (0, 0), (0, 0), (0, 0), (0, 0), (0, 0), (0, 0), (0, 0), (0, 0), (0, 0), (0, 0), (0, 0), (0, 0), (0, 0), (0, 0), (0, 0), (0, 0), (0, 0), (0, 0), (0, 0), (0, 0), (0, 0), (0, 0), (0, 0), (0, 0), (0, 0), (0, 0), (0, 0), (0, 0), (0, 0), (0, 0), (0, 0), (0, 0), (0, 0), (0, 0), (0, 0), (0, 0), (0, 0), (0, 1), (0, 1), (0, 0), (0, 0), (1, 1), (2, 2), (2, 2), (2, 2), (2, 2)] (by kernel_rfl) (by kernel_rfl) (by kernel_rfl) rfl (by kernel_rfl) (by kernel_rfl) (fun _ h1 h2 h3 h4 _ => hS107.same h1 h2 h3 h4) ?_ (AF_loc ⟨dA, dA, dA, dA, dA, dA, dA, dA, dA, dA, dA, dA, dA, dA, dA, dA, dA, dA, dA, dA, dA, dA, dA, dA, dA, dA, dA, dA, dA, dA, dA, dA, dA, dA, dA, dA, dA, dA, dA, dA, dA, dA, dA, dA, dA, dA, dA, dA, dA, dA, dA, dA, dA, dA, dA, dA, dA, dA, dA, dA, dA, dA, dA, dA, dA, dA, dA, dA, dA, dA, dA, dA, dA, dA, dA, dA, dA, dA, dA, dA, dA, dA, dA, dT, dT, dA, dA, dA, dA, trivial⟩) ⟨?_, ?_, ?_, ?_, ?_, ?_, ?_, ?_, ?_, ?_, ?_, ?_, ?_, ?_, ?_, ?_, ?_, ?_, ?_, ?_, ?_, ?_, ?_, ?_, ?_, ?_, ?_, ?_, ?_, ?_, ?_, ?_, ?_, ?_, ?_, ?_, ?_, ?_, ?_, ?_, ?_, ?_, ?_, ?_, ?_, ?_, ?_, ?_, ?_, ?_, ?_, ?_, ?_, ?_, ?_, ?_, ?_, ?_, ?_, ?_, ?_, ?_, ?_, ?_, ?_, ?_, ?_, ?_, ?_, ?_, ?_, ?_, ?_, ?_, ?_, ?_, ?_, ?_, ?_, ?_, ?_, ?_, ?_, ?_, ?_, ?_, ?_, ?_, ?_, trivial⟩ ?_
      ·intro k vals vals' w hv h
       have e : ∀ j ∈ ([83, 84] : List Nat), vals' j = vals j := hv
       match k, h with
       | 0, h => exact h
       | 1, h => exact (by simpa only [WF, List.getElem?_cons_zero, List.getElem?_cons_succ, e 83 (by decide)] using h)
       | 2, h => exact (by simpa only [WF, List.getElem?_cons_zero, List.getElem?_cons_succ, e 83 (by decide), e 84 (by decide)] using h)
       | _ + 3, _ => trivial
      ·intro k3872 vals w3873 h3876 h3877 hW3875 hA3874
       refine obl rfl ?_
       exact fd57_1 rfl (fun vals' hv _ => ⟨rfl, hv⟩)
      ·intro k3878 vals w3879 h3882 h3883 hW3881 hA3880
       obtain rfl : k3878 = 0 := Nat.le_antisymm h3883 h3882
       have hS3884 : Sep G53 w41 ((Blk b102 (((ansL (1 + q18) (laidL (1 + q18) l) self m chunk).getD k9 default).cells (cellV w41 (sb v40) (so v40 + k9 * 5 + 3)) (cellV w41 (sb v40) (so v40 + k9 * 5 + 4))).toArray 57) :: (SetO b24 (1 + q18) (laidL (1 + q18) l)) :: (Blk b2 (m.cells dm0 dm1).toArray 57) :: Rs) w3879 := hW3881
       have e3885 := hA3880 0 (by decide)
       refine obl rfl ?_
       exact ov_load1 (v := .int .i64 (((ansL (1 + q18) (laidL (1 + q18) l) self m chunk).getD k9 default).frm)) Try.isAgg3 e3885 (blk_cellL (hS3884.blk (i := 0) rfl) rfl) (fun vals' hv _ => ⟨rfl, hv⟩)
      ·intro k3886 vals w3887 h3890 h3891 hW3889 hA3888
       refine obl rfl ?_
       exact ov_move (v := .int .i64 (self)) rfl (fun vals' hv _ => ⟨rfl, hv⟩)
      ·intro k3892 vals w3893 h3896 h3897 hW3895 hA3894
       obtain rfl : k3892 = 0 := Nat.le_antisymm h3897 h3896
       have hS3898 : Sep G53 w41 ((Blk b102 (((ansL (1 + q18) (laidL (1 + q18) l) self m chunk).getD k9 default).cells (cellV w41 (sb v40) (so v40 + k9 * 5 + 3)) (cellV w41 (sb v40) (so v40 + k9 * 5 + 4))).toArray 57) :: (SetO b24 (1 + q18) (laidL (1 + q18) l)) :: (Blk b2 (m.cells dm0 dm1).toArray 57) :: Rs) w3893 := hW3895
       have e3899 := hA3894 1 (by decide)
       have e3900 := hA3894 2 (by decide)
       refine obl rfl ?_
       have hl3901 : (!decide ((((ansL (1 + q18) (laidL (1 + q18) l) self m chunk).getD k9 default).frm) = self)) = false := by rw [hxa9]; simp
       exact ov_neq (k := .i64) (a := ((ansL (1 + q18) (laidL (1 + q18) l) self m chunk).getD k9 default).frm) (b := self) e3899 e3900 (fun vals' hv _ => ⟨rfl, hv.trans (congrArg Value.bool hl3901)⟩)
      ·intro k3902 vals w3903 h3906 h3907 hW3905 hA3904
       have e3908 := hA3904 3 (by decide)
       refine obl rfl ?_
       exact ov_move (v := .bool false) e3908 (fun vals' hv _ => ⟨rfl, hv⟩)
      ·intro k3909 vals w3910 h3913 h3914 hW3912 hA3911
       have e3915 := hA3911 4 (by decide)
       refine oblc rfl rfl e3915 (fun _ => ?_) (fun hb => absurd rfl hb)
       exact fd57_2 rfl (fun vals' hv _ => ⟨rfl, hv⟩)
      ·intro k3916 vals w3917 h3920 h3921 hW3919 hA3918
       obtain rfl : k3916 = 0 := Nat.le_antisymm h3921 h3920
       have hS3922 : Sep G53 w41 ((Blk b102 (((ansL (1 + q18) (laidL (1 + q18) l) self m chunk).getD k9 default).cells (cellV w41 (sb v40) (so v40 + k9 * 5 + 3)) (cellV w41 (sb v40) (so v40 + k9 * 5 + 4))).toArray 57) :: (SetO b24 (1 + q18) (laidL (1 + q18) l)) :: (Blk b2 (m.cells dm0 dm1).toArray 57) :: Rs) w3917 := hW3919
       have e3923 := hA3918 4 (by decide)
       have e3924 := hA3918 5 (by decide)
       refine oblc rfl rfl e3923 (fun _ => ?_) (fun hb => absurd rfl hb)
       exact ov_load1 (v := .int .i64 (((ansL (1 + q18) (laidL (1 + q18) l) self m chunk).getD k9 default).dst)) Try.isAgg3 e3924 (blk_cellL (hS3922.blk (i := 0) rfl) rfl) (fun vals' hv _ => ⟨rfl, hv⟩)
      ·intro k3925 vals w3926 h3929 h3930 hW3928 hA3927
       have e3931 := hA3927 4 (by decide)
       refine oblc rfl rfl e3931 (fun _ => ?_) (fun hb => absurd rfl hb)
       exact fd57_1 rfl (fun vals' hv _ => ⟨rfl, hv⟩)
      ·intro k3932 vals w3933 h3936 h3937 hW3935 hA3934
       obtain rfl : k3932 = 0 := Nat.le_antisymm h3937 h3936
       have hS3938 : Sep G53 w41 ((Blk b102 (((ansL (1 + q18) (laidL (1 + q18) l) self m chunk).getD k9 default).cells (cellV w41 (sb v40) (so v40 + k9 * 5 + 3)) (cellV w41 (sb v40) (so v40 + k9 * 5 + 4))).toArray 57) :: (SetO b24 (1 + q18) (laidL (1 + q18) l)) :: (Blk b2 (m.cells dm0 dm1).toArray 57) :: Rs) w3933 := hW3935
       have e3939 := hA3934 4 (by decide)
       have e3940 := hA3934 7 (by decide)
       refine oblc rfl rfl e3939 (fun _ => ?_) (fun hb => absurd rfl hb)
       exact ov_load1 (v := .int .i64 (m.frm)) Try.isAgg3 e3940 (blk_cellL (hS3938.blk (i := 2) rfl) rfl) (fun vals' hv _ => ⟨rfl, hv⟩)
      ·intro k3941 vals w3942 h3945 h3946 hW3944 hA3943
       obtain rfl : k3941 = 0 := Nat.le_antisymm h3946 h3945
       have hS3947 : Sep G53 w41 ((Blk b102 (((ansL (1 + q18) (laidL (1 + q18) l) self m chunk).getD k9 default).cells (cellV w41 (sb v40) (so v40 + k9 * 5 + 3)) (cellV w41 (sb v40) (so v40 + k9 * 5 + 4))).toArray 57) :: (SetO b24 (1 + q18) (laidL (1 + q18) l)) :: (Blk b2 (m.cells dm0 dm1).toArray 57) :: Rs) w3942 := hW3944
       have e3948 := hA3943 4 (by decide)
       have e3949 := hA3943 6 (by decide)
       have e3950 := hA3943 8 (by decide)
       refine oblc rfl rfl e3948 (fun _ => ?_) (fun hb => absurd rfl hb)
       have hl3951 : (!decide ((((ansL (1 + q18) (laidL (1 + q18) l) self m chunk).getD k9 default).dst) = m.frm)) = false := by rw [hxb9]; simp
       exact ov_neq (k := .i64) (a := ((ansL (1 + q18) (laidL (1 + q18) l) self m chunk).getD k9 default).dst) (b := m.frm) e3949 e3950 (fun vals' hv _ => ⟨rfl, hv.trans (congrArg Value.bool hl3951)⟩)
      ·intro k3952 vals w3953 h3956 h3957 hW3955 hA3954
       have e3958 := hA3954 4 (by decide)
       have e3959 := hA3954 9 (by decide)
       refine obl rfl ?_
       exact ov_pick_f (v := .bool false) e3958 e3959 (fun vals' hv _ => ⟨rfl, hv⟩)
      ·intro k3960 vals w3961 h3964 h3965 hW3963 hA3962
       have e3966 := hA3962 10 (by decide)
       refine obl rfl ?_
       exact ov_move (v := .bool false) e3966 (fun vals' hv _ => ⟨rfl, hv⟩)
      ·intro k3967 vals w3968 h3971 h3972 hW3970 hA3969
       have e3973 := hA3969 11 (by decide)
       refine oblc rfl rfl e3973 (fun _ => ?_) (fun hb => absurd rfl hb)
       exact fd57_0 rfl (fun vals' hv _ => ⟨rfl, hv⟩)
      ·intro k3974 vals w3975 h3978 h3979 hW3977 hA3976
       obtain rfl : k3974 = 0 := Nat.le_antisymm h3979 h3978
       have hS3980 : Sep G53 w41 ((Blk b102 (((ansL (1 + q18) (laidL (1 + q18) l) self m chunk).getD k9 default).cells (cellV w41 (sb v40) (so v40 + k9 * 5 + 3)) (cellV w41 (sb v40) (so v40 + k9 * 5 + 4))).toArray 57) :: (SetO b24 (1 + q18) (laidL (1 + q18) l)) :: (Blk b2 (m.cells dm0 dm1).toArray 57) :: Rs) w3975 := hW3977
       have e3981 := hA3976 11 (by decide)
       have e3982 := hA3976 12 (by decide)
       refine oblc rfl rfl e3981 (fun _ => ?_) (fun hb => absurd rfl hb)
       exact ov_load1 (v := .int .i64 (((ansL (1 + q18) (laidL (1 + q18) l) self m chunk).getD k9 default).kind)) Try.isAgg3 e3982 (blk_cellL (hS3980.blk (i := 0) rfl) rfl) (fun vals' hv _ => ⟨rfl, hv⟩)
      ·intro k3983 vals w3984 h3987 h3988 hW3986 hA3985
       obtain rfl : k3983 = 0 := Nat.le_antisymm h3988 h3987
       have hS3989 : Sep G53 w41 ((Blk b102 (((ansL (1 + q18) (laidL (1 + q18) l) self m chunk).getD k9 default).cells (cellV w41 (sb v40) (so v40 + k9 * 5 + 3)) (cellV w41 (sb v40) (so v40 + k9 * 5 + 4))).toArray 57) :: (SetO b24 (1 + q18) (laidL (1 + q18) l)) :: (Blk b2 (m.cells dm0 dm1).toArray 57) :: Rs) w3984 := hW3986
       have e3990 := hA3985 11 (by decide)
       have e3991 := hA3985 13 (by decide)
       refine oblc rfl rfl e3990 (fun _ => ?_) (fun hb => absurd rfl hb)
       have hl3992 : (decide ((((ansL (1 + q18) (laidL (1 + q18) l) self m chunk).getD k9 default).kind) = 3)) = false := decide_eq_false (by omega)
       exact ov_eql (k := .i64) (a := ((ansL (1 + q18) (laidL (1 + q18) l) self m chunk).getD k9 default).kind) (b := 3) e3991 rfl (fun vals' hv _ => ⟨rfl, hv.trans (congrArg Value.bool hl3992)⟩)
      ·intro k3993 vals w3994 h3997 h3998 hW3996 hA3995
       have e3999 := hA3995 11 (by decide)
       have e4000 := hA3995 14 (by decide)
       refine oblc rfl rfl e3999 (fun _ => ?_) (fun hb => absurd rfl hb)
       exact ov_move (v := .bool false) e4000 (fun vals' hv _ => ⟨rfl, hv⟩)
      ·intro k4001 vals w4002 h4005 h4006 hW4004 hA4003
       have e4007 := hA4003 15 (by decide)
       exact oblc rfl rfl e4007 (fun hb => absurd hb (by decide)) (fun _ vals' hv _ => ⟨trivial, hv⟩)
      ·intro k4008 vals w4009 h4012 h4013 hW4011 hA4010
       obtain rfl : k4008 = 0 := Nat.le_antisymm h4013 h4012
       have hS4014 : Sep G53 w41 ((Blk b102 (((ansL (1 + q18) (laidL (1 + q18) l) self m chunk).getD k9 default).cells (cellV w41 (sb v40) (so v40 + k9 * 5 + 3)) (cellV w41 (sb v40) (so v40 + k9 * 5 + 4))).toArray 57) :: (SetO b24 (1 + q18) (laidL (1 + q18) l)) :: (Blk b2 (m.cells dm0 dm1).toArray 57) :: Rs) w4009 := hW4011
       have e4015 := hA4010 15 (by decide)
       have e4016 := hA4010 16 (by decide)
       exact oblc rfl rfl e4015 (fun hb => absurd hb (by decide)) (fun _ vals' hv _ => ⟨trivial, hv⟩)
      ·intro k4017 vals w4018 h4021 h4022 hW4020 hA4019
       have e4023 := hA4019 15 (by decide)
       have e4024 := hA4019 17 (by decide)
       exact oblc rfl rfl e4023 (fun hb => absurd hb (by decide)) (fun _ vals' hv _ => ⟨trivial, hv⟩)
      ·intro k4025 vals w4026 h4029 h4030 hW4028 hA4027
       have e4031 := hA4027 18 (by decide)
       exact oblu rfl rfl e4031 (fun vals' hv _ => ⟨trivial, hv⟩)
      ·intro k4032 vals w4033 h4036 h4037 hW4035 hA4034
       obtain rfl : k4032 = 0 := Nat.le_antisymm h4037 h4036
       have hS4038 : Sep G53 w41 ((Blk b102 (((ansL (1 + q18) (laidL (1 + q18) l) self m chunk).getD k9 default).cells (cellV w41 (sb v40) (so v40 + k9 * 5 + 3)) (cellV w41 (sb v40) (so v40 + k9 * 5 + 4))).toArray 57) :: (SetO b24 (1 + q18) (laidL (1 + q18) l)) :: (Blk b2 (m.cells dm0 dm1).toArray 57) :: Rs) w4033 := hW4035
       have e4039 := hA4034 18 (by decide)
       have e4040 := hA4034 19 (by decide)
       exact oblu rfl rfl e4039 (fun vals' hv _ => ⟨trivial, hv⟩)
      ·intro k4041 vals w4042 h4045 h4046 hW4044 hA4043
       obtain rfl : k4041 = 0 := Nat.le_antisymm h4046 h4045
       have hS4047 : Sep G53 w41 ((Blk b102 (((ansL (1 + q18) (laidL (1 + q18) l) self m chunk).getD k9 default).cells (cellV w41 (sb v40) (so v40 + k9 * 5 + 3)) (cellV w41 (sb v40) (so v40 + k9 * 5 + 4))).toArray 57) :: (SetO b24 (1 + q18) (laidL (1 + q18) l)) :: (Blk b2 (m.cells dm0 dm1).toArray 57) :: Rs) w4042 := hW4044
       have e4048 := hA4043 18 (by decide)
       have e4049 := hA4043 20 (by decide)
       exact oblu rfl rfl e4048 (fun vals' hv _ => ⟨trivial, hv⟩)
      ·intro k4050 vals w4051 h4054 h4055 hW4053 hA4052
       obtain rfl : k4050 = 0 := Nat.le_antisymm h4055 h4054
       have hS4056 : Sep G53 w41 ((Blk b102 (((ansL (1 + q18) (laidL (1 + q18) l) self m chunk).getD k9 default).cells (cellV w41 (sb v40) (so v40 + k9 * 5 + 3)) (cellV w41 (sb v40) (so v40 + k9 * 5 + 4))).toArray 57) :: (SetO b24 (1 + q18) (laidL (1 + q18) l)) :: (Blk b2 (m.cells dm0 dm1).toArray 57) :: Rs) w4051 := hW4053
       have e4057 := hA4052 18 (by decide)
       have e4058 := hA4052 21 (by decide)
       exact oblu rfl rfl e4057 (fun vals' hv _ => ⟨trivial, hv⟩)
      ·intro k4059 vals w4060 h4063 h4064 hW4062 hA4061
       have e4065 := hA4061 15 (by decide)
       have e4066 := hA4061 18 (by decide)
       have e4067 := hA4061 22 (by decide)
       exact oblc rfl rfl e4065 (fun hb => absurd hb (by decide)) (fun _ vals' hv _ => ⟨trivial, hv⟩)
      ·intro k4068 vals w4069 h4072 h4073 hW4071 hA4070
       have e4074 := hA4070 15 (by decide)
       have e4075 := hA4070 23 (by decide)
       exact oblc rfl rfl e4074 (fun hb => absurd hb (by decide)) (fun _ vals' hv _ => ⟨trivial, hv⟩)
      ·intro k4076 vals w4077 h4080 h4081 hW4079 hA4078
       have e4082 := hA4078 24 (by decide)
       exact oblu rfl rfl e4082 (fun vals' hv _ => ⟨trivial, hv⟩)
      ·intro k4083 vals w4084 h4087 h4088 hW4086 hA4085
       obtain rfl : k4083 = 0 := Nat.le_antisymm h4088 h4087
       have hS4089 : Sep G53 w41 ((Blk b102 (((ansL (1 + q18) (laidL (1 + q18) l) self m chunk).getD k9 default).cells (cellV w41 (sb v40) (so v40 + k9 * 5 + 3)) (cellV w41 (sb v40) (so v40 + k9 * 5 + 4))).toArray 57) :: (SetO b24 (1 + q18) (laidL (1 + q18) l)) :: (Blk b2 (m.cells dm0 dm1).toArray 57) :: Rs) w4084 := hW4086
       have e4090 := hA4085 24 (by decide)
       have e4091 := hA4085 25 (by decide)
       exact oblu rfl rfl e4090 (fun vals' hv _ => ⟨trivial, hv⟩)
      ·intro k4092 vals w4093 h4096 h4097 hW4095 hA4094
       obtain rfl : k4092 = 0 := Nat.le_antisymm h4097 h4096
       have hS4098 : Sep G53 w41 ((Blk b102 (((ansL (1 + q18) (laidL (1 + q18) l) self m chunk).getD k9 default).cells (cellV w41 (sb v40) (so v40 + k9 * 5 + 3)) (cellV w41 (sb v40) (so v40 + k9 * 5 + 4))).toArray 57) :: (SetO b24 (1 + q18) (laidL (1 + q18) l)) :: (Blk b2 (m.cells dm0 dm1).toArray 57) :: Rs) w4093 := hW4095
       have e4099 := hA4094 24 (by decide)
       have e4100 := hA4094 26 (by decide)
       exact oblu rfl rfl e4099 (fun vals' hv _ => ⟨trivial, hv⟩)
      ·intro k4101 vals w4102 h4105 h4106 hW4104 hA4103
       obtain rfl : k4101 = 0 := Nat.le_antisymm h4106 h4105
       have hS4107 : Sep G53 w41 ((Blk b102 (((ansL (1 + q18) (laidL (1 + q18) l) self m chunk).getD k9 default).cells (cellV w41 (sb v40) (so v40 + k9 * 5 + 3)) (cellV w41 (sb v40) (so v40 + k9 * 5 + 4))).toArray 57) :: (SetO b24 (1 + q18) (laidL (1 + q18) l)) :: (Blk b2 (m.cells dm0 dm1).toArray 57) :: Rs) w4102 := hW4104
       have e4108 := hA4103 24 (by decide)
       have e4109 := hA4103 27 (by decide)
       exact oblu rfl rfl e4108 (fun vals' hv _ => ⟨trivial, hv⟩)
      ·intro k4110 vals w4111 h4114 h4115 hW4113 hA4112
       have e4116 := hA4112 15 (by decide)
       have e4117 := hA4112 24 (by decide)
       have e4118 := hA4112 28 (by decide)
       exact oblc rfl rfl e4116 (fun hb => absurd hb (by decide)) (fun _ vals' hv _ => ⟨trivial, hv⟩)
      ·intro k4119 vals w4120 h4123 h4124 hW4122 hA4121
       have e4125 := hA4121 15 (by decide)
       have e4126 := hA4121 29 (by decide)
       exact oblc rfl rfl e4125 (fun hb => absurd hb (by decide)) (fun _ vals' hv _ => ⟨trivial, hv⟩)
      ·intro k4127 vals w4128 h4131 h4132 hW4130 hA4129
       have e4133 := hA4129 30 (by decide)
       exact oblu rfl rfl e4133 (fun vals' hv _ => ⟨trivial, hv⟩)
      ·intro k4134 vals w4135 h4138 h4139 hW4137 hA4136
       obtain rfl : k4134 = 0 := Nat.le_antisymm h4139 h4138
       have hS4140 : Sep G53 w41 ((Blk b102 (((ansL (1 + q18) (laidL (1 + q18) l) self m chunk).getD k9 default).cells (cellV w41 (sb v40) (so v40 + k9 * 5 + 3)) (cellV w41 (sb v40) (so v40 + k9 * 5 + 4))).toArray 57) :: (SetO b24 (1 + q18) (laidL (1 + q18) l)) :: (Blk b2 (m.cells dm0 dm1).toArray 57) :: Rs) w4135 := hW4137
       have e4141 := hA4136 30 (by decide)
       have e4142 := hA4136 31 (by decide)
       exact oblu rfl rfl e4141 (fun vals' hv _ => ⟨trivial, hv⟩)
      ·intro k4143 vals w4144 h4147 h4148 hW4146 hA4145
       obtain rfl : k4143 = 0 := Nat.le_antisymm h4148 h4147
       have hS4149 : Sep G53 w41 ((Blk b102 (((ansL (1 + q18) (laidL (1 + q18) l) self m chunk).getD k9 default).cells (cellV w41 (sb v40) (so v40 + k9 * 5 + 3)) (cellV w41 (sb v40) (so v40 + k9 * 5 + 4))).toArray 57) :: (SetO b24 (1 + q18) (laidL (1 + q18) l)) :: (Blk b2 (m.cells dm0 dm1).toArray 57) :: Rs) w4144 := hW4146
       have e4150 := hA4145 30 (by decide)
       have e4151 := hA4145 32 (by decide)
       exact oblu rfl rfl e4150 (fun vals' hv _ => ⟨trivial, hv⟩)
      ·intro k4152 vals w4153 h4156 h4157 hW4155 hA4154
       obtain rfl : k4152 = 0 := Nat.le_antisymm h4157 h4156
       have hS4158 : Sep G53 w41 ((Blk b102 (((ansL (1 + q18) (laidL (1 + q18) l) self m chunk).getD k9 default).cells (cellV w41 (sb v40) (so v40 + k9 * 5 + 3)) (cellV w41 (sb v40) (so v40 + k9 * 5 + 4))).toArray 57) :: (SetO b24 (1 + q18) (laidL (1 + q18) l)) :: (Blk b2 (m.cells dm0 dm1).toArray 57) :: Rs) w4153 := hW4155
       have e4159 := hA4154 30 (by decide)
       have e4160 := hA4154 33 (by decide)
       exact oblu rfl rfl e4159 (fun vals' hv _ => ⟨trivial, hv⟩)
      ·intro k4161 vals w4162 h4165 h4166 hW4164 hA4163
       have e4167 := hA4163 15 (by decide)
       have e4168 := hA4163 30 (by decide)
       have e4169 := hA4163 34 (by decide)
       exact oblc rfl rfl e4167 (fun hb => absurd hb (by decide)) (fun _ vals' hv _ => ⟨trivial, hv⟩)
      ·intro k4170 vals w4171 h4174 h4175 hW4173 hA4172
       have e4176 := hA4172 11 (by decide)
       have e4177 := hA4172 15 (by decide)
       have e4178 := hA4172 35 (by decide)
       refine oblc rfl rfl e4176 (fun _ => ?_) (fun hb => absurd rfl hb)
       exact ov_pick_f (v := .bool false) e4177 rfl (fun vals' hv _ => ⟨rfl, hv⟩)
      ·intro k4179 vals w4180 h4183 h4184 hW4182 hA4181
       have e4185 := hA4181 11 (by decide)
       have e4186 := hA4181 36 (by decide)
       refine obl rfl ?_
       exact ov_pick_f (v := .bool false) e4185 e4186 (fun vals' hv _ => ⟨rfl, hv⟩)
      ·intro k4187 vals w4188 h4191 h4192 hW4190 hA4189
       have e4193 := hA4189 37 (by decide)
       refine obl rfl ?_
       exact ov_move (v := .bool false) e4193 (fun vals' hv _ => ⟨rfl, hv⟩)
      ·intro k4194 vals w4195 h4198 h4199 hW4197 hA4196
       have e4200 := hA4196 38 (by decide)
       refine oblc rfl rfl e4200 (fun _ => ?_) (fun hb => absurd rfl hb)
       exact fd57_0 rfl (fun vals' hv _ => ⟨rfl, hv⟩)
      ·intro k4201 vals w4202 h4205 h4206 hW4204 hA4203
       obtain rfl : k4201 = 0 := Nat.le_antisymm h4206 h4205
       have hS4207 : Sep G53 w41 ((Blk b102 (((ansL (1 + q18) (laidL (1 + q18) l) self m chunk).getD k9 default).cells (cellV w41 (sb v40) (so v40 + k9 * 5 + 3)) (cellV w41 (sb v40) (so v40 + k9 * 5 + 4))).toArray 57) :: (SetO b24 (1 + q18) (laidL (1 + q18) l)) :: (Blk b2 (m.cells dm0 dm1).toArray 57) :: Rs) w4202 := hW4204
       have e4208 := hA4203 38 (by decide)
       have e4209 := hA4203 39 (by decide)
       refine oblc rfl rfl e4208 (fun _ => ?_) (fun hb => absurd rfl hb)
       exact ov_load1 (v := .int .i64 (((ansL (1 + q18) (laidL (1 + q18) l) self m chunk).getD k9 default).kind)) Try.isAgg3 e4209 (blk_cellL (hS4207.blk (i := 0) rfl) rfl) (fun vals' hv _ => ⟨rfl, hv⟩)
      ·intro k4210 vals w4211 h4214 h4215 hW4213 hA4212
       obtain rfl : k4210 = 0 := Nat.le_antisymm h4215 h4214
       have hS4216 : Sep G53 w41 ((Blk b102 (((ansL (1 + q18) (laidL (1 + q18) l) self m chunk).getD k9 default).cells (cellV w41 (sb v40) (so v40 + k9 * 5 + 3)) (cellV w41 (sb v40) (so v40 + k9 * 5 + 4))).toArray 57) :: (SetO b24 (1 + q18) (laidL (1 + q18) l)) :: (Blk b2 (m.cells dm0 dm1).toArray 57) :: Rs) w4211 := hW4213
       have e4217 := hA4212 38 (by decide)
       have e4218 := hA4212 40 (by decide)
       refine oblc rfl rfl e4217 (fun _ => ?_) (fun hb => absurd rfl hb)
       have hl4219 : (decide ((((ansL (1 + q18) (laidL (1 + q18) l) self m chunk).getD k9 default).kind) = 2)) = false := decide_eq_false (by omega)
       exact ov_eql (k := .i64) (a := ((ansL (1 + q18) (laidL (1 + q18) l) self m chunk).getD k9 default).kind) (b := 2) e4218 rfl (fun vals' hv _ => ⟨rfl, hv.trans (congrArg Value.bool hl4219)⟩)
      ·intro k4220 vals w4221 h4224 h4225 hW4223 hA4222
       have e4226 := hA4222 38 (by decide)
       have e4227 := hA4222 41 (by decide)
       refine oblc rfl rfl e4226 (fun _ => ?_) (fun hb => absurd rfl hb)
       exact ov_move (v := .bool false) e4227 (fun vals' hv _ => ⟨rfl, hv⟩)
      ·intro k4228 vals w4229 h4232 h4233 hW4231 hA4230
       have e4234 := hA4230 42 (by decide)
       exact oblc rfl rfl e4234 (fun hb => absurd hb (by decide)) (fun _ vals' hv _ => ⟨trivial, hv⟩)
      ·intro k4235 vals w4236 h4239 h4240 hW4238 hA4237
       obtain rfl : k4235 = 0 := Nat.le_antisymm h4240 h4239
       have hS4241 : Sep G53 w41 ((Blk b102 (((ansL (1 + q18) (laidL (1 + q18) l) self m chunk).getD k9 default).cells (cellV w41 (sb v40) (so v40 + k9 * 5 + 3)) (cellV w41 (sb v40) (so v40 + k9 * 5 + 4))).toArray 57) :: (SetO b24 (1 + q18) (laidL (1 + q18) l)) :: (Blk b2 (m.cells dm0 dm1).toArray 57) :: Rs) w4236 := hW4238
       have e4242 := hA4237 42 (by decide)
       have e4243 := hA4237 43 (by decide)
       exact oblc rfl rfl e4242 (fun hb => absurd hb (by decide)) (fun _ vals' hv _ => ⟨trivial, hv⟩)
      ·intro k4244 vals w4245 h4248 h4249 hW4247 hA4246
       obtain rfl : k4244 = 0 := Nat.le_antisymm h4249 h4248
       have hS4250 : Sep G53 w41 ((Blk b102 (((ansL (1 + q18) (laidL (1 + q18) l) self m chunk).getD k9 default).cells (cellV w41 (sb v40) (so v40 + k9 * 5 + 3)) (cellV w41 (sb v40) (so v40 + k9 * 5 + 4))).toArray 57) :: (SetO b24 (1 + q18) (laidL (1 + q18) l)) :: (Blk b2 (m.cells dm0 dm1).toArray 57) :: Rs) w4245 := hW4247
       have e4251 := hA4246 42 (by decide)
       have e4252 := hA4246 44 (by decide)
       exact oblc rfl rfl e4251 (fun hb => absurd hb (by decide)) (fun _ vals' hv _ => ⟨trivial, hv⟩)
      ·intro k4253 vals w4254 h4257 h4258 hW4256 hA4255
       have e4259 := hA4255 42 (by decide)
       have e4260 := hA4255 45 (by decide)
       exact oblc rfl rfl e4259 (fun hb => absurd hb (by decide)) (fun _ vals' hv _ => ⟨trivial, hv⟩)
      ·intro k4261 vals w4262 h4265 h4266 hW4264 hA4263
       have e4267 := hA4263 46 (by decide)
       exact oblu rfl rfl e4267 (fun vals' hv _ => ⟨trivial, hv⟩)
      ·intro k4268 vals w4269 h4272 h4273 hW4271 hA4270
       have e4274 := hA4270 46 (by decide)
       exact oblu rfl rfl e4274 (fun vals' hv _ => ⟨trivial, hv⟩)
      ·intro k4275 vals w4276 h4279 h4280 hW4278 hA4277
       obtain rfl : k4275 = 0 := Nat.le_antisymm h4280 h4279
       have hS4281 : Sep G53 w41 ((Blk b102 (((ansL (1 + q18) (laidL (1 + q18) l) self m chunk).getD k9 default).cells (cellV w41 (sb v40) (so v40 + k9 * 5 + 3)) (cellV w41 (sb v40) (so v40 + k9 * 5 + 4))).toArray 57) :: (SetO b24 (1 + q18) (laidL (1 + q18) l)) :: (Blk b2 (m.cells dm0 dm1).toArray 57) :: Rs) w4276 := hW4278
       have e4282 := hA4277 46 (by decide)
       have e4283 := hA4277 48 (by decide)
       exact oblu rfl rfl e4282 (fun vals' hv _ => ⟨trivial, hv⟩)
      ·intro k4284 vals w4285 h4288 h4289 hW4287 hA4286
       obtain rfl : k4284 = 0 := Nat.le_antisymm h4289 h4288
       have hS4290 : Sep G53 w41 ((Blk b102 (((ansL (1 + q18) (laidL (1 + q18) l) self m chunk).getD k9 default).cells (cellV w41 (sb v40) (so v40 + k9 * 5 + 3)) (cellV w41 (sb v40) (so v40 + k9 * 5 + 4))).toArray 57) :: (SetO b24 (1 + q18) (laidL (1 + q18) l)) :: (Blk b2 (m.cells dm0 dm1).toArray 57) :: Rs) w4285 := hW4287
       have e4291 := hA4286 46 (by decide)
       have e4292 := hA4286 49 (by decide)
       exact oblu rfl rfl e4291 (fun vals' hv _ => ⟨trivial, hv⟩)
      ·intro k4293 vals w4294 h4297 h4298 hW4296 hA4295
       obtain rfl : k4293 = 0 := Nat.le_antisymm h4298 h4297
       have hS4299 : Sep G53 w41 ((Blk b102 (((ansL (1 + q18) (laidL (1 + q18) l) self m chunk).getD k9 default).cells (cellV w41 (sb v40) (so v40 + k9 * 5 + 3)) (cellV w41 (sb v40) (so v40 + k9 * 5 + 4))).toArray 57) :: (SetO b24 (1 + q18) (laidL (1 + q18) l)) :: (Blk b2 (m.cells dm0 dm1).toArray 57) :: Rs) w4294 := hW4296
       have e4300 := hA4295 46 (by decide)
       have e4301 := hA4295 47 (by decide)
       have e4302 := hA4295 50 (by decide)
       exact oblu rfl rfl e4300 (fun vals' hv _ => ⟨trivial, hv⟩)
      ·intro k4303 vals w4304 h4307 h4308 hW4306 hA4305
       have e4309 := hA4305 42 (by decide)
       have e4310 := hA4305 46 (by decide)
       have e4311 := hA4305 51 (by decide)
       exact oblc rfl rfl e4309 (fun hb => absurd hb (by decide)) (fun _ vals' hv _ => ⟨trivial, hv⟩)
      ·intro k4312 vals w4313 h4316 h4317 hW4315 hA4314
       have e4318 := hA4314 38 (by decide)
       have e4319 := hA4314 42 (by decide)
       have e4320 := hA4314 52 (by decide)
       refine oblc rfl rfl e4318 (fun _ => ?_) (fun hb => absurd rfl hb)
       exact ov_pick_f (v := .bool false) e4319 rfl (fun vals' hv _ => ⟨rfl, hv⟩)
      ·intro k4321 vals w4322 h4325 h4326 hW4324 hA4323
       have e4327 := hA4323 38 (by decide)
       have e4328 := hA4323 53 (by decide)
       refine obl rfl ?_
       exact ov_pick_f (v := .bool false) e4327 e4328 (fun vals' hv _ => ⟨rfl, hv⟩)
      ·intro k4329 vals w4330 h4333 h4334 hW4332 hA4331
       have e4335 := hA4331 54 (by decide)
       refine obl rfl ?_
       exact ov_move (v := .bool false) e4335 (fun vals' hv _ => ⟨rfl, hv⟩)
      ·intro k4336 vals w4337 h4340 h4341 hW4339 hA4338
       have e4342 := hA4338 55 (by decide)
       refine oblc rfl rfl e4342 (fun _ => ?_) (fun hb => absurd rfl hb)
       exact fd57_0 rfl (fun vals' hv _ => ⟨rfl, hv⟩)
      ·intro k4343 vals w4344 h4347 h4348 hW4346 hA4345
       obtain rfl : k4343 = 0 := Nat.le_antisymm h4348 h4347
       have hS4349 : Sep G53 w41 ((Blk b102 (((ansL (1 + q18) (laidL (1 + q18) l) self m chunk).getD k9 default).cells (cellV w41 (sb v40) (so v40 + k9 * 5 + 3)) (cellV w41 (sb v40) (so v40 + k9 * 5 + 4))).toArray 57) :: (SetO b24 (1 + q18) (laidL (1 + q18) l)) :: (Blk b2 (m.cells dm0 dm1).toArray 57) :: Rs) w4344 := hW4346
       have e4350 := hA4345 55 (by decide)
       have e4351 := hA4345 56 (by decide)
       refine oblc rfl rfl e4350 (fun _ => ?_) (fun hb => absurd rfl hb)
       exact ov_load1 (v := .int .i64 (((ansL (1 + q18) (laidL (1 + q18) l) self m chunk).getD k9 default).kind)) Try.isAgg3 e4351 (blk_cellL (hS4349.blk (i := 0) rfl) rfl) (fun vals' hv _ => ⟨rfl, hv⟩)
      ·intro k4352 vals w4353 h4356 h4357 hW4355 hA4354
       obtain rfl : k4352 = 0 := Nat.le_antisymm h4357 h4356
       have hS4358 : Sep G53 w41 ((Blk b102 (((ansL (1 + q18) (laidL (1 + q18) l) self m chunk).getD k9 default).cells (cellV w41 (sb v40) (so v40 + k9 * 5 + 3)) (cellV w41 (sb v40) (so v40 + k9 * 5 + 4))).toArray 57) :: (SetO b24 (1 + q18) (laidL (1 + q18) l)) :: (Blk b2 (m.cells dm0 dm1).toArray 57) :: Rs) w4353 := hW4355
       have e4359 := hA4354 55 (by decide)
       have e4360 := hA4354 57 (by decide)
       refine oblc rfl rfl e4359 (fun _ => ?_) (fun hb => absurd rfl hb)
       have hl4361 : (decide ((((ansL (1 + q18) (laidL (1 + q18) l) self m chunk).getD k9 default).kind) = 4)) = true := decide_eq_true (by omega)
       exact ov_eql (k := .i64) (a := ((ansL (1 + q18) (laidL (1 + q18) l) self m chunk).getD k9 default).kind) (b := 4) e4360 rfl (fun vals' hv _ => ⟨rfl, hv.trans (congrArg Value.bool hl4361)⟩)
      ·intro k4362 vals w4363 h4366 h4367 hW4365 hA4364
       have e4368 := hA4364 55 (by decide)
       have e4369 := hA4364 58 (by decide)
       refine oblc rfl rfl e4368 (fun _ => ?_) (fun hb => absurd rfl hb)
       exact ov_move (v := .bool true) e4369 (fun vals' hv _ => ⟨rfl, hv⟩)
      ·intro k4370 vals w4371 h4374 h4375 hW4373 hA4372
       have e4376 := hA4372 59 (by decide)
       refine oblc rfl rfl e4376 (fun _ => ?_) (fun hb => absurd rfl hb)
       exact ov_move (v := v40) rfl (fun vals' hv _ => ⟨rfl, hv⟩)
      ·intro k4377 vals w4378 h4381 h4382 hW4380 hA4379
       obtain rfl : k4377 = 0 := Nat.le_antisymm h4382 h4381
       have hS4383 : Sep G53 w41 ((Blk b102 (((ansL (1 + q18) (laidL (1 + q18) l) self m chunk).getD k9 default).cells (cellV w41 (sb v40) (so v40 + k9 * 5 + 3)) (cellV w41 (sb v40) (so v40 + k9 * 5 + 4))).toArray 57) :: (SetO b24 (1 + q18) (laidL (1 + q18) l)) :: (Blk b2 (m.cells dm0 dm1).toArray 57) :: Rs) w4378 := hW4380
       have e4384 := hA4379 59 (by decide)
       have e4385 := hA4379 60 (by decide)
       refine oblc rfl rfl e4384 (fun _ => ?_) (fun hb => absurd rfl hb)
       exact ov_len (n := (ansL (1 + q18) (laidL (1 + q18) l) self m chunk).length) Try.underlying58 e4385 hrd59.sl (fun vals' hv _ => ⟨rfl, hv⟩)
      ·intro k4386 vals w4387 h4390 h4391 hW4389 hA4388
       obtain rfl : k4386 = 0 := Nat.le_antisymm h4391 h4390
       have hS4392 : Sep G53 w41 ((Blk b102 (((ansL (1 + q18) (laidL (1 + q18) l) self m chunk).getD k9 default).cells (cellV w41 (sb v40) (so v40 + k9 * 5 + 3)) (cellV w41 (sb v40) (so v40 + k9 * 5 + 4))).toArray 57) :: (SetO b24 (1 + q18) (laidL (1 + q18) l)) :: (Blk b2 (m.cells dm0 dm1).toArray 57) :: Rs) w4387 := hW4389
       have e4393 := hA4388 59 (by decide)
       have e4394 := hA4388 61 (by decide)
       refine oblc rfl rfl e4393 (fun _ => ?_) (fun hb => absurd rfl hb)
       have hl4395 : (decide (1 < (((ansL (1 + q18) (laidL (1 + q18) l) self m chunk).length : Nat) : Int))) = false := decide_eq_false (by omega)
       exact ov_gtr (k := .i64) (a := (((ansL (1 + q18) (laidL (1 + q18) l) self m chunk).length : Nat) : Int)) (b := 1) e4394 rfl (fun vals' hv _ => ⟨rfl, hv.trans (congrArg Value.bool hl4395)⟩)
      ·intro k4396 vals w4397 h4400 h4401 hW4399 hA4398
       have e4402 := hA4398 55 (by decide)
       have e4403 := hA4398 59 (by decide)
       have e4404 := hA4398 62 (by decide)
       refine oblc rfl rfl e4402 (fun _ => ?_) (fun hb => absurd rfl hb)
       exact ov_pick_t (v := .bool false) e4403 e4404 (fun vals' hv _ => ⟨rfl, hv⟩)
      ·intro k4405 vals w4406 h4409 h4410 hW4408 hA4407
       have e4411 := hA4407 55 (by decide)
       have e4412 := hA4407 63 (by decide)
       refine obl rfl ?_
       exact ov_pick_f (v := .bool false) e4411 e4412 (fun vals' hv _ => ⟨rfl, hv⟩)
      ·intro k4413 vals w4414 h4417 h4418 hW4416 hA4415
       have e4419 := hA4415 64 (by decide)
       refine obl rfl ?_
       exact ov_move (v := .bool false) e4419 (fun vals' hv _ => ⟨rfl, hv⟩)
      ·intro k4420 vals w4421 h4424 h4425 hW4423 hA4422
       have e4426 := hA4422 65 (by decide)
       refine oblc rfl rfl e4426 (fun _ => ?_) (fun hb => absurd rfl hb)
       exact fd57_0 rfl (fun vals' hv _ => ⟨rfl, hv⟩)
      ·intro k4427 vals w4428 h4431 h4432 hW4430 hA4429
       obtain rfl : k4427 = 0 := Nat.le_antisymm h4432 h4431
       have hS4433 : Sep G53 w41 ((Blk b102 (((ansL (1 + q18) (laidL (1 + q18) l) self m chunk).getD k9 default).cells (cellV w41 (sb v40) (so v40 + k9 * 5 + 3)) (cellV w41 (sb v40) (so v40 + k9 * 5 + 4))).toArray 57) :: (SetO b24 (1 + q18) (laidL (1 + q18) l)) :: (Blk b2 (m.cells dm0 dm1).toArray 57) :: Rs) w4428 := hW4430
       have e4434 := hA4429 65 (by decide)
       have e4435 := hA4429 66 (by decide)
       refine oblc rfl rfl e4434 (fun _ => ?_) (fun hb => absurd rfl hb)
       exact ov_load1 (v := .int .i64 (((ansL (1 + q18) (laidL (1 + q18) l) self m chunk).getD k9 default).kind)) Try.isAgg3 e4435 (blk_cellL (hS4433.blk (i := 0) rfl) rfl) (fun vals' hv _ => ⟨rfl, hv⟩)
      ·intro k4436 vals w4437 h4440 h4441 hW4439 hA4438
       obtain rfl : k4436 = 0 := Nat.le_antisymm h4441 h4440
       have hS4442 : Sep G53 w41 ((Blk b102 (((ansL (1 + q18) (laidL (1 + q18) l) self m chunk).getD k9 default).cells (cellV w41 (sb v40) (so v40 + k9 * 5 + 3)) (cellV w41 (sb v40) (so v40 + k9 * 5 + 4))).toArray 57) :: (SetO b24 (1 + q18) (laidL (1 + q18) l)) :: (Blk b2 (m.cells dm0 dm1).toArray 57) :: Rs) w4437 := hW4439
       have e4443 := hA4438 65 (by decide)
       have e4444 := hA4438 67 (by decide)
       refine oblc rfl rfl e4443 (fun _ => ?_) (fun hb => absurd rfl hb)
       have hl4445 : (decide ((((ansL (1 + q18) (laidL (1 + q18) l) self m chunk).getD k9 default).kind) = 1)) = false := decide_eq_false (by omega)
       exact ov_eql (k := .i64) (a := ((ansL (1 + q18) (laidL (1 + q18) l) self m chunk).getD k9 default).kind) (b := 1) e4444 rfl (fun vals' hv _ => ⟨rfl, hv.trans (congrArg Value.bool hl4445)⟩)
      ·intro k4446 vals w4447 h4450 h4451 hW4449 hA4448
       have e4452 := hA4448 65 (by decide)
       have e4453 := hA4448 68 (by decide)
       refine obl rfl ?_
       exact ov_pick_f (v := .bool false) e4452 e4453 (fun vals' hv _ => ⟨rfl, hv⟩)
      ·intro k4454 vals w4455 h4458 h4459 hW4457 hA4456
       have e4460 := hA4456 69 (by decide)
       refine obl rfl ?_
       exact ov_move (v := .bool false) e4460 (fun vals' hv _ => ⟨rfl, hv⟩)
      ·intro k4461 vals w4462 h4465 h4466 hW4464 hA4463
       have e4467 := hA4463 70 (by decide)
       refine oblc rfl rfl e4467 (fun _ => ?_) (fun hb => absurd rfl hb)
       exact fd57_0 rfl (fun vals' hv _ => ⟨rfl, hv⟩)
      ·intro k4468 vals w4469 h4472 h4473 hW4471 hA4470
       obtain rfl : k4468 = 0 := Nat.le_antisymm h4473 h4472
       have hS4474 : Sep G53 w41 ((Blk b102 (((ansL (1 + q18) (laidL (1 + q18) l) self m chunk).getD k9 default).cells (cellV w41 (sb v40) (so v40 + k9 * 5 + 3)) (cellV w41 (sb v40) (so v40 + k9 * 5 + 4))).toArray 57) :: (SetO b24 (1 + q18) (laidL (1 + q18) l)) :: (Blk b2 (m.cells dm0 dm1).toArray 57) :: Rs) w4469 := hW4471
       have e4475 := hA4470 70 (by decide)
       have e4476 := hA4470 71 (by decide)
       refine oblc rfl rfl e4475 (fun _ => ?_) (fun hb => absurd rfl hb)
       exact ov_load1 (v := .int .i64 (((ansL (1 + q18) (laidL (1 + q18) l) self m chunk).getD k9 default).kind)) Try.isAgg3 e4476 (blk_cellL (hS4474.blk (i := 0) rfl) rfl) (fun vals' hv _ => ⟨rfl, hv⟩)
      ·intro k4477 vals w4478 h4481 h4482 hW4480 hA4479
       obtain rfl : k4477 = 0 := Nat.le_antisymm h4482 h4481
       have hS4483 : Sep G53 w41 ((Blk b102 (((ansL (1 + q18) (laidL (1 + q18) l) self m chunk).getD k9 default).cells (cellV w41 (sb v40) (so v40 + k9 * 5 + 3)) (cellV w41 (sb v40) (so v40 + k9 * 5 + 4))).toArray 57) :: (SetO b24 (1 + q18) (laidL (1 + q18) l)) :: (Blk b2 (m.cells dm0 dm1).toArray 57) :: Rs) w4478 := hW4480
       have e4484 := hA4479 70 (by decide)
       have e4485 := hA4479 72 (by decide)
       refine oblc rfl rfl e4484 (fun _ => ?_) (fun hb => absurd rfl hb)
       have hl4486 : (!decide ((((ansL (1 + q18) (laidL (1 + q18) l) self m chunk).getD k9 default).kind) = 3)) = true := by rw [hq1]; simp
       exact ov_neq (k := .i64) (a := ((ansL (1 + q18) (laidL (1 + q18) l) self m chunk).getD k9 default).kind) (b := 3) e4485 rfl (fun vals' hv _ => ⟨rfl, hv.trans (congrArg Value.bool hl4486)⟩)
      ·intro k4487 vals w4488 h4491 h4492 hW4490 hA4489
       have e4493 := hA4489 70 (by decide)
       have e4494 := hA4489 73 (by decide)
       refine oblc rfl rfl e4493 (fun _ => ?_) (fun hb => absurd rfl hb)
       exact ov_move (v := .bool true) e4494 (fun vals' hv _ => ⟨rfl, hv⟩)
      ·intro k4495 vals w4496 h4499 h4500 hW4498 hA4497
       have e4501 := hA4497 74 (by decide)
       refine oblc rfl rfl e4501 (fun _ => ?_) (fun hb => absurd rfl hb)
       exact fd57_4 rfl (fun vals' hv _ => ⟨rfl, hv⟩)
      ·intro k4502 vals w4503 h4506 h4507 hW4505 hA4504
       obtain rfl : k4502 = 0 := Nat.le_antisymm h4507 h4506
       have hS4508 : Sep G53 w41 ((Blk b102 (((ansL (1 + q18) (laidL (1 + q18) l) self m chunk).getD k9 default).cells (cellV w41 (sb v40) (so v40 + k9 * 5 + 3)) (cellV w41 (sb v40) (so v40 + k9 * 5 + 4))).toArray 57) :: (SetO b24 (1 + q18) (laidL (1 + q18) l)) :: (Blk b2 (m.cells dm0 dm1).toArray 57) :: Rs) w4503 := hW4505
       have e4509 := hA4504 74 (by decide)
       have e4510 := hA4504 75 (by decide)
       refine oblc rfl rfl e4509 (fun _ => ?_) (fun hb => absurd rfl hb)
       exact ov_load1 (v := (cellV w41 (sb v40) (so v40 + k9 * 5 + 4))) Try.isAgg22 e4510 (blk_cellL (hS4508.blk (i := 0) rfl) rfl) (fun vals' hv _ => ⟨rfl, hv⟩)
      ·intro k4511 vals w4512 h4515 h4516 hW4514 hA4513
       obtain rfl : k4511 = 0 := Nat.le_antisymm h4516 h4515
       have hS4517 : Sep G53 w41 ((Blk b102 (((ansL (1 + q18) (laidL (1 + q18) l) self m chunk).getD k9 default).cells (cellV w41 (sb v40) (so v40 + k9 * 5 + 3)) (cellV w41 (sb v40) (so v40 + k9 * 5 + 4))).toArray 57) :: (SetO b24 (1 + q18) (laidL (1 + q18) l)) :: (Blk b2 (m.cells dm0 dm1).toArray 57) :: Rs) w4512 := hW4514
       have e4518 := hA4513 74 (by decide)
       have e4519 := hA4513 76 (by decide)
       refine oblc rfl rfl e4518 (fun _ => ?_) (fun hb => absurd rfl hb)
       exact ov_len (n := (((ansL (1 + q18) (laidL (1 + q18) l) self m chunk).getD k9 default).evs).length) Try.underlying22 e4519 hde96_1.sl (fun vals' hv _ => ⟨rfl, hv⟩)
      ·intro k4520 vals w4521 h4524 h4525 hW4523 hA4522
       obtain rfl : k4520 = 0 := Nat.le_antisymm h4525 h4524
       have hS4526 : Sep G53 w41 ((Blk b102 (((ansL (1 + q18) (laidL (1 + q18) l) self m chunk).getD k9 default).cells (cellV w41 (sb v40) (so v40 + k9 * 5 + 3)) (cellV w41 (sb v40) (so v40 + k9 * 5 + 4))).toArray 57) :: (SetO b24 (1 + q18) (laidL (1 + q18) l)) :: (Blk b2 (m.cells dm0 dm1).toArray 57) :: Rs) w4521 := hW4523
       have e4527 := hA4522 74 (by decide)
       have e4528 := hA4522 77 (by decide)
       refine oblc rfl rfl e4527 (fun _ => ?_) (fun hb => absurd rfl hb)
       have hl4529 : (decide (0 < (((((ansL (1 + q18) (laidL (1 + q18) l) self m chunk).getD k9 default).evs).length : Nat) : Int))) = false := decide_eq_false (by omega)
       exact ov_gtr (k := .i64) (a := (((((ansL (1 + q18) (laidL (1 + q18) l) self m chunk).getD k9 default).evs).length : Nat) : Int)) (b := 0) e4528 rfl (fun vals' hv _ => ⟨rfl, hv.trans (congrArg Value.bool hl4529)⟩)
      ·intro k4530 vals w4531 h4534 h4535 hW4533 hA4532
       have e4536 := hA4532 74 (by decide)
       have e4537 := hA4532 78 (by decide)
       refine oblc rfl rfl e4536 (fun _ => ?_) (fun hb => absurd rfl hb)
       exact ov_move (v := .bool false) e4537 (fun vals' hv _ => ⟨rfl, hv⟩)
      ·intro k4538 vals w4539 h4542 h4543 hW4541 hA4540
       have e4544 := hA4540 79 (by decide)
       refine oblc rfl rfl e4544 (fun _ => ?_) (fun hb => absurd rfl hb)
       exact fd57_3 rfl (fun vals' hv _ => ⟨rfl, hv⟩)
      ·intro k4545 vals w4546 h4549 h4550 hW4548 hA4547
       have hkk : k4545 = 0 ∨ k4545 = 1 := by have h1 : 0 ≤ k4545 := h4549; have h2 : k4545 ≤ 1 := h4550; omega
       rcases hkk with rfl | rfl
       ·skip
        have hS4551 : Sep G53 w41 ((Blk b102 (((ansL (1 + q18) (laidL (1 + q18) l) self m chunk).getD k9 default).cells (cellV w41 (sb v40) (so v40 + k9 * 5 + 3)) (cellV w41 (sb v40) (so v40 + k9 * 5 + 4))).toArray 57) :: (SetO b24 (1 + q18) (laidL (1 + q18) l)) :: (Blk b2 (m.cells dm0 dm1).toArray 57) :: Rs) w4546 := hW4548
        have e4552 := hA4547 79 (by decide)
        have e4553 := hA4547 80 (by decide)
        refine oblc rfl rfl e4552 (fun _ => ?_) (fun hb => absurd rfl hb)
        exact ov_load1 (v := (cellV w41 (sb v40) (so v40 + k9 * 5 + 3))) Try.isAgg34 e4553 (blk_cellL (hS4551.blk (i := 0) rfl) rfl) (fun vals' hv _ => ⟨rfl, hv⟩)
       ·skip
        obtain ⟨v3810, he3815, hS4554⟩ := hW4548
        have e4555 := hA4547 79 (by decide)
        have e4556 := hA4547 80 (by decide)
        refine oblc rfl rfl e4555 (fun _ => ?_) (fun hb => absurd rfl hb)
        exact ov_load1 (v := (cellV w41 (sb v40) (so v40 + k9 * 5 + 3))) Try.isAgg34 e4556 (blk_cellL (hS4554.blk (i := 2) rfl) rfl) (fun vals' hv _ => ⟨rfl, hv⟩)
      ·intro k4557 vals w4558 h4561 h4562 hW4560 hA4559
       have e4563 := hA4559 79 (by decide)
       refine oblc rfl rfl e4563 (fun _ => ?_) (fun hb => absurd rfl hb)
       exact ov_move (v := .pointer (some ⟨b24, 0, none⟩)) rfl (fun vals' hv _ => ⟨rfl, hv⟩)
      ·intro k3787 vals w3788 h3791 h3792 hW3790 hA3789
       obtain rfl : k3787 = 0 := Nat.le_antisymm h3792 h3791
       have hS3793 : Sep G53 w41 ((Blk b102 (((ansL (1 + q18) (laidL (1 + q18) l) self m chunk).getD k9 default).cells (cellV w41 (sb v40) (so v40 + k9 * 5 + 3)) (cellV w41 (sb v40) (so v40 + k9 * 5 + 4))).toArray 57) :: (SetO b24 (1 + q18) (laidL (1 + q18) l)) :: (Blk b2 (m.cells dm0 dm1).toArray 57) :: Rs) w3788 := hW3790
       have e3794 := hA3789 79 (by decide)
       have e3795 := hA3789 82 (by decide)
       refine oblc rfl rfl e3794 (fun _ => ?_) (fun hb => absurd rfl hb)
       have hS3796 : Sep G53 w41 ((SetO b24 (1 + q18) (laidL (1 + q18) l)) :: (Blk b102 (((ansL (1 + q18) (laidL (1 + q18) l) self m chunk).getD k9 default).cells (cellV w41 (sb v40) (so v40 + k9 * 5 + 3)) (cellV w41 (sb v40) (so v40 + k9 * 5 + 4))).toArray 57) :: (Blk b2 (m.cells dm0 dm1).toArray 57) :: Rs) w3788 := hS3793.sel 3 [1, 0, 2] (Nat.le_add_left _ _) rfl rfl
       obtain ⟨G3797, hA3799, hB3800, hS3801, hk3802⟩ := hS3796.lend
       obtain ⟨vv3803, m3804, R3805, hb3806, hv3807, hr3808⟩ := SetO.sh hA3799
       have hsm3809 : (vecE (1 + q18) (laidL (1 + q18) l)).length * 8 ≤ 140737488355328 := hv3807.small
       refine (ov_call (f := 26) (vals := [.pointer (some ⟨b24, 0, none⟩)]) (cap := []) (show _ = (.func (.func 26) #[] #[] : Value) from rfl) (mapL ⟨e3795, trivial⟩) Try.call26 (D_Vec  hA3799 hS3801) ?_)
       rintro v3810 w3811 ⟨_, rfl, hS3812⟩
       have hr3813 := hS3812.row (i := 0) rfl
       have hr3813s : (vecE (1 + q18) (laidL (1 + q18) l)).length * 8 ≤ 140737488355328 := hr3813.2
       have hS3814 : Sep G53 w41 ((SetO b24 (1 + q18) (laidL (1 + q18) l)) :: (RowE (α := Int) own 3 v3810 (vecE (1 + q18) (laidL (1 + q18) l))) :: (Blk b102 (((ansL (1 + q18) (laidL (1 + q18) l) self m chunk).getD k9 default).cells (cellV w41 (sb v40) (so v40 + k9 * 5 + 3)) (cellV w41 (sb v40) (so v40 + k9 * 5 + 4))).toArray 57) :: (Blk b2 (m.cells dm0 dm1).toArray 57) :: Rs) w3811 := hk3802 _ _ hS3812
       intro vals' hv hv'
       refine ⟨?_, trivial⟩
       show ∃ (v3810 : Value), (vals' 83 = (v3810 : Value)) ∧ Sep G53 w41 ((SetO b24 (1 + q18) (laidL (1 + q18) l)) :: (RowE (α := Int) own 3 v3810 (vecE (1 + q18) (laidL (1 + q18) l))) :: (Blk b102 (((ansL (1 + q18) (laidL (1 + q18) l) self m chunk).getD k9 default).cells (cellV w41 (sb v40) (so v40 + k9 * 5 + 3)) (cellV w41 (sb v40) (so v40 + k9 * 5 + 4))).toArray 57) :: (Blk b2 (m.cells dm0 dm1).toArray 57) :: Rs) w3811
       exact ⟨v3810, hv, hS3814⟩
      ·intro k3816 vals w3817 h3820 h3821 hW3819 hA3818
       obtain rfl : k3816 = 1 := Nat.le_antisymm h3821 h3820
       obtain ⟨v3810, he3815, hS3822⟩ := hW3819
       have e3823 := hA3818 79 (by decide)
       have e3824 := hA3818 81 (by decide)
       refine oblc rfl rfl e3823 (fun _ => ?_) (fun hb => absurd rfl hb)
       have hS3825 : Sep G53 w41 ((RowE (α := Int) own 3 v3810 (vecE (1 + q18) (laidL (1 + q18) l))) :: (SetO b24 (1 + q18) (laidL (1 + q18) l)) :: (Blk b102 (((ansL (1 + q18) (laidL (1 + q18) l) self m chunk).getD k9 default).cells (cellV w41 (sb v40) (so v40 + k9 * 5 + 3)) (cellV w41 (sb v40) (so v40 + k9 * 5 + 4))).toArray 57) :: (Blk b2 (m.cells dm0 dm1).toArray 57) :: Rs) w3817 := hS3822.sel 4 [1, 0, 2, 3] (Nat.le_add_left _ _) rfl rfl
       obtain ⟨G3826, hA3828, hB3829, hS3830, hk3831⟩ := hS3825.lend
       have hrd3832 := RowE.rd hA3828
       have hrd3832s : (vecE (1 + q18) (laidL (1 + q18) l)).length * 8 ≤ 140737488355328 := hrd3832.small
       refine (ov_call (f := 27) (vals := [(cellV w41 (sb v40) (so v40 + k9 * 5 + 3)), v3810]) (cap := []) (show _ = (.func (.func 27) #[] #[] : Value) from rfl) (mapL ⟨e3824, he3815, trivial⟩) Try.call27 (D_SameInts (a := ((ansL (1 + q18) (laidL (1 + q18) l) self m chunk).getD k9 default).vec) (va := (cellV w41 (sb v40) (so v40 + k9 * 5 + 3))) (b := vecE (1 + q18) (laidL (1 + q18) l)) (vb := v3810) (RdS.base hde96_0 hB3829) hrd3832 hS3830) ?_)
       rintro _ w3833 ⟨rfl, hS3834⟩
       have hS3835 : Sep G53 w41 ((RowE (α := Int) own 3 v3810 (vecE (1 + q18) (laidL (1 + q18) l))) :: (SetO b24 (1 + q18) (laidL (1 + q18) l)) :: (Blk b102 (((ansL (1 + q18) (laidL (1 + q18) l) self m chunk).getD k9 default).cells (cellV w41 (sb v40) (so v40 + k9 * 5 + 3)) (cellV w41 (sb v40) (so v40 + k9 * 5 + 4))).toArray 57) :: (Blk b2 (m.cells dm0 dm1).toArray 57) :: Rs) w3833 := hk3831 _ _ hS3834
       intro vals' hv hv'
       refine ⟨?_, trivial⟩
       show ∃ (v3810 : Value), (vals' 83 = (v3810 : Value)) ∧ (vals' 84 = (.bool (decide ((((ansL (1 + q18) (laidL (1 + q18) l) self m chunk).getD k9 default).vec) = (vecE (1 + q18) (laidL (1 + q18) l)))) : Value)) ∧ Sep G53 w41 ((RowE (α := Int) own 3 v3810 (vecE (1 + q18) (laidL (1 + q18) l))) :: (SetO b24 (1 + q18) (laidL (1 + q18) l)) :: (Blk b102 (((ansL (1 + q18) (laidL (1 + q18) l) self m chunk).getD k9 default).cells (cellV w41 (sb v40) (so v40 + k9 * 5 + 3)) (cellV w41 (sb v40) (so v40 + k9 * 5 + 4))).toArray 57) :: (Blk b2 (m.cells dm0 dm1).toArray 57) :: Rs) w3833
       exact ⟨v3810, (by rw [hv' 83 (by decide)]; exact he3815), hv, hS3835⟩
      ·intro k4564 vals w4565 h4568 h4569 hW4567 hA4566
       obtain rfl : k4564 = 2 := Nat.le_antisymm h4569 h4568
       obtain ⟨v3810, he3815, he3836, hS4570⟩ := hW4567
       have e4571 := hA4566 79 (by decide)
       refine oblc rfl rfl e4571 (fun _ => ?_) (fun hb => absurd rfl hb)
       have hl4572 : (!(decide ((((ansL (1 + q18) (laidL (1 + q18) l) self m chunk).getD k9 default).vec) = (vecE (1 + q18) (laidL (1 + q18) l))))) = false := by rw [hq5]; simp
       exact ov_not (a := decide ((((ansL (1 + q18) (laidL (1 + q18) l) self m chunk).getD k9 default).vec) = (vecE (1 + q18) (laidL (1 + q18) l)))) he3836 (fun vals' hv _ => ⟨rfl, hv.trans (congrArg Value.bool hl4572)⟩)
      ·intro k4573 vals w4574 h4577 h4578 hW4576 hA4575
       have e4579 := hA4575 74 (by decide)
       have e4580 := hA4575 79 (by decide)
       have e4581 := hA4575 85 (by decide)
       refine oblc rfl rfl e4579 (fun _ => ?_) (fun hb => absurd rfl hb)
       exact ov_pick_f (v := .bool false) e4580 e4581 (fun vals' hv _ => ⟨rfl, hv⟩)
      ·intro k4582 vals w4583 h4586 h4587 hW4585 hA4584
       have e4588 := hA4584 70 (by decide)
       have e4589 := hA4584 74 (by decide)
       have e4590 := hA4584 86 (by decide)
       refine oblc rfl rfl e4588 (fun _ => ?_) (fun hb => absurd rfl hb)
       exact ov_pick_t (v := .bool false) e4589 e4590 (fun vals' hv _ => ⟨rfl, hv⟩)
      ·intro k4591 vals w4592 h4595 h4596 hW4594 hA4593
       have e4597 := hA4593 70 (by decide)
       have e4598 := hA4593 87 (by decide)
       refine obl rfl ?_
       exact ov_pick_f (v := .bool false) e4597 e4598 (fun vals' hv _ => ⟨rfl, hv⟩)
      intro vals w4599 hW4600 hA4601
      obtain ⟨v3810, he3815, he3836, hS4602⟩ := hW4600
      have e4603 := hA4601 88 (by decide)
      refine st_env (kv := [(2, .int .i64 (self)), (8, .pointer (some ⟨b2, 0, none⟩)), (11, .pointer (some ⟨b24, 0, none⟩)), (12, v40), (13, .int .i64 ((k9 : Nat) : Int)), (68, .int .i64 ((k9 : Nat) : Int)), (69, v40), (70, .int .i64 (((ansL (1 + q18) (laidL (1 + q18) l) self m chunk).length : Nat) : Int)), (71, .bool true), (74, v40), (75, .int .i64 ((k9 : Nat) : Int)), (76, .pointer (some ⟨sb v40, so v40 + k9 * 5, none⟩)), (77, .agg (((ansL (1 + q18) (laidL (1 + q18) l) self m chunk).getD k9 default).cells (cellV w41 (sb v40) (so v40 + k9 * 5 + 3)) (cellV w41 (sb v40) (so v40 + k9 * 5 + 4))).toArray), (14, .pointer (some ⟨b102, 0, none⟩)), (166, .bool false)]) ⟨rfl, rfl, rfl, rfl, rfl, rfl, rfl, rfl, rfl, rfl, rfl, rfl, rfl, rfl, (by exact e4603), trivial⟩ (fun ρw4599 => ?_)
      refine st_nil ?_
      refine WP_cond_f rfl ?_
      refine WP_skip ?_
      refine WP_region0 (by kernel_rfl) (fun _ => ?_)
      refine st (ov_move (v := .int .i64 ((k9 : Nat) : Int)) rfl ?_)
      have hr4604 : InR ((k9 + 1 : Nat) : Int) := by first | omega | (simp only [lens]; omega)
      refine st (ov_add (r := ((k9 + 1 : Nat) : Int)) (k := .i64) (a := ((k9 : Nat) : Int)) (b := 1) rfl rfl (by rw [show (((k9 : Nat) : Int) + 1 : Int) = ((k9 + 1 : Nat) : Int) by first | omega | (simp only [lens]; omega)]; exact wrap_in hr4604) ?_)
      refine st (ov_assign (v := .int .i64 ((k9 + 1 : Nat) : Int)) rfl ?_)
      refine st_nil ?_
      have hS4605 : Sep G53 w41 ((SetO b24 (1 + q18) (laidL (1 + q18) l)) :: (Blk b2 (m.cells dm0 dm1).toArray 57) :: Rs) w4599 := hS4602.sel 4 [1, 3] (Nat.le_add_left _ _) rfl rfl
      exact ⟨_, by omega, k9 + 1, _, rfl, setAll_self ⟨rfl, rfl, rfl, rfl, rfl, trivial⟩, by omega, hS4605⟩
   ·skip
    have hc85r := hc85
    try simp only [bools] at hc85
    exfalso
    have h9 := hc85r
    simp only [Bool.or_eq_true, Bool.and_eq_true, decide_eq_true_eq] at h9
    omega
  ·skip
   have hc51r := hc51
   try simp only [bools] at hc51
   refine WP_cond_t rfl ?_
   refine WP_seq ?_
   refine WP_region (by kernel_rfl) ?_
   refine st (ov_move (v := v40) rfl ?_)
   refine st (ov_len (n := (ansL (1 + q18) (laidL (1 + q18) l) self m chunk).length) Try.underlying58 rfl hr43.1 ?_)
   have hkn4606 : (decide ((((ansL (1 + q18) (laidL (1 + q18) l) self m chunk).length : Nat) : Int) = 0)) = true := decide_eq_true (by rw [ansL_none (kind_iff.1 hc51r).1 (kind_iff.1 hc51r).2]; rfl)
   refine st (ov_as (congrArg Value.bool hkn4606) (fun K9 h9 => ov_eql (k := .i64) (a := (((ansL (1 + q18) (laidL (1 + q18) l) self m chunk).length : Nat) : Int)) (b := 0) rfl rfl h9) ?_)
   refine st (ov_move (v := .bool true) rfl ?_)
   refine sty rfl rfl (ov_call (f := 39) (vals := []) (cap := []) (show _ = (.func (.func 39) #[] #[] : Value) from rfl) rfl Try.call39 (D_known27  hS44) ?_)
   rintro _ w4607 ⟨rfl, hS4608⟩
   refine st (ov_pick_t (v := .bool true) rfl rfl ?_)
   refine st (ov_assign (v := .bool true) rfl ?_)
   refine st_nil ?_
   refine WP_ret ?_
   refine fin1 Try.results10 (show _ = (.bool true : Value) from rfl) ?_
   have hS4609 : Sep G W Rs w4607 := hS4608.sel 3 [] (Nat.le_add_left _ _) rfl rfl
   refine ⟨rfl, hS4609⟩
 ·skip
  have hc17r := hc17
  try simp only [bools] at hc17
  refine WP_cond_t rfl ?_
  refine WP_seq ?_
  refine WP_region0 (by kernel_rfl) (fun _ => ?_)
  refine st (ov_call (f := 39) (vals := []) (cap := []) (show _ = (.func (.func 39) #[] #[] : Value) from rfl) rfl Try.call39 (D_known27  hS8) ?_)
  rintro _ w4610 ⟨rfl, hS4611⟩
  refine st (ov_assign (v := .bool true) rfl ?_)
  refine st_nil ?_
  refine WP_ret ?_
  refine fin1 Try.results10 (show _ = (.bool true : Value) from rfl) ?_
  have hS4612 : Sep G W Rs w4610 := hS4611.sel 1 [] (Nat.le_add_left _ _) rfl rfl
  refine ⟨rfl, hS4612⟩

end Go.Proofs.Ytgjgmojjeehieaa
