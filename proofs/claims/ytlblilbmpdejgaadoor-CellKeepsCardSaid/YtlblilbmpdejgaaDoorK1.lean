/- Steps of the proofs of this seat: part K1. -/
import Derived.Test.YtlblilbmpdejgaaDoorC18
import Derived.Test.YtlblilbmpdejgaaDoorLaid
set_option linter.unusedSimpArgs false
set_option linter.unusedVariables false
set_option maxRecDepth 8000
set_option maxHeartbeats 4000000
namespace Go.Proofs.YtlblilbmpdejgaaDoor
open Go.Proofs Go.RowKit

/-- Of which kind a field must be, by operations. -/
def kindsL : List Int := [0, 1, 2, 3, 3, 4]
theorem kindsL_len : kindsL.length = 6 := rfl
def fieldB (d : Dcl) (ty f : Int) : Bool := (decide (0 ≤ ty) && decide (ty ≤ ((d.types.length : Nat) : Int) - 1)) && (decide (0 ≤ f) && decide (f ≤ (((d.types.getD ty.toNat default).fields.length : Nat) : Int) - 1))
def fieldL (d : Dcl) (ty f : Int) : Fld := if fieldB d ty f = true then (d.types.getD ty.toNat default).fields.getD f.toNat default else ⟨0, 0, false, []⟩
def fitsL (d : Dcl) (ty f op arg : Int) : Int :=
  if (!fieldB d ty f) = true then 8 else if (!(decide (1 ≤ op) && decide (op ≤ 5)) || !decide (kindsL.getD op.toNat 0 = (fieldL d ty f).kind)) = true then 2
  else if (decide (op = 1) && decide (arg = 0)) = true then 1 else if (decide (op = 5) && !(decide (0 ≤ arg) && decide (arg ≤ (((fieldL d ty f).moves.length : Nat) : Int) - 1))) = true then 1 else 0
theorem fitsL_range (d : Dcl) (ty f op arg : Int) : InR (fitsL d ty f op arg) := by unfold fitsL; repeat (first | decide | split)
theorem fits_ok {d : Dcl} {ty f op arg : Int} (h : fitsL d ty f op arg = 0) : 0 ≤ ty ∧ ty < d.types.length ∧ Fits (d.types.getD ty.toNat default) f op arg := by
  unfold fitsL at h
  split at h
  · cases h
  rename_i h1
  split at h
  · cases h
  rename_i h2
  split at h
  · cases h
  rename_i h3
  split at h
  · cases h
  rename_i h4
  have hB : fieldB d ty f = true := by simpa using h1
  have hz : fieldL d ty f = (d.types.getD ty.toNat default).fields.getD f.toNat default := by unfold fieldL; rw [hB]; rfl
  rw [hz] at h2 h4
  unfold fieldB at hB
  simp only [Bool.and_eq_true, decide_eq_true_eq] at hB
  simp only [Bool.or_eq_true, Bool.not_eq_true', Bool.and_eq_false_iff, Bool.and_eq_true, decide_eq_true_eq, decide_eq_false_iff_not, not_or, Decidable.not_not, not_and] at h2 h3 h4
  refine ⟨hB.1.1, by omega, ⟨hB.2.1, by omega, ?_⟩⟩
  have h5 : op = 1 ∨ op = 2 ∨ op = 3 ∨ op = 4 ∨ op = 5 := by omega
  have h6 := h2.2
  unfold fldAt
  rcases h5 with rfl | rfl | rfl | rfl | rfl
  · exact .inl ⟨rfl, h6.symm⟩
  · exact .inr (.inl ⟨rfl, h6.symm⟩)
  · exact .inr (.inr (.inl ⟨.inl rfl, h6.symm⟩))
  · exact .inr (.inr (.inl ⟨.inr rfl, h6.symm⟩))
  · have := h4 rfl
    exact .inr (.inr (.inr ⟨rfl, h6.symm, by omega, by omega⟩))
instance : Flat Mv := ⟨fun h => h⟩
theorem D_within {G : Nat → Prop} {W w : World} {Rs : List HP} {x : Int} (hx : InR x) {lo : Int} (hlo : InR lo) {hi : Int} (hhi : InR hi) (hS0 : Sep G W Rs w) : Ret Tryd.prog 51 [.int .i64 (x), .int .i64 (lo), .int .i64 (hi)] w (fun r w' => r = (.bool ((decide (lo ≤ x) && decide (x ≤ hi))) : Value) ∧ Sep G W Rs w') := by
 refine Calls_of_WP (args := [.int .i64 (x), .int .i64 (lo), .int .i64 (hi)]) Tryd.func51 rfl rfl ?_
 refine WP_seq ?_
 refine WP_region0 (by kernel_rfl) (fun _ => ?_)
 refine st (ov_assign (v := .bool false) rfl ?_)
 refine st_nil ?_
 refine WP_seq ?_
 refine WP_region (by kernel_rfl) ?_
 refine st (ov_move (v := .int .i64 (x)) rfl ?_)
 refine st (ov_move (v := .int .i64 (lo)) rfl ?_)
 refine st (ov_geq (k := .i64) (a := x) (b := lo) rfl rfl ?_)
 refine st (ov_move (v := .bool (decide (lo ≤ x))) rfl ?_)
 refine stc (V := .int .i64 (x)) rfl rfl (fun hb1 => ?_) ?_
 ·have hl2 := hb1
  have hl2 := of_decide_eq_true hl2
  exact ov_move (v := .int .i64 (x)) rfl ⟨rfl, rfl⟩
 refine stc (V := .int .i64 (hi)) rfl rfl (fun hb3 => ?_) ?_
 ·have hl4 := hb3
  have hl4 := of_decide_eq_true hl4
  exact ov_move (v := .int .i64 (hi)) rfl ⟨rfl, rfl⟩
 refine stc (V := .bool (decide (x ≤ hi))) rfl rfl (fun hb5 => ?_) ?_
 ·have hl6 := hb5
  have hl6 := of_decide_eq_true hl6
  exact ov_leq (k := .i64) (a := x) (b := hi) (show _ = (.int .i64 (x) : Value) from (if_pos hb5)) (show _ = (.int .i64 (hi) : Value) from (if_pos hb5)) ⟨rfl, rfl⟩
 refine st (ov_pick_and (b := decide (lo ≤ x)) (b' := decide (x ≤ hi)) rfl (fun hbp => (show _ = (.bool (decide (x ≤ hi)) : Value) from (if_pos hbp))) ?_)
 refine st (ov_assign (v := .bool ((decide (lo ≤ x)) && (decide (x ≤ hi)))) rfl ?_)
 refine st_nil ?_
 refine WP_ret ?_
 refine fin1 Tryd.results51 (show _ = (.bool ((decide (lo ≤ x)) && (decide (x ≤ hi))) : Value) from rfl) ?_
 refine ⟨rfl, hS0⟩

theorem D_cloneMv {G : Nat → Prop} {W w : World} {Rs : List HP} {vl : Value} {l : List Mv} (hl : RdS W G vl l) (hS0 : Sep G W Rs w) : Ret Tryd.prog 67 [vl] w (fun r w' => ∃ (v : Value), r = (v : Value) ∧ Sep G W ((RowE (α := Mv) own 115 v l) :: Rs) w') := by
 have hls : l.length * 32 ≤ 140737488355328 := hl.small
 refine Calls_of_WP (args := [vl]) Tryd.func67 rfl rfl ?_
 refine WP_seq ?_
 refine WP_region0 (by kernel_rfl) (fun _ => ?_)
 refine st (ov_assign (v := (.slice none 0 0)) rfl ?_)
 refine st_nil ?_
 refine WP_seq ?_
 refine WP_seq ?_
 refine WP_region0 (by kernel_rfl) (fun _ => ?_)
 refine st (ov_move (v := vl) rfl ?_)
 refine st (ov_eqlNil (v := vl) Tryd.underlying77 rfl hl.sl ?_)
 refine st_nil ?_
 cases hc1 : isNilSl vl
 ·skip
  refine WP_cond_f rfl ?_
  refine WP_skip ?_
  refine WP_seq ?_
  refine WP_region0 (by kernel_rfl) (fun _ => ?_)
  refine st (ov_buildSlice (k := 4) (parts' := []) (c := #[]) Tryd.underlying77 Tryd.sizeOf115 Tryd.zeroValue115 (by decide) rfl (by kernel_rfl) ?_)
  intro w4 b3 hn2
  have hS5 : Sep G W ((Blk b3 #[] 115) :: Rs) w4 := hS0.new hn2
  refine st (ov_move (v := vl) rfl ?_)
  have hS9 : Sep G W ((RowE (α := Mv) own 115 (.slice (some ⟨b3, 0, none⟩) 0 0) ([] : List Mv)) :: Rs) w4 := Sep.blkRow (src := own) (l := ([] : List Mv)) (css := []) hS5 rfl trivial (by first | decide | (simp only [List.length_cons, List.length_nil]; decide))
  have hr10 := hS9.row (i := 0) rfl
  have hr10s : ([] : List Mv).length * 32 ≤ 140737488355328 := hr10.2
  refine st (ov_appendS (src := own) (bytes := 32) hS9 el77 rfl rfl hl (by first | omega | (simp only [List.length_append, List.length_cons, List.length_nil, List.length_take, List.length_drop]; omega)) rfl (hq' := fun _ _ h _ _ => own_flat h) ?_)
  intro v7 w6 hS8
  have hS8 : Sep G W ((RowE (α := Mv) own 115 v7 l) :: Rs) w6 := hS8
  have hr11 := hS8.row (i := 0) rfl
  have hr11s : l.length * 32 ≤ 140737488355328 := hr11.2
  refine st (ov_assign (v := v7) rfl ?_)
  refine st_nil ?_
  refine WP_ret ?_
  refine fin1 Tryd.results67 (show _ = (v7 : Value) from rfl) ?_
  refine ⟨v7, rfl, hS8⟩
 ·skip
  have hl0 := nil_len hl.sl hc1
  refine WP_cond_t rfl ?_
  refine WP_seq ?_
  refine WP_region0 (by kernel_rfl) (fun _ => ?_)
  refine st (ov_assign (v := (.slice none 0 0)) rfl ?_)
  refine st_nil ?_
  refine WP_ret ?_
  refine fin1 Tryd.results67 (show _ = ((.slice none 0 0) : Value) from rfl) ?_
  have hS12 : Sep G W ((RowE (α := Mv) own 115 (.slice none 0 0) ([] : List Mv)) :: Rs) w := hS0.rowNil own 115
  have hl1 : l = [] := List.length_eq_zero_iff.1 hl0
  subst hl1
  refine ⟨(.slice none 0 0), rfl, hS12⟩

theorem D_Field {G : Nat → Prop} {W w : World} {Rs : List HP} {d : Dcl} {dd0 : Value} (hdd0 : RdS W G dd0 d.types) {dd1 : Value} (hdd1 : RdS W G dd1 d.projs) (od : d.Ok) {ty : Int} (hty : InR ty) {f : Int} (hf : InR f) (hS0 : Sep G W Rs w) : Ret Tryd.prog 40 [.agg (d.cells dd0 dd1).toArray, .int .i64 (ty), .int .i64 (f)] w (fun r w' => ∃ (v : Value), r = (.tuple #[.agg ((fieldL d ty f).cells v).toArray, .bool ((fieldB d ty f))] : Value) ∧ ((fieldL d ty f).Ok) ∧ Sep G W ((RowE (α := Mv) own 115 v ((fieldL d ty f).moves)) :: Rs) w') := by
 have hdd0s : d.types.length * 24 ≤ 140737488355328 := hdd0.small
 have hdd1s : d.projs.length * 40 ≤ 140737488355328 := hdd1.small
 refine Calls_of_WP (args := [.agg (d.cells dd0 dd1).toArray, .int .i64 (ty), .int .i64 (f)]) Tryd.func40 rfl rfl ?_
 refine WP_seq ?_
 refine WP_region0 (by kernel_rfl) (fun _ => ?_)
 refine st (ov_box (v := .agg (d.cells dd0 dd1).toArray) rfl ?_)
 intro w3 b2 hn1
 have hS4 : Sep G W ((Blk b2 (d.cells dd0 dd1).toArray 25) :: Rs) w3 := hS0.new hn1
 refine st (ov_alloc Tryd.zeroValue79 ?_)
 intro w7 b6 hn5
 have hS8 : Sep G W ((Blk b6 #[.int .i64 (0), .int .i64 (0), .bool false, (.slice none 0 0)] 79) :: (Blk b2 (d.cells dd0 dd1).toArray 25) :: Rs) w7 := hS4.new hn5
 refine st (ov_assign (v := .bool false) rfl ?_)
 refine st_nil ?_
 refine WP_seq ?_
 refine WP_seq ?_
 refine WP_region (by kernel_rfl) ?_
 refine st (ov_move (v := .int .i64 (ty)) rfl ?_)
 refine st (fd25_0 rfl ?_)
 refine st (ov_load1 (v := dd0) Tryd.isAgg22 rfl (blk_cellL (hS8.blk (i := 1) rfl) rfl) ?_)
 refine st (ov_len (n := d.types.length) Tryd.underlying22 rfl hdd0.sl ?_)
 have hr9 : InR (((d.types.length : Nat) : Int) - 1) := by omega
 refine st (ov_sub (r := ((d.types.length : Nat) : Int) - 1) (k := .i64) (a := ((d.types.length : Nat) : Int)) (b := 1) rfl rfl (wrap_in hr9) ?_)
 refine st (ov_call (f := 51) (vals := [.int .i64 (ty), .int .i64 (0), .int .i64 (((d.types.length : Nat) : Int) - 1)]) (cap := []) (show _ = (.func (.func 51) #[] #[] : Value) from rfl) rfl Tryd.call51 (D_within (x := ty) (lo := 0) (hi := ((d.types.length : Nat) : Int) - 1) hty (by decide) hr9 hS8) ?_)
 rintro _ w10 ⟨rfl, hS11⟩
 refine st (ov_not (a := (decide (0 ≤ ty) && decide (ty ≤ (((d.types.length : Nat) : Int) - 1)))) rfl ?_)
 refine st (ov_move (v := .bool (!(decide (0 ≤ ty) && decide (ty ≤ (((d.types.length : Nat) : Int) - 1))))) rfl ?_)
 refine stc (V := .int .i64 (f)) rfl rfl (fun hb12 => ?_) ?_
 ·have hl13 := hb12
  try simp only [bools] at hl13
  exact ov_move (v := .int .i64 (f)) rfl ⟨rfl, rfl⟩
 refine stc (V := .pointer (some ⟨b2, 0, none⟩)) rfl rfl (fun hb14 => ?_) ?_
 ·have hl15 := hb14
  try simp only [bools] at hl15
  exact fd25_0 rfl ⟨rfl, rfl⟩
 refine stc (V := dd0) rfl rfl (fun hb16 => ?_) ?_
 ·have hl17 := hb16
  try simp only [bools] at hl17
  exact ov_load1 (v := dd0) Tryd.isAgg22 (show _ = (.pointer (some ⟨b2, 0, none⟩) : Value) from (if_pos hb16)) (blk_cellL (hS11.blk (i := 1) rfl) rfl) ⟨rfl, rfl⟩
 refine stc (V := .int .i64 (ty)) rfl rfl (fun hb18 => ?_) ?_
 ·have hl19 := hb18
  try simp only [bools] at hl19
  exact ov_move (v := .int .i64 (ty)) rfl ⟨rfl, rfl⟩
 refine stc (V := .pointer (some ⟨sb dd0, so dd0 + ty.toNat * 1, none⟩)) rfl rfl (fun hb20 => ?_) ?_
 ·have hl21 := hb20
  try simp only [bools] at hl21
  have hi22 : ty.toNat < d.types.length := (by first | omega | (simp only [lens]; omega))
  exact ov_indexAddr (k := 1) (i := ty) Tryd.underlying22 Tryd.sizeOf33 (show _ = (dd0 : Value) from (if_pos hb20)) hdd0.sl (show _ = (.int .i64 (ty) : Value) from (if_pos hb20)) ⟨by omega, by omega⟩ ⟨rfl, rfl⟩
 refine stc (V := .pointer (some ⟨sb dd0, so dd0 + ty.toNat * 1, none⟩)) rfl rfl (fun hb23 => ?_) ?_
 ·have hl24 := hb23
  try simp only [bools] at hl24
  exact fd33_0 (show _ = (.pointer (some ⟨sb dd0, so dd0 + ty.toNat * 1, none⟩) : Value) from (if_pos hb23)) ⟨rfl, rfl⟩
 refine stc (V := (cellV W (sb dd0) (so dd0 + ty.toNat * 1 + 0))) rfl rfl (fun hb25 => ?_) ?_
 ·have hl26 := hb25
  try simp only [bools] at hl26
  have hi28 : ty.toNat < d.types.length := (by first | omega | (simp only [lens]; omega))
  obtain ⟨hce27, hde27_0, hoke27⟩ := hdd0.typ hi28
  rw [← getD_at default hi28] at hce27 hde27_0 hoke27
  have hsm29 : ((d.types.getD ty.toNat default).fields).length * 48 ≤ 140737488355328 := hde27_0.small
  have hcw30 := hS11.cells hce27 (hdd0.foot (ne_of_lt hi28))
  exact ov_load1 (v := (cellV W (sb dd0) (so dd0 + ty.toNat * 1 + 0))) Tryd.isAgg31 (show _ = (.pointer (some ⟨sb dd0, so dd0 + ty.toNat * 1, none⟩) : Value) from (if_pos hb25)) (hcw30.get (j := 0) rfl) ⟨rfl, rfl⟩
 refine stc (V := .int .i64 ((((d.types.getD ty.toNat default).fields).length : Nat) : Int)) rfl rfl (fun hb31 => ?_) ?_
 ·have hl32 := hb31
  try simp only [bools] at hl32
  have hi34 : ty.toNat < d.types.length := (by first | omega | (simp only [lens]; omega))
  obtain ⟨hce33, hde33_0, hoke33⟩ := hdd0.typ hi34
  rw [← getD_at default hi34] at hce33 hde33_0 hoke33
  have hsm35 : ((d.types.getD ty.toNat default).fields).length * 48 ≤ 140737488355328 := hde33_0.small
  have hcw36 := hS11.cells hce33 (hdd0.foot (ne_of_lt hi34))
  exact ov_len (n := ((d.types.getD ty.toNat default).fields).length) Tryd.underlying31 (show _ = ((cellV W (sb dd0) (so dd0 + ty.toNat * 1 + 0)) : Value) from (if_pos hb31)) hde33_0.sl ⟨rfl, rfl⟩
 refine stc (V := .int .i64 (((((d.types.getD ty.toNat default).fields).length : Nat) : Int) - 1)) rfl rfl (fun hb37 => ?_) ?_
 ·have hl38 := hb37
  try simp only [bools] at hl38
  have hi40 : ty.toNat < d.types.length := (by first | omega | (simp only [lens]; omega))
  obtain ⟨hce39, hde39_0, hoke39⟩ := hdd0.typ hi40
  rw [← getD_at default hi40] at hce39 hde39_0 hoke39
  have hsm41 : ((d.types.getD ty.toNat default).fields).length * 48 ≤ 140737488355328 := hde39_0.small
  have hcw42 := hS11.cells hce39 (hdd0.foot (ne_of_lt hi40))
  have hr43 : InR (((((d.types.getD ty.toNat default).fields).length : Nat) : Int) - 1) := by omega
  exact ov_sub (r := ((((d.types.getD ty.toNat default).fields).length : Nat) : Int) - 1) (k := .i64) (a := ((((d.types.getD ty.toNat default).fields).length : Nat) : Int)) (b := 1) (show _ = (.int .i64 ((((d.types.getD ty.toNat default).fields).length : Nat) : Int) : Value) from (if_pos hb37)) rfl (wrap_in hr43) ⟨rfl, rfl⟩
 cases hg44 : !(decide (0 ≤ ty) && decide (ty ≤ (((d.types.length : Nat) : Int) - 1)))
 ·skip
  have hg44r := hg44
  try simp only [bools] at hg44
  have hi46 : ty.toNat < d.types.length := (by first | omega | (simp only [lens]; omega))
  obtain ⟨hce45, hde45_0, hoke45⟩ := hdd0.typ hi46
  rw [← getD_at default hi46] at hce45 hde45_0 hoke45
  have hsm47 : ((d.types.getD ty.toNat default).fields).length * 48 ≤ 140737488355328 := hde45_0.small
  have hcw48 := hS11.cells hce45 (hdd0.foot (ne_of_lt hi46))
  refine sty rfl rfl (ov_call (f := 51) (vals := [.int .i64 (f), .int .i64 (0), .int .i64 (((((d.types.getD ty.toNat default).fields).length : Nat) : Int) - 1)]) (cap := []) (show _ = (.func (.func 51) #[] #[] : Value) from rfl) rfl Tryd.call51 (D_within (x := f) (lo := 0) (hi := ((((d.types.getD ty.toNat default).fields).length : Nat) : Int) - 1) hf (by decide) (by omega) hS11) ?_)
  rintro _ w49 ⟨rfl, hS50⟩
  refine sty rfl rfl (ov_not (a := (decide (0 ≤ f) && decide (f ≤ (((((d.types.getD ty.toNat default).fields).length : Nat) : Int) - 1)))) rfl ?_)
  refine st (ov_pick_f (v := .bool (!(decide (0 ≤ f) && decide (f ≤ (((((d.types.getD ty.toNat default).fields).length : Nat) : Int) - 1))))) rfl rfl ?_)
  refine st_nil ?_
  cases hc51 : !(decide (0 ≤ f) && decide (f ≤ (((((d.types.getD ty.toNat default).fields).length : Nat) : Int) - 1)))
  ·skip
   try simp only [bools] at hc51
   refine WP_cond_f rfl ?_
   refine WP_skip ?_
   refine WP_seq ?_
   refine WP_region0 (by kernel_rfl) (fun _ => ?_)
   refine st (fd25_0 rfl ?_)
   refine st (ov_load1 (v := dd0) Tryd.isAgg22 rfl (blk_cellL (hS50.blk (i := 1) rfl) rfl) ?_)
   refine st (ov_move (v := .int .i64 (ty)) rfl ?_)
   have hi52 : ty.toNat < d.types.length := (by first | omega | (simp only [lens]; omega))
   refine st (ov_indexAddr (k := 1) (i := ty) Tryd.underlying22 Tryd.sizeOf33 rfl hdd0.sl rfl ⟨by omega, by omega⟩ ?_)
   refine st (fd33_0 rfl ?_)
   have hcw54 := hS50.cells hce45 (hdd0.foot (ne_of_lt hi46))
   refine st (ov_load1 (v := (cellV W (sb dd0) (so dd0 + ty.toNat * 1 + 0))) Tryd.isAgg31 rfl (hcw54.get (j := 0) rfl) ?_)
   refine st (ov_move (v := .int .i64 (f)) rfl ?_)
   have hi55 : f.toNat < ((d.types.getD ty.toNat default).fields).length := (by first | omega | (simp only [lens]; omega))
   refine st (ov_indexAddr (k := 4) (i := f) Tryd.underlying31 Tryd.sizeOf79 rfl hde45_0.sl rfl ⟨by omega, by omega⟩ ?_)
   have hi57 : f.toNat < ((d.types.getD ty.toNat default).fields).length := (by first | omega | (simp only [lens]; omega))
   obtain ⟨hce56, hde56_0, hoke56⟩ := hde45_0.fld hi57
   rw [← getD_at default hi57] at hce56 hde56_0 hoke56
   have hsm58 : ((((d.types.getD ty.toNat default).fields).getD f.toNat default).moves).length * 32 ≤ 140737488355328 := hde56_0.small
   have hcw59 := hS50.cells hce56 (hde45_0.foot (ne_of_lt hi57))
   refine st (ov_loadk (k := 4) Tryd.isAgg79 Tryd.sizeOf79 rfl rfl hcw59 ?_)
   refine st (ov_alloc Tryd.zeroValue79 ?_)
   intro w62 b61 hn60
   have hS63 : Sep G W ((Blk b61 #[.int .i64 (0), .int .i64 (0), .bool false, (.slice none 0 0)] 79) :: (Blk b6 #[.int .i64 (0), .int .i64 (0), .bool false, (.slice none 0 0)] 79) :: (Blk b2 (d.cells dd0 dd1).toArray 25) :: Rs) w62 := hS50.new hn60
   refine stn (ov_store (v := .agg ((((d.types.getD ty.toNat default).fields).getD f.toNat default).cells (cellV W (sb (cellV W (sb dd0) (so dd0 + ty.toNat * 1 + 0))) (so (cellV W (sb dd0) (so dd0 + ty.toNat * 1 + 0)) + f.toNat * 4 + 3))).toArray) (c' := ((((d.types.getD ty.toNat default).fields).getD f.toNat default).cells (cellV W (sb (cellV W (sb dd0) (so dd0 + ty.toNat * 1 + 0))) (so (cellV W (sb dd0) (so dd0 + ty.toNat * 1 + 0)) + f.toNat * 4 + 3))).toArray) Tryd.sizeOf79 rfl rfl (hS63.blk (i := 0) rfl) (all1 ⟨rfl, rfl, rfl, hde56_0.sl.one, trivial⟩) (Nat.le_of_ble_eq_true rfl) rfl ?_)
   intro w64 hp65
   have hS66 : Sep G W ((Blk b61 ((((d.types.getD ty.toNat default).fields).getD f.toNat default).cells (cellV W (sb (cellV W (sb dd0) (so dd0 + ty.toNat * 1 + 0))) (so (cellV W (sb dd0) (so dd0 + ty.toNat * 1 + 0)) + f.toNat * 4 + 3))).toArray 79) :: (Blk b6 #[.int .i64 (0), .int .i64 (0), .bool false, (.slice none 0 0)] 79) :: (Blk b2 (d.cells dd0 dd1).toArray 25) :: Rs) w64 := hS63.put (i := 0) rfl hp65
   refine st_nil ?_
   refine WP_seq ?_
   refine WP_region0 (by kernel_rfl) (fun _ => ?_)
   refine st (fd79_3 rfl ?_)
   refine st (ov_load1 (v := (cellV W (sb (cellV W (sb dd0) (so dd0 + ty.toNat * 1 + 0))) (so (cellV W (sb dd0) (so dd0 + ty.toNat * 1 + 0)) + f.toNat * 4 + 3))) Tryd.isAgg77 rfl (blk_cellL (hS66.blk (i := 0) rfl) rfl) ?_)
   refine st (ov_call (f := 67) (vals := [(cellV W (sb (cellV W (sb dd0) (so dd0 + ty.toNat * 1 + 0))) (so (cellV W (sb dd0) (so dd0 + ty.toNat * 1 + 0)) + f.toNat * 4 + 3))]) (cap := []) (show _ = (.func (.func 67) #[] #[] : Value) from rfl) rfl Tryd.call67 (D_cloneMv (l := (((d.types.getD ty.toNat default).fields).getD f.toNat default).moves) (vl := (cellV W (sb (cellV W (sb dd0) (so dd0 + ty.toNat * 1 + 0))) (so (cellV W (sb dd0) (so dd0 + ty.toNat * 1 + 0)) + f.toNat * 4 + 3))) hde56_0 hS66) ?_)
   rintro v67 w68 ⟨_, rfl, hS69⟩
   have hr70 := hS69.row (i := 0) rfl
   have hr70s : ((((d.types.getD ty.toNat default).fields).getD f.toNat default).moves).length * 32 ≤ 140737488355328 := hr70.2
   refine st (fd79_3 rfl ?_)
   refine stn (ov_store1 (v := v67) (c := [.int .i64 ((((d.types.getD ty.toNat default).fields).getD f.toNat default).kind), .int .i64 ((((d.types.getD ty.toNat default).fields).getD f.toNat default).policy), .bool ((((d.types.getD ty.toNat default).fields).getD f.toNat default).floor), (cellV W (sb (cellV W (sb dd0) (so dd0 + ty.toNat * 1 + 0))) (so (cellV W (sb dd0) (so dd0 + ty.toNat * 1 + 0)) + f.toNat * 4 + 3))]) (c' := [.int .i64 ((((d.types.getD ty.toNat default).fields).getD f.toNat default).kind), .int .i64 ((((d.types.getD ty.toNat default).fields).getD f.toNat default).policy), .bool ((((d.types.getD ty.toNat default).fields).getD f.toNat default).floor), v67]) Tryd.sizeOf77 rfl rfl (hS69.blk (i := 1) rfl) hr70.1.one rfl rfl ?_)
   intro w71 hp72
   have ok73 : Fld.Ok (((d.types.getD ty.toNat default).fields).getD f.toNat default) := ⟨(show InR ((((d.types.getD ty.toNat default).fields).getD f.toNat default).kind) from hoke56.kind), (show InR ((((d.types.getD ty.toNat default).fields).getD f.toNat default).policy) from hoke56.policy)⟩
   have hS74 : Sep G W ((RowE (α := Mv) own 115 v67 ((((d.types.getD ty.toNat default).fields).getD f.toNat default).moves)) :: (Blk b61 ((((d.types.getD ty.toNat default).fields).getD f.toNat default).cells v67).toArray 79) :: (Blk b6 #[.int .i64 (0), .int .i64 (0), .bool false, (.slice none 0 0)] 79) :: (Blk b2 (d.cells dd0 dd1).toArray 25) :: Rs) w71 := hS69.put (i := 1) rfl hp72
   refine st_nil ?_
   refine WP_seq ?_
   refine WP_region0 (by kernel_rfl) (fun _ => ?_)
   refine st (ov_loadk (k := 4) Tryd.isAgg79 Tryd.sizeOf79 rfl rfl (CellsAt.all (hS74.blk (i := 1) rfl)) ?_)
   refine stn (ov_store (v := .agg ((((d.types.getD ty.toNat default).fields).getD f.toNat default).cells v67).toArray) (c' := ((((d.types.getD ty.toNat default).fields).getD f.toNat default).cells v67).toArray) Tryd.sizeOf79 rfl rfl (hS74.blk (i := 2) rfl) (all1 ⟨rfl, rfl, rfl, hr70.1.one, trivial⟩) (Nat.le_of_ble_eq_true rfl) rfl ?_)
   intro w75 hp76
   have hS77 : Sep G W ((RowE (α := Mv) own 115 v67 ((((d.types.getD ty.toNat default).fields).getD f.toNat default).moves)) :: (Blk b61 ((((d.types.getD ty.toNat default).fields).getD f.toNat default).cells v67).toArray 79) :: (Blk b6 ((((d.types.getD ty.toNat default).fields).getD f.toNat default).cells v67).toArray 79) :: (Blk b2 (d.cells dd0 dd1).toArray 25) :: Rs) w75 := hS74.put (i := 2) rfl hp76
   refine st (ov_assign (v := .bool true) rfl ?_)
   refine st_nil ?_
   refine WP_ret ?_
   refine fin2c (b := b6) Tryd.results40 Tryd.isAgg79 Tryd.sizeOf79 rfl rfl (CellsAt.all (hS77.blk (i := 2) rfl)) (show _ = (.bool true : Value) from rfl) ?_
   have hS78 : Sep G W ((RowE (α := Mv) own 115 v67 ((((d.types.getD ty.toNat default).fields).getD f.toNat default).moves)) :: Rs) w75 := hS77.sel 4 [0] (Nat.le_add_left _ _) rfl rfl
   have hB : fieldB d ty f = true := by unfold fieldB; simp only [Bool.and_eq_true, decide_eq_true_eq]; omega
   have hz : fieldL d ty f = (((d.types.getD ty.toNat default).fields).getD f.toNat default) := by unfold fieldL; rw [hB]; rfl
   rw [hz, hB]
   refine ⟨v67, rfl, ?_, hS78⟩
   exact ok73
  ·skip
   try simp only [bools] at hc51
   refine WP_cond_t rfl ?_
   refine WP_seq ?_
   refine WP_region0 (by kernel_rfl) (fun _ => ?_)
   have ok79 : Fld.Ok (⟨0, 0, false, []⟩ : Fld) := ⟨(show InR (0) from (by decide)), (show InR (0) from (by decide))⟩
   refine st (ov_build (parts' := []) (v := .agg ((⟨0, 0, false, []⟩ : Fld).cells (.slice none 0 0)).toArray) rfl (by simp [Instr.build, Instr.fill, Ev.cells, go_sem, Mv.cells, Fld.cells, Typ.cells, Prj.cells, Dcl.cells, Cel.cells, AskR.cells, Ask.cells]) ?_)
   refine stn (ov_store (v := .agg ((⟨0, 0, false, []⟩ : Fld).cells (.slice none 0 0)).toArray) (c' := ((⟨0, 0, false, []⟩ : Fld).cells (.slice none 0 0)).toArray) Tryd.sizeOf79 rfl rfl (hS50.blk (i := 0) rfl) (all1 ⟨rfl, rfl, rfl, rfl, trivial⟩) (Nat.le_of_ble_eq_true rfl) rfl ?_)
   intro w80 hp81
   have hS82 : Sep G W ((Blk b6 ((⟨0, 0, false, []⟩ : Fld).cells (.slice none 0 0)).toArray 79) :: (Blk b2 (d.cells dd0 dd1).toArray 25) :: Rs) w80 := hS50.put (i := 0) rfl hp81
   refine st (ov_assign (v := .bool false) rfl ?_)
   refine st_nil ?_
   refine WP_ret ?_
   refine fin2c (b := b6) Tryd.results40 Tryd.isAgg79 Tryd.sizeOf79 rfl rfl (CellsAt.all (hS82.blk (i := 0) rfl)) (show _ = (.bool false : Value) from rfl) ?_
   have hS83 : Sep G W ((RowE (α := Mv) own 115 (.slice none 0 0) ([] : List Mv)) :: (Blk b6 ((⟨0, 0, false, []⟩ : Fld).cells (.slice none 0 0)).toArray 79) :: (Blk b2 (d.cells dd0 dd1).toArray 25) :: Rs) w80 := hS82.rowNil own 115
   have hS84 : Sep G W ((RowE (α := Mv) own 115 (.slice none 0 0) ([] : List Mv)) :: Rs) w80 := hS83.sel 3 [0] (Nat.le_add_left _ _) rfl rfl
   have hB : fieldB d ty f = false := by unfold fieldB; rw [Bool.eq_false_iff]; intro h9; simp only [Bool.and_eq_true, decide_eq_true_eq] at h9; omega
   have hz : fieldL d ty f = (⟨0, 0, false, []⟩ : Fld) := by unfold fieldL; rw [hB]; rfl
   rw [hz, hB]
   refine ⟨(.slice none 0 0), rfl, ?_, hS84⟩
   exact ok79
 ·skip
  have hg44r := hg44
  try simp only [bools] at hg44
  refine stx rfl rfl ?_
  refine stx rfl rfl ?_
  refine st (ov_pick_t (v := .bool true) rfl rfl ?_)
  refine st_nil ?_
  refine WP_cond_t rfl ?_
  refine WP_seq ?_
  refine WP_region0 (by kernel_rfl) (fun _ => ?_)
  have ok85 : Fld.Ok (⟨0, 0, false, []⟩ : Fld) := ⟨(show InR (0) from (by decide)), (show InR (0) from (by decide))⟩
  refine st (ov_build (parts' := []) (v := .agg ((⟨0, 0, false, []⟩ : Fld).cells (.slice none 0 0)).toArray) rfl (by simp [Instr.build, Instr.fill, Ev.cells, go_sem, Mv.cells, Fld.cells, Typ.cells, Prj.cells, Dcl.cells, Cel.cells, AskR.cells, Ask.cells]) ?_)
  refine stn (ov_store (v := .agg ((⟨0, 0, false, []⟩ : Fld).cells (.slice none 0 0)).toArray) (c' := ((⟨0, 0, false, []⟩ : Fld).cells (.slice none 0 0)).toArray) Tryd.sizeOf79 rfl rfl (hS11.blk (i := 0) rfl) (all1 ⟨rfl, rfl, rfl, rfl, trivial⟩) (Nat.le_of_ble_eq_true rfl) rfl ?_)
  intro w86 hp87
  have hS88 : Sep G W ((Blk b6 ((⟨0, 0, false, []⟩ : Fld).cells (.slice none 0 0)).toArray 79) :: (Blk b2 (d.cells dd0 dd1).toArray 25) :: Rs) w86 := hS11.put (i := 0) rfl hp87
  refine st (ov_assign (v := .bool false) rfl ?_)
  refine st_nil ?_
  refine WP_ret ?_
  refine fin2c (b := b6) Tryd.results40 Tryd.isAgg79 Tryd.sizeOf79 rfl rfl (CellsAt.all (hS88.blk (i := 0) rfl)) (show _ = (.bool false : Value) from rfl) ?_
  have hS89 : Sep G W ((RowE (α := Mv) own 115 (.slice none 0 0) ([] : List Mv)) :: (Blk b6 ((⟨0, 0, false, []⟩ : Fld).cells (.slice none 0 0)).toArray 79) :: (Blk b2 (d.cells dd0 dd1).toArray 25) :: Rs) w86 := hS88.rowNil own 115
  have hS90 : Sep G W ((RowE (α := Mv) own 115 (.slice none 0 0) ([] : List Mv)) :: Rs) w86 := hS89.sel 3 [0] (Nat.le_add_left _ _) rfl rfl
  have hB : fieldB d ty f = false := by unfold fieldB; rw [Bool.eq_false_iff]; intro h9; simp only [Bool.and_eq_true, decide_eq_true_eq] at h9; omega
  have hz : fieldL d ty f = (⟨0, 0, false, []⟩ : Fld) := by unfold fieldL; rw [hB]; rfl
  rw [hz, hB]
  refine ⟨(.slice none 0 0), rfl, ?_, hS90⟩
  exact ok85

theorem D_Fits {G : Nat → Prop} {W w : World} {Rs : List HP} {d : Dcl} {dd0 : Value} (hdd0 : RdS W G dd0 d.types) {dd1 : Value} (hdd1 : RdS W G dd1 d.projs) (od : d.Ok) {ty : Int} (hty : InR ty) {f : Int} (hf : InR f) {op : Int} (hop : InR op) {arg : Int} (harg : InR arg) (hKN : RdS W G (.slice (some ⟨0, 0, none⟩) 6 6) kindsL) (hS0 : Sep G W Rs w) : Ret Tryd.prog 15 [.agg (d.cells dd0 dd1).toArray, .int .i64 (ty), .int .i64 (f), .int .i64 (op), .int .i64 (arg)] w (fun r w' => r = (.int .i64 (fitsL d ty f op arg) : Value) ∧ Sep G W Rs w') := by
 have hdd0s : d.types.length * 24 ≤ 140737488355328 := hdd0.small
 have hdd1s : d.projs.length * 40 ≤ 140737488355328 := hdd1.small
 have hKNs : kindsL.length * 8 ≤ 140737488355328 := hKN.small
 refine Calls_of_WP (args := [.agg (d.cells dd0 dd1).toArray, .int .i64 (ty), .int .i64 (f), .int .i64 (op), .int .i64 (arg)]) Tryd.func15 rfl rfl ?_
 refine WP_seq ?_
 refine WP_region0 (by kernel_rfl) (fun _ => ?_)
 refine st (ov_box (v := .agg (d.cells dd0 dd1).toArray) rfl ?_)
 intro w3 b2 hn1
 have hS4 : Sep G W ((Blk b2 (d.cells dd0 dd1).toArray 25) :: Rs) w3 := hS0.new hn1
 refine st (ov_assign (v := .int .i64 (0)) rfl ?_)
 refine st_nil ?_
 refine WP_seq ?_
 refine WP_region0 (by kernel_rfl) (fun _ => ?_)
 refine st (ov_loadk (k := 2) Tryd.isAgg25 Tryd.sizeOf25 rfl rfl (CellsAt.all (hS4.blk (i := 0) rfl)) ?_)
 refine st (ov_move (v := .int .i64 (ty)) rfl ?_)
 refine st (ov_move (v := .int .i64 (f)) rfl ?_)
 refine st (ov_call (f := 40) (vals := [.agg (d.cells dd0 dd1).toArray, .int .i64 (ty), .int .i64 (f)]) (cap := []) (show _ = (.func (.func 40) #[] #[] : Value) from rfl) rfl Tryd.call40 (D_Field (d := d) (ty := ty) (f := f) hdd0 hdd1 od hty hf hS4) ?_)
 rintro _ w7 ⟨v5, rfl, hfok6, hS8⟩
 have hr9 := hS8.row (i := 0) rfl
 have hr9s : ((fieldL d ty f).moves).length * 32 ≤ 140737488355328 := hr9.2
 refine st (ov_move (v := .tuple #[.agg ((fieldL d ty f).cells v5).toArray, .bool ((fieldB d ty f))]) rfl ?_)
 refine st (ov_extract (vs := [.agg ((fieldL d ty f).cells v5).toArray, .bool ((fieldB d ty f))]) (i := 0) (v := .agg ((fieldL d ty f).cells v5).toArray) rfl rfl ?_)
 refine st (ov_extract (vs := [.agg ((fieldL d ty f).cells v5).toArray, .bool ((fieldB d ty f))]) (i := 1) (v := .bool ((fieldB d ty f))) rfl rfl ?_)
 refine st (ov_alloc Tryd.zeroValue79 ?_)
 intro w12 b11 hn10
 have hS13 : Sep G W ((Blk b11 #[.int .i64 (0), .int .i64 (0), .bool false, (.slice none 0 0)] 79) :: (RowE (α := Mv) own 115 v5 ((fieldL d ty f).moves)) :: (Blk b2 (d.cells dd0 dd1).toArray 25) :: Rs) w12 := hS8.new hn10
 refine stn (ov_store (v := .agg ((fieldL d ty f).cells v5).toArray) (c' := ((fieldL d ty f).cells v5).toArray) Tryd.sizeOf79 rfl rfl (hS13.blk (i := 0) rfl) (all1 ⟨rfl, rfl, rfl, hr9.1.one, trivial⟩) (Nat.le_of_ble_eq_true rfl) rfl ?_)
 intro w14 hp15
 have hS16 : Sep G W ((Blk b11 ((fieldL d ty f).cells v5).toArray 79) :: (RowE (α := Mv) own 115 v5 ((fieldL d ty f).moves)) :: (Blk b2 (d.cells dd0 dd1).toArray 25) :: Rs) w14 := hS13.put (i := 0) rfl hp15
 refine st (ov_assign (v := .bool ((fieldB d ty f))) rfl ?_)
 refine st_nil ?_
 refine WP_seq ?_
 refine WP_block ?_
 refine WP_seq ?_
 refine WP_region0 (by kernel_rfl) (fun _ => ?_)
 refine st (ov_move (v := .bool ((fieldB d ty f))) rfl ?_)
 refine st (ov_not (a := (fieldB d ty f)) rfl ?_)
 refine st (ov_assign (v := .bool (!(fieldB d ty f))) rfl ?_)
 refine st_nil ?_
 cases hc17 : !(fieldB d ty f)
 ·skip
  have hc17r := hc17
  try simp only [bools] at hc17
  refine WP_cond_f rfl ?_
  refine WP_seq ?_
  refine WP_draw4 (WF [fun vals wq => Sep G W ((Blk b11 ((fieldL d ty f).cells v5).toArray 79) :: (RowE (α := Mv) own 115 v5 ((fieldL d ty f).moves)) :: (Blk b2 (d.cells dd0 dd1).toArray 25) :: Rs) wq, fun vals wq => (vals 1 = (.bool ((decide (1 ≤ op) && decide (op ≤ 5))) : Value)) ∧ Sep G W ((Blk b11 ((fieldL d ty f).cells v5).toArray 79) :: (RowE (α := Mv) own 115 v5 ((fieldL d ty f).moves)) :: (Blk b2 (d.cells dd0 dd1).toArray 25) :: Rs) wq]) (AF [Vl 0 (.int .i64 (op)), fun _ => True, Vl 2 (.bool (!(decide (1 ≤ op) && decide (op ≤ 5)))), Vl 3 (.bool (!(decide (1 ≤ op) && decide (op ≤ 5)))), Vl 4 (if (!(decide (1 ≤ op) && decide (op ≤ 5))) = false then .int .i64 (op) else undef), Vl 5 (if (!(decide (1 ≤ op) && decide (op ≤ 5))) = false then .pointer (some ⟨sb (.slice (some ⟨0, 0, none⟩) 6 6), so (.slice (some ⟨0, 0, none⟩) 6 6) + op.toNat * 1, none⟩) else undef), Vl 6 (if (!(decide (1 ≤ op) && decide (op ≤ 5))) = false then .int .i64 ((kindsL.getD op.toNat 0)) else undef), Vl 7 (if (!(decide (1 ≤ op) && decide (op ≤ 5))) = false then .pointer (some ⟨b11, 0, none⟩) else undef), Vl 8 (if (!(decide (1 ≤ op) && decide (op ≤ 5))) = false then .int .i64 ((fieldL d ty f).kind) else undef), Vl 9 (if (!(decide (1 ≤ op) && decide (op ≤ 5))) = false then .bool (!decide ((kindsL.getD op.toNat 0) = ((fieldL d ty f).kind))) else undef), Vl 10 (.bool ((!(decide (1 ≤ op) && decide (op ≤ 5))) || (!decide ((kindsL.getD op.toNat 0) = ((fieldL d ty f).kind))))), Vl 11 (.bool ((!(decide (1 ≤ op) && decide (op ≤ 5))) || (!decide ((kindsL.getD op.toNat 0) = ((fieldL d ty f).kind)))))]) [[], [0], [0, 1], [0, 1, 2], [0, 1, 2, 3], [0, 1, 2, 3, 4], [0, 1, 2, 3, 4, 5], [0, 1, 2, 3], [0, 1, 2, 3, 7], [0, 1, 2, 3, 4, 5, 6, 7, 8], [0, 1, 2, 3, 4, 5, 6, 7, 8, 9], [0, 1, 2, 3, 4, 5, 6, 7, 8, 9, 10]] [1] [(0, 0), (0, 0), (1, 1), (1, 1), (1, 1), (1, 1), (1, 1), (1, 1), (1, 1), (1, 1), (1, 1), (1, 1)] (by kernel_rfl) (by kernel_rfl) (by kernel_rfl) rfl (by kernel_rfl) (by kernel_rfl) (fun _ h1 h2 h3 h4 _ => hS16.same h1 h2 h3 h4) ?_ (AF_loc ⟨dA, dT, dA, dA, dA, dA, dA, dA, dA, dA, dA, dA, trivial⟩) ⟨?_, ?_, ?_, ?_, ?_, ?_, ?_, ?_, ?_, ?_, ?_, ?_, trivial⟩ ?_
  ·intro k vals vals' w hv h
   have e : ∀ j ∈ ([1] : List Nat), vals' j = vals j := hv
   match k, h with
   | 0, h => exact h
   | 1, h => exact (by simpa only [WF, List.getElem?_cons_zero, List.getElem?_cons_succ, e 1 (by decide)] using h)
   | _ + 2, _ => trivial
  ·intro k130 vals w131 h134 h135 hW133 hA132
   refine obl rfl ?_
   exact ov_move (v := .int .i64 (op)) rfl (fun vals' hv _ => ⟨rfl, hv⟩)
  ·intro k24 vals w25 h28 h29 hW27 hA26
   obtain rfl : k24 = 0 := Nat.le_antisymm h29 h28
   have hS30 : Sep G W ((Blk b11 ((fieldL d ty f).cells v5).toArray 79) :: (RowE (α := Mv) own 115 v5 ((fieldL d ty f).moves)) :: (Blk b2 (d.cells dd0 dd1).toArray 25) :: Rs) w25 := hW27
   have e31 : vals 0 = (.int .i64 (op) : Value) := hA26 0 (by decide)
   refine obl rfl ?_
   refine (ov_call (f := 51) (vals := [.int .i64 (op), .int .i64 (1), .int .i64 (5)]) (cap := []) (show _ = (.func (.func 51) #[] #[] : Value) from rfl) (mapL ⟨e31, rfl, rfl, trivial⟩) Tryd.call51 (D_within (x := op) (lo := 1) (hi := 5) (by omega) (by decide) (by decide) hS30) ?_)
   rintro _ w32 ⟨rfl, hS33⟩
   intro vals' hv hv'
   refine ⟨?_, trivial⟩
   show (vals' 1 = (.bool ((decide (1 ≤ op) && decide (op ≤ 5))) : Value)) ∧ Sep G W ((Blk b11 ((fieldL d ty f).cells v5).toArray 79) :: (RowE (α := Mv) own 115 v5 ((fieldL d ty f).moves)) :: (Blk b2 (d.cells dd0 dd1).toArray 25) :: Rs) w32
   exact ⟨hv, hS33⟩
  ·intro k136 vals w137 h140 h141 hW139 hA138
   obtain rfl : k136 = 1 := Nat.le_antisymm h141 h140
   obtain ⟨he34, hS142⟩ : (vals 1 = (.bool ((decide (1 ≤ op) && decide (op ≤ 5))) : Value)) ∧ Sep G W ((Blk b11 ((fieldL d ty f).cells v5).toArray 79) :: (RowE (α := Mv) own 115 v5 ((fieldL d ty f).moves)) :: (Blk b2 (d.cells dd0 dd1).toArray 25) :: Rs) w137 := hW139
   refine obl rfl ?_
   exact ov_not (a := (decide (1 ≤ op) && decide (op ≤ 5))) he34 (fun vals' hv _ => ⟨rfl, hv⟩)
  ·intro k143 vals w144 h147 h148 hW146 hA145
   have e149 : vals 2 = (.bool (!(decide (1 ≤ op) && decide (op ≤ 5))) : Value) := hA145 2 (by decide)
   refine obl rfl ?_
   exact ov_move (v := .bool (!(decide (1 ≤ op) && decide (op ≤ 5)))) e149 (fun vals' hv _ => ⟨rfl, hv⟩)
  ·intro k150 vals w151 h154 h155 hW153 hA152
   have e156 : vals 3 = (.bool (!(decide (1 ≤ op) && decide (op ≤ 5))) : Value) := hA152 3 (by decide)
   refine oblc rfl rfl e156 (fun hb157 => ?_) (fun hb157 => fun vals' hv _ => ⟨trivial, hv.trans (if_neg hb157).symm⟩)
   have hl158 := hb157
   try simp only [bools] at hl158
   exact ov_move (v := .int .i64 (op)) rfl (fun vals' hv _ => ⟨rfl, hv.trans (if_pos hb157).symm⟩)
  ·intro k159 vals w160 h163 h164 hW162 hA161
   obtain rfl : k159 = 1 := Nat.le_antisymm h164 h163
   obtain ⟨he34, hS165⟩ : (vals 1 = (.bool ((decide (1 ≤ op) && decide (op ≤ 5))) : Value)) ∧ Sep G W ((Blk b11 ((fieldL d ty f).cells v5).toArray 79) :: (RowE (α := Mv) own 115 v5 ((fieldL d ty f).moves)) :: (Blk b2 (d.cells dd0 dd1).toArray 25) :: Rs) w160 := hW162
   have e166 : vals 3 = (.bool (!(decide (1 ≤ op) && decide (op ≤ 5))) : Value) := hA161 3 (by decide)
   have e167 : vals 4 = (if (!(decide (1 ≤ op) && decide (op ≤ 5))) = false then (.int .i64 (op) : Value) else undef) := hA161 4 (by decide)
   refine oblc rfl rfl e166 (fun hb168 => ?_) (fun hb168 => fun vals' hv _ => ⟨trivial, hv.trans (if_neg hb168).symm⟩)
   have hl169 := hb168
   try simp only [bools] at hl169
   exact ov_indexAddrG (b := sb (.slice (some ⟨0, 0, none⟩) 6 6)) (o := so (.slice (some ⟨0, 0, none⟩) 6 6)) (k := 1) (n := 6) (i := op) (off := op.toNat * 1) Tryd.underlying92 Tryd.sizeOf3 rfl (show _ = (.int .i64 (op) : Value) from (Eq.trans e167 (if_pos hb168))) (by omega) rfl (fun vals' hv _ => ⟨rfl, hv.trans (if_pos hb168).symm⟩)
  ·intro k170 vals w171 h174 h175 hW173 hA172
   obtain rfl : k170 = 1 := Nat.le_antisymm h175 h174
   obtain ⟨he34, hS176⟩ : (vals 1 = (.bool ((decide (1 ≤ op) && decide (op ≤ 5))) : Value)) ∧ Sep G W ((Blk b11 ((fieldL d ty f).cells v5).toArray 79) :: (RowE (α := Mv) own 115 v5 ((fieldL d ty f).moves)) :: (Blk b2 (d.cells dd0 dd1).toArray 25) :: Rs) w171 := hW173
   have e177 : vals 3 = (.bool (!(decide (1 ≤ op) && decide (op ≤ 5))) : Value) := hA172 3 (by decide)
   have e178 : vals 5 = (if (!(decide (1 ≤ op) && decide (op ≤ 5))) = false then (.pointer (some ⟨sb (.slice (some ⟨0, 0, none⟩) 6 6), so (.slice (some ⟨0, 0, none⟩) 6 6) + op.toNat * 1, none⟩) : Value) else undef) := hA172 5 (by decide)
   refine oblc rfl rfl e177 (fun hb179 => ?_) (fun hb179 => fun vals' hv _ => ⟨trivial, hv.trans (if_neg hb179).symm⟩)
   have hl180 := hb179
   try simp only [bools] at hl180
   have hi182 : op.toNat < kindsL.length := (by first | omega | (rw [kindsL_len]; omega))
   obtain ⟨hce181, hxe181⟩ := hKN.int hi182
   rw [← getD_at 0 hi182] at hce181 hxe181
   have hcw183 := hS176.cells hce181 (hKN.foot (ne_of_lt hi182))
   exact ov_load1 (v := .int .i64 ((kindsL.getD op.toNat 0))) Tryd.isAgg3 (show _ = (.pointer (some ⟨sb (.slice (some ⟨0, 0, none⟩) 6 6), so (.slice (some ⟨0, 0, none⟩) 6 6) + op.toNat * 1, none⟩) : Value) from (Eq.trans e178 (if_pos hb179))) (hcw183.get (j := 0) rfl) (fun vals' hv _ => ⟨rfl, hv.trans (if_pos hb179).symm⟩)
  ·intro k184 vals w185 h188 h189 hW187 hA186
   have e190 : vals 3 = (.bool (!(decide (1 ≤ op) && decide (op ≤ 5))) : Value) := hA186 3 (by decide)
   refine oblc rfl rfl e190 (fun hb191 => ?_) (fun hb191 => fun vals' hv _ => ⟨trivial, hv.trans (if_neg hb191).symm⟩)
   have hl192 := hb191
   try simp only [bools] at hl192
   exact fd79_0 rfl (fun vals' hv _ => ⟨rfl, hv.trans (if_pos hb191).symm⟩)
  ·intro k193 vals w194 h197 h198 hW196 hA195
   obtain rfl : k193 = 1 := Nat.le_antisymm h198 h197
   obtain ⟨he34, hS199⟩ : (vals 1 = (.bool ((decide (1 ≤ op) && decide (op ≤ 5))) : Value)) ∧ Sep G W ((Blk b11 ((fieldL d ty f).cells v5).toArray 79) :: (RowE (α := Mv) own 115 v5 ((fieldL d ty f).moves)) :: (Blk b2 (d.cells dd0 dd1).toArray 25) :: Rs) w194 := hW196
   have e200 : vals 3 = (.bool (!(decide (1 ≤ op) && decide (op ≤ 5))) : Value) := hA195 3 (by decide)
   have e201 : vals 7 = (if (!(decide (1 ≤ op) && decide (op ≤ 5))) = false then (.pointer (some ⟨b11, 0, none⟩) : Value) else undef) := hA195 7 (by decide)
   refine oblc rfl rfl e200 (fun hb202 => ?_) (fun hb202 => fun vals' hv _ => ⟨trivial, hv.trans (if_neg hb202).symm⟩)
   have hl203 := hb202
   try simp only [bools] at hl203
   exact ov_load1 (v := .int .i64 ((fieldL d ty f).kind)) Tryd.isAgg3 (show _ = (.pointer (some ⟨b11, 0, none⟩) : Value) from (Eq.trans e201 (if_pos hb202))) (blk_cellL (hS199.blk (i := 0) rfl) rfl) (fun vals' hv _ => ⟨rfl, hv.trans (if_pos hb202).symm⟩)
  ·intro k204 vals w205 h208 h209 hW207 hA206
   obtain rfl : k204 = 1 := Nat.le_antisymm h209 h208
   obtain ⟨he34, hS210⟩ : (vals 1 = (.bool ((decide (1 ≤ op) && decide (op ≤ 5))) : Value)) ∧ Sep G W ((Blk b11 ((fieldL d ty f).cells v5).toArray 79) :: (RowE (α := Mv) own 115 v5 ((fieldL d ty f).moves)) :: (Blk b2 (d.cells dd0 dd1).toArray 25) :: Rs) w205 := hW207
   have e211 : vals 3 = (.bool (!(decide (1 ≤ op) && decide (op ≤ 5))) : Value) := hA206 3 (by decide)
   have e212 : vals 6 = (if (!(decide (1 ≤ op) && decide (op ≤ 5))) = false then (.int .i64 ((kindsL.getD op.toNat 0)) : Value) else undef) := hA206 6 (by decide)
   have e213 : vals 8 = (if (!(decide (1 ≤ op) && decide (op ≤ 5))) = false then (.int .i64 ((fieldL d ty f).kind) : Value) else undef) := hA206 8 (by decide)
   refine oblc rfl rfl e211 (fun hb214 => ?_) (fun hb214 => fun vals' hv _ => ⟨trivial, hv.trans (if_neg hb214).symm⟩)
   have hl215 := hb214
   try simp only [bools] at hl215
   exact ov_neq (k := .i64) (a := (kindsL.getD op.toNat 0)) (b := (fieldL d ty f).kind) (show _ = (.int .i64 ((kindsL.getD op.toNat 0)) : Value) from (Eq.trans e212 (if_pos hb214))) (show _ = (.int .i64 ((fieldL d ty f).kind) : Value) from (Eq.trans e213 (if_pos hb214))) (fun vals' hv _ => ⟨rfl, hv.trans (if_pos hb214).symm⟩)
  ·intro k216 vals w217 h220 h221 hW219 hA218
   have e222 : vals 3 = (.bool (!(decide (1 ≤ op) && decide (op ≤ 5))) : Value) := hA218 3 (by decide)
   have e223 : vals 9 = (if (!(decide (1 ≤ op) && decide (op ≤ 5))) = false then (.bool (!decide ((kindsL.getD op.toNat 0) = ((fieldL d ty f).kind))) : Value) else undef) := hA218 9 (by decide)
   refine obl rfl ?_
   exact ov_pick_or (b := !(decide (1 ≤ op) && decide (op ≤ 5))) (b' := !decide ((kindsL.getD op.toNat 0) = ((fieldL d ty f).kind))) e222 (fun hbp => (show _ = (.bool (!decide ((kindsL.getD op.toNat 0) = ((fieldL d ty f).kind))) : Value) from (Eq.trans e223 (if_pos hbp)))) (fun vals' hv _ => ⟨rfl, hv⟩)
  ·intro k224 vals w225 h228 h229 hW227 hA226
   have e230 : vals 10 = (.bool ((!(decide (1 ≤ op) && decide (op ≤ 5))) || (!decide ((kindsL.getD op.toNat 0) = ((fieldL d ty f).kind)))) : Value) := hA226 10 (by decide)
   refine obl rfl ?_
   exact ov_assign (v := .bool ((!(decide (1 ≤ op) && decide (op ≤ 5))) || (!decide ((kindsL.getD op.toNat 0) = ((fieldL d ty f).kind))))) e230 (fun vals' hv _ => ⟨rfl, hv⟩)
  intro vals w231 hW232 hA233
  obtain ⟨he34, hS234⟩ : (vals 1 = (.bool ((decide (1 ≤ op) && decide (op ≤ 5))) : Value)) ∧ Sep G W ((Blk b11 ((fieldL d ty f).cells v5).toArray 79) :: (RowE (α := Mv) own 115 v5 ((fieldL d ty f).moves)) :: (Blk b2 (d.cells dd0 dd1).toArray 25) :: Rs) w231 := hW232
  have e235 : vals 11 = (.bool ((!(decide (1 ≤ op) && decide (op ≤ 5))) || (!decide ((kindsL.getD op.toNat 0) = ((fieldL d ty f).kind)))) : Value) := hA233 11 (by decide)
  refine st_env (kv := [(0, .agg (d.cells dd0 dd1).toArray), (1, .int .i64 (ty)), (2, .int .i64 (f)), (3, .int .i64 (op)), (4, .int .i64 (arg)), (5, .pointer (some ⟨b2, 0, none⟩)), (10, .int .i64 (0)), (14, .agg (d.cells dd0 dd1).toArray), (15, .int .i64 (ty)), (16, .int .i64 (f)), (17, .tuple #[.agg ((fieldL d ty f).cells v5).toArray, .bool ((fieldB d ty f))]), (13, .tuple #[.agg ((fieldL d ty f).cells v5).toArray, .bool ((fieldB d ty f))]), (18, .agg ((fieldL d ty f).cells v5).toArray), (19, .bool ((fieldB d ty f))), (11, .pointer (some ⟨b11, 0, none⟩)), (12, .bool ((fieldB d ty f))), (21, .bool ((fieldB d ty f))), (22, .bool false), (20, .bool false), (23, .bool ((!(decide (1 ≤ op) && decide (op ≤ 5))) || (!decide ((kindsL.getD op.toNat 0) = ((fieldL d ty f).kind)))))]) ⟨rfl, rfl, rfl, rfl, rfl, rfl, rfl, rfl, rfl, rfl, rfl, rfl, rfl, rfl, rfl, rfl, rfl, rfl, rfl, (by exact e235), trivial⟩ (fun ρw231 => ?_)
  refine st_nil ?_
  cases hc236 : (!(decide (1 ≤ op) && decide (op ≤ 5))) || (!decide ((kindsL.getD op.toNat 0) = ((fieldL d ty f).kind)))
  ·skip
   have hc236r := hc236
   try simp only [bools] at hc236
   refine WP_cond_f rfl ?_
   refine WP_seq ?_
   refine WP_seq ?_
   refine WP_region (by kernel_rfl) ?_
   refine st (ov_move (v := .int .i64 (op)) rfl ?_)
   refine st (ov_eql (k := .i64) (a := op) (b := 1) rfl rfl ?_)
   refine st (ov_move (v := .bool (decide (op = 1))) rfl ?_)
   refine stc (V := .int .i64 (arg)) rfl rfl (fun hb237 => ?_) ?_
   ·have hl238 := hb237
    have hl238 := of_decide_eq_true hl238
    exact ov_move (v := .int .i64 (arg)) rfl ⟨rfl, rfl⟩
   refine stc (V := .bool (decide (arg = 0))) rfl rfl (fun hb239 => ?_) ?_
   ·have hl240 := hb239
    have hl240 := of_decide_eq_true hl240
    exact ov_eql (k := .i64) (a := arg) (b := 0) (show _ = (.int .i64 (arg) : Value) from (if_pos hb239)) rfl ⟨rfl, rfl⟩
   refine st (ov_pick_and (b := decide (op = 1)) (b' := decide (arg = 0)) rfl (fun hbp => (show _ = (.bool (decide (arg = 0)) : Value) from (if_pos hbp))) ?_)
   refine st (ov_assign (v := .bool ((decide (op = 1)) && (decide (arg = 0)))) rfl ?_)
   refine st_nil ?_
   cases hc241 : (decide (op = 1)) && (decide (arg = 0))
   ·skip
    have hc241r := hc241
    try simp only [bools] at hc241
    refine WP_cond_f rfl ?_
    refine WP_region (by kernel_rfl) ?_
    refine st (ov_move (v := .int .i64 (op)) rfl ?_)
    refine st (ov_eql (k := .i64) (a := op) (b := 5) rfl rfl ?_)
    refine st (ov_move (v := .bool (decide (op = 5))) rfl ?_)
    refine stc (V := .int .i64 (arg)) rfl rfl (fun hb242 => ?_) ?_
    ·have hl243 := hb242
     have hl243 := of_decide_eq_true hl243
     exact ov_move (v := .int .i64 (arg)) rfl ⟨rfl, rfl⟩
    refine stc (V := .pointer (some ⟨b11, 3, none⟩)) rfl rfl (fun hb244 => ?_) ?_
    ·have hl245 := hb244
     have hl245 := of_decide_eq_true hl245
     exact fd79_3 rfl ⟨rfl, rfl⟩
    refine stc (V := v5) rfl rfl (fun hb246 => ?_) ?_
    ·have hl247 := hb246
     have hl247 := of_decide_eq_true hl247
     exact ov_load1 (v := v5) Tryd.isAgg77 (show _ = (.pointer (some ⟨b11, 3, none⟩) : Value) from (if_pos hb246)) (blk_cellL (hS234.blk (i := 0) rfl) rfl) ⟨rfl, rfl⟩
    refine stc (V := .int .i64 ((((fieldL d ty f).moves).length : Nat) : Int)) rfl rfl (fun hb248 => ?_) ?_
    ·have hl249 := hb248
     have hl249 := of_decide_eq_true hl249
     exact ov_len (n := ((fieldL d ty f).moves).length) Tryd.underlying77 (show _ = (v5 : Value) from (if_pos hb248)) hr9.1 ⟨rfl, rfl⟩
    refine stc (V := .int .i64 (((((fieldL d ty f).moves).length : Nat) : Int) - 1)) rfl rfl (fun hb250 => ?_) ?_
    ·have hl251 := hb250
     have hl251 := of_decide_eq_true hl251
     have hr252 : InR (((((fieldL d ty f).moves).length : Nat) : Int) - 1) := by omega
     exact ov_sub (r := ((((fieldL d ty f).moves).length : Nat) : Int) - 1) (k := .i64) (a := ((((fieldL d ty f).moves).length : Nat) : Int)) (b := 1) (show _ = (.int .i64 ((((fieldL d ty f).moves).length : Nat) : Int) : Value) from (if_pos hb250)) rfl (wrap_in hr252) ⟨rfl, rfl⟩
    cases hg253 : decide (op = 5)
    ·skip
     have hg253r := hg253
     have hg253 := of_decide_eq_false hg253
     refine stx rfl rfl ?_
     refine stx rfl rfl ?_
     refine st (ov_pick_f (v := .bool false) rfl rfl ?_)
     refine st (ov_assign (v := .bool false) rfl ?_)
     refine st_nil ?_
     refine WP_cond_f rfl ?_
     refine WP_skip ?_
     refine WP_seq ?_
     refine WP_region0 (by kernel_rfl) (fun _ => ?_)
     refine st (ov_assign (v := .int .i64 (0)) rfl ?_)
     refine st_nil ?_
     refine WP_ret ?_
     refine fin1 Tryd.results15 (show _ = (.int .i64 (0) : Value) from rfl) ?_
     have hS254 : Sep G W Rs w231 := hS234.sel 3 [] (Nat.le_add_left _ _) rfl rfl
     refine ⟨?_, hS254⟩
     unfold fitsL
     simp only [hc17r, hc236r, hc241r, hg253r, Bool.not_false, Bool.not_true, Bool.true_and, Bool.false_and, Bool.or_true, if_true, if_false, Bool.false_eq_true, ↓reduceIte]
    ·skip
     have hg253r := hg253
     have hg253 := of_decide_eq_true hg253
     refine sty rfl rfl (ov_call (f := 51) (vals := [.int .i64 (arg), .int .i64 (0), .int .i64 (((((fieldL d ty f).moves).length : Nat) : Int) - 1)]) (cap := []) (show _ = (.func (.func 51) #[] #[] : Value) from rfl) rfl Tryd.call51 (D_within (x := arg) (lo := 0) (hi := ((((fieldL d ty f).moves).length : Nat) : Int) - 1) harg (by decide) (by omega) hS234) ?_)
     rintro _ w255 ⟨rfl, hS256⟩
     refine sty rfl rfl (ov_not (a := (decide (0 ≤ arg) && decide (arg ≤ (((((fieldL d ty f).moves).length : Nat) : Int) - 1)))) rfl ?_)
     refine st (ov_pick_t (v := .bool (!(decide (0 ≤ arg) && decide (arg ≤ (((((fieldL d ty f).moves).length : Nat) : Int) - 1))))) rfl rfl ?_)
     refine st (ov_assign (v := .bool (!(decide (0 ≤ arg) && decide (arg ≤ (((((fieldL d ty f).moves).length : Nat) : Int) - 1))))) rfl ?_)
     refine st_nil ?_
     cases hc257 : !(decide (0 ≤ arg) && decide (arg ≤ (((((fieldL d ty f).moves).length : Nat) : Int) - 1)))
     ·skip
      have hc257r := hc257
      try simp only [bools] at hc257
      refine WP_cond_f rfl ?_
      refine WP_skip ?_
      refine WP_seq ?_
      refine WP_region0 (by kernel_rfl) (fun _ => ?_)
      refine st (ov_assign (v := .int .i64 (0)) rfl ?_)
      refine st_nil ?_
      refine WP_ret ?_
      refine fin1 Tryd.results15 (show _ = (.int .i64 (0) : Value) from rfl) ?_
      have hS258 : Sep G W Rs w255 := hS256.sel 3 [] (Nat.le_add_left _ _) rfl rfl
      refine ⟨?_, hS258⟩
      unfold fitsL
      simp only [hc17r, hc236r, hc241r, hg253r, hc257r, Bool.not_false, Bool.not_true, Bool.true_and, Bool.false_and, Bool.or_true, if_true, if_false, Bool.false_eq_true, ↓reduceIte]
     ·skip
      have hc257r := hc257
      try simp only [bools] at hc257
      refine WP_cond_t rfl ?_
      refine WP_seq ?_
      refine WP_region0 (by kernel_rfl) (fun _ => ?_)
      refine st (ov_assign (v := .int .i64 (1)) rfl ?_)
      refine st_nil ?_
      refine WP_ret ?_
      refine fin1 Tryd.results15 (show _ = (.int .i64 (1) : Value) from rfl) ?_
      have hS259 : Sep G W Rs w255 := hS256.sel 3 [] (Nat.le_add_left _ _) rfl rfl
      refine ⟨?_, hS259⟩
      unfold fitsL
      simp only [hc17r, hc236r, hc241r, hg253r, hc257r, Bool.not_false, Bool.not_true, Bool.true_and, Bool.false_and, Bool.or_true, if_true, if_false, Bool.false_eq_true, ↓reduceIte]
   ·skip
    have hc241r := hc241
    try simp only [bools] at hc241
    refine WP_cond_t rfl ?_
    refine WP_skip ?_
    refine WP_cond_t rfl ?_
    refine WP_seq ?_
    refine WP_region0 (by kernel_rfl) (fun _ => ?_)
    refine st (ov_assign (v := .int .i64 (1)) rfl ?_)
    refine st_nil ?_
    refine WP_ret ?_
    refine fin1 Tryd.results15 (show _ = (.int .i64 (1) : Value) from rfl) ?_
    have hS260 : Sep G W Rs w231 := hS234.sel 3 [] (Nat.le_add_left _ _) rfl rfl
    refine ⟨?_, hS260⟩
    unfold fitsL
    simp only [hc17r, hc236r, hc241r, Bool.not_false, Bool.not_true, Bool.true_and, Bool.false_and, Bool.or_true, if_true, if_false, Bool.false_eq_true, ↓reduceIte]
  ·skip
   have hc236r := hc236
   try simp only [bools] at hc236
   refine WP_cond_t rfl ?_
   refine WP_seq ?_
   refine WP_region0 (by kernel_rfl) (fun _ => ?_)
   refine st (ov_assign (v := .int .i64 (2)) rfl ?_)
   refine st_nil ?_
   refine WP_ret ?_
   refine fin1 Tryd.results15 (show _ = (.int .i64 (2) : Value) from rfl) ?_
   have hS261 : Sep G W Rs w231 := hS234.sel 3 [] (Nat.le_add_left _ _) rfl rfl
   refine ⟨?_, hS261⟩
   unfold fitsL
   simp only [hc17r, hc236r, Bool.not_false, Bool.not_true, Bool.true_and, Bool.false_and, Bool.or_true, if_true, if_false, Bool.false_eq_true, ↓reduceIte]
 ·skip
  have hc17r := hc17
  try simp only [bools] at hc17
  refine WP_cond_t rfl ?_
  refine WP_seq ?_
  refine WP_region0 (by kernel_rfl) (fun _ => ?_)
  refine st (ov_assign (v := .int .i64 (8)) rfl ?_)
  refine st_nil ?_
  refine WP_ret ?_
  refine fin1 Tryd.results15 (show _ = (.int .i64 (8) : Value) from rfl) ?_
  have hS262 : Sep G W Rs w14 := hS16.sel 3 [] (Nat.le_add_left _ _) rfl rfl
  refine ⟨?_, hS262⟩
  unfold fitsL
  simp only [hc17r, Bool.not_false, Bool.not_true, Bool.true_and, Bool.false_and, Bool.or_true, if_true, if_false, Bool.false_eq_true, ↓reduceIte]

end Go.Proofs.YtlblilbmpdejgaaDoor
