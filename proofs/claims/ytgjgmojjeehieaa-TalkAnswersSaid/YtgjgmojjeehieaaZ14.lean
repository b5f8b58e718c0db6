/- Texts of this claim, part 14. -/
import Derived.Test.YtgjgmojjeehieaaZ13
set_option linter.unusedSimpArgs false
set_option linter.unusedVariables false
set_option linter.unusedSectionVars false
/- Steps of the proofs of this seat: part R9. -/
set_option maxRecDepth 8000
set_option maxHeartbeats 4000000
namespace Go.Proofs.Ytgjgmojjeehieaa
open Go.Proofs Go.RowKit

theorem Sep.old {G : Nat → Prop} {W w : World} {As : List HP} {A : HP} (h : Sep G W (A :: As) w) {k q : Nat} (hq : ¬ k ≤ q) (R : HP) : Sep G W ((if k ≤ q then R else Emp) :: As) w := h.impl (i := 0) rfl (fun _ _ => by rw [if_neg hq]; trivial)
theorem Sep.yet {G : Nat → Prop} {W w : World} {As : List HP} {R : HP} (h : Sep G W (R :: As) w) {k q : Nat} (hq : k ≤ q) : Sep G W ((if k ≤ q then R else Emp) :: As) w := by rw [if_pos hq]; exact h
theorem Sep.still {G : Nat → Prop} {W w : World} {As : List HP} {R : HP} {k q : Nat} (h : Sep G W ((if k ≤ q then R else Emp) :: As) w) (hq : k ≤ q) : Sep G W (R :: As) w := by rw [if_pos hq] at h; exact h
theorem Yv {G : Nat → Prop} {W w : World} {Rs : List HP} {n : Int} (hn : InR n) {vl : Value} {l : List Ev} (hl : RdS W G vl l) {self : Int} (hself : InR self) {m : Msg} {dm0 : Value} (hdm0 : RdS W G dm0 m.vec) {dm1 : Value} (hdm1 : RdS W G dm1 m.evs) (om : m.Ok) {chunk : Int} (hchunk : InR chunk) (hS0 : Sep G W Rs w) : Ret Try.prog 11 [.int .i64 (n), vl, .int .i64 (self), .agg (m.cells dm0 dm1).toArray, .int .i64 (chunk)] w (fun r w' => r = (.bool true : Value) ∧ Sep G W Rs w') := by
 have hls : _ * 96 ≤ _ := hl.small
 have hdm0s : _ * 8 ≤ _ := hdm0.small
 have hdm1s : _ * 96 ≤ _ := hdm1.small
 refine zq (args := [.int .i64 (n), vl, .int .i64 (self), .agg (m.cells dm0 dm1).toArray, .int .i64 (chunk)]) Try.func11 rfl rfl ?_
 refine zd ?_
 refine za (by kernel_rfl) (fun _ => ?_)
 refine st (yp (v := .agg (m.cells dm0 dm1).toArray) rfl ?_)
 intro w3 b2 hn1
 have hS4 := hS0.new hn1
 refine st (zf (v := .bool false) rfl ?_)
 refine zg ?_
 refine zd ?_
 refine zd ?_
 refine zF (by kernel_rfl) ?_
 refine st (zb (v := vl) rfl ?_)
 refine st (zj (f := 15) (vals := [vl]) (cap := []) rfl rfl Try.call15 (Qm (l := l) (vl := vl) hl hS4) ?_)
 rintro _ w7 ⟨b5, rfl, hb6, hS8⟩
 refine st (zb (v := .bool b5) rfl ?_)
 refine stc (V := .pointer (some ⟨b2, 3, none⟩)) rfl rfl (fun hb9 => ?_) ?_
 ·have hl10 := hb9
  exact yh rfl ⟨rfl, rfl⟩
 refine stc (V := dm0) rfl rfl (fun hb11 => ?_) ?_
 ·have hl12 := hb11
  exact zh (v := dm0) Try.isAgg34 (show _ = (.pointer (some ⟨b2, 3, none⟩) : Value) from (if_pos hb11)) (zi (hS8.blk (i := 0) rfl) rfl) ⟨rfl, rfl⟩
 refine stc (V := .int .i64 ((m.vec.length : Nat) : Int)) rfl rfl (fun hb13 => ?_) ?_
 ·have hl14 := hb13
  exact zB (n := m.vec.length) Try.underlying34 (show _ = (dm0 : Value) from (if_pos hb13)) hdm0.sl ⟨rfl, rfl⟩
 refine stc (V := .bool (decide (80 < ((m.vec.length : Nat) : Int)))) rfl rfl (fun hb15 => ?_) ?_
 ·have hl16 := hb15
  exact yy (k := .i64) (a := ((m.vec.length : Nat) : Int)) (b := 80) (show _ = (.int .i64 ((m.vec.length : Nat) : Int) : Value) from (if_pos hb15)) rfl ⟨rfl, rfl⟩
 refine st (zD (b := b5) (b' := decide (80 < ((m.vec.length : Nat) : Int))) rfl (fun hbp => (show _ = (.bool (decide (80 < ((m.vec.length : Nat) : Int))) : Value) from (if_pos hbp))) ?_)
 refine st (zb (v := .bool (b5 || (decide (80 < ((m.vec.length : Nat) : Int))))) rfl ?_)
 refine stc (V := .pointer (some ⟨b2, 4, none⟩)) rfl rfl (fun hb17 => ?_) ?_
 ·have hl18 := hb17
  try simp only [zr] at hl18
  exact xo rfl ⟨rfl, rfl⟩
 refine stc (V := dm1) rfl rfl (fun hb19 => ?_) ?_
 ·have hl20 := hb19
  try simp only [zr] at hl20
  exact zh (v := dm1) Try.isAgg22 (show _ = (.pointer (some ⟨b2, 4, none⟩) : Value) from (if_pos hb19)) (zi (hS8.blk (i := 0) rfl) rfl) ⟨rfl, rfl⟩
 refine stc (V := .int .i64 ((m.evs.length : Nat) : Int)) rfl rfl (fun hb21 => ?_) ?_
 ·have hl22 := hb21
  try simp only [zr] at hl22
  exact zB (n := m.evs.length) Try.underlying22 (show _ = (dm1 : Value) from (if_pos hb21)) hdm1.sl ⟨rfl, rfl⟩
 refine stc (V := .bool (decide (80 < ((m.evs.length : Nat) : Int)))) rfl rfl (fun hb23 => ?_) ?_
 ·have hl24 := hb23
  try simp only [zr] at hl24
  exact yy (k := .i64) (a := ((m.evs.length : Nat) : Int)) (b := 80) (show _ = (.int .i64 ((m.evs.length : Nat) : Int) : Value) from (if_pos hb23)) rfl ⟨rfl, rfl⟩
 refine st (zD (b := b5 || (decide (80 < ((m.vec.length : Nat) : Int)))) (b' := decide (80 < ((m.evs.length : Nat) : Int))) rfl (fun hbp => (show _ = (.bool (decide (80 < ((m.evs.length : Nat) : Int))) : Value) from (if_pos hbp))) ?_)
 refine zg ?_
 cases hc25 : (b5 || (decide (80 < ((m.vec.length : Nat) : Int)))) || (decide (80 < ((m.evs.length : Nat) : Int)))
 ·skip
  have hc25r := hc25
  try simp only [zr] at hc25
  have hf9 : Few l := by have h9 := hc25r; simp only [Bool.or_eq_false_iff] at h9; exact hb6 h9.1.1
  obtain ⟨hf9, _⟩ := hf9
  refine zk rfl ?_
  refine zp ?_
  refine zd ?_
  refine za (by kernel_rfl) (fun _ => ?_)
  refine st (zb (v := .int .i64 (n)) rfl ?_)
  refine st (zj (f := 17) (vals := [.int .i64 (n), .int .i64 (64)]) (cap := []) rfl rfl Try.call17 (UA (x := n) (n := 64) hn (by first | omega | (refine ⟨?_, ?_⟩ <;> omega)) hS8) ?_)
  rintro _ w29 ⟨q26, rfl, hq27, hqe28, hS30⟩
  have hr31 : InR ((1 + q26 : Nat) : Int) := by first | omega | (simp only [zu]; omega)
  refine st (zU (r := ((1 + q26 : Nat) : Int)) (k := .i64) (a := 1) (b := ((q26 : Nat) : Int)) rfl rfl (by rw [show (1 + ((q26 : Nat) : Int) : Int) = ((1 + q26 : Nat) : Int) by first | omega | (simp only [zu]; omega)]; exact zH hr31) ?_)
  refine st (zf (v := .int .i64 ((1 + q26 : Nat) : Int)) rfl ?_)
  refine zg ?_
  refine zd ?_
  refine za (by kernel_rfl) (fun _ => ?_)
  refine st (zb (v := .int .i64 ((1 + q26 : Nat) : Int)) rfl ?_)
  refine st (zb (v := vl) rfl ?_)
  refine st (zj (f := 40) (vals := [.int .i64 ((1 + q26 : Nat) : Int), vl]) (cap := []) rfl rfl Try.call40 (Xs (n := 1 + q26) (l := l) (vl := vl) (by first | omega | (refine ⟨?_, ?_⟩ <;> omega)) hl hS30 (by first | omega | (simp only [zu]; omega))) ?_)
  rintro _ w33 ⟨b32, rfl, hS34⟩
  refine st (zf (v := .pointer (some ⟨b32, 0, none⟩)) rfl ?_)
  refine zg ?_
  refine zd ?_
  refine za (by kernel_rfl) (fun _ => ?_)
  refine st (zb (v := .int .i64 ((1 + q26 : Nat) : Int)) rfl ?_)
  refine st (zj (f := 34) (vals := [.int .i64 ((1 + q26 : Nat) : Int)]) (cap := []) rfl rfl Try.call34 (Qi (n := 1 + q26) (by first | omega | (refine ⟨?_, ?_⟩ <;> omega)) hS34) ?_)
  rintro _ w36 ⟨b35, rfl, hS37⟩
  refine st (zf (v := .pointer (some ⟨b35, 0, none⟩)) rfl ?_)
  refine zg ?_
  refine zd ?_
  refine zd ?_
  refine za (by kernel_rfl) (fun _ => ?_)
  refine st (zb (v := .pointer (some ⟨b32, 0, none⟩)) rfl ?_)
  refine st (Zu (b := b32) (o := 0) Try.underlying26 rfl ?_)
  refine zg ?_
  refine zk rfl ?_
  refine zp ?_
  refine zd ?_
  refine zd ?_
  refine za (by kernel_rfl) (fun _ => ?_)
  refine st (zf (v := .int .i64 (0)) rfl ?_)
  refine zg ?_
  refine zx ?_
  refine yb (fun mq σ wq => ∃ (k : Nat) (ρ : Env), mq = l.length - k ∧ σ = ye ρ [(1, vl), (2, .int .i64 (self)), (4, .int .i64 (chunk)), (8, .pointer (some ⟨b2, 0, none⟩)), (11, .pointer (some ⟨b32, 0, none⟩)), (12, .pointer (some ⟨b35, 0, none⟩)), (13, .int .i64 ((k : Nat) : Int))] ∧ (k ≤ l.length) ∧ Sep G W ((RefS b35 (1 + q26) (ze (1 + q26) (l.take k))) :: (SetO b32 (1 + q26) (ze (1 + q26) l)) :: (Blk b2 (m.cells dm0 dm1).toArray 57) :: Rs) wq) ⟨0, _, rfl, zn ⟨rfl, rfl, rfl, rfl, rfl, rfl, rfl, trivial⟩, Nat.zero_le _, hS37⟩ ?_
  rintro m39 σ40 w38 ⟨k, ρl1, rfl, rfl, hkk, hS41⟩
  have hlt9 : (ze (1 + q26) (l.take k)).length ≤ l.length := Zx
  refine zd ?_
  refine zd ?_
  refine za (by kernel_rfl) (fun _ => ?_)
  refine st (zb (v := .int .i64 ((k : Nat) : Int)) rfl ?_)
  refine st (zb (v := vl) rfl ?_)
  refine st (zB (n := l.length) Try.underlying22 rfl hl.sl ?_)
  refine st (zJ (k := .i64) (a := ((k : Nat) : Int)) (b := ((l.length : Nat) : Int)) rfl rfl ?_)
  refine zg ?_
  cases hc42 : decide (((k : Nat) : Int) < ((l.length : Nat) : Int))
  ·skip
   have hc42r := hc42
   have hc42 := of_decide_eq_false hc42
   refine zk rfl ?_
   refine ya ?_
   refine zQ ?_
   refine zd ?_
   have hk9 : k = l.length := by omega
   rw [hk9, List.take_length] at hS41
   have hS43 : Sep G W ((RefS b35 (1 + q26) (ze (1 + q26) l)) :: (SetO b32 (1 + q26) (ze (1 + q26) l)) :: (Blk b2 (m.cells dm0 dm1).toArray 57) :: Rs) w38 := hS41
   have hG9 : Good (1 + q26) (ze (1 + q26) l) := laidL_good
   have hL9 : (ze (1 + q26) l).length ≤ l.length := ZA
   refine za (by kernel_rfl) (fun _ => ?_)
   refine st (zv (k := 5) Try.isAgg57 Try.sizeOf57 rfl rfl (CellsAt.all (hS43.blk (i := 2) rfl)) ?_)
   refine st (zj (f := 42) (vals := [.agg (m.cells dm0 dm1).toArray]) (cap := []) rfl rfl Try.call42 (Vk (m := m) hdm0 hdm1 om hS43) ?_)
   rintro _ w46 ⟨v044, v145, rfl, hS47⟩
   have hr48 := hS47.row (i := 0) rfl
   have hr48s : _ * 8 ≤ _ := hr48.2
   have hr49 := hS47.row (i := 1) rfl
   have hr49s : _ * 96 ≤ _ := hr49.2
   refine st (zX Try.zeroValue57 ?_)
   intro w52 b51 hn50
   have hS53 := hS47.new hn50
   refine stn (zT (v := .agg (m.cells v044 v145).toArray) (c' := (m.cells v044 v145).toArray) Try.sizeOf57 rfl rfl (hS53.blk (i := 0) rfl) (yz ⟨rfl, rfl, rfl, hr48.1.one, hr49.1.one, trivial⟩) (Nat.le_of_ble_eq_true rfl) rfl ?_)
   intro w54 hp55
   have hS56 := hS53.pt0 hp55
   refine zg ?_
   refine zd ?_
   refine za (by kernel_rfl) (fun _ => ?_)
   refine st (zb (v := .pointer (some ⟨b32, 0, none⟩)) rfl ?_)
   refine st (zb (v := .int .i64 (self)) rfl ?_)
   refine st (zv (k := 5) Try.isAgg57 Try.sizeOf57 rfl rfl (CellsAt.all (hS56.blk (i := 0) rfl)) ?_)
   refine st (zb (v := .int .i64 (chunk)) rfl ?_)
   have hS57 := hS56.mv4
   obtain ⟨G58, hA60, hB61, hS62, hk63⟩ := hS57.lend
   obtain ⟨vv64, m65, R66, hb67, hv68, hr69⟩ := SetO.sh hA60
   have hsm70 : (zc (1 + q26) (ze (1 + q26) l)).length * 8 ≤ 140737488355328 := hv68.small
   have hS71 := hS62.mv1
   obtain ⟨G72, hA74, hB75, hS76, hk77⟩ := hS71.lend
   have hrd78 := RowE.rd hA74
   have hrd78s : _ * 8 ≤ _ := hrd78.small
   have hS79 := hS76.mv1
   obtain ⟨G80, hA82, hB83, hS84, hk85⟩ := hS79.lend
   have hrd86 := RowE.rd hA82
   have hrd86s : _ * 96 ≤ _ := hrd86.small
   refine st (zj (f := 41) (vals := [.pointer (some ⟨b32, 0, none⟩), .int .i64 (self), .agg (m.cells v044 v145).toArray, .int .i64 (chunk)]) (cap := []) rfl rfl Try.call41 (WZ (self := self) (m := m) (chunk := chunk) (HP.base (HP.base hA60 hB75) hB83) hself (RdS.base hrd78 hB83) hrd86 om hchunk hS84 (hG9.ids) (hG9.srt) ((Nat.le_trans hL9 (by omega)))) ?_)
   rintro v87 w94 ⟨_, ve88, vv89, X90, E91, V92, rfl, hX93, hS95⟩
   have hr96 := hS95.row (i := 0) rfl
   have hr96s : _ * 72 ≤ _ := hr96.2
   have hr97 := hS95.row (i := 1) rfl
   have hr97s : _ * 96 ≤ _ := hr97.2
   have hr98 := hS95.row (i := 2) rfl
   have hr98s : _ * 8 ≤ _ := hr98.2
   have hS99 := hk85 _ _ hS95
   have hS100 := hk77 _ _ hS99
   have hS101 := hk63 _ _ hS100
   refine st (zf (v := v87) rfl ?_)
   refine zg ?_
   refine zd ?_
   refine za (by kernel_rfl) (fun _ => ?_)
   refine st (zb (v := .pointer (some ⟨b35, 0, none⟩)) rfl ?_)
   refine st (zb (v := .int .i64 (self)) rfl ?_)
   refine st (zv (k := 5) Try.isAgg57 Try.sizeOf57 rfl rfl (CellsAt.all (hS101.blk (i := 8) rfl)) ?_)
   refine st (zb (v := .int .i64 (chunk)) rfl ?_)
   have hS102 := hS101.mv7
   obtain ⟨G103, hA105, hB106, hS107, hk108⟩ := hS102.lend
   obtain ⟨vl109, hb110, hl111⟩ := RefS.sh hA105
   have hsm112 : (ze (1 + q26) l).length * 96 ≤ 140737488355328 := hl111.small
   refine st (zj (f := 43) (vals := [.pointer (some ⟨b35, 0, none⟩), .int .i64 (self), .agg (m.cells dm0 dm1).toArray, .int .i64 (chunk)]) (cap := []) rfl rfl Try.call43 (WT (self := self) (m := m) (chunk := chunk) hA105 hself (RdS.base hdm0 hB106) (RdS.base hdm1 hB106) om hchunk hS107 (by first | exact hG9 | exact laidL_good) ((by omega))) ?_)
   rintro v113 w114 ⟨_, rfl, hS115⟩
   have hr116 := hS115.row (i := 0) rfl
   have hr116s : _ * 72 ≤ _ := hr116.2
   have hS117 := hk108 _ _ hS115
   refine st (zf (v := v113) rfl ?_)
   refine zg ?_
   refine zd ?_
   refine zd ?_
   rcases hX93 with ⟨hA9118, rfl⟩ | ⟨hA9118, rfl⟩ | ⟨hA9118, rfl⟩ | ⟨hA9118, rfl⟩ | ⟨hA9118, rfl⟩
   ·skip
    have hS119 : Sep G W ((RefS b35 (1 + q26) (ze (1 + q26) l)) :: (RowE (α := Msg) own 57 v113 (xi (1 + q26) (ze (1 + q26) l) self m chunk)) :: (SetO b32 (1 + q26) (ze (1 + q26) l)) :: (RowE (α := Int) own 3 v044 m.vec) :: (RowE (α := Ev) own 36 v145 m.evs) :: (RowE (α := MsgS) own 57 v87 ([] : List MsgS)) :: (RowE (α := Ev) own 36 ve88 E91) :: (RowE (α := Int) own 3 vv89 V92) :: (Blk b51 (m.cells v044 v145).toArray 57) :: (Blk b2 (m.cells dm0 dm1).toArray 57) :: Rs) w114 := hS117
    have hr120 := hS119.row (i := 5) rfl
    have hr120s : _ * 72 ≤ _ := hr120.2
    rw [hA9118] at hS119
    have hS121 : Sep G W ((RefS b35 (1 + q26) (ze (1 + q26) l)) :: (RowE (α := Msg) own 57 v113 ([] : List Msg)) :: (SetO b32 (1 + q26) (ze (1 + q26) l)) :: (RowE (α := Int) own 3 v044 m.vec) :: (RowE (α := Ev) own 36 v145 m.evs) :: (RowE (α := MsgS) own 57 v87 ([] : List MsgS)) :: (RowE (α := Ev) own 36 ve88 E91) :: (RowE (α := Int) own 3 vv89 V92) :: (Blk b51 (m.cells v044 v145).toArray 57) :: (Blk b2 (m.cells dm0 dm1).toArray 57) :: Rs) w114 := hS119
    have hr122 := hS121.row (i := 1) rfl
    have hr122s : _ * 72 ≤ _ := hr122.2
    have hxl9 : ([] : List MsgS).length = 0 ∧ ([] : List Msg).length = 0 := ⟨rfl, rfl⟩
    refine zF (by kernel_rfl) ?_
    refine st (zb (v := v87) rfl ?_)
    refine st (zB (n := ([] : List MsgS).length) Try.underlying58 rfl hr120.1 ?_)
    refine st (zb (v := v113) rfl ?_)
    refine st (zB (n := ([] : List Msg).length) Try.underlying58 rfl hr122.1 ?_)
    have hkn123 : (!decide (((([] : List MsgS).length : Nat) : Int) = ((([] : List Msg).length : Nat) : Int))) = false := by simp
    refine st (xh (congrArg Value.bool hkn123) (fun K9 h9 => yu (k := .i64) (a := ((([] : List MsgS).length : Nat) : Int)) (b := ((([] : List Msg).length : Nat) : Int)) rfl rfl h9) ?_)
    refine st (zb (v := .bool false) rfl ?_)
    refine sty rfl rfl (zv (k := 5) Try.isAgg57 Try.sizeOf57 rfl rfl (CellsAt.all (hS121.blk (i := 8) rfl)) ?_)
    refine sty rfl rfl (zv (k := 5) Try.isAgg57 Try.sizeOf57 rfl rfl (CellsAt.all (hS121.blk (i := 9) rfl)) ?_)
    have hS124 := hS121.mv3
    obtain ⟨G125, hA127, hB128, hS129, hk130⟩ := hS124.lend
    have hrd131 := RowE.rd hA127
    have hrd131s : _ * 8 ≤ _ := hrd131.small
    have hS132 := hS129.mv3
    obtain ⟨G133, hA135, hB136, hS137, hk138⟩ := hS132.lend
    have hrd139 := RowE.rd hA135
    have hrd139s : _ * 96 ≤ _ := hrd139.small
    refine sty rfl rfl (zj (f := 44) (vals := [.agg (m.cells v044 v145).toArray, .agg (m.cells dm0 dm1).toArray]) (cap := []) rfl rfl Try.call44 (yg (a := m) (b := m) (RdS.base hrd131 hB136) hrd139 om (RdS.base (RdS.base hdm0 hB128) hB136) (RdS.base (RdS.base hdm1 hB128) hB136) om hS137) ?_)
    rintro _ w140 ⟨rfl, hS141⟩
    have hS142 := hk138 _ _ hS141
    have hS143 := hk130 _ _ hS142
    have hkn144 : (decide (m = m)) = true := decide_eq_true rfl
    rw [hkn144]
    refine sty rfl rfl (yH (a := true) rfl ?_)
    refine st (xc (v := .bool false) rfl rfl ?_)
    refine zg ?_
    refine zk rfl ?_
    refine zp ?_
    refine zd ?_
    refine zd ?_
    have hS145 := hS143.mv3
    obtain ⟨G146, hA148, hB149, hS150, hk151⟩ := hS145.lend
    have hrd152 := RowE.rd hA148
    have hrd152s : _ * 72 ≤ _ := hrd152.small
    have hS153 : Sep G146 w140 ((RefS b35 (1 + q26) (ze (1 + q26) l)) :: (SetO b32 (1 + q26) (ze (1 + q26) l)) :: (RowE (α := MsgS) own 57 v87 ([] : List MsgS)) :: (Blk b2 (m.cells dm0 dm1).toArray 57) :: Rs) w140 := hS150.sel 9 [2, 3, 4, 8] (Nat.le_add_left _ _) rfl rfl
    refine za (by kernel_rfl) (fun _ => ?_)
    refine st (zf (v := .int .i64 (0)) rfl ?_)
    refine zg ?_
    refine zx ?_
    refine yb (fun mq σ wq => ∃ (i9 : Nat) (ρ : Env), mq = 0 - i9 ∧ σ = ye ρ [(2, .int .i64 (self)), (4, .int .i64 (chunk)), (8, .pointer (some ⟨b2, 0, none⟩)), (11, .pointer (some ⟨b32, 0, none⟩)), (12, .pointer (some ⟨b35, 0, none⟩)), (15, v87), (16, v113), (17, .int .i64 ((i9 : Nat) : Int))] ∧ (i9 ≤ 0) ∧ Sep G146 w140 ((RefS b35 (1 + q26) (ze (1 + q26) l)) :: (SetO b32 (1 + q26) (ze (1 + q26) l)) :: (RowE (α := MsgS) own 57 v87 ([] : List MsgS)) :: (Blk b2 (m.cells dm0 dm1).toArray 57) :: Rs) wq) ⟨0, _, rfl, zn ⟨rfl, rfl, rfl, rfl, rfl, rfl, rfl, rfl, trivial⟩, Nat.zero_le _, hS153⟩ ?_
    rintro m155 σ156 w154 ⟨i9, ρl2, rfl, rfl, hi9, hS157⟩
    refine zd ?_
    refine zd ?_
    refine za (by kernel_rfl) (fun _ => ?_)
    refine st (zb (v := .int .i64 ((i9 : Nat) : Int)) rfl ?_)
    refine st (zb (v := v87) rfl ?_)
    refine st (zB (n := ([] : List MsgS).length) Try.underlying58 rfl hr120.1 ?_)
    refine st (zJ (k := .i64) (a := ((i9 : Nat) : Int)) (b := ((([] : List MsgS).length : Nat) : Int)) rfl rfl ?_)
    refine zg ?_
    cases hc158 : decide (((i9 : Nat) : Int) < ((([] : List MsgS).length : Nat) : Int))
    ·skip
     have hc158r := hc158
     have hc158 := of_decide_eq_false hc158
     refine zk rfl ?_
     refine ya ?_
     refine zQ ?_
     refine zd ?_
     refine za (by kernel_rfl) (fun _ => ?_)
     refine st (zb (v := .pointer (some ⟨b32, 0, none⟩)) rfl ?_)
     refine st (zb (v := .int .i64 (self)) rfl ?_)
     refine st (zb (v := .int .i64 (chunk)) rfl ?_)
     have hS159 := hS157.mv1
     obtain ⟨G160, hA162, hB163, hS164, hk165⟩ := hS159.lend
     obtain ⟨vv166, m167, R168, hb169, hv170, hr171⟩ := SetO.sh hA162
     have hsm172 : (zc (1 + q26) (ze (1 + q26) l)).length * 8 ≤ 140737488355328 := hv170.small
     refine st (zj (f := 46) (vals := [.pointer (some ⟨b32, 0, none⟩), .int .i64 (self), .int .i64 (chunk)]) (cap := []) rfl rfl Try.call46 (xV (fr := self) (tt := chunk) hA162 hself hchunk hS164) ?_)
     rintro _ w175 ⟨v173, rfl, hmo174, hS176⟩
     have hr177 := hS176.row (i := 0) rfl
     have hr177s : _ * 8 ≤ _ := hr177.2
     have hS178 := hk165 _ _ hS176
     refine st (zX Try.zeroValue57 ?_)
     intro w181 b180 hn179
     have hS182 := hS178.new hn179
     refine stn (zT (v := .agg ((⟨1, self, chunk, zc (1 + q26) (ze (1 + q26) l), []⟩ : Msg).cells v173 (.slice none 0 0)).toArray) (c' := ((⟨1, self, chunk, zc (1 + q26) (ze (1 + q26) l), []⟩ : Msg).cells v173 (.slice none 0 0)).toArray) Try.sizeOf57 rfl rfl (hS182.blk (i := 0) rfl) (yz ⟨rfl, rfl, rfl, hr177.1.one, rfl, trivial⟩) (Nat.le_of_ble_eq_true rfl) rfl ?_)
     intro w183 hp184
     have hS185 := hS182.pt0 hp184
     refine zg ?_
     refine zd ?_
     refine za (by kernel_rfl) (fun _ => ?_)
     refine st (zb (v := .pointer (some ⟨b32, 0, none⟩)) rfl ?_)
     refine st (zb (v := .int .i64 (self)) rfl ?_)
     refine st (zb (v := .int .i64 (chunk)) rfl ?_)
     have hS186 := hS185.mv1
     obtain ⟨G187, hA189, hB190, hS191, hk192⟩ := hS186.lend
     obtain ⟨vv193, m194, R195, hb196, hv197, hr198⟩ := SetO.sh hA189
     have hsm199 : (zc (1 + q26) (ze (1 + q26) l)).length * 8 ≤ 140737488355328 := hv197.small
     refine st (zj (f := 47) (vals := [.pointer (some ⟨b32, 0, none⟩), .int .i64 (self), .int .i64 (chunk)]) (cap := []) rfl rfl Try.call47 (ZY (fr := self) (tt := chunk) hA189 hself hchunk hS191) ?_)
     rintro _ w202 ⟨v200, rfl, hmo201, hS203⟩
     have hr204 := hS203.row (i := 0) rfl
     have hr204s : _ * 8 ≤ _ := hr204.2
     have hS205 := hk192 _ _ hS203
     refine st (zX Try.zeroValue57 ?_)
     intro w208 b207 hn206
     have hS209 := hS205.new hn206
     refine stn (zT (v := .agg ((⟨4, self, chunk, zc (1 + q26) (ze (1 + q26) l), []⟩ : Msg).cells v200 (.slice none 0 0)).toArray) (c' := ((⟨4, self, chunk, zc (1 + q26) (ze (1 + q26) l), []⟩ : Msg).cells v200 (.slice none 0 0)).toArray) Try.sizeOf57 rfl rfl (hS209.blk (i := 0) rfl) (yz ⟨rfl, rfl, rfl, hr204.1.one, rfl, trivial⟩) (Nat.le_of_ble_eq_true rfl) rfl ?_)
     intro w210 hp211
     have hS212 := hS209.pt0 hp211
     refine zg ?_
     refine zd ?_
     refine zS ((fun TT pp0 pp1 pp2 pp3 pp4 pp5 => WF [fun vals wq => Sep G146 w140 (pp0 :: pp1 :: pp2 :: pp3 :: pp4 :: pp5 :: TT) wq, fun vals wq => ∃ (v259 : Value), (vals 4 = (.agg ((⟨1, self, chunk, zc (1 + q26) (ze (1 + q26) l), []⟩ : Msg).cells v259 (.slice none 0 0)).toArray : Value)) ∧ ((⟨1, self, chunk, zc (1 + q26) (ze (1 + q26) l), []⟩ : Msg).Ok) ∧ Sep G146 w140 (pp5 :: (RowE (α := Int) own 3 v259 (zc (1 + q26) (ze (1 + q26) l))) :: pp0 :: pp1 :: pp2 :: pp3 :: pp4 :: TT) wq, fun vals wq => ∃ (v259 : Value), (vals 4 = (.agg ((⟨1, self, chunk, zc (1 + q26) (ze (1 + q26) l), []⟩ : Msg).cells v259 (.slice none 0 0)).toArray : Value)) ∧ (vals 5 = (.bool (decide ((⟨1, self, chunk, zc (1 + q26) (ze (1 + q26) l), []⟩ : Msg) = (⟨1, self, chunk, zc (1 + q26) (ze (1 + q26) l), []⟩ : Msg))) : Value)) ∧ ((⟨1, self, chunk, zc (1 + q26) (ze (1 + q26) l), []⟩ : Msg).Ok) ∧ Sep G146 w140 (pp4 :: (RowE (α := Int) own 3 v259 (zc (1 + q26) (ze (1 + q26) l))) :: pp5 :: pp0 :: pp1 :: pp2 :: pp3 :: TT) wq, fun vals wq => ∃ (v259 : Value) (v354 : Value), (vals 4 = (.agg ((⟨1, self, chunk, zc (1 + q26) (ze (1 + q26) l), []⟩ : Msg).cells v259 (.slice none 0 0)).toArray : Value)) ∧ (vals 5 = (.bool (decide ((⟨1, self, chunk, zc (1 + q26) (ze (1 + q26) l), []⟩ : Msg) = (⟨1, self, chunk, zc (1 + q26) (ze (1 + q26) l), []⟩ : Msg))) : Value)) ∧ (vals 11 = (.agg ((⟨4, self, chunk, zc (1 + q26) (ze (1 + q26) l), []⟩ : Msg).cells v354 (.slice none 0 0)).toArray : Value)) ∧ ((⟨1, self, chunk, zc (1 + q26) (ze (1 + q26) l), []⟩ : Msg).Ok) ∧ ((⟨4, self, chunk, zc (1 + q26) (ze (1 + q26) l), []⟩ : Msg).Ok) ∧ Sep G146 w140 (pp5 :: (RowE (α := Int) own 3 v354 (zc (1 + q26) (ze (1 + q26) l))) :: pp4 :: (RowE (α := Int) own 3 v259 (zc (1 + q26) (ze (1 + q26) l))) :: pp0 :: pp1 :: pp2 :: pp3 :: TT) wq, fun vals wq => ∃ (v259 : Value) (v354 : Value), (vals 4 = (.agg ((⟨1, self, chunk, zc (1 + q26) (ze (1 + q26) l), []⟩ : Msg).cells v259 (.slice none 0 0)).toArray : Value)) ∧ (vals 5 = (.bool (decide ((⟨1, self, chunk, zc (1 + q26) (ze (1 + q26) l), []⟩ : Msg) = (⟨1, self, chunk, zc (1 + q26) (ze (1 + q26) l), []⟩ : Msg))) : Value)) ∧ (vals 11 = (.agg ((⟨4, self, chunk, zc (1 + q26) (ze (1 + q26) l), []⟩ : Msg).cells v354 (.slice none 0 0)).toArray : Value)) ∧ (vals 12 = (.bool (decide ((⟨4, self, chunk, zc (1 + q26) (ze (1 + q26) l), []⟩ : Msg) = (⟨4, self, chunk, zc (1 + q26) (ze (1 + q26) l), []⟩ : Msg))) : Value)) ∧ ((⟨1, self, chunk, zc (1 + q26) (ze (1 + q26) l), []⟩ : Msg).Ok) ∧ ((⟨4, self, chunk, zc (1 + q26) (ze (1 + q26) l), []⟩ : Msg).Ok) ∧ Sep G146 w140 (pp2 :: (RowE (α := Int) own 3 v354 (zc (1 + q26) (ze (1 + q26) l))) :: pp5 :: pp4 :: (RowE (α := Int) own 3 v259 (zc (1 + q26) (ze (1 + q26) l))) :: pp0 :: pp1 :: pp3 :: TT) wq]) ((RowE (α := MsgS) own 57 v87 ([] : List MsgS)) :: (Blk b2 (m.cells dm0 dm1).toArray 57) :: Rs) (Blk b207 ((⟨4, self, chunk, zc (1 + q26) (ze (1 + q26) l), []⟩ : Msg).cells v200 (.slice none 0 0)).toArray 57) (SetO b32 (1 + q26) (ze (1 + q26) l)) (RowE (α := Int) own 3 v200 (zc (1 + q26) (ze (1 + q26) l))) (Blk b180 ((⟨1, self, chunk, zc (1 + q26) (ze (1 + q26) l), []⟩ : Msg).cells v173 (.slice none 0 0)).toArray 57) (RowE (α := Int) own 3 v173 (zc (1 + q26) (ze (1 + q26) l))) (RefS b35 (1 + q26) (ze (1 + q26) l))) (AF [Vl 0 (.agg ((⟨1, self, chunk, zc (1 + q26) (ze (1 + q26) l), []⟩ : Msg).cells v173 (.slice none 0 0)).toArray), Vl 1 (.pointer (some ⟨b35, 0, none⟩)), Vl 2 (.int .i64 (self)), Vl 3 (.int .i64 (chunk)), fun _ => True, fun _ => True, Vl 6 (.bool true), Vl 7 (.agg ((⟨4, self, chunk, zc (1 + q26) (ze (1 + q26) l), []⟩ : Msg).cells v200 (.slice none 0 0)).toArray), Vl 8 (.pointer (some ⟨b35, 0, none⟩)), Vl 9 (.int .i64 (self)), Vl 10 (.int .i64 (chunk)), fun _ => True, fun _ => True, Vl 13 (.bool true), Vl 14 (.bool true)]) [[], [], [], [], [1, 2, 3], [0, 1, 2, 3, 4], [0, 1, 2, 3, 4, 5], [0, 1, 2, 3, 4, 5, 6], [0, 1, 2, 3, 4, 5, 6], [0, 1, 2, 3, 4, 5, 6], [0, 1, 2, 3, 4, 5, 6], [0, 1, 2, 3, 4, 5, 6, 8, 9, 10], [0, 1, 2, 3, 4, 5, 6, 7, 8, 9, 10, 11], [0, 1, 2, 3, 4, 5, 6, 7, 8, 9, 10, 11, 12], [0, 1, 2, 3, 4, 5, 6, 7, 8, 9, 10, 11, 12, 13]] [4, 5, 11, 12] [(0, 1), (0, 0), (0, 0), (0, 0), (0, 0), (1, 1), (2, 2), (2, 3), (2, 2), (2, 2), (2, 2), (2, 2), (3, 3), (4, 4), (4, 4)] (by kernel_rfl) (by kernel_rfl) (by kernel_rfl) rfl (by kernel_rfl) (by kernel_rfl) (fun _ h1 h2 h3 h4 _ => hS212.same h1 h2 h3 h4) ?_ (yk ⟨dA, dA, dA, dA, dT, dT, dA, dA, dA, dA, dA, dT, dT, dA, dA, trivial⟩) ⟨?_, ?_, ?_, ?_, ?_, ?_, ?_, ?_, ?_, ?_, ?_, ?_, ?_, ?_, ?_, trivial⟩ ?_
     ·intro k vals vals' w hv h
      have e : ∀ j ∈ ([4, 5, 11, 12] : List Nat), vals' j = vals j := hv
      match k, h with
      | 0, h => exact h
      | 1, h => exact (by simpa only [WF, List.getElem?_cons_zero, List.getElem?_cons_succ, e 4 (by decide)] using h)
      | 2, h => exact (by simpa only [WF, List.getElem?_cons_zero, List.getElem?_cons_succ, e 4 (by decide), e 5 (by decide)] using h)
      | 3, h => exact (by simpa only [WF, List.getElem?_cons_zero, List.getElem?_cons_succ, e 4 (by decide), e 5 (by decide), e 11 (by decide)] using h)
      | 4, h => exact (by simpa only [WF, List.getElem?_cons_zero, List.getElem?_cons_succ, e 4 (by decide), e 5 (by decide), e 11 (by decide), e 12 (by decide)] using h)
      | _ + 5, _ => trivial
     ·intro k407 vals w408 h411 h412 hW410 hA409
      have hkk : k407 = 0 ∨ k407 = 1 := by have h1 : 0 ≤ k407 := h411; have h2 : k407 ≤ 1 := h412; omega
      rcases hkk with rfl | rfl
      ·skip
       have hS413 : Sep _ _ _ _ := hW410
       refine obl rfl ?_
       exact zv (k := 5) Try.isAgg57 Try.sizeOf57 rfl rfl (CellsAt.all (hS413.blk (i := 3) rfl)) (fun vals' hv _ => ⟨rfl, hv⟩)
      ·skip
       obtain ⟨v259, he265, hmo260, hS414⟩ := hW410
       refine obl rfl ?_
       exact zv (k := 5) Try.isAgg57 Try.sizeOf57 rfl rfl (CellsAt.all (hS414.blk (i := 5) rfl)) (fun vals' hv _ => ⟨rfl, hv⟩)
     ·intro k415 vals w416 h419 h420 hW418 hA417
      refine obl rfl ?_
      exact zb (v := .pointer (some ⟨b35, 0, none⟩)) rfl (fun vals' hv _ => ⟨rfl, hv⟩)
     ·intro k421 vals w422 h425 h426 hW424 hA423
      refine obl rfl ?_
      exact zb (v := .int .i64 (self)) rfl (fun vals' hv _ => ⟨rfl, hv⟩)
     ·intro k427 vals w428 h431 h432 hW430 hA429
      refine obl rfl ?_
      exact zb (v := .int .i64 (chunk)) rfl (fun vals' hv _ => ⟨rfl, hv⟩)
     ·intro k238 vals w239 h242 h243 hW241 hA240
      obtain rfl : k238 = 0 := Nat.le_antisymm h243 h242
      have hS244 : Sep _ _ _ _ := hW241
      have e245 := hA240 1 (by decide)
      have e246 := hA240 2 (by decide)
      have e247 := hA240 3 (by decide)
      refine obl rfl ?_
      have hS248 := hS244.mv5
      obtain ⟨G249, hA251, hB252, hS253, hk254⟩ := hS248.lend
      obtain ⟨vl255, hb256, hl257⟩ := RefS.sh hA251
      have hsm258 : (ze (1 + q26) l).length * 96 ≤ 140737488355328 := hl257.small
      refine (zj (f := 48) (vals := [.pointer (some ⟨b35, 0, none⟩), .int .i64 (self), .int .i64 (chunk)]) (cap := []) rfl (yD ⟨e245, e246, e247, trivial⟩) Try.call48 (xD (fr := self) (tt := chunk) hA251 (by omega) (by omega) hS253 (by first | exact hG9 | exact laidL_good) ((by omega))) ?_)
      rintro _ w261 ⟨v259, rfl, hmo260, hS262⟩
      have hr263 := hS262.row (i := 0) rfl
      have hr263s : _ * 8 ≤ _ := hr263.2
      have hS264 := hk254 _ _ hS262
      intro vals' hv hv'
      refine ⟨?_, trivial⟩
      show ∃ (v259 : Value), (vals' 4 = (.agg ((⟨1, self, chunk, zc (1 + q26) (ze (1 + q26) l), []⟩ : Msg).cells v259 (.slice none 0 0)).toArray : Value)) ∧ ((⟨1, self, chunk, zc (1 + q26) (ze (1 + q26) l), []⟩ : Msg).Ok) ∧ Sep G146 w140 ((RefS b35 (1 + q26) (ze (1 + q26) l)) :: (RowE (α := Int) own 3 v259 (zc (1 + q26) (ze (1 + q26) l))) :: (Blk b207 ((⟨4, self, chunk, zc (1 + q26) (ze (1 + q26) l), []⟩ : Msg).cells v200 (.slice none 0 0)).toArray 57) :: (SetO b32 (1 + q26) (ze (1 + q26) l)) :: (RowE (α := Int) own 3 v200 (zc (1 + q26) (ze (1 + q26) l))) :: (Blk b180 ((⟨1, self, chunk, zc (1 + q26) (ze (1 + q26) l), []⟩ : Msg).cells v173 (.slice none 0 0)).toArray 57) :: (RowE (α := Int) own 3 v173 (zc (1 + q26) (ze (1 + q26) l))) :: (RowE (α := MsgS) own 57 v87 ([] : List MsgS)) :: (Blk b2 (m.cells dm0 dm1).toArray 57) :: Rs) w261
      exact ⟨v259, hv, hmo260, hS264⟩
     ·intro k266 vals w267 h270 h271 hW269 hA268
      obtain rfl : k266 = 1 := Nat.le_antisymm h271 h270
      obtain ⟨v259, he265, hmo260, hS272⟩ := hW269
      have e273 := hA268 0 (by decide)
      refine obl rfl ?_
      have hS274 := hS272.mv6
      obtain ⟨G275, hA277, hB278, hS279, hk280⟩ := hS274.lend
      have hrd281 := RowE.rd hA277
      have hrd281s : _ * 8 ≤ _ := hrd281.small
      have hS282 := hS279.mv1
      obtain ⟨G283, hA285, hB286, hS287, hk288⟩ := hS282.lend
      have hrd289 := RowE.rd hA285
      have hrd289s : _ * 8 ≤ _ := hrd289.small
      refine (zj (f := 44) (vals := [.agg ((⟨1, self, chunk, zc (1 + q26) (ze (1 + q26) l), []⟩ : Msg).cells v173 (.slice none 0 0)).toArray, .agg ((⟨1, self, chunk, zc (1 + q26) (ze (1 + q26) l), []⟩ : Msg).cells v259 (.slice none 0 0)).toArray]) (cap := []) rfl (yD ⟨e273, he265, trivial⟩) Try.call44 (yg (a := (⟨1, self, chunk, zc (1 + q26) (ze (1 + q26) l), []⟩ : Msg)) (b := (⟨1, self, chunk, zc (1 + q26) (ze (1 + q26) l), []⟩ : Msg)) (RdS.base hrd281 hB286) (RdS.nil _ _) hmo260 hrd289 (RdS.nil _ _) hmo260 hS287) ?_)
      rintro _ w290 ⟨rfl, hS291⟩
      have hS292 := hk288 _ _ hS291
      have hS293 := hk280 _ _ hS292
      intro vals' hv hv'
      refine ⟨?_, trivial⟩
      show ∃ (v259 : Value), (vals' 4 = (.agg ((⟨1, self, chunk, zc (1 + q26) (ze (1 + q26) l), []⟩ : Msg).cells v259 (.slice none 0 0)).toArray : Value)) ∧ (vals' 5 = (.bool (decide ((⟨1, self, chunk, zc (1 + q26) (ze (1 + q26) l), []⟩ : Msg) = (⟨1, self, chunk, zc (1 + q26) (ze (1 + q26) l), []⟩ : Msg))) : Value)) ∧ ((⟨1, self, chunk, zc (1 + q26) (ze (1 + q26) l), []⟩ : Msg).Ok) ∧ Sep G146 w140 ((RowE (α := Int) own 3 v173 (zc (1 + q26) (ze (1 + q26) l))) :: (RowE (α := Int) own 3 v259 (zc (1 + q26) (ze (1 + q26) l))) :: (RefS b35 (1 + q26) (ze (1 + q26) l)) :: (Blk b207 ((⟨4, self, chunk, zc (1 + q26) (ze (1 + q26) l), []⟩ : Msg).cells v200 (.slice none 0 0)).toArray 57) :: (SetO b32 (1 + q26) (ze (1 + q26) l)) :: (RowE (α := Int) own 3 v200 (zc (1 + q26) (ze (1 + q26) l))) :: (Blk b180 ((⟨1, self, chunk, zc (1 + q26) (ze (1 + q26) l), []⟩ : Msg).cells v173 (.slice none 0 0)).toArray 57) :: (RowE (α := MsgS) own 57 v87 ([] : List MsgS)) :: (Blk b2 (m.cells dm0 dm1).toArray 57) :: Rs) w290
      exact ⟨v259, (by rw [hv' 4 (by decide)]; exact he265), hv, hmo260, hS293⟩
     ·intro k433 vals w434 h437 h438 hW436 hA435
      obtain rfl : k433 = 2 := Nat.le_antisymm h438 h437
      obtain ⟨v259, he265, he294, hmo260, hS439⟩ := hW436
      refine obl rfl ?_
      have hl440 : (decide ((⟨1, self, chunk, zc (1 + q26) (ze (1 + q26) l), []⟩ : Msg) = (⟨1, self, chunk, zc (1 + q26) (ze (1 + q26) l), []⟩ : Msg))) = true := decide_eq_true rfl
      exact zb (v := .bool (decide ((⟨1, self, chunk, zc (1 + q26) (ze (1 + q26) l), []⟩ : Msg) = (⟨1, self, chunk, zc (1 + q26) (ze (1 + q26) l), []⟩ : Msg)))) he294 (fun vals' hv _ => ⟨rfl, hv.trans (congrArg Value.bool hl440)⟩)
     ·intro k441 vals w442 h445 h446 hW444 hA443
      have hkk : k441 = 2 ∨ k441 = 3 := by have h1 : 2 ≤ k441 := h445; have h2 : k441 ≤ 3 := h446; omega
      rcases hkk with rfl | rfl
      ·skip
       obtain ⟨v259, he265, he294, hmo260, hS447⟩ := hW444
       have e448 := hA443 6 (by decide)
       refine ym rfl rfl e448 (fun _ => ?_) (fun hb => absurd rfl hb)
       exact zv (k := 5) Try.isAgg57 Try.sizeOf57 rfl rfl (CellsAt.all (hS447.blk (i := 3) rfl)) (fun vals' hv _ => ⟨rfl, hv⟩)
      ·skip
       obtain ⟨v259, v354, he265, he294, he360, hmo260, hmo355, hS449⟩ := hW444
       have e450 := hA443 6 (by decide)
       refine ym rfl rfl e450 (fun _ => ?_) (fun hb => absurd rfl hb)
       exact zv (k := 5) Try.isAgg57 Try.sizeOf57 rfl rfl (CellsAt.all (hS449.blk (i := 4) rfl)) (fun vals' hv _ => ⟨rfl, hv⟩)
     ·intro k451 vals w452 h455 h456 hW454 hA453
      have e457 := hA453 6 (by decide)
      refine ym rfl rfl e457 (fun _ => ?_) (fun hb => absurd rfl hb)
      exact zb (v := .pointer (some ⟨b35, 0, none⟩)) rfl (fun vals' hv _ => ⟨rfl, hv⟩)
     ·intro k458 vals w459 h462 h463 hW461 hA460
      have e464 := hA460 6 (by decide)
      refine ym rfl rfl e464 (fun _ => ?_) (fun hb => absurd rfl hb)
      exact zb (v := .int .i64 (self)) rfl (fun vals' hv _ => ⟨rfl, hv⟩)
     ·intro k465 vals w466 h469 h470 hW468 hA467
      have e471 := hA467 6 (by decide)
      refine ym rfl rfl e471 (fun _ => ?_) (fun hb => absurd rfl hb)
      exact zb (v := .int .i64 (chunk)) rfl (fun vals' hv _ => ⟨rfl, hv⟩)
     ·intro k332 vals w333 h336 h337 hW335 hA334
      obtain rfl : k332 = 2 := Nat.le_antisymm h337 h336
      obtain ⟨v259, he265, he294, hmo260, hS338⟩ := hW335
      have e339 := hA334 6 (by decide)
      have e340 := hA334 8 (by decide)
      have e341 := hA334 9 (by decide)
      have e342 := hA334 10 (by decide)
      refine ym rfl rfl e339 (fun _ => ?_) (fun hb => absurd rfl hb)
      have hS343 := hS338.mv2
      obtain ⟨G344, hA346, hB347, hS348, hk349⟩ := hS343.lend
      obtain ⟨vl350, hb351, hl352⟩ := RefS.sh hA346
      have hsm353 : (ze (1 + q26) l).length * 96 ≤ 140737488355328 := hl352.small
      refine (zj (f := 49) (vals := [.pointer (some ⟨b35, 0, none⟩), .int .i64 (self), .int .i64 (chunk)]) (cap := []) rfl (yD ⟨e340, e341, e342, trivial⟩) Try.call49 (ZC (fr := self) (tt := chunk) hA346 (by omega) (by omega) hS348 (by first | exact hG9 | exact laidL_good) ((by omega))) ?_)
      rintro _ w356 ⟨v354, rfl, hmo355, hS357⟩
      have hr358 := hS357.row (i := 0) rfl
      have hr358s : _ * 8 ≤ _ := hr358.2
      have hS359 := hk349 _ _ hS357
      intro vals' hv hv'
      refine ⟨?_, trivial⟩
      show ∃ (v259 : Value) (v354 : Value), (vals' 4 = (.agg ((⟨1, self, chunk, zc (1 + q26) (ze (1 + q26) l), []⟩ : Msg).cells v259 (.slice none 0 0)).toArray : Value)) ∧ (vals' 5 = (.bool (decide ((⟨1, self, chunk, zc (1 + q26) (ze (1 + q26) l), []⟩ : Msg) = (⟨1, self, chunk, zc (1 + q26) (ze (1 + q26) l), []⟩ : Msg))) : Value)) ∧ (vals' 11 = (.agg ((⟨4, self, chunk, zc (1 + q26) (ze (1 + q26) l), []⟩ : Msg).cells v354 (.slice none 0 0)).toArray : Value)) ∧ ((⟨1, self, chunk, zc (1 + q26) (ze (1 + q26) l), []⟩ : Msg).Ok) ∧ ((⟨4, self, chunk, zc (1 + q26) (ze (1 + q26) l), []⟩ : Msg).Ok) ∧ Sep G146 w140 ((RefS b35 (1 + q26) (ze (1 + q26) l)) :: (RowE (α := Int) own 3 v354 (zc (1 + q26) (ze (1 + q26) l))) :: (RowE (α := Int) own 3 v173 (zc (1 + q26) (ze (1 + q26) l))) :: (RowE (α := Int) own 3 v259 (zc (1 + q26) (ze (1 + q26) l))) :: (Blk b207 ((⟨4, self, chunk, zc (1 + q26) (ze (1 + q26) l), []⟩ : Msg).cells v200 (.slice none 0 0)).toArray 57) :: (SetO b32 (1 + q26) (ze (1 + q26) l)) :: (RowE (α := Int) own 3 v200 (zc (1 + q26) (ze (1 + q26) l))) :: (Blk b180 ((⟨1, self, chunk, zc (1 + q26) (ze (1 + q26) l), []⟩ : Msg).cells v173 (.slice none 0 0)).toArray 57) :: (RowE (α := MsgS) own 57 v87 ([] : List MsgS)) :: (Blk b2 (m.cells dm0 dm1).toArray 57) :: Rs) w356
      exact ⟨v259, v354, (by rw [hv' 4 (by decide)]; exact he265), (by rw [hv' 5 (by decide)]; exact he294), hv, hmo260, hmo355, hS359⟩
     ·intro k361 vals w362 h365 h366 hW364 hA363
      obtain rfl : k361 = 3 := Nat.le_antisymm h366 h365
      obtain ⟨v259, v354, he265, he294, he360, hmo260, hmo355, hS367⟩ := hW364
      have e368 := hA363 6 (by decide)
      have e369 := hA363 7 (by decide)
      refine ym rfl rfl e368 (fun _ => ?_) (fun hb => absurd rfl hb)
      have hS370 := hS367.mv6
      obtain ⟨G371, hA373, hB374, hS375, hk376⟩ := hS370.lend
      have hrd377 := RowE.rd hA373
      have hrd377s : _ * 8 ≤ _ := hrd377.small
      have hS378 := hS375.mv1
      obtain ⟨G379, hA381, hB382, hS383, hk384⟩ := hS378.lend
      have hrd385 := RowE.rd hA381
      have hrd385s : _ * 8 ≤ _ := hrd385.small
      refine (zj (f := 44) (vals := [.agg ((⟨4, self, chunk, zc (1 + q26) (ze (1 + q26) l), []⟩ : Msg).cells v200 (.slice none 0 0)).toArray, .agg ((⟨4, self, chunk, zc (1 + q26) (ze (1 + q26) l), []⟩ : Msg).cells v354 (.slice none 0 0)).toArray]) (cap := []) rfl (yD ⟨e369, he360, trivial⟩) Try.call44 (yg (a := (⟨4, self, chunk, zc (1 + q26) (ze (1 + q26) l), []⟩ : Msg)) (b := (⟨4, self, chunk, zc (1 + q26) (ze (1 + q26) l), []⟩ : Msg)) (RdS.base hrd377 hB382) (RdS.nil _ _) hmo355 hrd385 (RdS.nil _ _) hmo355 hS383) ?_)
      rintro _ w386 ⟨rfl, hS387⟩
      have hS388 := hk384 _ _ hS387
      have hS389 := hk376 _ _ hS388
      intro vals' hv hv'
      refine ⟨?_, trivial⟩
      show ∃ (v259 : Value) (v354 : Value), (vals' 4 = (.agg ((⟨1, self, chunk, zc (1 + q26) (ze (1 + q26) l), []⟩ : Msg).cells v259 (.slice none 0 0)).toArray : Value)) ∧ (vals' 5 = (.bool (decide ((⟨1, self, chunk, zc (1 + q26) (ze (1 + q26) l), []⟩ : Msg) = (⟨1, self, chunk, zc (1 + q26) (ze (1 + q26) l), []⟩ : Msg))) : Value)) ∧ (vals' 11 = (.agg ((⟨4, self, chunk, zc (1 + q26) (ze (1 + q26) l), []⟩ : Msg).cells v354 (.slice none 0 0)).toArray : Value)) ∧ (vals' 12 = (.bool (decide ((⟨4, self, chunk, zc (1 + q26) (ze (1 + q26) l), []⟩ : Msg) = (⟨4, self, chunk, zc (1 + q26) (ze (1 + q26) l), []⟩ : Msg))) : Value)) ∧ ((⟨1, self, chunk, zc (1 + q26) (ze (1 + q26) l), []⟩ : Msg).Ok) ∧ ((⟨4, self, chunk, zc (1 + q26) (ze (1 + q26) l), []⟩ : Msg).Ok) ∧ Sep G146 w140 ((RowE (α := Int) own 3 v200 (zc (1 + q26) (ze (1 + q26) l))) :: (RowE (α := Int) own 3 v354 (zc (1 + q26) (ze (1 + q26) l))) :: (RefS b35 (1 + q26) (ze (1 + q26) l)) :: (RowE (α := Int) own 3 v173 (zc (1 + q26) (ze (1 + q26) l))) :: (RowE (α := Int) own 3 v259 (zc (1 + q26) (ze (1 + q26) l))) :: (Blk b207 ((⟨4, self, chunk, zc (1 + q26) (ze (1 + q26) l), []⟩ : Msg).cells v200 (.slice none 0 0)).toArray 57) :: (SetO b32 (1 + q26) (ze (1 + q26) l)) :: (Blk b180 ((⟨1, self, chunk, zc (1 + q26) (ze (1 + q26) l), []⟩ : Msg).cells v173 (.slice none 0 0)).toArray 57) :: (RowE (α := MsgS) own 57 v87 ([] : List MsgS)) :: (Blk b2 (m.cells dm0 dm1).toArray 57) :: Rs) w386
      exact ⟨v259, v354, (by rw [hv' 4 (by decide)]; exact he265), (by rw [hv' 5 (by decide)]; exact he294), (by rw [hv' 11 (by decide)]; exact he360), hv, hmo260, hmo355, hS389⟩
     ·intro k472 vals w473 h476 h477 hW475 hA474
      obtain rfl : k472 = 4 := Nat.le_antisymm h477 h476
      obtain ⟨v259, v354, he265, he294, he360, he390, hmo260, hmo355, hS478⟩ := hW475
      have e479 := hA474 6 (by decide)
      refine obl rfl ?_
      have hl480 : (decide ((⟨4, self, chunk, zc (1 + q26) (ze (1 + q26) l), []⟩ : Msg) = (⟨4, self, chunk, zc (1 + q26) (ze (1 + q26) l), []⟩ : Msg))) = true := decide_eq_true rfl
      exact zG (v := .bool (decide ((⟨4, self, chunk, zc (1 + q26) (ze (1 + q26) l), []⟩ : Msg) = (⟨4, self, chunk, zc (1 + q26) (ze (1 + q26) l), []⟩ : Msg)))) e479 he390 (fun vals' hv _ => ⟨rfl, hv.trans (congrArg Value.bool hl480)⟩)
     ·intro k481 vals w482 h485 h486 hW484 hA483
      have e487 := hA483 13 (by decide)
      refine obl rfl ?_
      exact zf (v := .bool true) e487 (fun vals' hv _ => ⟨rfl, hv⟩)
     intro vals w488 hW489 hA490
     obtain ⟨v259, v354, he265, he294, he360, he390, hmo260, hmo355, hS491⟩ := hW489
     have e492 := hA490 14 (by decide)
     refine yj (kv := [(2, .int .i64 (self)), (4, .int .i64 (chunk)), (8, .pointer (some ⟨b2, 0, none⟩)), (11, .pointer (some ⟨b32, 0, none⟩)), (12, .pointer (some ⟨b35, 0, none⟩)), (15, v87), (16, v113), (17, .int .i64 ((i9 : Nat) : Int)), (81, .int .i64 ((i9 : Nat) : Int)), (82, v87), (83, .int .i64 ((([] : List MsgS).length : Nat) : Int)), (84, .bool false), (109, .pointer (some ⟨b32, 0, none⟩)), (110, .int .i64 (self)), (111, .int .i64 (chunk)), (112, .agg ((⟨1, self, chunk, zc (1 + q26) (ze (1 + q26) l), []⟩ : Msg).cells v173 (.slice none 0 0)).toArray), (18, .pointer (some ⟨b180, 0, none⟩)), (113, .pointer (some ⟨b32, 0, none⟩)), (114, .int .i64 (self)), (115, .int .i64 (chunk)), (116, .agg ((⟨4, self, chunk, zc (1 + q26) (ze (1 + q26) l), []⟩ : Msg).cells v200 (.slice none 0 0)).toArray), (19, .pointer (some ⟨b207, 0, none⟩)), (20, .bool true)]) ⟨rfl, rfl, rfl, rfl, rfl, rfl, rfl, rfl, rfl, rfl, rfl, rfl, rfl, rfl, rfl, rfl, rfl, rfl, rfl, rfl, rfl, rfl, (by exact e492), trivial⟩ (fun ρw488 => ?_)
     refine zg ?_
     refine zd ?_
     refine za (by kernel_rfl) (fun _ => ?_)
     refine st (yh rfl ?_)
     refine st (zh (v := v173) Try.isAgg34 rfl (zi (hS491.blk (i := 7) rfl) rfl) ?_)
     have hS493 := hS491.mv3
     obtain ⟨f494, hm495, hS496⟩ := hS493.toML
     refine st (zj (f := 37) (vals := [v173]) (cap := []) rfl rfl Try.call37 (yf  hm495 hS496) ?_)
     rintro _ w497 ⟨rfl, hS498⟩
     refine zg ?_
     refine zd ?_
     refine za (by kernel_rfl) (fun _ => ?_)
     refine st (yh rfl ?_)
     refine st (zh (v := v200) Try.isAgg34 rfl (zi (hS498.blk (i := 5) rfl) rfl) ?_)
     have hS499 := hS498.mv1
     obtain ⟨f500, hm501, hS502⟩ := hS499.toML
     refine st (zj (f := 37) (vals := [v200]) (cap := []) rfl rfl Try.call37 (yf  hm501 hS502) ?_)
     rintro _ w503 ⟨rfl, hS504⟩
     refine zg ?_
     refine zd ?_
     refine zF (by kernel_rfl) ?_
     refine st (zb (v := .bool true) rfl ?_)
     refine st (zb (v := .bool true) rfl ?_)
     refine sty rfl rfl (zb (v := .pointer (some ⟨b32, 0, none⟩)) rfl ?_)
     have hS505 := hS504.mv6
     obtain ⟨G506, hA508, hB509, hS510, hk511⟩ := hS505.lend
     obtain ⟨vv512, m513, R514, hb515, hv516, hr517⟩ := SetO.sh hA508
     have hsm518 : (zc (1 + q26) (ze (1 + q26) l)).length * 8 ≤ 140737488355328 := hv516.small
     refine sty rfl rfl (zj (f := 19) (vals := [.pointer (some ⟨b32, 0, none⟩)]) (cap := []) rfl rfl Try.call19 (Xm  hA508 hS510 (hG9.ids) (hG9.srt) ((Nat.le_trans hL9 (by omega)))) ?_)
     rintro v519 w520 ⟨_, rfl, hS521⟩
     have hr522 := hS521.row (i := 0) rfl
     have hr522s : _ * 96 ≤ _ := hr522.2
     have hS523 := hk511 _ _ hS521
     refine sty rfl rfl (zb (v := .pointer (some ⟨b35, 0, none⟩)) rfl ?_)
     have hS524 := hS523.mv5
     obtain ⟨G525, hA527, hB528, hS529, hk530⟩ := hS524.lend
     obtain ⟨vl531, hb532, hl533⟩ := RefS.sh hA527
     have hsm534 : (ze (1 + q26) l).length * 96 ≤ 140737488355328 := hl533.small
     refine sty rfl rfl (zj (f := 50) (vals := [.pointer (some ⟨b35, 0, none⟩)]) (cap := []) rfl rfl Try.call50 (ZR  hA527 hS529) ?_)
     rintro v535 w536 ⟨_, rfl, hS537⟩
     have hr538 := hS537.row (i := 0) rfl
     have hr538s : _ * 96 ≤ _ := hr538.2
     have hS539 := hk530 _ _ hS537
     have hS540 := hS539.mv3
     obtain ⟨G541, hA543, hB544, hS545, hk546⟩ := hS540.lend
     have hrd547 := RowE.rd hA543
     have hrd547s : _ * 96 ≤ _ := hrd547.small
     have hS548 := hS545.mv1
     obtain ⟨G549, hA551, hB552, hS553, hk554⟩ := hS548.lend
     have hrd555 := RowE.rd hA551
     have hrd555s : _ * 96 ≤ _ := hrd555.small
     refine sty rfl rfl (zj (f := 22) (vals := [v519, v535]) (cap := []) rfl rfl Try.call22 (yO (a := (ze (1 + q26) l)) (va := v519) (b := (ze (1 + q26) l)) (vb := v535) (RdS.base hrd547 hB552) hrd555 hS553) ?_)
     rintro _ w556 ⟨rfl, hS557⟩
     have hS558 := hk554 _ _ hS557
     have hS559 := hk546 _ _ hS558
     have hkn560 : (decide ((ze (1 + q26) l) = (ze (1 + q26) l))) = true := decide_eq_true rfl
     rw [hkn560]
     refine st (zG (v := .bool true) rfl rfl ?_)
     refine st (zb (v := .bool true) rfl ?_)
     refine sty rfl rfl (zb (v := .pointer (some ⟨b32, 0, none⟩)) rfl ?_)
     have hS561 := hS559.mv3
     obtain ⟨G562, hA564, hB565, hS566, hk567⟩ := hS561.lend
     obtain ⟨vv568, m569, R570, hb571, hv572, hr573⟩ := SetO.sh hA564
     have hsm574 : (zc (1 + q26) (ze (1 + q26) l)).length * 8 ≤ 140737488355328 := hv572.small
     refine sty rfl rfl (zj (f := 26) (vals := [.pointer (some ⟨b32, 0, none⟩)]) (cap := []) rfl rfl Try.call26 (xM  hA564 hS566) ?_)
     rintro v575 w576 ⟨_, rfl, hS577⟩
     have hr578 := hS577.row (i := 0) rfl
     have hr578s : _ * 8 ≤ _ := hr578.2
     have hS579 := hk567 _ _ hS577
     refine sty rfl rfl (zb (v := .pointer (some ⟨b35, 0, none⟩)) rfl ?_)
     have hS580 := hS579.mv4
     obtain ⟨G581, hA583, hB584, hS585, hk586⟩ := hS580.lend
     obtain ⟨vl587, hb588, hl589⟩ := RefS.sh hA583
     have hsm590 : (ze (1 + q26) l).length * 96 ≤ 140737488355328 := hl589.small
     refine sty rfl rfl (zj (f := 51) (vals := [.pointer (some ⟨b35, 0, none⟩)]) (cap := []) rfl rfl Try.call51 (xy  hA583 hS585 (by first | exact hG9 | exact laidL_good) ((by omega))) ?_)
     rintro v591 w592 ⟨_, rfl, hS593⟩
     have hr594 := hS593.row (i := 0) rfl
     have hr594s : _ * 8 ≤ _ := hr594.2
     have hS595 := hk586 _ _ hS593
     have hS596 := hS595.mv3
     obtain ⟨G597, hA599, hB600, hS601, hk602⟩ := hS596.lend
     have hrd603 := RowE.rd hA599
     have hrd603s : _ * 8 ≤ _ := hrd603.small
     have hS604 := hS601.mv1
     obtain ⟨G605, hA607, hB608, hS609, hk610⟩ := hS604.lend
     have hrd611 := RowE.rd hA607
     have hrd611s : _ * 8 ≤ _ := hrd611.small
     refine sty rfl rfl (zj (f := 27) (vals := [v575, v591]) (cap := []) rfl rfl Try.call27 (yL (a := zc (1 + q26) (ze (1 + q26) l)) (va := v575) (b := zc (1 + q26) (ze (1 + q26) l)) (vb := v591) (RdS.base hrd603 hB608) hrd611 hS609) ?_)
     rintro _ w612 ⟨rfl, hS613⟩
     have hS614 := hk610 _ _ hS613
     have hS615 := hk602 _ _ hS614
     have hkn616 : (decide ((zc (1 + q26) (ze (1 + q26) l)) = (zc (1 + q26) (ze (1 + q26) l)))) = true := decide_eq_true rfl
     rw [hkn616]
     refine st (zG (v := .bool true) rfl rfl ?_)
     refine st (zb (v := .bool true) rfl ?_)
     refine sty rfl rfl (zj (f := 39) (vals := []) (cap := []) rfl rfl Try.call39 (xm  hS615) ?_)
     rintro _ w617 ⟨rfl, hS618⟩
     refine st (zG (v := .bool true) rfl rfl ?_)
     refine st (zf (v := .bool true) rfl ?_)
     refine zg ?_
     refine zw ?_
     refine zM Try.results11 (show _ = (.bool true : Value) from rfl) ?_
     have hS619 := hk151 _ _ hS618
     have hS620 : Sep G W Rs w617 := hS619.sel 15 [] (Nat.le_add_left _ _) rfl rfl
     refine ⟨rfl, hS620⟩
    ·skip
     have hc158r := hc158
     have hc158 := of_decide_eq_true hc158
     exfalso
     omega
   ·skip
    have hS621 : Sep G W ((RefS b35 (1 + q26) (ze (1 + q26) l)) :: (RowE (α := Msg) own 57 v113 (xi (1 + q26) (ze (1 + q26) l) self m chunk)) :: (SetO b32 (1 + q26) (ze (1 + q26) l)) :: (RowE (α := Int) own 3 v044 m.vec) :: (RowE (α := Ev) own 36 v145 m.evs) :: (RowE (α := MsgS) own 57 v87 [(⟨3, self, m.frm, .slice none 0 0, ve88⟩ : MsgS)]) :: (RowE (α := Ev) own 36 ve88 E91) :: (RowE (α := Int) own 3 vv89 V92) :: (Blk b51 (m.cells v044 v145).toArray 57) :: (Blk b2 (m.cells dm0 dm1).toArray 57) :: Rs) w114 := hS117
    have hr622 := hS621.row (i := 5) rfl
    have hr622s : _ * 72 ≤ _ := hr622.2
    rw [hA9118] at hS621
    have hS623 : Sep G W ((RefS b35 (1 + q26) (ze (1 + q26) l)) :: (RowE (α := Msg) own 57 v113 [(⟨3, self, m.frm, [], E91⟩ : Msg)]) :: (SetO b32 (1 + q26) (ze (1 + q26) l)) :: (RowE (α := Int) own 3 v044 m.vec) :: (RowE (α := Ev) own 36 v145 m.evs) :: (RowE (α := MsgS) own 57 v87 [(⟨3, self, m.frm, .slice none 0 0, ve88⟩ : MsgS)]) :: (RowE (α := Ev) own 36 ve88 E91) :: (RowE (α := Int) own 3 vv89 V92) :: (Blk b51 (m.cells v044 v145).toArray 57) :: (Blk b2 (m.cells dm0 dm1).toArray 57) :: Rs) w114 := hS621
    have hr624 := hS623.row (i := 1) rfl
    have hr624s : _ * 72 ≤ _ := hr624.2
    have hxl9 : [(⟨3, self, m.frm, .slice none 0 0, ve88⟩ : MsgS)].length = 1 ∧ [(⟨3, self, m.frm, [], E91⟩ : Msg)].length = 1 := ⟨rfl, rfl⟩
    refine zF (by kernel_rfl) ?_
    refine st (zb (v := v87) rfl ?_)
    refine st (zB (n := [(⟨3, self, m.frm, .slice none 0 0, ve88⟩ : MsgS)].length) Try.underlying58 rfl hr622.1 ?_)
    refine st (zb (v := v113) rfl ?_)
    refine st (zB (n := [(⟨3, self, m.frm, [], E91⟩ : Msg)].length) Try.underlying58 rfl hr624.1 ?_)
    have hkn625 : (!decide ((([(⟨3, self, m.frm, .slice none 0 0, ve88⟩ : MsgS)].length : Nat) : Int) = (([(⟨3, self, m.frm, [], E91⟩ : Msg)].length : Nat) : Int))) = false := by simp
    refine st (xh (congrArg Value.bool hkn625) (fun K9 h9 => yu (k := .i64) (a := (([(⟨3, self, m.frm, .slice none 0 0, ve88⟩ : MsgS)].length : Nat) : Int)) (b := (([(⟨3, self, m.frm, [], E91⟩ : Msg)].length : Nat) : Int)) rfl rfl h9) ?_)
    refine st (zb (v := .bool false) rfl ?_)
    refine sty rfl rfl (zv (k := 5) Try.isAgg57 Try.sizeOf57 rfl rfl (CellsAt.all (hS623.blk (i := 8) rfl)) ?_)
    refine sty rfl rfl (zv (k := 5) Try.isAgg57 Try.sizeOf57 rfl rfl (CellsAt.all (hS623.blk (i := 9) rfl)) ?_)
    have hS626 := hS623.mv3
    obtain ⟨G627, hA629, hB630, hS631, hk632⟩ := hS626.lend
    have hrd633 := RowE.rd hA629
    have hrd633s : _ * 8 ≤ _ := hrd633.small
    have hS634 := hS631.mv3
    obtain ⟨G635, hA637, hB638, hS639, hk640⟩ := hS634.lend
    have hrd641 := RowE.rd hA637
    have hrd641s : _ * 96 ≤ _ := hrd641.small
    refine sty rfl rfl (zj (f := 44) (vals := [.agg (m.cells v044 v145).toArray, .agg (m.cells dm0 dm1).toArray]) (cap := []) rfl rfl Try.call44 (yg (a := m) (b := m) (RdS.base hrd633 hB638) hrd641 om (RdS.base (RdS.base hdm0 hB630) hB638) (RdS.base (RdS.base hdm1 hB630) hB638) om hS639) ?_)
    rintro _ w642 ⟨rfl, hS643⟩
    have hS644 := hk640 _ _ hS643
    have hS645 := hk632 _ _ hS644
    have hkn646 : (decide (m = m)) = true := decide_eq_true rfl
    rw [hkn646]
    refine sty rfl rfl (yH (a := true) rfl ?_)
    refine st (xc (v := .bool false) rfl rfl ?_)
    refine zg ?_
    refine zk rfl ?_
    refine zp ?_
    refine zd ?_
    refine zd ?_
    have hS647 := hS645.mv3
    obtain ⟨G648, hA650, hB651, hS652, hk653⟩ := hS647.lend
    have hrd654 := RowE.rd hA650
    have hrd654s : _ * 72 ≤ _ := hrd654.small
    have hS655 : Sep G648 w642 ((RefS b35 (1 + q26) (ze (1 + q26) l)) :: (SetO b32 (1 + q26) (ze (1 + q26) l)) :: (RowE (α := MsgS) own 57 v87 [(⟨3, self, m.frm, .slice none 0 0, ve88⟩ : MsgS)]) :: (RowE (α := Ev) own 36 ve88 E91) :: (Blk b2 (m.cells dm0 dm1).toArray 57) :: Rs) w642 := hS652.sel 9 [2, 3, 4, 5, 8] (Nat.le_add_left _ _) rfl rfl
    have hS656 := hS655.mv3
    have hS657 : Sep G648 w642 ((if 0 ≤ 0 then (RowE (α := Ev) own 36 ve88 E91) else Emp) :: (RefS b35 (1 + q26) (ze (1 + q26) l)) :: (SetO b32 (1 + q26) (ze (1 + q26) l)) :: (RowE (α := MsgS) own 57 v87 [(⟨3, self, m.frm, .slice none 0 0, ve88⟩ : MsgS)]) :: (Blk b2 (m.cells dm0 dm1).toArray 57) :: Rs) w642 := Sep.yet hS656 (Nat.zero_le _)
    refine za (by kernel_rfl) (fun _ => ?_)
    refine st (zf (v := .int .i64 (0)) rfl ?_)
    refine zg ?_
    refine zx ?_
    refine yb (fun mq σ wq => ∃ (i9 : Nat) (ρ : Env), mq = 1 - i9 ∧ σ = ye ρ [(2, .int .i64 (self)), (4, .int .i64 (chunk)), (8, .pointer (some ⟨b2, 0, none⟩)), (11, .pointer (some ⟨b32, 0, none⟩)), (12, .pointer (some ⟨b35, 0, none⟩)), (15, v87), (16, v113), (17, .int .i64 ((i9 : Nat) : Int))] ∧ (i9 ≤ 1) ∧ Sep G648 w642 ((if i9 ≤ 0 then (RowE (α := Ev) own 36 ve88 E91) else Emp) :: (RefS b35 (1 + q26) (ze (1 + q26) l)) :: (SetO b32 (1 + q26) (ze (1 + q26) l)) :: (RowE (α := MsgS) own 57 v87 [(⟨3, self, m.frm, .slice none 0 0, ve88⟩ : MsgS)]) :: (Blk b2 (m.cells dm0 dm1).toArray 57) :: Rs) wq) ⟨0, _, rfl, zn ⟨rfl, rfl, rfl, rfl, rfl, rfl, rfl, rfl, trivial⟩, Nat.zero_le _, hS657⟩ ?_
    rintro m659 σ660 w658 ⟨i9, ρl3, rfl, rfl, hi9, hS661⟩
    refine zd ?_
    refine zd ?_
    refine za (by kernel_rfl) (fun _ => ?_)
    refine st (zb (v := .int .i64 ((i9 : Nat) : Int)) rfl ?_)
    refine st (zb (v := v87) rfl ?_)
    refine st (zB (n := [(⟨3, self, m.frm, .slice none 0 0, ve88⟩ : MsgS)].length) Try.underlying58 rfl hr622.1 ?_)
    refine st (zJ (k := .i64) (a := ((i9 : Nat) : Int)) (b := (([(⟨3, self, m.frm, .slice none 0 0, ve88⟩ : MsgS)].length : Nat) : Int)) rfl rfl ?_)
    refine zg ?_
    cases hc662 : decide (((i9 : Nat) : Int) < (([(⟨3, self, m.frm, .slice none 0 0, ve88⟩ : MsgS)].length : Nat) : Int))
    ·skip
     have hc662r := hc662
     have hc662 := of_decide_eq_false hc662
     refine zk rfl ?_
     refine ya ?_
     refine zQ ?_
     refine zd ?_
     refine za (by kernel_rfl) (fun _ => ?_)
     refine st (zb (v := .pointer (some ⟨b32, 0, none⟩)) rfl ?_)
     refine st (zb (v := .int .i64 (self)) rfl ?_)
     refine st (zb (v := .int .i64 (chunk)) rfl ?_)
     have hS663 := hS661.mv2
     obtain ⟨G664, hA666, hB667, hS668, hk669⟩ := hS663.lend
     obtain ⟨vv670, m671, R672, hb673, hv674, hr675⟩ := SetO.sh hA666
     have hsm676 : (zc (1 + q26) (ze (1 + q26) l)).length * 8 ≤ 140737488355328 := hv674.small
     refine st (zj (f := 46) (vals := [.pointer (some ⟨b32, 0, none⟩), .int .i64 (self), .int .i64 (chunk)]) (cap := []) rfl rfl Try.call46 (xV (fr := self) (tt := chunk) hA666 (by omega) (by omega) hS668) ?_)
     rintro _ w679 ⟨v677, rfl, hmo678, hS680⟩
     have hr681 := hS680.row (i := 0) rfl
     have hr681s : _ * 8 ≤ _ := hr681.2
     have hS682 := hk669 _ _ hS680
     refine st (zX Try.zeroValue57 ?_)
     intro w685 b684 hn683
     have hS686 := hS682.new hn683
     refine stn (zT (v := .agg ((⟨1, self, chunk, zc (1 + q26) (ze (1 + q26) l), []⟩ : Msg).cells v677 (.slice none 0 0)).toArray) (c' := ((⟨1, self, chunk, zc (1 + q26) (ze (1 + q26) l), []⟩ : Msg).cells v677 (.slice none 0 0)).toArray) Try.sizeOf57 rfl rfl (hS686.blk (i := 0) rfl) (yz ⟨rfl, rfl, rfl, hr681.1.one, rfl, trivial⟩) (Nat.le_of_ble_eq_true rfl) rfl ?_)
     intro w687 hp688
     have hS689 := hS686.pt0 hp688
     refine zg ?_
     refine zd ?_
     refine za (by kernel_rfl) (fun _ => ?_)
     refine st (zb (v := .pointer (some ⟨b32, 0, none⟩)) rfl ?_)
     refine st (zb (v := .int .i64 (self)) rfl ?_)
     refine st (zb (v := .int .i64 (chunk)) rfl ?_)
     have hS690 := hS689.mv1
     obtain ⟨G691, hA693, hB694, hS695, hk696⟩ := hS690.lend
     obtain ⟨vv697, m698, R699, hb700, hv701, hr702⟩ := SetO.sh hA693
     have hsm703 : (zc (1 + q26) (ze (1 + q26) l)).length * 8 ≤ 140737488355328 := hv701.small
     refine st (zj (f := 47) (vals := [.pointer (some ⟨b32, 0, none⟩), .int .i64 (self), .int .i64 (chunk)]) (cap := []) rfl rfl Try.call47 (ZY (fr := self) (tt := chunk) hA693 (by omega) (by omega) hS695) ?_)
     rintro _ w706 ⟨v704, rfl, hmo705, hS707⟩
     have hr708 := hS707.row (i := 0) rfl
     have hr708s : _ * 8 ≤ _ := hr708.2
     have hS709 := hk696 _ _ hS707
     refine st (zX Try.zeroValue57 ?_)
     intro w712 b711 hn710
     have hS713 := hS709.new hn710
     refine stn (zT (v := .agg ((⟨4, self, chunk, zc (1 + q26) (ze (1 + q26) l), []⟩ : Msg).cells v704 (.slice none 0 0)).toArray) (c' := ((⟨4, self, chunk, zc (1 + q26) (ze (1 + q26) l), []⟩ : Msg).cells v704 (.slice none 0 0)).toArray) Try.sizeOf57 rfl rfl (hS713.blk (i := 0) rfl) (yz ⟨rfl, rfl, rfl, hr708.1.one, rfl, trivial⟩) (Nat.le_of_ble_eq_true rfl) rfl ?_)
     intro w714 hp715
     have hS716 := hS713.pt0 hp715
     refine zg ?_
     refine zd ?_
     refine zS ((fun TT pp0 pp1 pp2 pp3 pp4 pp5 pp6 => WF [fun vals wq => Sep G648 w642 (pp0 :: pp1 :: pp2 :: pp3 :: pp4 :: pp5 :: pp6 :: TT) wq, fun vals wq => ∃ (v763 : Value), (vals 4 = (.agg ((⟨1, self, chunk, zc (1 + q26) (ze (1 + q26) l), []⟩ : Msg).cells v763 (.slice none 0 0)).toArray : Value)) ∧ ((⟨1, self, chunk, zc (1 + q26) (ze (1 + q26) l), []⟩ : Msg).Ok) ∧ Sep G648 w642 (pp6 :: (RowE (α := Int) own 3 v763 (zc (1 + q26) (ze (1 + q26) l))) :: pp0 :: pp1 :: pp2 :: pp3 :: pp4 :: pp5 :: TT) wq, fun vals wq => ∃ (v763 : Value), (vals 4 = (.agg ((⟨1, self, chunk, zc (1 + q26) (ze (1 + q26) l), []⟩ : Msg).cells v763 (.slice none 0 0)).toArray : Value)) ∧ (vals 5 = (.bool (decide ((⟨1, self, chunk, zc (1 + q26) (ze (1 + q26) l), []⟩ : Msg) = (⟨1, self, chunk, zc (1 + q26) (ze (1 + q26) l), []⟩ : Msg))) : Value)) ∧ ((⟨1, self, chunk, zc (1 + q26) (ze (1 + q26) l), []⟩ : Msg).Ok) ∧ Sep G648 w642 (pp4 :: (RowE (α := Int) own 3 v763 (zc (1 + q26) (ze (1 + q26) l))) :: pp6 :: pp0 :: pp1 :: pp2 :: pp3 :: pp5 :: TT) wq, fun vals wq => ∃ (v763 : Value) (v858 : Value), (vals 4 = (.agg ((⟨1, self, chunk, zc (1 + q26) (ze (1 + q26) l), []⟩ : Msg).cells v763 (.slice none 0 0)).toArray : Value)) ∧ (vals 5 = (.bool (decide ((⟨1, self, chunk, zc (1 + q26) (ze (1 + q26) l), []⟩ : Msg) = (⟨1, self, chunk, zc (1 + q26) (ze (1 + q26) l), []⟩ : Msg))) : Value)) ∧ (vals 11 = (.agg ((⟨4, self, chunk, zc (1 + q26) (ze (1 + q26) l), []⟩ : Msg).cells v858 (.slice none 0 0)).toArray : Value)) ∧ ((⟨1, self, chunk, zc (1 + q26) (ze (1 + q26) l), []⟩ : Msg).Ok) ∧ ((⟨4, self, chunk, zc (1 + q26) (ze (1 + q26) l), []⟩ : Msg).Ok) ∧ Sep G648 w642 (pp6 :: (RowE (α := Int) own 3 v858 (zc (1 + q26) (ze (1 + q26) l))) :: pp4 :: (RowE (α := Int) own 3 v763 (zc (1 + q26) (ze (1 + q26) l))) :: pp0 :: pp1 :: pp2 :: pp3 :: pp5 :: TT) wq, fun vals wq => ∃ (v763 : Value) (v858 : Value), (vals 4 = (.agg ((⟨1, self, chunk, zc (1 + q26) (ze (1 + q26) l), []⟩ : Msg).cells v763 (.slice none 0 0)).toArray : Value)) ∧ (vals 5 = (.bool (decide ((⟨1, self, chunk, zc (1 + q26) (ze (1 + q26) l), []⟩ : Msg) = (⟨1, self, chunk, zc (1 + q26) (ze (1 + q26) l), []⟩ : Msg))) : Value)) ∧ (vals 11 = (.agg ((⟨4, self, chunk, zc (1 + q26) (ze (1 + q26) l), []⟩ : Msg).cells v858 (.slice none 0 0)).toArray : Value)) ∧ (vals 12 = (.bool (decide ((⟨4, self, chunk, zc (1 + q26) (ze (1 + q26) l), []⟩ : Msg) = (⟨4, self, chunk, zc (1 + q26) (ze (1 + q26) l), []⟩ : Msg))) : Value)) ∧ ((⟨1, self, chunk, zc (1 + q26) (ze (1 + q26) l), []⟩ : Msg).Ok) ∧ ((⟨4, self, chunk, zc (1 + q26) (ze (1 + q26) l), []⟩ : Msg).Ok) ∧ Sep G648 w642 (pp2 :: (RowE (α := Int) own 3 v858 (zc (1 + q26) (ze (1 + q26) l))) :: pp6 :: pp4 :: (RowE (α := Int) own 3 v763 (zc (1 + q26) (ze (1 + q26) l))) :: pp0 :: pp1 :: pp3 :: pp5 :: TT) wq]) ((RowE (α := MsgS) own 57 v87 [(⟨3, self, m.frm, .slice none 0 0, ve88⟩ : MsgS)]) :: (Blk b2 (m.cells dm0 dm1).toArray 57) :: Rs) (Blk b711 ((⟨4, self, chunk, zc (1 + q26) (ze (1 + q26) l), []⟩ : Msg).cells v704 (.slice none 0 0)).toArray 57) (SetO b32 (1 + q26) (ze (1 + q26) l)) (RowE (α := Int) own 3 v704 (zc (1 + q26) (ze (1 + q26) l))) (Blk b684 ((⟨1, self, chunk, zc (1 + q26) (ze (1 + q26) l), []⟩ : Msg).cells v677 (.slice none 0 0)).toArray 57) (RowE (α := Int) own 3 v677 (zc (1 + q26) (ze (1 + q26) l))) (if i9 ≤ 0 then (RowE (α := Ev) own 36 ve88 E91) else Emp) (RefS b35 (1 + q26) (ze (1 + q26) l))) (AF [Vl 0 (.agg ((⟨1, self, chunk, zc (1 + q26) (ze (1 + q26) l), []⟩ : Msg).cells v677 (.slice none 0 0)).toArray), Vl 1 (.pointer (some ⟨b35, 0, none⟩)), Vl 2 (.int .i64 (self)), Vl 3 (.int .i64 (chunk)), fun _ => True, fun _ => True, Vl 6 (.bool true), Vl 7 (.agg ((⟨4, self, chunk, zc (1 + q26) (ze (1 + q26) l), []⟩ : Msg).cells v704 (.slice none 0 0)).toArray), Vl 8 (.pointer (some ⟨b35, 0, none⟩)), Vl 9 (.int .i64 (self)), Vl 10 (.int .i64 (chunk)), fun _ => True, fun _ => True, Vl 13 (.bool true), Vl 14 (.bool true)]) [[], [], [], [], [1, 2, 3], [0, 1, 2, 3, 4], [0, 1, 2, 3, 4, 5], [0, 1, 2, 3, 4, 5, 6], [0, 1, 2, 3, 4, 5, 6], [0, 1, 2, 3, 4, 5, 6], [0, 1, 2, 3, 4, 5, 6], [0, 1, 2, 3, 4, 5, 6, 8, 9, 10], [0, 1, 2, 3, 4, 5, 6, 7, 8, 9, 10, 11], [0, 1, 2, 3, 4, 5, 6, 7, 8, 9, 10, 11, 12], [0, 1, 2, 3, 4, 5, 6, 7, 8, 9, 10, 11, 12, 13]] [4, 5, 11, 12] [(0, 1), (0, 0), (0, 0), (0, 0), (0, 0), (1, 1), (2, 2), (2, 3), (2, 2), (2, 2), (2, 2), (2, 2), (3, 3), (4, 4), (4, 4)] (by kernel_rfl) (by kernel_rfl) (by kernel_rfl) rfl (by kernel_rfl) (by kernel_rfl) (fun _ h1 h2 h3 h4 _ => hS716.same h1 h2 h3 h4) ?_ (yk ⟨dA, dA, dA, dA, dT, dT, dA, dA, dA, dA, dA, dT, dT, dA, dA, trivial⟩) ⟨?_, ?_, ?_, ?_, ?_, ?_, ?_, ?_, ?_, ?_, ?_, ?_, ?_, ?_, ?_, trivial⟩ ?_
     ·intro k vals vals' w hv h
      have e : ∀ j ∈ ([4, 5, 11, 12] : List Nat), vals' j = vals j := hv
      match k, h with
      | 0, h => exact h
      | 1, h => exact (by simpa only [WF, List.getElem?_cons_zero, List.getElem?_cons_succ, e 4 (by decide)] using h)
      | 2, h => exact (by simpa only [WF, List.getElem?_cons_zero, List.getElem?_cons_succ, e 4 (by decide), e 5 (by decide)] using h)
      | 3, h => exact (by simpa only [WF, List.getElem?_cons_zero, List.getElem?_cons_succ, e 4 (by decide), e 5 (by decide), e 11 (by decide)] using h)
      | 4, h => exact (by simpa only [WF, List.getElem?_cons_zero, List.getElem?_cons_succ, e 4 (by decide), e 5 (by decide), e 11 (by decide), e 12 (by decide)] using h)
      | _ + 5, _ => trivial
     ·intro k911 vals w912 h915 h916 hW914 hA913
      have hkk : k911 = 0 ∨ k911 = 1 := by have h1 : 0 ≤ k911 := h915; have h2 : k911 ≤ 1 := h916; omega
      rcases hkk with rfl | rfl
      ·skip
       have hS917 : Sep _ _ _ _ := hW914
       refine obl rfl ?_
       exact zv (k := 5) Try.isAgg57 Try.sizeOf57 rfl rfl (CellsAt.all (hS917.blk (i := 3) rfl)) (fun vals' hv _ => ⟨rfl, hv⟩)
      ·skip
       obtain ⟨v763, he769, hmo764, hS918⟩ := hW914
       refine obl rfl ?_
       exact zv (k := 5) Try.isAgg57 Try.sizeOf57 rfl rfl (CellsAt.all (hS918.blk (i := 5) rfl)) (fun vals' hv _ => ⟨rfl, hv⟩)
     ·intro k919 vals w920 h923 h924 hW922 hA921
      refine obl rfl ?_
      exact zb (v := .pointer (some ⟨b35, 0, none⟩)) rfl (fun vals' hv _ => ⟨rfl, hv⟩)
     ·intro k925 vals w926 h929 h930 hW928 hA927
      refine obl rfl ?_
      exact zb (v := .int .i64 (self)) rfl (fun vals' hv _ => ⟨rfl, hv⟩)
     ·intro k931 vals w932 h935 h936 hW934 hA933
      refine obl rfl ?_
      exact zb (v := .int .i64 (chunk)) rfl (fun vals' hv _ => ⟨rfl, hv⟩)
     ·intro k742 vals w743 h746 h747 hW745 hA744
      obtain rfl : k742 = 0 := Nat.le_antisymm h747 h746
      have hS748 : Sep _ _ _ _ := hW745
      have e749 := hA744 1 (by decide)
      have e750 := hA744 2 (by decide)
      have e751 := hA744 3 (by decide)
      refine obl rfl ?_
      have hS752 := hS748.mv6
      obtain ⟨G753, hA755, hB756, hS757, hk758⟩ := hS752.lend
      obtain ⟨vl759, hb760, hl761⟩ := RefS.sh hA755
      have hsm762 : (ze (1 + q26) l).length * 96 ≤ 140737488355328 := hl761.small
      refine (zj (f := 48) (vals := [.pointer (some ⟨b35, 0, none⟩), .int .i64 (self), .int .i64 (chunk)]) (cap := []) rfl (yD ⟨e749, e750, e751, trivial⟩) Try.call48 (xD (fr := self) (tt := chunk) hA755 (by omega) (by omega) hS757 (by first | exact hG9 | exact laidL_good) ((by omega))) ?_)
      rintro _ w765 ⟨v763, rfl, hmo764, hS766⟩
      have hr767 := hS766.row (i := 0) rfl
      have hr767s : _ * 8 ≤ _ := hr767.2
      have hS768 := hk758 _ _ hS766
      intro vals' hv hv'
      refine ⟨?_, trivial⟩
      show ∃ (v763 : Value), (vals' 4 = (.agg ((⟨1, self, chunk, zc (1 + q26) (ze (1 + q26) l), []⟩ : Msg).cells v763 (.slice none 0 0)).toArray : Value)) ∧ ((⟨1, self, chunk, zc (1 + q26) (ze (1 + q26) l), []⟩ : Msg).Ok) ∧ Sep G648 w642 ((RefS b35 (1 + q26) (ze (1 + q26) l)) :: (RowE (α := Int) own 3 v763 (zc (1 + q26) (ze (1 + q26) l))) :: (Blk b711 ((⟨4, self, chunk, zc (1 + q26) (ze (1 + q26) l), []⟩ : Msg).cells v704 (.slice none 0 0)).toArray 57) :: (SetO b32 (1 + q26) (ze (1 + q26) l)) :: (RowE (α := Int) own 3 v704 (zc (1 + q26) (ze (1 + q26) l))) :: (Blk b684 ((⟨1, self, chunk, zc (1 + q26) (ze (1 + q26) l), []⟩ : Msg).cells v677 (.slice none 0 0)).toArray 57) :: (RowE (α := Int) own 3 v677 (zc (1 + q26) (ze (1 + q26) l))) :: (if i9 ≤ 0 then (RowE (α := Ev) own 36 ve88 E91) else Emp) :: (RowE (α := MsgS) own 57 v87 [(⟨3, self, m.frm, .slice none 0 0, ve88⟩ : MsgS)]) :: (Blk b2 (m.cells dm0 dm1).toArray 57) :: Rs) w765
      exact ⟨v763, hv, hmo764, hS768⟩
     ·intro k770 vals w771 h774 h775 hW773 hA772
      obtain rfl : k770 = 1 := Nat.le_antisymm h775 h774
      obtain ⟨v763, he769, hmo764, hS776⟩ := hW773
      have e777 := hA772 0 (by decide)
      refine obl rfl ?_
      have hS778 := hS776.mv6
      obtain ⟨G779, hA781, hB782, hS783, hk784⟩ := hS778.lend
      have hrd785 := RowE.rd hA781
      have hrd785s : _ * 8 ≤ _ := hrd785.small
      have hS786 := hS783.mv1
      obtain ⟨G787, hA789, hB790, hS791, hk792⟩ := hS786.lend
      have hrd793 := RowE.rd hA789
      have hrd793s : _ * 8 ≤ _ := hrd793.small
      refine (zj (f := 44) (vals := [.agg ((⟨1, self, chunk, zc (1 + q26) (ze (1 + q26) l), []⟩ : Msg).cells v677 (.slice none 0 0)).toArray, .agg ((⟨1, self, chunk, zc (1 + q26) (ze (1 + q26) l), []⟩ : Msg).cells v763 (.slice none 0 0)).toArray]) (cap := []) rfl (yD ⟨e777, he769, trivial⟩) Try.call44 (yg (a := (⟨1, self, chunk, zc (1 + q26) (ze (1 + q26) l), []⟩ : Msg)) (b := (⟨1, self, chunk, zc (1 + q26) (ze (1 + q26) l), []⟩ : Msg)) (RdS.base hrd785 hB790) (RdS.nil _ _) hmo764 hrd793 (RdS.nil _ _) hmo764 hS791) ?_)
      rintro _ w794 ⟨rfl, hS795⟩
      have hS796 := hk792 _ _ hS795
      have hS797 := hk784 _ _ hS796
      intro vals' hv hv'
      refine ⟨?_, trivial⟩
      show ∃ (v763 : Value), (vals' 4 = (.agg ((⟨1, self, chunk, zc (1 + q26) (ze (1 + q26) l), []⟩ : Msg).cells v763 (.slice none 0 0)).toArray : Value)) ∧ (vals' 5 = (.bool (decide ((⟨1, self, chunk, zc (1 + q26) (ze (1 + q26) l), []⟩ : Msg) = (⟨1, self, chunk, zc (1 + q26) (ze (1 + q26) l), []⟩ : Msg))) : Value)) ∧ ((⟨1, self, chunk, zc (1 + q26) (ze (1 + q26) l), []⟩ : Msg).Ok) ∧ Sep G648 w642 ((RowE (α := Int) own 3 v677 (zc (1 + q26) (ze (1 + q26) l))) :: (RowE (α := Int) own 3 v763 (zc (1 + q26) (ze (1 + q26) l))) :: (RefS b35 (1 + q26) (ze (1 + q26) l)) :: (Blk b711 ((⟨4, self, chunk, zc (1 + q26) (ze (1 + q26) l), []⟩ : Msg).cells v704 (.slice none 0 0)).toArray 57) :: (SetO b32 (1 + q26) (ze (1 + q26) l)) :: (RowE (α := Int) own 3 v704 (zc (1 + q26) (ze (1 + q26) l))) :: (Blk b684 ((⟨1, self, chunk, zc (1 + q26) (ze (1 + q26) l), []⟩ : Msg).cells v677 (.slice none 0 0)).toArray 57) :: (if i9 ≤ 0 then (RowE (α := Ev) own 36 ve88 E91) else Emp) :: (RowE (α := MsgS) own 57 v87 [(⟨3, self, m.frm, .slice none 0 0, ve88⟩ : MsgS)]) :: (Blk b2 (m.cells dm0 dm1).toArray 57) :: Rs) w794
      exact ⟨v763, (by rw [hv' 4 (by decide)]; exact he769), hv, hmo764, hS797⟩
     ·intro k937 vals w938 h941 h942 hW940 hA939
      obtain rfl : k937 = 2 := Nat.le_antisymm h942 h941
      obtain ⟨v763, he769, he798, hmo764, hS943⟩ := hW940
      refine obl rfl ?_
      have hl944 : (decide ((⟨1, self, chunk, zc (1 + q26) (ze (1 + q26) l), []⟩ : Msg) = (⟨1, self, chunk, zc (1 + q26) (ze (1 + q26) l), []⟩ : Msg))) = true := decide_eq_true rfl
      exact zb (v := .bool (decide ((⟨1, self, chunk, zc (1 + q26) (ze (1 + q26) l), []⟩ : Msg) = (⟨1, self, chunk, zc (1 + q26) (ze (1 + q26) l), []⟩ : Msg)))) he798 (fun vals' hv _ => ⟨rfl, hv.trans (congrArg Value.bool hl944)⟩)
     ·intro k945 vals w946 h949 h950 hW948 hA947
      have hkk : k945 = 2 ∨ k945 = 3 := by have h1 : 2 ≤ k945 := h949; have h2 : k945 ≤ 3 := h950; omega
      rcases hkk with rfl | rfl
      ·skip
       obtain ⟨v763, he769, he798, hmo764, hS951⟩ := hW948
       have e952 := hA947 6 (by decide)
       refine ym rfl rfl e952 (fun _ => ?_) (fun hb => absurd rfl hb)
       exact zv (k := 5) Try.isAgg57 Try.sizeOf57 rfl rfl (CellsAt.all (hS951.blk (i := 3) rfl)) (fun vals' hv _ => ⟨rfl, hv⟩)
      ·skip
       obtain ⟨v763, v858, he769, he798, he864, hmo764, hmo859, hS953⟩ := hW948
       have e954 := hA947 6 (by decide)
       refine ym rfl rfl e954 (fun _ => ?_) (fun hb => absurd rfl hb)
       exact zv (k := 5) Try.isAgg57 Try.sizeOf57 rfl rfl (CellsAt.all (hS953.blk (i := 4) rfl)) (fun vals' hv _ => ⟨rfl, hv⟩)
     ·intro k955 vals w956 h959 h960 hW958 hA957
      have e961 := hA957 6 (by decide)
      refine ym rfl rfl e961 (fun _ => ?_) (fun hb => absurd rfl hb)
      exact zb (v := .pointer (some ⟨b35, 0, none⟩)) rfl (fun vals' hv _ => ⟨rfl, hv⟩)
     ·intro k962 vals w963 h966 h967 hW965 hA964
      have e968 := hA964 6 (by decide)
      refine ym rfl rfl e968 (fun _ => ?_) (fun hb => absurd rfl hb)
      exact zb (v := .int .i64 (self)) rfl (fun vals' hv _ => ⟨rfl, hv⟩)
     ·intro k969 vals w970 h973 h974 hW972 hA971
      have e975 := hA971 6 (by decide)
      refine ym rfl rfl e975 (fun _ => ?_) (fun hb => absurd rfl hb)
      exact zb (v := .int .i64 (chunk)) rfl (fun vals' hv _ => ⟨rfl, hv⟩)
     ·intro k836 vals w837 h840 h841 hW839 hA838
      obtain rfl : k836 = 2 := Nat.le_antisymm h841 h840
      obtain ⟨v763, he769, he798, hmo764, hS842⟩ := hW839
      have e843 := hA838 6 (by decide)
      have e844 := hA838 8 (by decide)
      have e845 := hA838 9 (by decide)
      have e846 := hA838 10 (by decide)
      refine ym rfl rfl e843 (fun _ => ?_) (fun hb => absurd rfl hb)
      have hS847 := hS842.mv2
      obtain ⟨G848, hA850, hB851, hS852, hk853⟩ := hS847.lend
      obtain ⟨vl854, hb855, hl856⟩ := RefS.sh hA850
      have hsm857 : (ze (1 + q26) l).length * 96 ≤ 140737488355328 := hl856.small
      refine (zj (f := 49) (vals := [.pointer (some ⟨b35, 0, none⟩), .int .i64 (self), .int .i64 (chunk)]) (cap := []) rfl (yD ⟨e844, e845, e846, trivial⟩) Try.call49 (ZC (fr := self) (tt := chunk) hA850 (by omega) (by omega) hS852 (by first | exact hG9 | exact laidL_good) ((by omega))) ?_)
      rintro _ w860 ⟨v858, rfl, hmo859, hS861⟩
      have hr862 := hS861.row (i := 0) rfl
      have hr862s : _ * 8 ≤ _ := hr862.2
      have hS863 := hk853 _ _ hS861
      intro vals' hv hv'
      refine ⟨?_, trivial⟩
      show ∃ (v763 : Value) (v858 : Value), (vals' 4 = (.agg ((⟨1, self, chunk, zc (1 + q26) (ze (1 + q26) l), []⟩ : Msg).cells v763 (.slice none 0 0)).toArray : Value)) ∧ (vals' 5 = (.bool (decide ((⟨1, self, chunk, zc (1 + q26) (ze (1 + q26) l), []⟩ : Msg) = (⟨1, self, chunk, zc (1 + q26) (ze (1 + q26) l), []⟩ : Msg))) : Value)) ∧ (vals' 11 = (.agg ((⟨4, self, chunk, zc (1 + q26) (ze (1 + q26) l), []⟩ : Msg).cells v858 (.slice none 0 0)).toArray : Value)) ∧ ((⟨1, self, chunk, zc (1 + q26) (ze (1 + q26) l), []⟩ : Msg).Ok) ∧ ((⟨4, self, chunk, zc (1 + q26) (ze (1 + q26) l), []⟩ : Msg).Ok) ∧ Sep G648 w642 ((RefS b35 (1 + q26) (ze (1 + q26) l)) :: (RowE (α := Int) own 3 v858 (zc (1 + q26) (ze (1 + q26) l))) :: (RowE (α := Int) own 3 v677 (zc (1 + q26) (ze (1 + q26) l))) :: (RowE (α := Int) own 3 v763 (zc (1 + q26) (ze (1 + q26) l))) :: (Blk b711 ((⟨4, self, chunk, zc (1 + q26) (ze (1 + q26) l), []⟩ : Msg).cells v704 (.slice none 0 0)).toArray 57) :: (SetO b32 (1 + q26) (ze (1 + q26) l)) :: (RowE (α := Int) own 3 v704 (zc (1 + q26) (ze (1 + q26) l))) :: (Blk b684 ((⟨1, self, chunk, zc (1 + q26) (ze (1 + q26) l), []⟩ : Msg).cells v677 (.slice none 0 0)).toArray 57) :: (if i9 ≤ 0 then (RowE (α := Ev) own 36 ve88 E91) else Emp) :: (RowE (α := MsgS) own 57 v87 [(⟨3, self, m.frm, .slice none 0 0, ve88⟩ : MsgS)]) :: (Blk b2 (m.cells dm0 dm1).toArray 57) :: Rs) w860
      exact ⟨v763, v858, (by rw [hv' 4 (by decide)]; exact he769), (by rw [hv' 5 (by decide)]; exact he798), hv, hmo764, hmo859, hS863⟩
     ·intro k865 vals w866 h869 h870 hW868 hA867
      obtain rfl : k865 = 3 := Nat.le_antisymm h870 h869
      obtain ⟨v763, v858, he769, he798, he864, hmo764, hmo859, hS871⟩ := hW868
      have e872 := hA867 6 (by decide)
      have e873 := hA867 7 (by decide)
      refine ym rfl rfl e872 (fun _ => ?_) (fun hb => absurd rfl hb)
      have hS874 := hS871.mv6
      obtain ⟨G875, hA877, hB878, hS879, hk880⟩ := hS874.lend
      have hrd881 := RowE.rd hA877
      have hrd881s : _ * 8 ≤ _ := hrd881.small
      have hS882 := hS879.mv1
      obtain ⟨G883, hA885, hB886, hS887, hk888⟩ := hS882.lend
      have hrd889 := RowE.rd hA885
      have hrd889s : _ * 8 ≤ _ := hrd889.small
      refine (zj (f := 44) (vals := [.agg ((⟨4, self, chunk, zc (1 + q26) (ze (1 + q26) l), []⟩ : Msg).cells v704 (.slice none 0 0)).toArray, .agg ((⟨4, self, chunk, zc (1 + q26) (ze (1 + q26) l), []⟩ : Msg).cells v858 (.slice none 0 0)).toArray]) (cap := []) rfl (yD ⟨e873, he864, trivial⟩) Try.call44 (yg (a := (⟨4, self, chunk, zc (1 + q26) (ze (1 + q26) l), []⟩ : Msg)) (b := (⟨4, self, chunk, zc (1 + q26) (ze (1 + q26) l), []⟩ : Msg)) (RdS.base hrd881 hB886) (RdS.nil _ _) hmo859 hrd889 (RdS.nil _ _) hmo859 hS887) ?_)
      rintro _ w890 ⟨rfl, hS891⟩
      have hS892 := hk888 _ _ hS891
      have hS893 := hk880 _ _ hS892
      intro vals' hv hv'
      refine ⟨?_, trivial⟩
      show ∃ (v763 : Value) (v858 : Value), (vals' 4 = (.agg ((⟨1, self, chunk, zc (1 + q26) (ze (1 + q26) l), []⟩ : Msg).cells v763 (.slice none 0 0)).toArray : Value)) ∧ (vals' 5 = (.bool (decide ((⟨1, self, chunk, zc (1 + q26) (ze (1 + q26) l), []⟩ : Msg) = (⟨1, self, chunk, zc (1 + q26) (ze (1 + q26) l), []⟩ : Msg))) : Value)) ∧ (vals' 11 = (.agg ((⟨4, self, chunk, zc (1 + q26) (ze (1 + q26) l), []⟩ : Msg).cells v858 (.slice none 0 0)).toArray : Value)) ∧ (vals' 12 = (.bool (decide ((⟨4, self, chunk, zc (1 + q26) (ze (1 + q26) l), []⟩ : Msg) = (⟨4, self, chunk, zc (1 + q26) (ze (1 + q26) l), []⟩ : Msg))) : Value)) ∧ ((⟨1, self, chunk, zc (1 + q26) (ze (1 + q26) l), []⟩ : Msg).Ok) ∧ ((⟨4, self, chunk, zc (1 + q26) (ze (1 + q26) l), []⟩ : Msg).Ok) ∧ Sep G648 w642 ((RowE (α := Int) own 3 v704 (zc (1 + q26) (ze (1 + q26) l))) :: (RowE (α := Int) own 3 v858 (zc (1 + q26) (ze (1 + q26) l))) :: (RefS b35 (1 + q26) (ze (1 + q26) l)) :: (RowE (α := Int) own 3 v677 (zc (1 + q26) (ze (1 + q26) l))) :: (RowE (α := Int) own 3 v763 (zc (1 + q26) (ze (1 + q26) l))) :: (Blk b711 ((⟨4, self, chunk, zc (1 + q26) (ze (1 + q26) l), []⟩ : Msg).cells v704 (.slice none 0 0)).toArray 57) :: (SetO b32 (1 + q26) (ze (1 + q26) l)) :: (Blk b684 ((⟨1, self, chunk, zc (1 + q26) (ze (1 + q26) l), []⟩ : Msg).cells v677 (.slice none 0 0)).toArray 57) :: (if i9 ≤ 0 then (RowE (α := Ev) own 36 ve88 E91) else Emp) :: (RowE (α := MsgS) own 57 v87 [(⟨3, self, m.frm, .slice none 0 0, ve88⟩ : MsgS)]) :: (Blk b2 (m.cells dm0 dm1).toArray 57) :: Rs) w890
      exact ⟨v763, v858, (by rw [hv' 4 (by decide)]; exact he769), (by rw [hv' 5 (by decide)]; exact he798), (by rw [hv' 11 (by decide)]; exact he864), hv, hmo764, hmo859, hS893⟩
     ·intro k976 vals w977 h980 h981 hW979 hA978
      obtain rfl : k976 = 4 := Nat.le_antisymm h981 h980
      obtain ⟨v763, v858, he769, he798, he864, he894, hmo764, hmo859, hS982⟩ := hW979
      have e983 := hA978 6 (by decide)
      refine obl rfl ?_
      have hl984 : (decide ((⟨4, self, chunk, zc (1 + q26) (ze (1 + q26) l), []⟩ : Msg) = (⟨4, self, chunk, zc (1 + q26) (ze (1 + q26) l), []⟩ : Msg))) = true := decide_eq_true rfl
      exact zG (v := .bool (decide ((⟨4, self, chunk, zc (1 + q26) (ze (1 + q26) l), []⟩ : Msg) = (⟨4, self, chunk, zc (1 + q26) (ze (1 + q26) l), []⟩ : Msg)))) e983 he894 (fun vals' hv _ => ⟨rfl, hv.trans (congrArg Value.bool hl984)⟩)
     ·intro k985 vals w986 h989 h990 hW988 hA987
      have e991 := hA987 13 (by decide)
      refine obl rfl ?_
      exact zf (v := .bool true) e991 (fun vals' hv _ => ⟨rfl, hv⟩)
     intro vals w992 hW993 hA994
     obtain ⟨v763, v858, he769, he798, he864, he894, hmo764, hmo859, hS995⟩ := hW993
     have e996 := hA994 14 (by decide)
     refine yj (kv := [(2, .int .i64 (self)), (4, .int .i64 (chunk)), (8, .pointer (some ⟨b2, 0, none⟩)), (11, .pointer (some ⟨b32, 0, none⟩)), (12, .pointer (some ⟨b35, 0, none⟩)), (15, v87), (16, v113), (17, .int .i64 ((i9 : Nat) : Int)), (81, .int .i64 ((i9 : Nat) : Int)), (82, v87), (83, .int .i64 (([(⟨3, self, m.frm, .slice none 0 0, ve88⟩ : MsgS)].length : Nat) : Int)), (84, .bool false), (109, .pointer (some ⟨b32, 0, none⟩)), (110, .int .i64 (self)), (111, .int .i64 (chunk)), (112, .agg ((⟨1, self, chunk, zc (1 + q26) (ze (1 + q26) l), []⟩ : Msg).cells v677 (.slice none 0 0)).toArray), (18, .pointer (some ⟨b684, 0, none⟩)), (113, .pointer (some ⟨b32, 0, none⟩)), (114, .int .i64 (self)), (115, .int .i64 (chunk)), (116, .agg ((⟨4, self, chunk, zc (1 + q26) (ze (1 + q26) l), []⟩ : Msg).cells v704 (.slice none 0 0)).toArray), (19, .pointer (some ⟨b711, 0, none⟩)), (20, .bool true)]) ⟨rfl, rfl, rfl, rfl, rfl, rfl, rfl, rfl, rfl, rfl, rfl, rfl, rfl, rfl, rfl, rfl, rfl, rfl, rfl, rfl, rfl, rfl, (by exact e996), trivial⟩ (fun ρw992 => ?_)
     refine zg ?_
     refine zd ?_
     refine za (by kernel_rfl) (fun _ => ?_)
     refine st (yh rfl ?_)
     refine st (zh (v := v677) Try.isAgg34 rfl (zi (hS995.blk (i := 7) rfl) rfl) ?_)
     have hS997 := hS995.mv3
     obtain ⟨f998, hm999, hS1000⟩ := hS997.toML
     refine st (zj (f := 37) (vals := [v677]) (cap := []) rfl rfl Try.call37 (yf  hm999 hS1000) ?_)
     rintro _ w1001 ⟨rfl, hS1002⟩
     refine zg ?_
     refine zd ?_
     refine za (by kernel_rfl) (fun _ => ?_)
     refine st (yh rfl ?_)
     refine st (zh (v := v704) Try.isAgg34 rfl (zi (hS1002.blk (i := 5) rfl) rfl) ?_)
     have hS1003 := hS1002.mv1
     obtain ⟨f1004, hm1005, hS1006⟩ := hS1003.toML
     refine st (zj (f := 37) (vals := [v704]) (cap := []) rfl rfl Try.call37 (yf  hm1005 hS1006) ?_)
     rintro _ w1007 ⟨rfl, hS1008⟩
     refine zg ?_
     refine zd ?_
     refine zF (by kernel_rfl) ?_
     refine st (zb (v := .bool true) rfl ?_)
     refine st (zb (v := .bool true) rfl ?_)
     refine sty rfl rfl (zb (v := .pointer (some ⟨b32, 0, none⟩)) rfl ?_)
     have hS1009 := hS1008.mv6
     obtain ⟨G1010, hA1012, hB1013, hS1014, hk1015⟩ := hS1009.lend
     obtain ⟨vv1016, m1017, R1018, hb1019, hv1020, hr1021⟩ := SetO.sh hA1012
     have hsm1022 : (zc (1 + q26) (ze (1 + q26) l)).length * 8 ≤ 140737488355328 := hv1020.small
     refine sty rfl rfl (zj (f := 19) (vals := [.pointer (some ⟨b32, 0, none⟩)]) (cap := []) rfl rfl Try.call19 (Xm  hA1012 hS1014 (hG9.ids) (hG9.srt) ((Nat.le_trans hL9 (by omega)))) ?_)
     rintro v1023 w1024 ⟨_, rfl, hS1025⟩
     have hr1026 := hS1025.row (i := 0) rfl
     have hr1026s : _ * 96 ≤ _ := hr1026.2
     have hS1027 := hk1015 _ _ hS1025
     refine sty rfl rfl (zb (v := .pointer (some ⟨b35, 0, none⟩)) rfl ?_)
     have hS1028 := hS1027.mv5
     obtain ⟨G1029, hA1031, hB1032, hS1033, hk1034⟩ := hS1028.lend
     obtain ⟨vl1035, hb1036, hl1037⟩ := RefS.sh hA1031
     have hsm1038 : (ze (1 + q26) l).length * 96 ≤ 140737488355328 := hl1037.small
     refine sty rfl rfl (zj (f := 50) (vals := [.pointer (some ⟨b35, 0, none⟩)]) (cap := []) rfl rfl Try.call50 (ZR  hA1031 hS1033) ?_)
     rintro v1039 w1040 ⟨_, rfl, hS1041⟩
     have hr1042 := hS1041.row (i := 0) rfl
     have hr1042s : _ * 96 ≤ _ := hr1042.2
     have hS1043 := hk1034 _ _ hS1041
     have hS1044 := hS1043.mv3
     obtain ⟨G1045, hA1047, hB1048, hS1049, hk1050⟩ := hS1044.lend
     have hrd1051 := RowE.rd hA1047
     have hrd1051s : _ * 96 ≤ _ := hrd1051.small
     have hS1052 := hS1049.mv1
     obtain ⟨G1053, hA1055, hB1056, hS1057, hk1058⟩ := hS1052.lend
     have hrd1059 := RowE.rd hA1055
     have hrd1059s : _ * 96 ≤ _ := hrd1059.small
     refine sty rfl rfl (zj (f := 22) (vals := [v1023, v1039]) (cap := []) rfl rfl Try.call22 (yO (a := (ze (1 + q26) l)) (va := v1023) (b := (ze (1 + q26) l)) (vb := v1039) (RdS.base hrd1051 hB1056) hrd1059 hS1057) ?_)
     rintro _ w1060 ⟨rfl, hS1061⟩
     have hS1062 := hk1058 _ _ hS1061
     have hS1063 := hk1050 _ _ hS1062
     have hkn1064 : (decide ((ze (1 + q26) l) = (ze (1 + q26) l))) = true := decide_eq_true rfl
     rw [hkn1064]
     refine st (zG (v := .bool true) rfl rfl ?_)
     refine st (zb (v := .bool true) rfl ?_)
     refine sty rfl rfl (zb (v := .pointer (some ⟨b32, 0, none⟩)) rfl ?_)
     have hS1065 := hS1063.mv3
     obtain ⟨G1066, hA1068, hB1069, hS1070, hk1071⟩ := hS1065.lend
     obtain ⟨vv1072, m1073, R1074, hb1075, hv1076, hr1077⟩ := SetO.sh hA1068
     have hsm1078 : (zc (1 + q26) (ze (1 + q26) l)).length * 8 ≤ 140737488355328 := hv1076.small
     refine sty rfl rfl (zj (f := 26) (vals := [.pointer (some ⟨b32, 0, none⟩)]) (cap := []) rfl rfl Try.call26 (xM  hA1068 hS1070) ?_)
     rintro v1079 w1080 ⟨_, rfl, hS1081⟩
     have hr1082 := hS1081.row (i := 0) rfl
     have hr1082s : _ * 8 ≤ _ := hr1082.2
     have hS1083 := hk1071 _ _ hS1081
     refine sty rfl rfl (zb (v := .pointer (some ⟨b35, 0, none⟩)) rfl ?_)
     have hS1084 := hS1083.mv4
     obtain ⟨G1085, hA1087, hB1088, hS1089, hk1090⟩ := hS1084.lend
     obtain ⟨vl1091, hb1092, hl1093⟩ := RefS.sh hA1087
     have hsm1094 : (ze (1 + q26) l).length * 96 ≤ 140737488355328 := hl1093.small
     refine sty rfl rfl (zj (f := 51) (vals := [.pointer (some ⟨b35, 0, none⟩)]) (cap := []) rfl rfl Try.call51 (xy  hA1087 hS1089 (by first | exact hG9 | exact laidL_good) ((by omega))) ?_)
     rintro v1095 w1096 ⟨_, rfl, hS1097⟩
     have hr1098 := hS1097.row (i := 0) rfl
     have hr1098s : _ * 8 ≤ _ := hr1098.2
     have hS1099 := hk1090 _ _ hS1097
     have hS1100 := hS1099.mv3
     obtain ⟨G1101, hA1103, hB1104, hS1105, hk1106⟩ := hS1100.lend
     have hrd1107 := RowE.rd hA1103
     have hrd1107s : _ * 8 ≤ _ := hrd1107.small
     have hS1108 := hS1105.mv1
     obtain ⟨G1109, hA1111, hB1112, hS1113, hk1114⟩ := hS1108.lend
     have hrd1115 := RowE.rd hA1111
     have hrd1115s : _ * 8 ≤ _ := hrd1115.small
     refine sty rfl rfl (zj (f := 27) (vals := [v1079, v1095]) (cap := []) rfl rfl Try.call27 (yL (a := zc (1 + q26) (ze (1 + q26) l)) (va := v1079) (b := zc (1 + q26) (ze (1 + q26) l)) (vb := v1095) (RdS.base hrd1107 hB1112) hrd1115 hS1113) ?_)
     rintro _ w1116 ⟨rfl, hS1117⟩
     have hS1118 := hk1114 _ _ hS1117
     have hS1119 := hk1106 _ _ hS1118
     have hkn1120 : (decide ((zc (1 + q26) (ze (1 + q26) l)) = (zc (1 + q26) (ze (1 + q26) l)))) = true := decide_eq_true rfl
     rw [hkn1120]
     refine st (zG (v := .bool true) rfl rfl ?_)
     refine st (zb (v := .bool true) rfl ?_)
     refine sty rfl rfl (zj (f := 39) (vals := []) (cap := []) rfl rfl Try.call39 (xm  hS1119) ?_)
     rintro _ w1121 ⟨rfl, hS1122⟩
     refine st (zG (v := .bool true) rfl rfl ?_)
     refine st (zf (v := .bool true) rfl ?_)
     refine zg ?_
     refine zw ?_
     refine zM Try.results11 (show _ = (.bool true : Value) from rfl) ?_
     have hS1123 := hk653 _ _ hS1122
     have hS1124 : Sep G W Rs w1121 := hS1123.sel 16 [] (Nat.le_add_left _ _) rfl rfl
     refine ⟨rfl, hS1124⟩
    ·skip
     have hc662r := hc662
     have hc662 := of_decide_eq_true hc662
     refine zm rfl ?_
     refine zp ?_
     refine zd ?_
     refine zx ?_
     refine zd ?_
     refine zd ?_
     obtain rfl : i9 = 0 := by omega
     ·skip
      have hS1125 : Sep G648 w642 ((RowE (α := Ev) own 36 ve88 E91) :: (RefS b35 (1 + q26) (ze (1 + q26) l)) :: (SetO b32 (1 + q26) (ze (1 + q26) l)) :: (RowE (α := MsgS) own 57 v87 [(⟨3, self, m.frm, .slice none 0 0, ve88⟩ : MsgS)]) :: (Blk b2 (m.cells dm0 dm1).toArray 57) :: Rs) w658 := Sep.still hS661 (by omega)
      have hr1126 := hS1125.row (i := 0) rfl
      have hr1126s : _ * 96 ≤ _ := hr1126.2
      refine zS ((fun TT pp0 => WF [fun vals wq => Sep G648 w642 (pp0 :: TT) wq, fun vals wq => (vals 8 = (.bool (decide ((⟨3, self, m.frm, [], E91⟩ : Msg) = ([(⟨3, self, m.frm, [], E91⟩ : Msg)].getD 0 default))) : Value)) ∧ Sep G648 w642 (pp0 :: TT) wq]) ((RefS b35 (1 + q26) (ze (1 + q26) l)) :: (SetO b32 (1 + q26) (ze (1 + q26) l)) :: (RowE (α := MsgS) own 57 v87 [(⟨3, self, m.frm, .slice none 0 0, ve88⟩ : MsgS)]) :: (Blk b2 (m.cells dm0 dm1).toArray 57) :: Rs) (RowE (α := Ev) own 36 ve88 E91)) (AF [Vl 0 (v87), Vl 1 (.int .i64 ((0 : Nat) : Int)), Vl 2 (.pointer (some ⟨sb v87, so v87 + 0 * 5, none⟩)), Vl 3 (.agg (([(⟨3, self, m.frm, .slice none 0 0, ve88⟩ : MsgS)].getD 0 default).cells).toArray), Vl 4 (v113), Vl 5 (.int .i64 ((0 : Nat) : Int)), Vl 6 (.pointer (some ⟨sb v113, so v113 + 0 * 5, none⟩)), Vl 7 (.agg (([(⟨3, self, m.frm, [], E91⟩ : Msg)].getD 0 default).cells (zR w642 (sb v113) (so v113 + 0 * 5 + 3)) (zR w642 (sb v113) (so v113 + 0 * 5 + 4))).toArray), fun _ => True, Vl 9 (.bool false)]) [[], [], [0, 1], [0, 1, 2], [], [], [4, 5], [4, 5, 6], [0, 1, 2, 3, 4, 5, 6, 7], [0, 1, 2, 3, 4, 5, 6, 7, 8]] [8] [(0, 0), (0, 0), (0, 0), (0, 0), (0, 0), (0, 0), (0, 0), (0, 0), (0, 0), (1, 1)] (by kernel_rfl) (by kernel_rfl) (by kernel_rfl) rfl (by kernel_rfl) (by kernel_rfl) (fun _ h1 h2 h3 h4 _ => hS1125.same h1 h2 h3 h4) ?_ (yk ⟨dA, dA, dA, dA, dA, dA, dA, dA, dT, dA, trivial⟩) ⟨?_, ?_, ?_, ?_, ?_, ?_, ?_, ?_, ?_, ?_, trivial⟩ ?_
      ·intro k vals vals' w hv h
       have e : ∀ j ∈ ([8] : List Nat), vals' j = vals j := hv
       match k, h with
       | 0, h => exact h
       | 1, h => exact (by simpa only [WF, List.getElem?_cons_zero, List.getElem?_cons_succ, e 8 (by decide)] using h)
       | _ + 2, _ => trivial
      ·intro k1227 vals w1228 h1231 h1232 hW1230 hA1229
       refine obl rfl ?_
       exact zb (v := v87) rfl (fun vals' hv _ => ⟨rfl, hv⟩)
      ·intro k1233 vals w1234 h1237 h1238 hW1236 hA1235
       refine obl rfl ?_
       exact zb (v := .int .i64 ((0 : Nat) : Int)) rfl (fun vals' hv _ => ⟨rfl, hv⟩)
      ·intro k1239 vals w1240 h1243 h1244 hW1242 hA1241
       obtain rfl : k1239 = 0 := Nat.le_antisymm h1244 h1243
       have hS1245 : Sep _ _ _ _ := hW1242
       have e1246 := hA1241 0 (by decide)
       have e1247 := hA1241 1 (by decide)
       refine obl rfl ?_
       have hi1248 : 0 < [(⟨3, self, m.frm, .slice none 0 0, ve88⟩ : MsgS)].length := (by first | omega | (simp only [zu]; omega))
       exact zl (k := 5) (i := 0) Try.underlying58 Try.sizeOf57 e1246 hr622.1 e1247 hi1248 (fun vals' hv _ => ⟨rfl, hv⟩)
      ·intro k1249 vals w1250 h1253 h1254 hW1252 hA1251
       obtain rfl : k1249 = 0 := Nat.le_antisymm h1254 h1253
       have hS1255 : Sep _ _ _ _ := hW1252
       have e1256 := hA1251 2 (by decide)
       refine obl rfl ?_
       have hi1258 : 0 < [(⟨3, self, m.frm, .slice none 0 0, ve88⟩ : MsgS)].length := (by first | omega | (simp only [zu]; omega))
       obtain ⟨_, _, hce1257, rfl, hoke1257⟩ := hS1255.rowAt (i := 3) (j := 0) rfl hi1258
       rw [← zo default hi1258] at hce1257 hoke1257
       exact zv (k := 5) Try.isAgg57 Try.sizeOf57 rfl e1256 hce1257 (fun vals' hv _ => ⟨rfl, hv⟩)
      ·intro k1259 vals w1260 h1263 h1264 hW1262 hA1261
       refine obl rfl ?_
       exact zb (v := v113) rfl (fun vals' hv _ => ⟨rfl, hv⟩)
      ·intro k1265 vals w1266 h1269 h1270 hW1268 hA1267
       refine obl rfl ?_
       exact zb (v := .int .i64 ((0 : Nat) : Int)) rfl (fun vals' hv _ => ⟨rfl, hv⟩)
      ·intro k1271 vals w1272 h1275 h1276 hW1274 hA1273
       obtain rfl : k1271 = 0 := Nat.le_antisymm h1276 h1275
       have hS1277 : Sep _ _ _ _ := hW1274
       have e1278 := hA1273 4 (by decide)
       have e1279 := hA1273 5 (by decide)
       refine obl rfl ?_
       have hi1280 : 0 < [(⟨3, self, m.frm, [], E91⟩ : Msg)].length := (by first | omega | (simp only [zu]; omega))
       exact zl (k := 5) (i := 0) Try.underlying58 Try.sizeOf57 e1278 hrd654.sl e1279 hi1280 (fun vals' hv _ => ⟨rfl, hv⟩)
      ·intro k1281 vals w1282 h1285 h1286 hW1284 hA1283
       obtain rfl : k1281 = 0 := Nat.le_antisymm h1286 h1285
       have hS1287 : Sep _ _ _ _ := hW1284
       have e1288 := hA1283 6 (by decide)
       refine obl rfl ?_
       have hi1290 : 0 < [(⟨3, self, m.frm, [], E91⟩ : Msg)].length := (by first | omega | (simp only [zu]; omega))
       obtain ⟨hce1289, hde1289_0, hde1289_1, hoke1289⟩ := hrd654.msg hi1290
       rw [← zo default hi1290] at hce1289 hde1289_0 hde1289_1 hoke1289
       have hsm1291 : (([(⟨3, self, m.frm, [], E91⟩ : Msg)].getD 0 default).vec).length * 8 ≤ 140737488355328 := hde1289_0.small
       have hsm1292 : (([(⟨3, self, m.frm, [], E91⟩ : Msg)].getD 0 default).evs).length * 96 ≤ 140737488355328 := hde1289_1.small
       have hcw1293 := hS1287.cells hce1289 (hrd654.foot (ne_of_lt hi1290))
       exact zv (k := 5) Try.isAgg57 Try.sizeOf57 rfl e1288 hcw1293 (fun vals' hv _ => ⟨rfl, hv⟩)
      ·intro k1194 vals w1195 h1198 h1199 hW1197 hA1196
       obtain rfl : k1194 = 0 := Nat.le_antisymm h1199 h1198
       have hS1200 : Sep _ _ _ _ := hW1197
       have e1201 := hA1196 3 (by decide)
       have e1202 := hA1196 7 (by decide)
       refine obl rfl ?_
       have hi1204 : 0 < [(⟨3, self, m.frm, [], E91⟩ : Msg)].length := (by first | omega | (simp only [zu]; omega))
       obtain ⟨hce1203, hde1203_0, hde1203_1, hoke1203⟩ := hrd654.msg hi1204
       rw [← zo default hi1204] at hce1203 hde1203_0 hde1203_1 hoke1203
       have hsm1205 : (([(⟨3, self, m.frm, [], E91⟩ : Msg)].getD 0 default).vec).length * 8 ≤ 140737488355328 := hde1203_0.small
       have hsm1206 : (([(⟨3, self, m.frm, [], E91⟩ : Msg)].getD 0 default).evs).length * 96 ≤ 140737488355328 := hde1203_1.small
       have hcw1207 := hS1200.cells hce1203 (hrd654.foot (ne_of_lt hi1204))
       obtain ⟨G1208, hA1210, hB1211, hS1212, hk1213⟩ := hS1200.lend
       have hrd1214 := RowE.rd hA1210
       have hrd1214s : _ * 96 ≤ _ := hrd1214.small
       refine (zj (f := 44) (vals := [.agg ((⟨3, self, m.frm, [], E91⟩ : Msg).cells (.slice none 0 0) ve88).toArray, .agg (([(⟨3, self, m.frm, [], E91⟩ : Msg)].getD 0 default).cells (zR w642 (sb v113) (so v113 + 0 * 5 + 3)) (zR w642 (sb v113) (so v113 + 0 * 5 + 4))).toArray]) (cap := []) rfl (yD ⟨e1201, e1202, trivial⟩) Try.call44 (yg (a := (⟨3, self, m.frm, [], E91⟩ : Msg)) (b := ([(⟨3, self, m.frm, [], E91⟩ : Msg)].getD 0 default)) (RdS.nil _ _) hrd1214 ⟨(show InR 3 from by decide), hself, om.frm⟩ (RdS.base hde1203_0 hB1211) (RdS.base hde1203_1 hB1211) hoke1203 hS1212) ?_)
       rintro _ w1215 ⟨rfl, hS1216⟩
       have hS1217 := hk1213 _ _ hS1216
       intro vals' hv hv'
       refine ⟨?_, trivial⟩
       show (vals' 8 = (.bool (decide ((⟨3, self, m.frm, [], E91⟩ : Msg) = ([(⟨3, self, m.frm, [], E91⟩ : Msg)].getD 0 default))) : Value)) ∧ Sep G648 w642 ((RowE (α := Ev) own 36 ve88 E91) :: (RefS b35 (1 + q26) (ze (1 + q26) l)) :: (SetO b32 (1 + q26) (ze (1 + q26) l)) :: (RowE (α := MsgS) own 57 v87 [(⟨3, self, m.frm, .slice none 0 0, ve88⟩ : MsgS)]) :: (Blk b2 (m.cells dm0 dm1).toArray 57) :: Rs) w1215
       exact ⟨hv, hS1217⟩
      ·intro k1294 vals w1295 h1298 h1299 hW1297 hA1296
       obtain rfl : k1294 = 1 := Nat.le_antisymm h1299 h1298
       obtain ⟨he1218, hS1300⟩ := hW1297
       refine obl rfl ?_
       have hl1301 : (!(decide ((⟨3, self, m.frm, [], E91⟩ : Msg) = ([(⟨3, self, m.frm, [], E91⟩ : Msg)].getD 0 default)))) = false := by simp
       exact yH (a := decide ((⟨3, self, m.frm, [], E91⟩ : Msg) = ([(⟨3, self, m.frm, [], E91⟩ : Msg)].getD 0 default))) he1218 (fun vals' hv _ => ⟨rfl, hv.trans (congrArg Value.bool hl1301)⟩)
      intro vals w1302 hW1303 hA1304
      obtain ⟨he1218, hS1305⟩ := hW1303
      have e1306 := hA1304 9 (by decide)
      refine yj (kv := [(2, .int .i64 (self)), (4, .int .i64 (chunk)), (8, .pointer (some ⟨b2, 0, none⟩)), (11, .pointer (some ⟨b32, 0, none⟩)), (12, .pointer (some ⟨b35, 0, none⟩)), (15, v87), (16, v113), (17, .int .i64 ((0 : Nat) : Int)), (82, v87), (83, .int .i64 (([(⟨3, self, m.frm, .slice none 0 0, ve88⟩ : MsgS)].length : Nat) : Int)), (84, .bool true), (96, .bool false)]) ⟨rfl, rfl, rfl, rfl, rfl, rfl, rfl, rfl, rfl, rfl, rfl, (by exact e1306), trivial⟩ (fun ρw1302 => ?_)
      refine zg ?_
      refine zk rfl ?_
      refine zp ?_
      refine zd ?_
      refine za (by kernel_rfl) (fun _ => ?_)
      refine st (zb (v := v87) rfl ?_)
      refine st (zb (v := .int .i64 ((0 : Nat) : Int)) rfl ?_)
      have hi1307 : 0 < [(⟨3, self, m.frm, .slice none 0 0, ve88⟩ : MsgS)].length := (by first | omega | (simp only [zu]; omega))
      refine st (zl (k := 5) (i := 0) Try.underlying58 Try.sizeOf57 rfl hr622.1 rfl hi1307 ?_)
      refine st (yh rfl ?_)
      have hi1309 : 0 < [(⟨3, self, m.frm, .slice none 0 0, ve88⟩ : MsgS)].length := (by first | omega | (simp only [zu]; omega))
      obtain ⟨_, _, hce1308, rfl, hoke1308⟩ := hS1305.rowAt (i := 3) (j := 0) rfl hi1309
      rw [← zo default hi1309] at hce1308 hoke1308
      refine st (zh (v := ([(⟨3, self, m.frm, .slice none 0 0, ve88⟩ : MsgS)].getD 0 default).vv) Try.isAgg34 rfl (hce1308.get (j := 3) rfl) ?_)
      have hS1310 : Sep G648 w642 ((RowE (α := Int) own 3 (.slice none 0 0) ([] : List Int)) :: (RowE (α := Ev) own 36 ve88 E91) :: (RefS b35 (1 + q26) (ze (1 + q26) l)) :: (SetO b32 (1 + q26) (ze (1 + q26) l)) :: (RowE (α := MsgS) own 57 v87 [(⟨3, self, m.frm, .slice none 0 0, ve88⟩ : MsgS)]) :: (Blk b2 (m.cells dm0 dm1).toArray 57) :: Rs) w1302 := hS1305.rowNil own 3
      obtain ⟨f1311, hm1312, hS1313⟩ := hS1310.toML
      refine st (zj (f := 37) (vals := [(.slice none 0 0)]) (cap := []) rfl rfl Try.call37 (yf  hm1312 hS1313) ?_)
      rintro _ w1314 ⟨rfl, hS1315⟩
      refine zg ?_
      refine za (by kernel_rfl) (fun _ => ?_)
      refine st (zb (v := v87) rfl ?_)
      refine st (zb (v := .int .i64 ((0 : Nat) : Int)) rfl ?_)
      have hi1316 : 0 < [(⟨3, self, m.frm, .slice none 0 0, ve88⟩ : MsgS)].length := (by first | omega | (simp only [zu]; omega))
      refine st (zl (k := 5) (i := 0) Try.underlying58 Try.sizeOf57 rfl hr622.1 rfl hi1316 ?_)
      refine st (xo rfl ?_)
      have hi1318 : 0 < [(⟨3, self, m.frm, .slice none 0 0, ve88⟩ : MsgS)].length := (by first | omega | (simp only [zu]; omega))
      obtain ⟨_, _, hce1317, rfl, hoke1317⟩ := hS1315.rowAt (i := 4) (j := 0) rfl hi1318
      rw [← zo default hi1318] at hce1317 hoke1317
      refine st (zh (v := ([(⟨3, self, m.frm, .slice none 0 0, ve88⟩ : MsgS)].getD 0 default).ve) Try.isAgg22 rfl (hce1317.get (j := 4) rfl) ?_)
      have hS1319 := hS1315.mv1
      obtain ⟨f1320, hm1321, hS1322⟩ := hS1319.toML
      refine st (zj (f := 45) (vals := [ve88]) (cap := []) rfl rfl Try.call45 (yR  hm1321 hS1322) ?_)
      rintro _ w1323 ⟨rfl, hS1324⟩
      refine zg ?_
      refine za (by kernel_rfl) (fun _ => ?_)
      refine st (zb (v := .int .i64 ((0 : Nat) : Int)) rfl ?_)
      have hr1325 : InR ((0 + 1 : Nat) : Int) := by first | omega | (simp only [zu]; omega)
      refine st (zU (r := ((0 + 1 : Nat) : Int)) (k := .i64) (a := ((0 : Nat) : Int)) (b := 1) rfl rfl (by rw [show (((0 : Nat) : Int) + 1 : Int) = ((0 + 1 : Nat) : Int) by first | omega | (simp only [zu]; omega)]; exact zH hr1325) ?_)
      refine st (zf (v := .int .i64 ((0 + 1 : Nat) : Int)) rfl ?_)
      refine zg ?_
      have hS1326 : Sep G648 w642 (Emp :: (ML w1302 f1311 noX) :: (RefS b35 (1 + q26) (ze (1 + q26) l)) :: (SetO b32 (1 + q26) (ze (1 + q26) l)) :: (RowE (α := MsgS) own 57 v87 [(⟨3, self, m.frm, .slice none 0 0, ve88⟩ : MsgS)]) :: (Blk b2 (m.cells dm0 dm1).toArray 57) :: Rs) w1323 := hS1324.emp
      have hS1327 : Sep G648 w642 ((if 0 + 1 ≤ 0 then (RowE (α := Ev) own 36 ve88 E91) else Emp) :: (ML w1302 f1311 noX) :: (RefS b35 (1 + q26) (ze (1 + q26) l)) :: (SetO b32 (1 + q26) (ze (1 + q26) l)) :: (RowE (α := MsgS) own 57 v87 [(⟨3, self, m.frm, .slice none 0 0, ve88⟩ : MsgS)]) :: (Blk b2 (m.cells dm0 dm1).toArray 57) :: Rs) w1323 := Sep.old hS1326 (by omega) (RowE (α := Ev) own 36 ve88 E91)
      have hS1328 : Sep G648 w642 ((if 0 + 1 ≤ 0 then (RowE (α := Ev) own 36 ve88 E91) else Emp) :: (RefS b35 (1 + q26) (ze (1 + q26) l)) :: (SetO b32 (1 + q26) (ze (1 + q26) l)) :: (RowE (α := MsgS) own 57 v87 [(⟨3, self, m.frm, .slice none 0 0, ve88⟩ : MsgS)]) :: (Blk b2 (m.cells dm0 dm1).toArray 57) :: Rs) w1323 := hS1327.sel 6 [0, 2, 3, 4, 5] (Nat.le_add_left _ _) rfl rfl
      exact ⟨_, (by omega), 0 + 1, _, rfl, zn ⟨rfl, rfl, rfl, rfl, rfl, rfl, rfl, rfl, trivial⟩, (by omega), hS1328⟩
   ·skip
    have hS1329 : Sep G W ((RefS b35 (1 + q26) (ze (1 + q26) l)) :: (RowE (α := Msg) own 57 v113 (xi (1 + q26) (ze (1 + q26) l) self m chunk)) :: (SetO b32 (1 + q26) (ze (1 + q26) l)) :: (RowE (α := Int) own 3 v044 m.vec) :: (RowE (α := Ev) own 36 v145 m.evs) :: (RowE (α := MsgS) own 57 v87 [(⟨3, self, m.frm, .slice none 0 0, ve88⟩ : MsgS), (⟨2, self, m.frm, vv89, .slice none 0 0⟩ : MsgS)]) :: (RowE (α := Ev) own 36 ve88 E91) :: (RowE (α := Int) own 3 vv89 V92) :: (Blk b51 (m.cells v044 v145).toArray 57) :: (Blk b2 (m.cells dm0 dm1).toArray 57) :: Rs) w114 := hS117
    have hr1330 := hS1329.row (i := 5) rfl
    have hr1330s : _ * 72 ≤ _ := hr1330.2
    rw [hA9118] at hS1329
    have hS1331 : Sep G W ((RefS b35 (1 + q26) (ze (1 + q26) l)) :: (RowE (α := Msg) own 57 v113 [(⟨3, self, m.frm, [], E91⟩ : Msg), (⟨2, self, m.frm, V92, []⟩ : Msg)]) :: (SetO b32 (1 + q26) (ze (1 + q26) l)) :: (RowE (α := Int) own 3 v044 m.vec) :: (RowE (α := Ev) own 36 v145 m.evs) :: (RowE (α := MsgS) own 57 v87 [(⟨3, self, m.frm, .slice none 0 0, ve88⟩ : MsgS), (⟨2, self, m.frm, vv89, .slice none 0 0⟩ : MsgS)]) :: (RowE (α := Ev) own 36 ve88 E91) :: (RowE (α := Int) own 3 vv89 V92) :: (Blk b51 (m.cells v044 v145).toArray 57) :: (Blk b2 (m.cells dm0 dm1).toArray 57) :: Rs) w114 := hS1329
    have hr1332 := hS1331.row (i := 1) rfl
    have hr1332s : _ * 72 ≤ _ := hr1332.2
    have hxl9 : [(⟨3, self, m.frm, .slice none 0 0, ve88⟩ : MsgS), (⟨2, self, m.frm, vv89, .slice none 0 0⟩ : MsgS)].length = 2 ∧ [(⟨3, self, m.frm, [], E91⟩ : Msg), (⟨2, self, m.frm, V92, []⟩ : Msg)].length = 2 := ⟨rfl, rfl⟩
    refine zF (by kernel_rfl) ?_
    refine st (zb (v := v87) rfl ?_)
    refine st (zB (n := [(⟨3, self, m.frm, .slice none 0 0, ve88⟩ : MsgS), (⟨2, self, m.frm, vv89, .slice none 0 0⟩ : MsgS)].length) Try.underlying58 rfl hr1330.1 ?_)
    refine st (zb (v := v113) rfl ?_)
    refine st (zB (n := [(⟨3, self, m.frm, [], E91⟩ : Msg), (⟨2, self, m.frm, V92, []⟩ : Msg)].length) Try.underlying58 rfl hr1332.1 ?_)
    have hkn1333 : (!decide ((([(⟨3, self, m.frm, .slice none 0 0, ve88⟩ : MsgS), (⟨2, self, m.frm, vv89, .slice none 0 0⟩ : MsgS)].length : Nat) : Int) = (([(⟨3, self, m.frm, [], E91⟩ : Msg), (⟨2, self, m.frm, V92, []⟩ : Msg)].length : Nat) : Int))) = false := by simp
    refine st (xh (congrArg Value.bool hkn1333) (fun K9 h9 => yu (k := .i64) (a := (([(⟨3, self, m.frm, .slice none 0 0, ve88⟩ : MsgS), (⟨2, self, m.frm, vv89, .slice none 0 0⟩ : MsgS)].length : Nat) : Int)) (b := (([(⟨3, self, m.frm, [], E91⟩ : Msg), (⟨2, self, m.frm, V92, []⟩ : Msg)].length : Nat) : Int)) rfl rfl h9) ?_)
    refine st (zb (v := .bool false) rfl ?_)
    refine sty rfl rfl (zv (k := 5) Try.isAgg57 Try.sizeOf57 rfl rfl (CellsAt.all (hS1331.blk (i := 8) rfl)) ?_)
    refine sty rfl rfl (zv (k := 5) Try.isAgg57 Try.sizeOf57 rfl rfl (CellsAt.all (hS1331.blk (i := 9) rfl)) ?_)
    have hS1334 := hS1331.mv3
    obtain ⟨G1335, hA1337, hB1338, hS1339, hk1340⟩ := hS1334.lend
    have hrd1341 := RowE.rd hA1337
    have hrd1341s : _ * 8 ≤ _ := hrd1341.small
    have hS1342 := hS1339.mv3
    obtain ⟨G1343, hA1345, hB1346, hS1347, hk1348⟩ := hS1342.lend
    have hrd1349 := RowE.rd hA1345
    have hrd1349s : _ * 96 ≤ _ := hrd1349.small
    refine sty rfl rfl (zj (f := 44) (vals := [.agg (m.cells v044 v145).toArray, .agg (m.cells dm0 dm1).toArray]) (cap := []) rfl rfl Try.call44 (yg (a := m) (b := m) (RdS.base hrd1341 hB1346) hrd1349 om (RdS.base (RdS.base hdm0 hB1338) hB1346) (RdS.base (RdS.base hdm1 hB1338) hB1346) om hS1347) ?_)
    rintro _ w1350 ⟨rfl, hS1351⟩
    have hS1352 := hk1348 _ _ hS1351
    have hS1353 := hk1340 _ _ hS1352
    have hkn1354 : (decide (m = m)) = true := decide_eq_true rfl
    rw [hkn1354]
    refine sty rfl rfl (yH (a := true) rfl ?_)
    refine st (xc (v := .bool false) rfl rfl ?_)
    refine zg ?_
    refine zk rfl ?_
    refine zp ?_
    refine zd ?_
    refine zd ?_
    have hS1355 := hS1353.mv3
    obtain ⟨G1356, hA1358, hB1359, hS1360, hk1361⟩ := hS1355.lend
    have hrd1362 := RowE.rd hA1358
    have hrd1362s : _ * 72 ≤ _ := hrd1362.small
    have hS1363 : Sep G1356 w1350 ((RefS b35 (1 + q26) (ze (1 + q26) l)) :: (SetO b32 (1 + q26) (ze (1 + q26) l)) :: (RowE (α := MsgS) own 57 v87 [(⟨3, self, m.frm, .slice none 0 0, ve88⟩ : MsgS), (⟨2, self, m.frm, vv89, .slice none 0 0⟩ : MsgS)]) :: (RowE (α := Ev) own 36 ve88 E91) :: (RowE (α := Int) own 3 vv89 V92) :: (Blk b2 (m.cells dm0 dm1).toArray 57) :: Rs) w1350 := hS1360.sel 9 [2, 3, 4, 5, 6, 8] (Nat.le_add_left _ _) rfl rfl
    have hS1364 := hS1363.mv3
    have hS1365 : Sep G1356 w1350 ((if 0 ≤ 0 then (RowE (α := Ev) own 36 ve88 E91) else Emp) :: (RefS b35 (1 + q26) (ze (1 + q26) l)) :: (SetO b32 (1 + q26) (ze (1 + q26) l)) :: (RowE (α := MsgS) own 57 v87 [(⟨3, self, m.frm, .slice none 0 0, ve88⟩ : MsgS), (⟨2, self, m.frm, vv89, .slice none 0 0⟩ : MsgS)]) :: (RowE (α := Int) own 3 vv89 V92) :: (Blk b2 (m.cells dm0 dm1).toArray 57) :: Rs) w1350 := Sep.yet hS1364 (Nat.zero_le _)
    have hS1366 := hS1365.mv4
    have hS1367 : Sep G1356 w1350 ((if 0 ≤ 1 then (RowE (α := Int) own 3 vv89 V92) else Emp) :: (if 0 ≤ 0 then (RowE (α := Ev) own 36 ve88 E91) else Emp) :: (RefS b35 (1 + q26) (ze (1 + q26) l)) :: (SetO b32 (1 + q26) (ze (1 + q26) l)) :: (RowE (α := MsgS) own 57 v87 [(⟨3, self, m.frm, .slice none 0 0, ve88⟩ : MsgS), (⟨2, self, m.frm, vv89, .slice none 0 0⟩ : MsgS)]) :: (Blk b2 (m.cells dm0 dm1).toArray 57) :: Rs) w1350 := Sep.yet hS1366 (Nat.zero_le _)
    refine za (by kernel_rfl) (fun _ => ?_)
    refine st (zf (v := .int .i64 (0)) rfl ?_)
    refine zg ?_
    refine zx ?_
    refine yb (fun mq σ wq => ∃ (i9 : Nat) (ρ : Env), mq = 2 - i9 ∧ σ = ye ρ [(2, .int .i64 (self)), (4, .int .i64 (chunk)), (8, .pointer (some ⟨b2, 0, none⟩)), (11, .pointer (some ⟨b32, 0, none⟩)), (12, .pointer (some ⟨b35, 0, none⟩)), (15, v87), (16, v113), (17, .int .i64 ((i9 : Nat) : Int))] ∧ (i9 ≤ 2) ∧ Sep G1356 w1350 ((if i9 ≤ 1 then (RowE (α := Int) own 3 vv89 V92) else Emp) :: (if i9 ≤ 0 then (RowE (α := Ev) own 36 ve88 E91) else Emp) :: (RefS b35 (1 + q26) (ze (1 + q26) l)) :: (SetO b32 (1 + q26) (ze (1 + q26) l)) :: (RowE (α := MsgS) own 57 v87 [(⟨3, self, m.frm, .slice none 0 0, ve88⟩ : MsgS), (⟨2, self, m.frm, vv89, .slice none 0 0⟩ : MsgS)]) :: (Blk b2 (m.cells dm0 dm1).toArray 57) :: Rs) wq) ⟨0, _, rfl, zn ⟨rfl, rfl, rfl, rfl, rfl, rfl, rfl, rfl, trivial⟩, Nat.zero_le _, hS1367⟩ ?_
    rintro m1369 σ1370 w1368 ⟨i9, ρl4, rfl, rfl, hi9, hS1371⟩
    refine zd ?_
    refine zd ?_
    refine za (by kernel_rfl) (fun _ => ?_)
    refine st (zb (v := .int .i64 ((i9 : Nat) : Int)) rfl ?_)
    refine st (zb (v := v87) rfl ?_)
    refine st (zB (n := [(⟨3, self, m.frm, .slice none 0 0, ve88⟩ : MsgS), (⟨2, self, m.frm, vv89, .slice none 0 0⟩ : MsgS)].length) Try.underlying58 rfl hr1330.1 ?_)
    refine st (zJ (k := .i64) (a := ((i9 : Nat) : Int)) (b := (([(⟨3, self, m.frm, .slice none 0 0, ve88⟩ : MsgS), (⟨2, self, m.frm, vv89, .slice none 0 0⟩ : MsgS)].length : Nat) : Int)) rfl rfl ?_)
    refine zg ?_
    cases hc1372 : decide (((i9 : Nat) : Int) < (([(⟨3, self, m.frm, .slice none 0 0, ve88⟩ : MsgS), (⟨2, self, m.frm, vv89, .slice none 0 0⟩ : MsgS)].length : Nat) : Int))
    ·skip
     have hc1372r := hc1372
     have hc1372 := of_decide_eq_false hc1372
     refine zk rfl ?_
     refine ya ?_
     refine zQ ?_
     refine zd ?_
     refine za (by kernel_rfl) (fun _ => ?_)
     refine st (zb (v := .pointer (some ⟨b32, 0, none⟩)) rfl ?_)
     refine st (zb (v := .int .i64 (self)) rfl ?_)
     refine st (zb (v := .int .i64 (chunk)) rfl ?_)
     have hS1373 := hS1371.mv3
     obtain ⟨G1374, hA1376, hB1377, hS1378, hk1379⟩ := hS1373.lend
     obtain ⟨vv1380, m1381, R1382, hb1383, hv1384, hr1385⟩ := SetO.sh hA1376
     have hsm1386 : (zc (1 + q26) (ze (1 + q26) l)).length * 8 ≤ 140737488355328 := hv1384.small
     refine st (zj (f := 46) (vals := [.pointer (some ⟨b32, 0, none⟩), .int .i64 (self), .int .i64 (chunk)]) (cap := []) rfl rfl Try.call46 (xV (fr := self) (tt := chunk) hA1376 (by omega) (by omega) hS1378) ?_)
     rintro _ w1389 ⟨v1387, rfl, hmo1388, hS1390⟩
     have hr1391 := hS1390.row (i := 0) rfl
     have hr1391s : _ * 8 ≤ _ := hr1391.2
     have hS1392 := hk1379 _ _ hS1390
     refine st (zX Try.zeroValue57 ?_)
     intro w1395 b1394 hn1393
     have hS1396 := hS1392.new hn1393
     refine stn (zT (v := .agg ((⟨1, self, chunk, zc (1 + q26) (ze (1 + q26) l), []⟩ : Msg).cells v1387 (.slice none 0 0)).toArray) (c' := ((⟨1, self, chunk, zc (1 + q26) (ze (1 + q26) l), []⟩ : Msg).cells v1387 (.slice none 0 0)).toArray) Try.sizeOf57 rfl rfl (hS1396.blk (i := 0) rfl) (yz ⟨rfl, rfl, rfl, hr1391.1.one, rfl, trivial⟩) (Nat.le_of_ble_eq_true rfl) rfl ?_)
     intro w1397 hp1398
     have hS1399 := hS1396.pt0 hp1398
     refine zg ?_
     refine zd ?_
     refine za (by kernel_rfl) (fun _ => ?_)
     refine st (zb (v := .pointer (some ⟨b32, 0, none⟩)) rfl ?_)
     refine st (zb (v := .int .i64 (self)) rfl ?_)
     refine st (zb (v := .int .i64 (chunk)) rfl ?_)
     have hS1400 := hS1399.mv1
     obtain ⟨G1401, hA1403, hB1404, hS1405, hk1406⟩ := hS1400.lend
     obtain ⟨vv1407, m1408, R1409, hb1410, hv1411, hr1412⟩ := SetO.sh hA1403
     have hsm1413 : (zc (1 + q26) (ze (1 + q26) l)).length * 8 ≤ 140737488355328 := hv1411.small
     refine st (zj (f := 47) (vals := [.pointer (some ⟨b32, 0, none⟩), .int .i64 (self), .int .i64 (chunk)]) (cap := []) rfl rfl Try.call47 (ZY (fr := self) (tt := chunk) hA1403 (by omega) (by omega) hS1405) ?_)
     rintro _ w1416 ⟨v1414, rfl, hmo1415, hS1417⟩
     have hr1418 := hS1417.row (i := 0) rfl
     have hr1418s : _ * 8 ≤ _ := hr1418.2
     have hS1419 := hk1406 _ _ hS1417
     refine st (zX Try.zeroValue57 ?_)
     intro w1422 b1421 hn1420
     have hS1423 := hS1419.new hn1420
     refine stn (zT (v := .agg ((⟨4, self, chunk, zc (1 + q26) (ze (1 + q26) l), []⟩ : Msg).cells v1414 (.slice none 0 0)).toArray) (c' := ((⟨4, self, chunk, zc (1 + q26) (ze (1 + q26) l), []⟩ : Msg).cells v1414 (.slice none 0 0)).toArray) Try.sizeOf57 rfl rfl (hS1423.blk (i := 0) rfl) (yz ⟨rfl, rfl, rfl, hr1418.1.one, rfl, trivial⟩) (Nat.le_of_ble_eq_true rfl) rfl ?_)
     intro w1424 hp1425
     have hS1426 := hS1423.pt0 hp1425
     refine zg ?_
     refine zd ?_
     refine zS ((fun TT pp0 pp1 pp2 pp3 pp4 pp5 pp6 pp7 => WF [fun vals wq => Sep G1356 w1350 (pp0 :: pp1 :: pp2 :: pp3 :: pp4 :: pp5 :: pp6 :: pp7 :: TT) wq, fun vals wq => ∃ (v1473 : Value), (vals 4 = (.agg ((⟨1, self, chunk, zc (1 + q26) (ze (1 + q26) l), []⟩ : Msg).cells v1473 (.slice none 0 0)).toArray : Value)) ∧ ((⟨1, self, chunk, zc (1 + q26) (ze (1 + q26) l), []⟩ : Msg).Ok) ∧ Sep G1356 w1350 (pp7 :: (RowE (α := Int) own 3 v1473 (zc (1 + q26) (ze (1 + q26) l))) :: pp0 :: pp1 :: pp2 :: pp3 :: pp4 :: pp5 :: pp6 :: TT) wq, fun vals wq => ∃ (v1473 : Value), (vals 4 = (.agg ((⟨1, self, chunk, zc (1 + q26) (ze (1 + q26) l), []⟩ : Msg).cells v1473 (.slice none 0 0)).toArray : Value)) ∧ (vals 5 = (.bool (decide ((⟨1, self, chunk, zc (1 + q26) (ze (1 + q26) l), []⟩ : Msg) = (⟨1, self, chunk, zc (1 + q26) (ze (1 + q26) l), []⟩ : Msg))) : Value)) ∧ ((⟨1, self, chunk, zc (1 + q26) (ze (1 + q26) l), []⟩ : Msg).Ok) ∧ Sep G1356 w1350 (pp4 :: (RowE (α := Int) own 3 v1473 (zc (1 + q26) (ze (1 + q26) l))) :: pp7 :: pp0 :: pp1 :: pp2 :: pp3 :: pp5 :: pp6 :: TT) wq, fun vals wq => ∃ (v1473 : Value) (v1568 : Value), (vals 4 = (.agg ((⟨1, self, chunk, zc (1 + q26) (ze (1 + q26) l), []⟩ : Msg).cells v1473 (.slice none 0 0)).toArray : Value)) ∧ (vals 5 = (.bool (decide ((⟨1, self, chunk, zc (1 + q26) (ze (1 + q26) l), []⟩ : Msg) = (⟨1, self, chunk, zc (1 + q26) (ze (1 + q26) l), []⟩ : Msg))) : Value)) ∧ (vals 11 = (.agg ((⟨4, self, chunk, zc (1 + q26) (ze (1 + q26) l), []⟩ : Msg).cells v1568 (.slice none 0 0)).toArray : Value)) ∧ ((⟨1, self, chunk, zc (1 + q26) (ze (1 + q26) l), []⟩ : Msg).Ok) ∧ ((⟨4, self, chunk, zc (1 + q26) (ze (1 + q26) l), []⟩ : Msg).Ok) ∧ Sep G1356 w1350 (pp7 :: (RowE (α := Int) own 3 v1568 (zc (1 + q26) (ze (1 + q26) l))) :: pp4 :: (RowE (α := Int) own 3 v1473 (zc (1 + q26) (ze (1 + q26) l))) :: pp0 :: pp1 :: pp2 :: pp3 :: pp5 :: pp6 :: TT) wq, fun vals wq => ∃ (v1473 : Value) (v1568 : Value), (vals 4 = (.agg ((⟨1, self, chunk, zc (1 + q26) (ze (1 + q26) l), []⟩ : Msg).cells v1473 (.slice none 0 0)).toArray : Value)) ∧ (vals 5 = (.bool (decide ((⟨1, self, chunk, zc (1 + q26) (ze (1 + q26) l), []⟩ : Msg) = (⟨1, self, chunk, zc (1 + q26) (ze (1 + q26) l), []⟩ : Msg))) : Value)) ∧ (vals 11 = (.agg ((⟨4, self, chunk, zc (1 + q26) (ze (1 + q26) l), []⟩ : Msg).cells v1568 (.slice none 0 0)).toArray : Value)) ∧ (vals 12 = (.bool (decide ((⟨4, self, chunk, zc (1 + q26) (ze (1 + q26) l), []⟩ : Msg) = (⟨4, self, chunk, zc (1 + q26) (ze (1 + q26) l), []⟩ : Msg))) : Value)) ∧ ((⟨1, self, chunk, zc (1 + q26) (ze (1 + q26) l), []⟩ : Msg).Ok) ∧ ((⟨4, self, chunk, zc (1 + q26) (ze (1 + q26) l), []⟩ : Msg).Ok) ∧ Sep G1356 w1350 (pp2 :: (RowE (α := Int) own 3 v1568 (zc (1 + q26) (ze (1 + q26) l))) :: pp7 :: pp4 :: (RowE (α := Int) own 3 v1473 (zc (1 + q26) (ze (1 + q26) l))) :: pp0 :: pp1 :: pp3 :: pp5 :: pp6 :: TT) wq]) ((RowE (α := MsgS) own 57 v87 [(⟨3, self, m.frm, .slice none 0 0, ve88⟩ : MsgS), (⟨2, self, m.frm, vv89, .slice none 0 0⟩ : MsgS)]) :: (Blk b2 (m.cells dm0 dm1).toArray 57) :: Rs) (Blk b1421 ((⟨4, self, chunk, zc (1 + q26) (ze (1 + q26) l), []⟩ : Msg).cells v1414 (.slice none 0 0)).toArray 57) (SetO b32 (1 + q26) (ze (1 + q26) l)) (RowE (α := Int) own 3 v1414 (zc (1 + q26) (ze (1 + q26) l))) (Blk b1394 ((⟨1, self, chunk, zc (1 + q26) (ze (1 + q26) l), []⟩ : Msg).cells v1387 (.slice none 0 0)).toArray 57) (RowE (α := Int) own 3 v1387 (zc (1 + q26) (ze (1 + q26) l))) (if i9 ≤ 1 then (RowE (α := Int) own 3 vv89 V92) else Emp) (if i9 ≤ 0 then (RowE (α := Ev) own 36 ve88 E91) else Emp) (RefS b35 (1 + q26) (ze (1 + q26) l))) (AF [Vl 0 (.agg ((⟨1, self, chunk, zc (1 + q26) (ze (1 + q26) l), []⟩ : Msg).cells v1387 (.slice none 0 0)).toArray), Vl 1 (.pointer (some ⟨b35, 0, none⟩)), Vl 2 (.int .i64 (self)), Vl 3 (.int .i64 (chunk)), fun _ => True, fun _ => True, Vl 6 (.bool true), Vl 7 (.agg ((⟨4, self, chunk, zc (1 + q26) (ze (1 + q26) l), []⟩ : Msg).cells v1414 (.slice none 0 0)).toArray), Vl 8 (.pointer (some ⟨b35, 0, none⟩)), Vl 9 (.int .i64 (self)), Vl 10 (.int .i64 (chunk)), fun _ => True, fun _ => True, Vl 13 (.bool true), Vl 14 (.bool true)]) [[], [], [], [], [1, 2, 3], [0, 1, 2, 3, 4], [0, 1, 2, 3, 4, 5], [0, 1, 2, 3, 4, 5, 6], [0, 1, 2, 3, 4, 5, 6], [0, 1, 2, 3, 4, 5, 6], [0, 1, 2, 3, 4, 5, 6], [0, 1, 2, 3, 4, 5, 6, 8, 9, 10], [0, 1, 2, 3, 4, 5, 6, 7, 8, 9, 10, 11], [0, 1, 2, 3, 4, 5, 6, 7, 8, 9, 10, 11, 12], [0, 1, 2, 3, 4, 5, 6, 7, 8, 9, 10, 11, 12, 13]] [4, 5, 11, 12] [(0, 1), (0, 0), (0, 0), (0, 0), (0, 0), (1, 1), (2, 2), (2, 3), (2, 2), (2, 2), (2, 2), (2, 2), (3, 3), (4, 4), (4, 4)] (by kernel_rfl) (by kernel_rfl) (by kernel_rfl) rfl (by kernel_rfl) (by kernel_rfl) (fun _ h1 h2 h3 h4 _ => hS1426.same h1 h2 h3 h4) ?_ (yk ⟨dA, dA, dA, dA, dT, dT, dA, dA, dA, dA, dA, dT, dT, dA, dA, trivial⟩) ⟨?_, ?_, ?_, ?_, ?_, ?_, ?_, ?_, ?_, ?_, ?_, ?_, ?_, ?_, ?_, trivial⟩ ?_
     ·intro k vals vals' w hv h
      have e : ∀ j ∈ ([4, 5, 11, 12] : List Nat), vals' j = vals j := hv
      match k, h with
      | 0, h => exact h
      | 1, h => exact (by simpa only [WF, List.getElem?_cons_zero, List.getElem?_cons_succ, e 4 (by decide)] using h)
      | 2, h => exact (by simpa only [WF, List.getElem?_cons_zero, List.getElem?_cons_succ, e 4 (by decide), e 5 (by decide)] using h)
      | 3, h => exact (by simpa only [WF, List.getElem?_cons_zero, List.getElem?_cons_succ, e 4 (by decide), e 5 (by decide), e 11 (by decide)] using h)
      | 4, h => exact (by simpa only [WF, List.getElem?_cons_zero, List.getElem?_cons_succ, e 4 (by decide), e 5 (by decide), e 11 (by decide), e 12 (by decide)] using h)
      | _ + 5, _ => trivial
     ·intro k1621 vals w1622 h1625 h1626 hW1624 hA1623
      have hkk : k1621 = 0 ∨ k1621 = 1 := by have h1 : 0 ≤ k1621 := h1625; have h2 : k1621 ≤ 1 := h1626; omega
      rcases hkk with rfl | rfl
      ·skip
       have hS1627 : Sep _ _ _ _ := hW1624
       refine obl rfl ?_
       exact zv (k := 5) Try.isAgg57 Try.sizeOf57 rfl rfl (CellsAt.all (hS1627.blk (i := 3) rfl)) (fun vals' hv _ => ⟨rfl, hv⟩)
      ·skip
       obtain ⟨v1473, he1479, hmo1474, hS1628⟩ := hW1624
       refine obl rfl ?_
       exact zv (k := 5) Try.isAgg57 Try.sizeOf57 rfl rfl (CellsAt.all (hS1628.blk (i := 5) rfl)) (fun vals' hv _ => ⟨rfl, hv⟩)
     ·intro k1629 vals w1630 h1633 h1634 hW1632 hA1631
      refine obl rfl ?_
      exact zb (v := .pointer (some ⟨b35, 0, none⟩)) rfl (fun vals' hv _ => ⟨rfl, hv⟩)
     ·intro k1635 vals w1636 h1639 h1640 hW1638 hA1637
      refine obl rfl ?_
      exact zb (v := .int .i64 (self)) rfl (fun vals' hv _ => ⟨rfl, hv⟩)
     ·intro k1641 vals w1642 h1645 h1646 hW1644 hA1643
      refine obl rfl ?_
      exact zb (v := .int .i64 (chunk)) rfl (fun vals' hv _ => ⟨rfl, hv⟩)
     ·intro k1452 vals w1453 h1456 h1457 hW1455 hA1454
      obtain rfl : k1452 = 0 := Nat.le_antisymm h1457 h1456
      have hS1458 : Sep _ _ _ _ := hW1455
      have e1459 := hA1454 1 (by decide)
      have e1460 := hA1454 2 (by decide)
      have e1461 := hA1454 3 (by decide)
      refine obl rfl ?_
      have hS1462 := hS1458.mv7
      obtain ⟨G1463, hA1465, hB1466, hS1467, hk1468⟩ := hS1462.lend
      obtain ⟨vl1469, hb1470, hl1471⟩ := RefS.sh hA1465
      have hsm1472 : (ze (1 + q26) l).length * 96 ≤ 140737488355328 := hl1471.small
      refine (zj (f := 48) (vals := [.pointer (some ⟨b35, 0, none⟩), .int .i64 (self), .int .i64 (chunk)]) (cap := []) rfl (yD ⟨e1459, e1460, e1461, trivial⟩) Try.call48 (xD (fr := self) (tt := chunk) hA1465 (by omega) (by omega) hS1467 (by first | exact hG9 | exact laidL_good) ((by omega))) ?_)
      rintro _ w1475 ⟨v1473, rfl, hmo1474, hS1476⟩
      have hr1477 := hS1476.row (i := 0) rfl
      have hr1477s : _ * 8 ≤ _ := hr1477.2
      have hS1478 := hk1468 _ _ hS1476
      intro vals' hv hv'
      refine ⟨?_, trivial⟩
      show ∃ (v1473 : Value), (vals' 4 = (.agg ((⟨1, self, chunk, zc (1 + q26) (ze (1 + q26) l), []⟩ : Msg).cells v1473 (.slice none 0 0)).toArray : Value)) ∧ ((⟨1, self, chunk, zc (1 + q26) (ze (1 + q26) l), []⟩ : Msg).Ok) ∧ Sep G1356 w1350 ((RefS b35 (1 + q26) (ze (1 + q26) l)) :: (RowE (α := Int) own 3 v1473 (zc (1 + q26) (ze (1 + q26) l))) :: (Blk b1421 ((⟨4, self, chunk, zc (1 + q26) (ze (1 + q26) l), []⟩ : Msg).cells v1414 (.slice none 0 0)).toArray 57) :: (SetO b32 (1 + q26) (ze (1 + q26) l)) :: (RowE (α := Int) own 3 v1414 (zc (1 + q26) (ze (1 + q26) l))) :: (Blk b1394 ((⟨1, self, chunk, zc (1 + q26) (ze (1 + q26) l), []⟩ : Msg).cells v1387 (.slice none 0 0)).toArray 57) :: (RowE (α := Int) own 3 v1387 (zc (1 + q26) (ze (1 + q26) l))) :: (if i9 ≤ 1 then (RowE (α := Int) own 3 vv89 V92) else Emp) :: (if i9 ≤ 0 then (RowE (α := Ev) own 36 ve88 E91) else Emp) :: (RowE (α := MsgS) own 57 v87 [(⟨3, self, m.frm, .slice none 0 0, ve88⟩ : MsgS), (⟨2, self, m.frm, vv89, .slice none 0 0⟩ : MsgS)]) :: (Blk b2 (m.cells dm0 dm1).toArray 57) :: Rs) w1475
      exact ⟨v1473, hv, hmo1474, hS1478⟩
     ·intro k1480 vals w1481 h1484 h1485 hW1483 hA1482
      obtain rfl : k1480 = 1 := Nat.le_antisymm h1485 h1484
      obtain ⟨v1473, he1479, hmo1474, hS1486⟩ := hW1483
      have e1487 := hA1482 0 (by decide)
      refine obl rfl ?_
      have hS1488 := hS1486.mv6
      obtain ⟨G1489, hA1491, hB1492, hS1493, hk1494⟩ := hS1488.lend
      have hrd1495 := RowE.rd hA1491
      have hrd1495s : _ * 8 ≤ _ := hrd1495.small
      have hS1496 := hS1493.mv1
      obtain ⟨G1497, hA1499, hB1500, hS1501, hk1502⟩ := hS1496.lend
      have hrd1503 := RowE.rd hA1499
      have hrd1503s : _ * 8 ≤ _ := hrd1503.small
      refine (zj (f := 44) (vals := [.agg ((⟨1, self, chunk, zc (1 + q26) (ze (1 + q26) l), []⟩ : Msg).cells v1387 (.slice none 0 0)).toArray, .agg ((⟨1, self, chunk, zc (1 + q26) (ze (1 + q26) l), []⟩ : Msg).cells v1473 (.slice none 0 0)).toArray]) (cap := []) rfl (yD ⟨e1487, he1479, trivial⟩) Try.call44 (yg (a := (⟨1, self, chunk, zc (1 + q26) (ze (1 + q26) l), []⟩ : Msg)) (b := (⟨1, self, chunk, zc (1 + q26) (ze (1 + q26) l), []⟩ : Msg)) (RdS.base hrd1495 hB1500) (RdS.nil _ _) hmo1474 hrd1503 (RdS.nil _ _) hmo1474 hS1501) ?_)
      rintro _ w1504 ⟨rfl, hS1505⟩
      have hS1506 := hk1502 _ _ hS1505
      have hS1507 := hk1494 _ _ hS1506
      intro vals' hv hv'
      refine ⟨?_, trivial⟩
      show ∃ (v1473 : Value), (vals' 4 = (.agg ((⟨1, self, chunk, zc (1 + q26) (ze (1 + q26) l), []⟩ : Msg).cells v1473 (.slice none 0 0)).toArray : Value)) ∧ (vals' 5 = (.bool (decide ((⟨1, self, chunk, zc (1 + q26) (ze (1 + q26) l), []⟩ : Msg) = (⟨1, self, chunk, zc (1 + q26) (ze (1 + q26) l), []⟩ : Msg))) : Value)) ∧ ((⟨1, self, chunk, zc (1 + q26) (ze (1 + q26) l), []⟩ : Msg).Ok) ∧ Sep G1356 w1350 ((RowE (α := Int) own 3 v1387 (zc (1 + q26) (ze (1 + q26) l))) :: (RowE (α := Int) own 3 v1473 (zc (1 + q26) (ze (1 + q26) l))) :: (RefS b35 (1 + q26) (ze (1 + q26) l)) :: (Blk b1421 ((⟨4, self, chunk, zc (1 + q26) (ze (1 + q26) l), []⟩ : Msg).cells v1414 (.slice none 0 0)).toArray 57) :: (SetO b32 (1 + q26) (ze (1 + q26) l)) :: (RowE (α := Int) own 3 v1414 (zc (1 + q26) (ze (1 + q26) l))) :: (Blk b1394 ((⟨1, self, chunk, zc (1 + q26) (ze (1 + q26) l), []⟩ : Msg).cells v1387 (.slice none 0 0)).toArray 57) :: (if i9 ≤ 1 then (RowE (α := Int) own 3 vv89 V92) else Emp) :: (if i9 ≤ 0 then (RowE (α := Ev) own 36 ve88 E91) else Emp) :: (RowE (α := MsgS) own 57 v87 [(⟨3, self, m.frm, .slice none 0 0, ve88⟩ : MsgS), (⟨2, self, m.frm, vv89, .slice none 0 0⟩ : MsgS)]) :: (Blk b2 (m.cells dm0 dm1).toArray 57) :: Rs) w1504
      exact ⟨v1473, (by rw [hv' 4 (by decide)]; exact he1479), hv, hmo1474, hS1507⟩
     ·intro k1647 vals w1648 h1651 h1652 hW1650 hA1649
      obtain rfl : k1647 = 2 := Nat.le_antisymm h1652 h1651
      obtain ⟨v1473, he1479, he1508, hmo1474, hS1653⟩ := hW1650
      refine obl rfl ?_
      have hl1654 : (decide ((⟨1, self, chunk, zc (1 + q26) (ze (1 + q26) l), []⟩ : Msg) = (⟨1, self, chunk, zc (1 + q26) (ze (1 + q26) l), []⟩ : Msg))) = true := decide_eq_true rfl
      exact zb (v := .bool (decide ((⟨1, self, chunk, zc (1 + q26) (ze (1 + q26) l), []⟩ : Msg) = (⟨1, self, chunk, zc (1 + q26) (ze (1 + q26) l), []⟩ : Msg)))) he1508 (fun vals' hv _ => ⟨rfl, hv.trans (congrArg Value.bool hl1654)⟩)
     ·intro k1655 vals w1656 h1659 h1660 hW1658 hA1657
      have hkk : k1655 = 2 ∨ k1655 = 3 := by have h1 : 2 ≤ k1655 := h1659; have h2 : k1655 ≤ 3 := h1660; omega
      rcases hkk with rfl | rfl
      ·skip
       obtain ⟨v1473, he1479, he1508, hmo1474, hS1661⟩ := hW1658
       have e1662 := hA1657 6 (by decide)
       refine ym rfl rfl e1662 (fun _ => ?_) (fun hb => absurd rfl hb)
       exact zv (k := 5) Try.isAgg57 Try.sizeOf57 rfl rfl (CellsAt.all (hS1661.blk (i := 3) rfl)) (fun vals' hv _ => ⟨rfl, hv⟩)
      ·skip
       obtain ⟨v1473, v1568, he1479, he1508, he1574, hmo1474, hmo1569, hS1663⟩ := hW1658
       have e1664 := hA1657 6 (by decide)
       refine ym rfl rfl e1664 (fun _ => ?_) (fun hb => absurd rfl hb)
       exact zv (k := 5) Try.isAgg57 Try.sizeOf57 rfl rfl (CellsAt.all (hS1663.blk (i := 4) rfl)) (fun vals' hv _ => ⟨rfl, hv⟩)
     ·intro k1665 vals w1666 h1669 h1670 hW1668 hA1667
      have e1671 := hA1667 6 (by decide)
      refine ym rfl rfl e1671 (fun _ => ?_) (fun hb => absurd rfl hb)
      exact zb (v := .pointer (some ⟨b35, 0, none⟩)) rfl (fun vals' hv _ => ⟨rfl, hv⟩)
     ·intro k1672 vals w1673 h1676 h1677 hW1675 hA1674
      have e1678 := hA1674 6 (by decide)
      refine ym rfl rfl e1678 (fun _ => ?_) (fun hb => absurd rfl hb)
      exact zb (v := .int .i64 (self)) rfl (fun vals' hv _ => ⟨rfl, hv⟩)
     ·intro k1679 vals w1680 h1683 h1684 hW1682 hA1681
      have e1685 := hA1681 6 (by decide)
      refine ym rfl rfl e1685 (fun _ => ?_) (fun hb => absurd rfl hb)
      exact zb (v := .int .i64 (chunk)) rfl (fun vals' hv _ => ⟨rfl, hv⟩)
     ·intro k1546 vals w1547 h1550 h1551 hW1549 hA1548
      obtain rfl : k1546 = 2 := Nat.le_antisymm h1551 h1550
      obtain ⟨v1473, he1479, he1508, hmo1474, hS1552⟩ := hW1549
      have e1553 := hA1548 6 (by decide)
      have e1554 := hA1548 8 (by decide)
      have e1555 := hA1548 9 (by decide)
      have e1556 := hA1548 10 (by decide)
      refine ym rfl rfl e1553 (fun _ => ?_) (fun hb => absurd rfl hb)
      have hS1557 := hS1552.mv2
      obtain ⟨G1558, hA1560, hB1561, hS1562, hk1563⟩ := hS1557.lend
      obtain ⟨vl1564, hb1565, hl1566⟩ := RefS.sh hA1560
      have hsm1567 : (ze (1 + q26) l).length * 96 ≤ 140737488355328 := hl1566.small
      refine (zj (f := 49) (vals := [.pointer (some ⟨b35, 0, none⟩), .int .i64 (self), .int .i64 (chunk)]) (cap := []) rfl (yD ⟨e1554, e1555, e1556, trivial⟩) Try.call49 (ZC (fr := self) (tt := chunk) hA1560 (by omega) (by omega) hS1562 (by first | exact hG9 | exact laidL_good) ((by omega))) ?_)
      rintro _ w1570 ⟨v1568, rfl, hmo1569, hS1571⟩
      have hr1572 := hS1571.row (i := 0) rfl
      have hr1572s : _ * 8 ≤ _ := hr1572.2
      have hS1573 := hk1563 _ _ hS1571
      intro vals' hv hv'
      refine ⟨?_, trivial⟩
      show ∃ (v1473 : Value) (v1568 : Value), (vals' 4 = (.agg ((⟨1, self, chunk, zc (1 + q26) (ze (1 + q26) l), []⟩ : Msg).cells v1473 (.slice none 0 0)).toArray : Value)) ∧ (vals' 5 = (.bool (decide ((⟨1, self, chunk, zc (1 + q26) (ze (1 + q26) l), []⟩ : Msg) = (⟨1, self, chunk, zc (1 + q26) (ze (1 + q26) l), []⟩ : Msg))) : Value)) ∧ (vals' 11 = (.agg ((⟨4, self, chunk, zc (1 + q26) (ze (1 + q26) l), []⟩ : Msg).cells v1568 (.slice none 0 0)).toArray : Value)) ∧ ((⟨1, self, chunk, zc (1 + q26) (ze (1 + q26) l), []⟩ : Msg).Ok) ∧ ((⟨4, self, chunk, zc (1 + q26) (ze (1 + q26) l), []⟩ : Msg).Ok) ∧ Sep G1356 w1350 ((RefS b35 (1 + q26) (ze (1 + q26) l)) :: (RowE (α := Int) own 3 v1568 (zc (1 + q26) (ze (1 + q26) l))) :: (RowE (α := Int) own 3 v1387 (zc (1 + q26) (ze (1 + q26) l))) :: (RowE (α := Int) own 3 v1473 (zc (1 + q26) (ze (1 + q26) l))) :: (Blk b1421 ((⟨4, self, chunk, zc (1 + q26) (ze (1 + q26) l), []⟩ : Msg).cells v1414 (.slice none 0 0)).toArray 57) :: (SetO b32 (1 + q26) (ze (1 + q26) l)) :: (RowE (α := Int) own 3 v1414 (zc (1 + q26) (ze (1 + q26) l))) :: (Blk b1394 ((⟨1, self, chunk, zc (1 + q26) (ze (1 + q26) l), []⟩ : Msg).cells v1387 (.slice none 0 0)).toArray 57) :: (if i9 ≤ 1 then (RowE (α := Int) own 3 vv89 V92) else Emp) :: (if i9 ≤ 0 then (RowE (α := Ev) own 36 ve88 E91) else Emp) :: (RowE (α := MsgS) own 57 v87 [(⟨3, self, m.frm, .slice none 0 0, ve88⟩ : MsgS), (⟨2, self, m.frm, vv89, .slice none 0 0⟩ : MsgS)]) :: (Blk b2 (m.cells dm0 dm1).toArray 57) :: Rs) w1570
      exact ⟨v1473, v1568, (by rw [hv' 4 (by decide)]; exact he1479), (by rw [hv' 5 (by decide)]; exact he1508), hv, hmo1474, hmo1569, hS1573⟩
     ·intro k1575 vals w1576 h1579 h1580 hW1578 hA1577
      obtain rfl : k1575 = 3 := Nat.le_antisymm h1580 h1579
      obtain ⟨v1473, v1568, he1479, he1508, he1574, hmo1474, hmo1569, hS1581⟩ := hW1578
      have e1582 := hA1577 6 (by decide)
      have e1583 := hA1577 7 (by decide)
      refine ym rfl rfl e1582 (fun _ => ?_) (fun hb => absurd rfl hb)
      have hS1584 := hS1581.mv6
      obtain ⟨G1585, hA1587, hB1588, hS1589, hk1590⟩ := hS1584.lend
      have hrd1591 := RowE.rd hA1587
      have hrd1591s : _ * 8 ≤ _ := hrd1591.small
      have hS1592 := hS1589.mv1
      obtain ⟨G1593, hA1595, hB1596, hS1597, hk1598⟩ := hS1592.lend
      have hrd1599 := RowE.rd hA1595
      have hrd1599s : _ * 8 ≤ _ := hrd1599.small
      refine (zj (f := 44) (vals := [.agg ((⟨4, self, chunk, zc (1 + q26) (ze (1 + q26) l), []⟩ : Msg).cells v1414 (.slice none 0 0)).toArray, .agg ((⟨4, self, chunk, zc (1 + q26) (ze (1 + q26) l), []⟩ : Msg).cells v1568 (.slice none 0 0)).toArray]) (cap := []) rfl (yD ⟨e1583, he1574, trivial⟩) Try.call44 (yg (a := (⟨4, self, chunk, zc (1 + q26) (ze (1 + q26) l), []⟩ : Msg)) (b := (⟨4, self, chunk, zc (1 + q26) (ze (1 + q26) l), []⟩ : Msg)) (RdS.base hrd1591 hB1596) (RdS.nil _ _) hmo1569 hrd1599 (RdS.nil _ _) hmo1569 hS1597) ?_)
      rintro _ w1600 ⟨rfl, hS1601⟩
      have hS1602 := hk1598 _ _ hS1601
      have hS1603 := hk1590 _ _ hS1602
      intro vals' hv hv'
      refine ⟨?_, trivial⟩
      show ∃ (v1473 : Value) (v1568 : Value), (vals' 4 = (.agg ((⟨1, self, chunk, zc (1 + q26) (ze (1 + q26) l), []⟩ : Msg).cells v1473 (.slice none 0 0)).toArray : Value)) ∧ (vals' 5 = (.bool (decide ((⟨1, self, chunk, zc (1 + q26) (ze (1 + q26) l), []⟩ : Msg) = (⟨1, self, chunk, zc (1 + q26) (ze (1 + q26) l), []⟩ : Msg))) : Value)) ∧ (vals' 11 = (.agg ((⟨4, self, chunk, zc (1 + q26) (ze (1 + q26) l), []⟩ : Msg).cells v1568 (.slice none 0 0)).toArray : Value)) ∧ (vals' 12 = (.bool (decide ((⟨4, self, chunk, zc (1 + q26) (ze (1 + q26) l), []⟩ : Msg) = (⟨4, self, chunk, zc (1 + q26) (ze (1 + q26) l), []⟩ : Msg))) : Value)) ∧ ((⟨1, self, chunk, zc (1 + q26) (ze (1 + q26) l), []⟩ : Msg).Ok) ∧ ((⟨4, self, chunk, zc (1 + q26) (ze (1 + q26) l), []⟩ : Msg).Ok) ∧ Sep G1356 w1350 ((RowE (α := Int) own 3 v1414 (zc (1 + q26) (ze (1 + q26) l))) :: (RowE (α := Int) own 3 v1568 (zc (1 + q26) (ze (1 + q26) l))) :: (RefS b35 (1 + q26) (ze (1 + q26) l)) :: (RowE (α := Int) own 3 v1387 (zc (1 + q26) (ze (1 + q26) l))) :: (RowE (α := Int) own 3 v1473 (zc (1 + q26) (ze (1 + q26) l))) :: (Blk b1421 ((⟨4, self, chunk, zc (1 + q26) (ze (1 + q26) l), []⟩ : Msg).cells v1414 (.slice none 0 0)).toArray 57) :: (SetO b32 (1 + q26) (ze (1 + q26) l)) :: (Blk b1394 ((⟨1, self, chunk, zc (1 + q26) (ze (1 + q26) l), []⟩ : Msg).cells v1387 (.slice none 0 0)).toArray 57) :: (if i9 ≤ 1 then (RowE (α := Int) own 3 vv89 V92) else Emp) :: (if i9 ≤ 0 then (RowE (α := Ev) own 36 ve88 E91) else Emp) :: (RowE (α := MsgS) own 57 v87 [(⟨3, self, m.frm, .slice none 0 0, ve88⟩ : MsgS), (⟨2, self, m.frm, vv89, .slice none 0 0⟩ : MsgS)]) :: (Blk b2 (m.cells dm0 dm1).toArray 57) :: Rs) w1600
      exact ⟨v1473, v1568, (by rw [hv' 4 (by decide)]; exact he1479), (by rw [hv' 5 (by decide)]; exact he1508), (by rw [hv' 11 (by decide)]; exact he1574), hv, hmo1474, hmo1569, hS1603⟩
     ·intro k1686 vals w1687 h1690 h1691 hW1689 hA1688
      obtain rfl : k1686 = 4 := Nat.le_antisymm h1691 h1690
      obtain ⟨v1473, v1568, he1479, he1508, he1574, he1604, hmo1474, hmo1569, hS1692⟩ := hW1689
      have e1693 := hA1688 6 (by decide)
      refine obl rfl ?_
      have hl1694 : (decide ((⟨4, self, chunk, zc (1 + q26) (ze (1 + q26) l), []⟩ : Msg) = (⟨4, self, chunk, zc (1 + q26) (ze (1 + q26) l), []⟩ : Msg))) = true := decide_eq_true rfl
      exact zG (v := .bool (decide ((⟨4, self, chunk, zc (1 + q26) (ze (1 + q26) l), []⟩ : Msg) = (⟨4, self, chunk, zc (1 + q26) (ze (1 + q26) l), []⟩ : Msg)))) e1693 he1604 (fun vals' hv _ => ⟨rfl, hv.trans (congrArg Value.bool hl1694)⟩)
     ·intro k1695 vals w1696 h1699 h1700 hW1698 hA1697
      have e1701 := hA1697 13 (by decide)
      refine obl rfl ?_
      exact zf (v := .bool true) e1701 (fun vals' hv _ => ⟨rfl, hv⟩)
     intro vals w1702 hW1703 hA1704
     obtain ⟨v1473, v1568, he1479, he1508, he1574, he1604, hmo1474, hmo1569, hS1705⟩ := hW1703
     have e1706 := hA1704 14 (by decide)
     refine yj (kv := [(2, .int .i64 (self)), (4, .int .i64 (chunk)), (8, .pointer (some ⟨b2, 0, none⟩)), (11, .pointer (some ⟨b32, 0, none⟩)), (12, .pointer (some ⟨b35, 0, none⟩)), (15, v87), (16, v113), (17, .int .i64 ((i9 : Nat) : Int)), (81, .int .i64 ((i9 : Nat) : Int)), (82, v87), (83, .int .i64 (([(⟨3, self, m.frm, .slice none 0 0, ve88⟩ : MsgS), (⟨2, self, m.frm, vv89, .slice none 0 0⟩ : MsgS)].length : Nat) : Int)), (84, .bool false), (109, .pointer (some ⟨b32, 0, none⟩)), (110, .int .i64 (self)), (111, .int .i64 (chunk)), (112, .agg ((⟨1, self, chunk, zc (1 + q26) (ze (1 + q26) l), []⟩ : Msg).cells v1387 (.slice none 0 0)).toArray), (18, .pointer (some ⟨b1394, 0, none⟩)), (113, .pointer (some ⟨b32, 0, none⟩)), (114, .int .i64 (self)), (115, .int .i64 (chunk)), (116, .agg ((⟨4, self, chunk, zc (1 + q26) (ze (1 + q26) l), []⟩ : Msg).cells v1414 (.slice none 0 0)).toArray), (19, .pointer (some ⟨b1421, 0, none⟩)), (20, .bool true)]) ⟨rfl, rfl, rfl, rfl, rfl, rfl, rfl, rfl, rfl, rfl, rfl, rfl, rfl, rfl, rfl, rfl, rfl, rfl, rfl, rfl, rfl, rfl, (by exact e1706), trivial⟩ (fun ρw1702 => ?_)
     refine zg ?_
     refine zd ?_
     refine za (by kernel_rfl) (fun _ => ?_)
     refine st (yh rfl ?_)
     refine st (zh (v := v1387) Try.isAgg34 rfl (zi (hS1705.blk (i := 7) rfl) rfl) ?_)
     have hS1707 := hS1705.mv3
     obtain ⟨f1708, hm1709, hS1710⟩ := hS1707.toML
     refine st (zj (f := 37) (vals := [v1387]) (cap := []) rfl rfl Try.call37 (yf  hm1709 hS1710) ?_)
     rintro _ w1711 ⟨rfl, hS1712⟩
     refine zg ?_
     refine zd ?_
     refine za (by kernel_rfl) (fun _ => ?_)
     refine st (yh rfl ?_)
     refine st (zh (v := v1414) Try.isAgg34 rfl (zi (hS1712.blk (i := 5) rfl) rfl) ?_)
     have hS1713 := hS1712.mv1
     obtain ⟨f1714, hm1715, hS1716⟩ := hS1713.toML
     refine st (zj (f := 37) (vals := [v1414]) (cap := []) rfl rfl Try.call37 (yf  hm1715 hS1716) ?_)
     rintro _ w1717 ⟨rfl, hS1718⟩
     refine zg ?_
     refine zd ?_
     refine zF (by kernel_rfl) ?_
     refine st (zb (v := .bool true) rfl ?_)
     refine st (zb (v := .bool true) rfl ?_)
     refine sty rfl rfl (zb (v := .pointer (some ⟨b32, 0, none⟩)) rfl ?_)
     have hS1719 := hS1718.mv6
     obtain ⟨G1720, hA1722, hB1723, hS1724, hk1725⟩ := hS1719.lend
     obtain ⟨vv1726, m1727, R1728, hb1729, hv1730, hr1731⟩ := SetO.sh hA1722
     have hsm1732 : (zc (1 + q26) (ze (1 + q26) l)).length * 8 ≤ 140737488355328 := hv1730.small
     refine sty rfl rfl (zj (f := 19) (vals := [.pointer (some ⟨b32, 0, none⟩)]) (cap := []) rfl rfl Try.call19 (Xm  hA1722 hS1724 (hG9.ids) (hG9.srt) ((Nat.le_trans hL9 (by omega)))) ?_)
     rintro v1733 w1734 ⟨_, rfl, hS1735⟩
     have hr1736 := hS1735.row (i := 0) rfl
     have hr1736s : _ * 96 ≤ _ := hr1736.2
     have hS1737 := hk1725 _ _ hS1735
     refine sty rfl rfl (zb (v := .pointer (some ⟨b35, 0, none⟩)) rfl ?_)
     have hS1738 := hS1737.mv5
     obtain ⟨G1739, hA1741, hB1742, hS1743, hk1744⟩ := hS1738.lend
     obtain ⟨vl1745, hb1746, hl1747⟩ := RefS.sh hA1741
     have hsm1748 : (ze (1 + q26) l).length * 96 ≤ 140737488355328 := hl1747.small
     refine sty rfl rfl (zj (f := 50) (vals := [.pointer (some ⟨b35, 0, none⟩)]) (cap := []) rfl rfl Try.call50 (ZR  hA1741 hS1743) ?_)
     rintro v1749 w1750 ⟨_, rfl, hS1751⟩
     have hr1752 := hS1751.row (i := 0) rfl
     have hr1752s : _ * 96 ≤ _ := hr1752.2
     have hS1753 := hk1744 _ _ hS1751
     have hS1754 := hS1753.mv3
     obtain ⟨G1755, hA1757, hB1758, hS1759, hk1760⟩ := hS1754.lend
     have hrd1761 := RowE.rd hA1757
     have hrd1761s : _ * 96 ≤ _ := hrd1761.small
     have hS1762 := hS1759.mv1
     obtain ⟨G1763, hA1765, hB1766, hS1767, hk1768⟩ := hS1762.lend
     have hrd1769 := RowE.rd hA1765
     have hrd1769s : _ * 96 ≤ _ := hrd1769.small
     refine sty rfl rfl (zj (f := 22) (vals := [v1733, v1749]) (cap := []) rfl rfl Try.call22 (yO (a := (ze (1 + q26) l)) (va := v1733) (b := (ze (1 + q26) l)) (vb := v1749) (RdS.base hrd1761 hB1766) hrd1769 hS1767) ?_)
     rintro _ w1770 ⟨rfl, hS1771⟩
     have hS1772 := hk1768 _ _ hS1771
     have hS1773 := hk1760 _ _ hS1772
     have hkn1774 : (decide ((ze (1 + q26) l) = (ze (1 + q26) l))) = true := decide_eq_true rfl
     rw [hkn1774]
     refine st (zG (v := .bool true) rfl rfl ?_)
     refine st (zb (v := .bool true) rfl ?_)
     refine sty rfl rfl (zb (v := .pointer (some ⟨b32, 0, none⟩)) rfl ?_)
     have hS1775 := hS1773.mv3
     obtain ⟨G1776, hA1778, hB1779, hS1780, hk1781⟩ := hS1775.lend
     obtain ⟨vv1782, m1783, R1784, hb1785, hv1786, hr1787⟩ := SetO.sh hA1778
     have hsm1788 : (zc (1 + q26) (ze (1 + q26) l)).length * 8 ≤ 140737488355328 := hv1786.small
     refine sty rfl rfl (zj (f := 26) (vals := [.pointer (some ⟨b32, 0, none⟩)]) (cap := []) rfl rfl Try.call26 (xM  hA1778 hS1780) ?_)
     rintro v1789 w1790 ⟨_, rfl, hS1791⟩
     have hr1792 := hS1791.row (i := 0) rfl
     have hr1792s : _ * 8 ≤ _ := hr1792.2
     have hS1793 := hk1781 _ _ hS1791
     refine sty rfl rfl (zb (v := .pointer (some ⟨b35, 0, none⟩)) rfl ?_)
     have hS1794 := hS1793.mv4
     obtain ⟨G1795, hA1797, hB1798, hS1799, hk1800⟩ := hS1794.lend
     obtain ⟨vl1801, hb1802, hl1803⟩ := RefS.sh hA1797
     have hsm1804 : (ze (1 + q26) l).length * 96 ≤ 140737488355328 := hl1803.small
     refine sty rfl rfl (zj (f := 51) (vals := [.pointer (some ⟨b35, 0, none⟩)]) (cap := []) rfl rfl Try.call51 (xy  hA1797 hS1799 (by first | exact hG9 | exact laidL_good) ((by omega))) ?_)
     rintro v1805 w1806 ⟨_, rfl, hS1807⟩
     have hr1808 := hS1807.row (i := 0) rfl
     have hr1808s : _ * 8 ≤ _ := hr1808.2
     have hS1809 := hk1800 _ _ hS1807
     have hS1810 := hS1809.mv3
     obtain ⟨G1811, hA1813, hB1814, hS1815, hk1816⟩ := hS1810.lend
     have hrd1817 := RowE.rd hA1813
     have hrd1817s : _ * 8 ≤ _ := hrd1817.small
     have hS1818 := hS1815.mv1
     obtain ⟨G1819, hA1821, hB1822, hS1823, hk1824⟩ := hS1818.lend
     have hrd1825 := RowE.rd hA1821
     have hrd1825s : _ * 8 ≤ _ := hrd1825.small
     refine sty rfl rfl (zj (f := 27) (vals := [v1789, v1805]) (cap := []) rfl rfl Try.call27 (yL (a := zc (1 + q26) (ze (1 + q26) l)) (va := v1789) (b := zc (1 + q26) (ze (1 + q26) l)) (vb := v1805) (RdS.base hrd1817 hB1822) hrd1825 hS1823) ?_)
     rintro _ w1826 ⟨rfl, hS1827⟩
     have hS1828 := hk1824 _ _ hS1827
     have hS1829 := hk1816 _ _ hS1828
     have hkn1830 : (decide ((zc (1 + q26) (ze (1 + q26) l)) = (zc (1 + q26) (ze (1 + q26) l)))) = true := decide_eq_true rfl
     rw [hkn1830]
     refine st (zG (v := .bool true) rfl rfl ?_)
     refine st (zb (v := .bool true) rfl ?_)
     refine sty rfl rfl (zj (f := 39) (vals := []) (cap := []) rfl rfl Try.call39 (xm  hS1829) ?_)
     rintro _ w1831 ⟨rfl, hS1832⟩
     refine st (zG (v := .bool true) rfl rfl ?_)
     refine st (zf (v := .bool true) rfl ?_)
     refine zg ?_
     refine zw ?_
     refine zM Try.results11 (show _ = (.bool true : Value) from rfl) ?_
     have hS1833 := hk1361 _ _ hS1832
     have hS1834 : Sep G W Rs w1831 := hS1833.sel 17 [] (Nat.le_add_left _ _) rfl rfl
     refine ⟨rfl, hS1834⟩
    ·skip
     have hc1372r := hc1372
     have hc1372 := of_decide_eq_true hc1372
     refine zm rfl ?_
     refine zp ?_
     refine zd ?_
     refine zx ?_
     refine zd ?_
     refine zd ?_
     obtain rfl | rfl : i9 = 0 ∨ i9 = 1 := by omega
     ·skip
      have hS1835 : Sep G1356 w1350 ((RowE (α := Int) own 3 vv89 V92) :: (if 0 ≤ 0 then (RowE (α := Ev) own 36 ve88 E91) else Emp) :: (RefS b35 (1 + q26) (ze (1 + q26) l)) :: (SetO b32 (1 + q26) (ze (1 + q26) l)) :: (RowE (α := MsgS) own 57 v87 [(⟨3, self, m.frm, .slice none 0 0, ve88⟩ : MsgS), (⟨2, self, m.frm, vv89, .slice none 0 0⟩ : MsgS)]) :: (Blk b2 (m.cells dm0 dm1).toArray 57) :: Rs) w1368 := Sep.still hS1371 (by omega)
      have hr1836 := hS1835.row (i := 0) rfl
      have hr1836s : _ * 8 ≤ _ := hr1836.2
      have hS1837 := hS1835.mv1
      have hS1838 : Sep G1356 w1350 ((RowE (α := Ev) own 36 ve88 E91) :: (RowE (α := Int) own 3 vv89 V92) :: (RefS b35 (1 + q26) (ze (1 + q26) l)) :: (SetO b32 (1 + q26) (ze (1 + q26) l)) :: (RowE (α := MsgS) own 57 v87 [(⟨3, self, m.frm, .slice none 0 0, ve88⟩ : MsgS), (⟨2, self, m.frm, vv89, .slice none 0 0⟩ : MsgS)]) :: (Blk b2 (m.cells dm0 dm1).toArray 57) :: Rs) w1368 := Sep.still hS1837 (by omega)
      have hr1839 := hS1838.row (i := 0) rfl
      have hr1839s : _ * 96 ≤ _ := hr1839.2
      refine zS ((fun TT pp0 => WF [fun vals wq => Sep G1356 w1350 (pp0 :: TT) wq, fun vals wq => (vals 8 = (.bool (decide ((⟨3, self, m.frm, [], E91⟩ : Msg) = ([(⟨3, self, m.frm, [], E91⟩ : Msg), (⟨2, self, m.frm, V92, []⟩ : Msg)].getD 0 default))) : Value)) ∧ Sep G1356 w1350 (pp0 :: TT) wq]) ((RowE (α := Int) own 3 vv89 V92) :: (RefS b35 (1 + q26) (ze (1 + q26) l)) :: (SetO b32 (1 + q26) (ze (1 + q26) l)) :: (RowE (α := MsgS) own 57 v87 [(⟨3, self, m.frm, .slice none 0 0, ve88⟩ : MsgS), (⟨2, self, m.frm, vv89, .slice none 0 0⟩ : MsgS)]) :: (Blk b2 (m.cells dm0 dm1).toArray 57) :: Rs) (RowE (α := Ev) own 36 ve88 E91)) (AF [Vl 0 (v87), Vl 1 (.int .i64 ((0 : Nat) : Int)), Vl 2 (.pointer (some ⟨sb v87, so v87 + 0 * 5, none⟩)), Vl 3 (.agg (([(⟨3, self, m.frm, .slice none 0 0, ve88⟩ : MsgS), (⟨2, self, m.frm, vv89, .slice none 0 0⟩ : MsgS)].getD 0 default).cells).toArray), Vl 4 (v113), Vl 5 (.int .i64 ((0 : Nat) : Int)), Vl 6 (.pointer (some ⟨sb v113, so v113 + 0 * 5, none⟩)), Vl 7 (.agg (([(⟨3, self, m.frm, [], E91⟩ : Msg), (⟨2, self, m.frm, V92, []⟩ : Msg)].getD 0 default).cells (zR w1350 (sb v113) (so v113 + 0 * 5 + 3)) (zR w1350 (sb v113) (so v113 + 0 * 5 + 4))).toArray), fun _ => True, Vl 9 (.bool false)]) [[], [], [0, 1], [0, 1, 2], [], [], [4, 5], [4, 5, 6], [0, 1, 2, 3, 4, 5, 6, 7], [0, 1, 2, 3, 4, 5, 6, 7, 8]] [8] [(0, 0), (0, 0), (0, 0), (0, 0), (0, 0), (0, 0), (0, 0), (0, 0), (0, 0), (1, 1)] (by kernel_rfl) (by kernel_rfl) (by kernel_rfl) rfl (by kernel_rfl) (by kernel_rfl) (fun _ h1 h2 h3 h4 _ => hS1838.same h1 h2 h3 h4) ?_ (yk ⟨dA, dA, dA, dA, dA, dA, dA, dA, dT, dA, trivial⟩) ⟨?_, ?_, ?_, ?_, ?_, ?_, ?_, ?_, ?_, ?_, trivial⟩ ?_
      ·intro k vals vals' w hv h
       have e : ∀ j ∈ ([8] : List Nat), vals' j = vals j := hv
       match k, h with
       | 0, h => exact h
       | 1, h => exact (by simpa only [WF, List.getElem?_cons_zero, List.getElem?_cons_succ, e 8 (by decide)] using h)
       | _ + 2, _ => trivial
      ·intro k1940 vals w1941 h1944 h1945 hW1943 hA1942
       refine obl rfl ?_
       exact zb (v := v87) rfl (fun vals' hv _ => ⟨rfl, hv⟩)
      ·intro k1946 vals w1947 h1950 h1951 hW1949 hA1948
       refine obl rfl ?_
       exact zb (v := .int .i64 ((0 : Nat) : Int)) rfl (fun vals' hv _ => ⟨rfl, hv⟩)
      ·intro k1952 vals w1953 h1956 h1957 hW1955 hA1954
       obtain rfl : k1952 = 0 := Nat.le_antisymm h1957 h1956
       have hS1958 : Sep _ _ _ _ := hW1955
       have e1959 := hA1954 0 (by decide)
       have e1960 := hA1954 1 (by decide)
       refine obl rfl ?_
       have hi1961 : 0 < [(⟨3, self, m.frm, .slice none 0 0, ve88⟩ : MsgS), (⟨2, self, m.frm, vv89, .slice none 0 0⟩ : MsgS)].length := (by first | omega | (simp only [zu]; omega))
       exact zl (k := 5) (i := 0) Try.underlying58 Try.sizeOf57 e1959 hr1330.1 e1960 hi1961 (fun vals' hv _ => ⟨rfl, hv⟩)
      ·intro k1962 vals w1963 h1966 h1967 hW1965 hA1964
       obtain rfl : k1962 = 0 := Nat.le_antisymm h1967 h1966
       have hS1968 : Sep _ _ _ _ := hW1965
       have e1969 := hA1964 2 (by decide)
       refine obl rfl ?_
       have hi1971 : 0 < [(⟨3, self, m.frm, .slice none 0 0, ve88⟩ : MsgS), (⟨2, self, m.frm, vv89, .slice none 0 0⟩ : MsgS)].length := (by first | omega | (simp only [zu]; omega))
       obtain ⟨_, _, hce1970, rfl, hoke1970⟩ := hS1968.rowAt (i := 4) (j := 0) rfl hi1971
       rw [← zo default hi1971] at hce1970 hoke1970
       exact zv (k := 5) Try.isAgg57 Try.sizeOf57 rfl e1969 hce1970 (fun vals' hv _ => ⟨rfl, hv⟩)
      ·intro k1972 vals w1973 h1976 h1977 hW1975 hA1974
       refine obl rfl ?_
       exact zb (v := v113) rfl (fun vals' hv _ => ⟨rfl, hv⟩)
      ·intro k1978 vals w1979 h1982 h1983 hW1981 hA1980
       refine obl rfl ?_
       exact zb (v := .int .i64 ((0 : Nat) : Int)) rfl (fun vals' hv _ => ⟨rfl, hv⟩)
      ·intro k1984 vals w1985 h1988 h1989 hW1987 hA1986
       obtain rfl : k1984 = 0 := Nat.le_antisymm h1989 h1988
       have hS1990 : Sep _ _ _ _ := hW1987
       have e1991 := hA1986 4 (by decide)
       have e1992 := hA1986 5 (by decide)
       refine obl rfl ?_
       have hi1993 : 0 < [(⟨3, self, m.frm, [], E91⟩ : Msg), (⟨2, self, m.frm, V92, []⟩ : Msg)].length := (by first | omega | (simp only [zu]; omega))
       exact zl (k := 5) (i := 0) Try.underlying58 Try.sizeOf57 e1991 hrd1362.sl e1992 hi1993 (fun vals' hv _ => ⟨rfl, hv⟩)
      ·intro k1994 vals w1995 h1998 h1999 hW1997 hA1996
       obtain rfl : k1994 = 0 := Nat.le_antisymm h1999 h1998
       have hS2000 : Sep _ _ _ _ := hW1997
       have e2001 := hA1996 6 (by decide)
       refine obl rfl ?_
       have hi2003 : 0 < [(⟨3, self, m.frm, [], E91⟩ : Msg), (⟨2, self, m.frm, V92, []⟩ : Msg)].length := (by first | omega | (simp only [zu]; omega))
       obtain ⟨hce2002, hde2002_0, hde2002_1, hoke2002⟩ := hrd1362.msg hi2003
       rw [← zo default hi2003] at hce2002 hde2002_0 hde2002_1 hoke2002
       have hsm2004 : (([(⟨3, self, m.frm, [], E91⟩ : Msg), (⟨2, self, m.frm, V92, []⟩ : Msg)].getD 0 default).vec).length * 8 ≤ 140737488355328 := hde2002_0.small
       have hsm2005 : (([(⟨3, self, m.frm, [], E91⟩ : Msg), (⟨2, self, m.frm, V92, []⟩ : Msg)].getD 0 default).evs).length * 96 ≤ 140737488355328 := hde2002_1.small
       have hcw2006 := hS2000.cells hce2002 (hrd1362.foot (ne_of_lt hi2003))
       exact zv (k := 5) Try.isAgg57 Try.sizeOf57 rfl e2001 hcw2006 (fun vals' hv _ => ⟨rfl, hv⟩)
      ·intro k1907 vals w1908 h1911 h1912 hW1910 hA1909
       obtain rfl : k1907 = 0 := Nat.le_antisymm h1912 h1911
       have hS1913 : Sep _ _ _ _ := hW1910
       have e1914 := hA1909 3 (by decide)
       have e1915 := hA1909 7 (by decide)
       refine obl rfl ?_
       have hi1917 : 0 < [(⟨3, self, m.frm, [], E91⟩ : Msg), (⟨2, self, m.frm, V92, []⟩ : Msg)].length := (by first | omega | (simp only [zu]; omega))
       obtain ⟨hce1916, hde1916_0, hde1916_1, hoke1916⟩ := hrd1362.msg hi1917
       rw [← zo default hi1917] at hce1916 hde1916_0 hde1916_1 hoke1916
       have hsm1918 : (([(⟨3, self, m.frm, [], E91⟩ : Msg), (⟨2, self, m.frm, V92, []⟩ : Msg)].getD 0 default).vec).length * 8 ≤ 140737488355328 := hde1916_0.small
       have hsm1919 : (([(⟨3, self, m.frm, [], E91⟩ : Msg), (⟨2, self, m.frm, V92, []⟩ : Msg)].getD 0 default).evs).length * 96 ≤ 140737488355328 := hde1916_1.small
       have hcw1920 := hS1913.cells hce1916 (hrd1362.foot (ne_of_lt hi1917))
       obtain ⟨G1921, hA1923, hB1924, hS1925, hk1926⟩ := hS1913.lend
       have hrd1927 := RowE.rd hA1923
       have hrd1927s : _ * 96 ≤ _ := hrd1927.small
       refine (zj (f := 44) (vals := [.agg ((⟨3, self, m.frm, [], E91⟩ : Msg).cells (.slice none 0 0) ve88).toArray, .agg (([(⟨3, self, m.frm, [], E91⟩ : Msg), (⟨2, self, m.frm, V92, []⟩ : Msg)].getD 0 default).cells (zR w1350 (sb v113) (so v113 + 0 * 5 + 3)) (zR w1350 (sb v113) (so v113 + 0 * 5 + 4))).toArray]) (cap := []) rfl (yD ⟨e1914, e1915, trivial⟩) Try.call44 (yg (a := (⟨3, self, m.frm, [], E91⟩ : Msg)) (b := ([(⟨3, self, m.frm, [], E91⟩ : Msg), (⟨2, self, m.frm, V92, []⟩ : Msg)].getD 0 default)) (RdS.nil _ _) hrd1927 ⟨(show InR 3 from by decide), hself, om.frm⟩ (RdS.base hde1916_0 hB1924) (RdS.base hde1916_1 hB1924) hoke1916 hS1925) ?_)
       rintro _ w1928 ⟨rfl, hS1929⟩
       have hS1930 := hk1926 _ _ hS1929
       intro vals' hv hv'
       refine ⟨?_, trivial⟩
       show (vals' 8 = (.bool (decide ((⟨3, self, m.frm, [], E91⟩ : Msg) = ([(⟨3, self, m.frm, [], E91⟩ : Msg), (⟨2, self, m.frm, V92, []⟩ : Msg)].getD 0 default))) : Value)) ∧ Sep G1356 w1350 ((RowE (α := Ev) own 36 ve88 E91) :: (RowE (α := Int) own 3 vv89 V92) :: (RefS b35 (1 + q26) (ze (1 + q26) l)) :: (SetO b32 (1 + q26) (ze (1 + q26) l)) :: (RowE (α := MsgS) own 57 v87 [(⟨3, self, m.frm, .slice none 0 0, ve88⟩ : MsgS), (⟨2, self, m.frm, vv89, .slice none 0 0⟩ : MsgS)]) :: (Blk b2 (m.cells dm0 dm1).toArray 57) :: Rs) w1928
       exact ⟨hv, hS1930⟩
      ·intro k2007 vals w2008 h2011 h2012 hW2010 hA2009
       obtain rfl : k2007 = 1 := Nat.le_antisymm h2012 h2011
       obtain ⟨he1931, hS2013⟩ := hW2010
       refine obl rfl ?_
       have hl2014 : (!(decide ((⟨3, self, m.frm, [], E91⟩ : Msg) = ([(⟨3, self, m.frm, [], E91⟩ : Msg), (⟨2, self, m.frm, V92, []⟩ : Msg)].getD 0 default)))) = false := by simp
       exact yH (a := decide ((⟨3, self, m.frm, [], E91⟩ : Msg) = ([(⟨3, self, m.frm, [], E91⟩ : Msg), (⟨2, self, m.frm, V92, []⟩ : Msg)].getD 0 default))) he1931 (fun vals' hv _ => ⟨rfl, hv.trans (congrArg Value.bool hl2014)⟩)
      intro vals w2015 hW2016 hA2017
      obtain ⟨he1931, hS2018⟩ := hW2016
      have e2019 := hA2017 9 (by decide)
      refine yj (kv := [(2, .int .i64 (self)), (4, .int .i64 (chunk)), (8, .pointer (some ⟨b2, 0, none⟩)), (11, .pointer (some ⟨b32, 0, none⟩)), (12, .pointer (some ⟨b35, 0, none⟩)), (15, v87), (16, v113), (17, .int .i64 ((0 : Nat) : Int)), (82, v87), (83, .int .i64 (([(⟨3, self, m.frm, .slice none 0 0, ve88⟩ : MsgS), (⟨2, self, m.frm, vv89, .slice none 0 0⟩ : MsgS)].length : Nat) : Int)), (84, .bool true), (96, .bool false)]) ⟨rfl, rfl, rfl, rfl, rfl, rfl, rfl, rfl, rfl, rfl, rfl, (by exact e2019), trivial⟩ (fun ρw2015 => ?_)
      refine zg ?_
      refine zk rfl ?_
      refine zp ?_
      refine zd ?_
      refine za (by kernel_rfl) (fun _ => ?_)
      refine st (zb (v := v87) rfl ?_)
      refine st (zb (v := .int .i64 ((0 : Nat) : Int)) rfl ?_)
      have hi2020 : 0 < [(⟨3, self, m.frm, .slice none 0 0, ve88⟩ : MsgS), (⟨2, self, m.frm, vv89, .slice none 0 0⟩ : MsgS)].length := (by first | omega | (simp only [zu]; omega))
      refine st (zl (k := 5) (i := 0) Try.underlying58 Try.sizeOf57 rfl hr1330.1 rfl hi2020 ?_)
      refine st (yh rfl ?_)
      have hi2022 : 0 < [(⟨3, self, m.frm, .slice none 0 0, ve88⟩ : MsgS), (⟨2, self, m.frm, vv89, .slice none 0 0⟩ : MsgS)].length := (by first | omega | (simp only [zu]; omega))
      obtain ⟨_, _, hce2021, rfl, hoke2021⟩ := hS2018.rowAt (i := 4) (j := 0) rfl hi2022
      rw [← zo default hi2022] at hce2021 hoke2021
      refine st (zh (v := ([(⟨3, self, m.frm, .slice none 0 0, ve88⟩ : MsgS), (⟨2, self, m.frm, vv89, .slice none 0 0⟩ : MsgS)].getD 0 default).vv) Try.isAgg34 rfl (hce2021.get (j := 3) rfl) ?_)
      have hS2023 : Sep G1356 w1350 ((RowE (α := Int) own 3 (.slice none 0 0) ([] : List Int)) :: (RowE (α := Ev) own 36 ve88 E91) :: (RowE (α := Int) own 3 vv89 V92) :: (RefS b35 (1 + q26) (ze (1 + q26) l)) :: (SetO b32 (1 + q26) (ze (1 + q26) l)) :: (RowE (α := MsgS) own 57 v87 [(⟨3, self, m.frm, .slice none 0 0, ve88⟩ : MsgS), (⟨2, self, m.frm, vv89, .slice none 0 0⟩ : MsgS)]) :: (Blk b2 (m.cells dm0 dm1).toArray 57) :: Rs) w2015 := hS2018.rowNil own 3
      obtain ⟨f2024, hm2025, hS2026⟩ := hS2023.toML
      refine st (zj (f := 37) (vals := [(.slice none 0 0)]) (cap := []) rfl rfl Try.call37 (yf  hm2025 hS2026) ?_)
      rintro _ w2027 ⟨rfl, hS2028⟩
      refine zg ?_
      refine za (by kernel_rfl) (fun _ => ?_)
      refine st (zb (v := v87) rfl ?_)
      refine st (zb (v := .int .i64 ((0 : Nat) : Int)) rfl ?_)
      have hi2029 : 0 < [(⟨3, self, m.frm, .slice none 0 0, ve88⟩ : MsgS), (⟨2, self, m.frm, vv89, .slice none 0 0⟩ : MsgS)].length := (by first | omega | (simp only [zu]; omega))
      refine st (zl (k := 5) (i := 0) Try.underlying58 Try.sizeOf57 rfl hr1330.1 rfl hi2029 ?_)
      refine st (xo rfl ?_)
      have hi2031 : 0 < [(⟨3, self, m.frm, .slice none 0 0, ve88⟩ : MsgS), (⟨2, self, m.frm, vv89, .slice none 0 0⟩ : MsgS)].length := (by first | omega | (simp only [zu]; omega))
      obtain ⟨_, _, hce2030, rfl, hoke2030⟩ := hS2028.rowAt (i := 5) (j := 0) rfl hi2031
      rw [← zo default hi2031] at hce2030 hoke2030
      refine st (zh (v := ([(⟨3, self, m.frm, .slice none 0 0, ve88⟩ : MsgS), (⟨2, self, m.frm, vv89, .slice none 0 0⟩ : MsgS)].getD 0 default).ve) Try.isAgg22 rfl (hce2030.get (j := 4) rfl) ?_)
      have hS2032 := hS2028.mv1
      obtain ⟨f2033, hm2034, hS2035⟩ := hS2032.toML
      refine st (zj (f := 45) (vals := [ve88]) (cap := []) rfl rfl Try.call45 (yR  hm2034 hS2035) ?_)
      rintro _ w2036 ⟨rfl, hS2037⟩
      refine zg ?_
      refine za (by kernel_rfl) (fun _ => ?_)
      refine st (zb (v := .int .i64 ((0 : Nat) : Int)) rfl ?_)
      have hr2038 : InR ((0 + 1 : Nat) : Int) := by first | omega | (simp only [zu]; omega)
      refine st (zU (r := ((0 + 1 : Nat) : Int)) (k := .i64) (a := ((0 : Nat) : Int)) (b := 1) rfl rfl (by rw [show (((0 : Nat) : Int) + 1 : Int) = ((0 + 1 : Nat) : Int) by first | omega | (simp only [zu]; omega)]; exact zH hr2038) ?_)
      refine st (zf (v := .int .i64 ((0 + 1 : Nat) : Int)) rfl ?_)
      refine zg ?_
      have hS2039 : Sep G1356 w1350 (Emp :: (ML w2015 f2024 noX) :: (RowE (α := Int) own 3 vv89 V92) :: (RefS b35 (1 + q26) (ze (1 + q26) l)) :: (SetO b32 (1 + q26) (ze (1 + q26) l)) :: (RowE (α := MsgS) own 57 v87 [(⟨3, self, m.frm, .slice none 0 0, ve88⟩ : MsgS), (⟨2, self, m.frm, vv89, .slice none 0 0⟩ : MsgS)]) :: (Blk b2 (m.cells dm0 dm1).toArray 57) :: Rs) w2036 := hS2037.emp
      have hS2040 : Sep G1356 w1350 ((if 0 + 1 ≤ 0 then (RowE (α := Ev) own 36 ve88 E91) else Emp) :: (ML w2015 f2024 noX) :: (RowE (α := Int) own 3 vv89 V92) :: (RefS b35 (1 + q26) (ze (1 + q26) l)) :: (SetO b32 (1 + q26) (ze (1 + q26) l)) :: (RowE (α := MsgS) own 57 v87 [(⟨3, self, m.frm, .slice none 0 0, ve88⟩ : MsgS), (⟨2, self, m.frm, vv89, .slice none 0 0⟩ : MsgS)]) :: (Blk b2 (m.cells dm0 dm1).toArray 57) :: Rs) w2036 := Sep.old hS2039 (by omega) (RowE (α := Ev) own 36 ve88 E91)
      have hS2041 := hS2040.mv2
      have hS2042 : Sep G1356 w1350 ((if 0 + 1 ≤ 1 then (RowE (α := Int) own 3 vv89 V92) else Emp) :: (if 0 + 1 ≤ 0 then (RowE (α := Ev) own 36 ve88 E91) else Emp) :: (ML w2015 f2024 noX) :: (RefS b35 (1 + q26) (ze (1 + q26) l)) :: (SetO b32 (1 + q26) (ze (1 + q26) l)) :: (RowE (α := MsgS) own 57 v87 [(⟨3, self, m.frm, .slice none 0 0, ve88⟩ : MsgS), (⟨2, self, m.frm, vv89, .slice none 0 0⟩ : MsgS)]) :: (Blk b2 (m.cells dm0 dm1).toArray 57) :: Rs) w2036 := Sep.yet hS2041 (by omega)
      have hS2043 : Sep G1356 w1350 ((if 0 + 1 ≤ 1 then (RowE (α := Int) own 3 vv89 V92) else Emp) :: (if 0 + 1 ≤ 0 then (RowE (α := Ev) own 36 ve88 E91) else Emp) :: (RefS b35 (1 + q26) (ze (1 + q26) l)) :: (SetO b32 (1 + q26) (ze (1 + q26) l)) :: (RowE (α := MsgS) own 57 v87 [(⟨3, self, m.frm, .slice none 0 0, ve88⟩ : MsgS), (⟨2, self, m.frm, vv89, .slice none 0 0⟩ : MsgS)]) :: (Blk b2 (m.cells dm0 dm1).toArray 57) :: Rs) w2036 := hS2042.sel 7 [0, 1, 3, 4, 5, 6] (Nat.le_add_left _ _) rfl rfl
      exact ⟨_, (by omega), 0 + 1, _, rfl, zn ⟨rfl, rfl, rfl, rfl, rfl, rfl, rfl, rfl, trivial⟩, (by omega), hS2043⟩
     ·skip
      have hS2044 : Sep G1356 w1350 ((RowE (α := Int) own 3 vv89 V92) :: (if 1 ≤ 0 then (RowE (α := Ev) own 36 ve88 E91) else Emp) :: (RefS b35 (1 + q26) (ze (1 + q26) l)) :: (SetO b32 (1 + q26) (ze (1 + q26) l)) :: (RowE (α := MsgS) own 57 v87 [(⟨3, self, m.frm, .slice none 0 0, ve88⟩ : MsgS), (⟨2, self, m.frm, vv89, .slice none 0 0⟩ : MsgS)]) :: (Blk b2 (m.cells dm0 dm1).toArray 57) :: Rs) w1368 := Sep.still hS1371 (by omega)
      have hr2045 := hS2044.row (i := 0) rfl
      have hr2045s : _ * 8 ≤ _ := hr2045.2
      refine zS ((fun TT pp0 => WF [fun vals wq => Sep G1356 w1350 (pp0 :: TT) wq, fun vals wq => (vals 8 = (.bool (decide ((⟨2, self, m.frm, V92, []⟩ : Msg) = ([(⟨3, self, m.frm, [], E91⟩ : Msg), (⟨2, self, m.frm, V92, []⟩ : Msg)].getD 1 default))) : Value)) ∧ Sep G1356 w1350 (pp0 :: TT) wq]) ((if 1 ≤ 0 then (RowE (α := Ev) own 36 ve88 E91) else Emp) :: (RefS b35 (1 + q26) (ze (1 + q26) l)) :: (SetO b32 (1 + q26) (ze (1 + q26) l)) :: (RowE (α := MsgS) own 57 v87 [(⟨3, self, m.frm, .slice none 0 0, ve88⟩ : MsgS), (⟨2, self, m.frm, vv89, .slice none 0 0⟩ : MsgS)]) :: (Blk b2 (m.cells dm0 dm1).toArray 57) :: Rs) (RowE (α := Int) own 3 vv89 V92)) (AF [Vl 0 (v87), Vl 1 (.int .i64 ((1 : Nat) : Int)), Vl 2 (.pointer (some ⟨sb v87, so v87 + 1 * 5, none⟩)), Vl 3 (.agg (([(⟨3, self, m.frm, .slice none 0 0, ve88⟩ : MsgS), (⟨2, self, m.frm, vv89, .slice none 0 0⟩ : MsgS)].getD 1 default).cells).toArray), Vl 4 (v113), Vl 5 (.int .i64 ((1 : Nat) : Int)), Vl 6 (.pointer (some ⟨sb v113, so v113 + 1 * 5, none⟩)), Vl 7 (.agg (([(⟨3, self, m.frm, [], E91⟩ : Msg), (⟨2, self, m.frm, V92, []⟩ : Msg)].getD 1 default).cells (zR w1350 (sb v113) (so v113 + 1 * 5 + 3)) (zR w1350 (sb v113) (so v113 + 1 * 5 + 4))).toArray), fun _ => True, Vl 9 (.bool false)]) [[], [], [0, 1], [0, 1, 2], [], [], [4, 5], [4, 5, 6], [0, 1, 2, 3, 4, 5, 6, 7], [0, 1, 2, 3, 4, 5, 6, 7, 8]] [8] [(0, 0), (0, 0), (0, 0), (0, 0), (0, 0), (0, 0), (0, 0), (0, 0), (0, 0), (1, 1)] (by kernel_rfl) (by kernel_rfl) (by kernel_rfl) rfl (by kernel_rfl) (by kernel_rfl) (fun _ h1 h2 h3 h4 _ => hS2044.same h1 h2 h3 h4) ?_ (yk ⟨dA, dA, dA, dA, dA, dA, dA, dA, dT, dA, trivial⟩) ⟨?_, ?_, ?_, ?_, ?_, ?_, ?_, ?_, ?_, ?_, trivial⟩ ?_
      ·intro k vals vals' w hv h
       have e : ∀ j ∈ ([8] : List Nat), vals' j = vals j := hv
       match k, h with
       | 0, h => exact h
       | 1, h => exact (by simpa only [WF, List.getElem?_cons_zero, List.getElem?_cons_succ, e 8 (by decide)] using h)
       | _ + 2, _ => trivial
      ·intro k2146 vals w2147 h2150 h2151 hW2149 hA2148
       refine obl rfl ?_
       exact zb (v := v87) rfl (fun vals' hv _ => ⟨rfl, hv⟩)
      ·intro k2152 vals w2153 h2156 h2157 hW2155 hA2154
       refine obl rfl ?_
       exact zb (v := .int .i64 ((1 : Nat) : Int)) rfl (fun vals' hv _ => ⟨rfl, hv⟩)
      ·intro k2158 vals w2159 h2162 h2163 hW2161 hA2160
       obtain rfl : k2158 = 0 := Nat.le_antisymm h2163 h2162
       have hS2164 : Sep _ _ _ _ := hW2161
       have e2165 := hA2160 0 (by decide)
       have e2166 := hA2160 1 (by decide)
       refine obl rfl ?_
       have hi2167 : 1 < [(⟨3, self, m.frm, .slice none 0 0, ve88⟩ : MsgS), (⟨2, self, m.frm, vv89, .slice none 0 0⟩ : MsgS)].length := (by first | omega | (simp only [zu]; omega))
       exact zl (k := 5) (i := 1) Try.underlying58 Try.sizeOf57 e2165 hr1330.1 e2166 hi2167 (fun vals' hv _ => ⟨rfl, hv⟩)
      ·intro k2168 vals w2169 h2172 h2173 hW2171 hA2170
       obtain rfl : k2168 = 0 := Nat.le_antisymm h2173 h2172
       have hS2174 : Sep _ _ _ _ := hW2171
       have e2175 := hA2170 2 (by decide)
       refine obl rfl ?_
       have hi2177 : 1 < [(⟨3, self, m.frm, .slice none 0 0, ve88⟩ : MsgS), (⟨2, self, m.frm, vv89, .slice none 0 0⟩ : MsgS)].length := (by first | omega | (simp only [zu]; omega))
       obtain ⟨_, _, hce2176, rfl, hoke2176⟩ := hS2174.rowAt (i := 4) (j := 1) rfl hi2177
       rw [← zo default hi2177] at hce2176 hoke2176
       exact zv (k := 5) Try.isAgg57 Try.sizeOf57 rfl e2175 hce2176 (fun vals' hv _ => ⟨rfl, hv⟩)
      ·intro k2178 vals w2179 h2182 h2183 hW2181 hA2180
       refine obl rfl ?_
       exact zb (v := v113) rfl (fun vals' hv _ => ⟨rfl, hv⟩)
      ·intro k2184 vals w2185 h2188 h2189 hW2187 hA2186
       refine obl rfl ?_
       exact zb (v := .int .i64 ((1 : Nat) : Int)) rfl (fun vals' hv _ => ⟨rfl, hv⟩)
      ·intro k2190 vals w2191 h2194 h2195 hW2193 hA2192
       obtain rfl : k2190 = 0 := Nat.le_antisymm h2195 h2194
       have hS2196 : Sep _ _ _ _ := hW2193
       have e2197 := hA2192 4 (by decide)
       have e2198 := hA2192 5 (by decide)
       refine obl rfl ?_
       have hi2199 : 1 < [(⟨3, self, m.frm, [], E91⟩ : Msg), (⟨2, self, m.frm, V92, []⟩ : Msg)].length := (by first | omega | (simp only [zu]; omega))
       exact zl (k := 5) (i := 1) Try.underlying58 Try.sizeOf57 e2197 hrd1362.sl e2198 hi2199 (fun vals' hv _ => ⟨rfl, hv⟩)
      ·intro k2200 vals w2201 h2204 h2205 hW2203 hA2202
       obtain rfl : k2200 = 0 := Nat.le_antisymm h2205 h2204
       have hS2206 : Sep _ _ _ _ := hW2203
       have e2207 := hA2202 6 (by decide)
       refine obl rfl ?_
       have hi2209 : 1 < [(⟨3, self, m.frm, [], E91⟩ : Msg), (⟨2, self, m.frm, V92, []⟩ : Msg)].length := (by first | omega | (simp only [zu]; omega))
       obtain ⟨hce2208, hde2208_0, hde2208_1, hoke2208⟩ := hrd1362.msg hi2209
       rw [← zo default hi2209] at hce2208 hde2208_0 hde2208_1 hoke2208
       have hsm2210 : (([(⟨3, self, m.frm, [], E91⟩ : Msg), (⟨2, self, m.frm, V92, []⟩ : Msg)].getD 1 default).vec).length * 8 ≤ 140737488355328 := hde2208_0.small
       have hsm2211 : (([(⟨3, self, m.frm, [], E91⟩ : Msg), (⟨2, self, m.frm, V92, []⟩ : Msg)].getD 1 default).evs).length * 96 ≤ 140737488355328 := hde2208_1.small
       have hcw2212 := hS2206.cells hce2208 (hrd1362.foot (ne_of_lt hi2209))
       exact zv (k := 5) Try.isAgg57 Try.sizeOf57 rfl e2207 hcw2212 (fun vals' hv _ => ⟨rfl, hv⟩)
      ·intro k2113 vals w2114 h2117 h2118 hW2116 hA2115
       obtain rfl : k2113 = 0 := Nat.le_antisymm h2118 h2117
       have hS2119 : Sep _ _ _ _ := hW2116
       have e2120 := hA2115 3 (by decide)
       have e2121 := hA2115 7 (by decide)
       refine obl rfl ?_
       have hi2123 : 1 < [(⟨3, self, m.frm, [], E91⟩ : Msg), (⟨2, self, m.frm, V92, []⟩ : Msg)].length := (by first | omega | (simp only [zu]; omega))
       obtain ⟨hce2122, hde2122_0, hde2122_1, hoke2122⟩ := hrd1362.msg hi2123
       rw [← zo default hi2123] at hce2122 hde2122_0 hde2122_1 hoke2122
       have hsm2124 : (([(⟨3, self, m.frm, [], E91⟩ : Msg), (⟨2, self, m.frm, V92, []⟩ : Msg)].getD 1 default).vec).length * 8 ≤ 140737488355328 := hde2122_0.small
       have hsm2125 : (([(⟨3, self, m.frm, [], E91⟩ : Msg), (⟨2, self, m.frm, V92, []⟩ : Msg)].getD 1 default).evs).length * 96 ≤ 140737488355328 := hde2122_1.small
       have hcw2126 := hS2119.cells hce2122 (hrd1362.foot (ne_of_lt hi2123))
       obtain ⟨G2127, hA2129, hB2130, hS2131, hk2132⟩ := hS2119.lend
       have hrd2133 := RowE.rd hA2129
       have hrd2133s : _ * 8 ≤ _ := hrd2133.small
       refine (zj (f := 44) (vals := [.agg ((⟨2, self, m.frm, V92, []⟩ : Msg).cells vv89 (.slice none 0 0)).toArray, .agg (([(⟨3, self, m.frm, [], E91⟩ : Msg), (⟨2, self, m.frm, V92, []⟩ : Msg)].getD 1 default).cells (zR w1350 (sb v113) (so v113 + 1 * 5 + 3)) (zR w1350 (sb v113) (so v113 + 1 * 5 + 4))).toArray]) (cap := []) rfl (yD ⟨e2120, e2121, trivial⟩) Try.call44 (yg (a := (⟨2, self, m.frm, V92, []⟩ : Msg)) (b := ([(⟨3, self, m.frm, [], E91⟩ : Msg), (⟨2, self, m.frm, V92, []⟩ : Msg)].getD 1 default)) hrd2133 (RdS.nil _ _) ⟨(show InR 2 from by decide), hself, om.frm⟩ (RdS.base hde2122_0 hB2130) (RdS.base hde2122_1 hB2130) hoke2122 hS2131) ?_)
       rintro _ w2134 ⟨rfl, hS2135⟩
       have hS2136 := hk2132 _ _ hS2135
       intro vals' hv hv'
       refine ⟨?_, trivial⟩
       show (vals' 8 = (.bool (decide ((⟨2, self, m.frm, V92, []⟩ : Msg) = ([(⟨3, self, m.frm, [], E91⟩ : Msg), (⟨2, self, m.frm, V92, []⟩ : Msg)].getD 1 default))) : Value)) ∧ Sep G1356 w1350 ((RowE (α := Int) own 3 vv89 V92) :: (if 1 ≤ 0 then (RowE (α := Ev) own 36 ve88 E91) else Emp) :: (RefS b35 (1 + q26) (ze (1 + q26) l)) :: (SetO b32 (1 + q26) (ze (1 + q26) l)) :: (RowE (α := MsgS) own 57 v87 [(⟨3, self, m.frm, .slice none 0 0, ve88⟩ : MsgS), (⟨2, self, m.frm, vv89, .slice none 0 0⟩ : MsgS)]) :: (Blk b2 (m.cells dm0 dm1).toArray 57) :: Rs) w2134
       exact ⟨hv, hS2136⟩
      ·intro k2213 vals w2214 h2217 h2218 hW2216 hA2215
       obtain rfl : k2213 = 1 := Nat.le_antisymm h2218 h2217
       obtain ⟨he2137, hS2219⟩ := hW2216
       refine obl rfl ?_
       have hl2220 : (!(decide ((⟨2, self, m.frm, V92, []⟩ : Msg) = ([(⟨3, self, m.frm, [], E91⟩ : Msg), (⟨2, self, m.frm, V92, []⟩ : Msg)].getD 1 default)))) = false := by simp
       exact yH (a := decide ((⟨2, self, m.frm, V92, []⟩ : Msg) = ([(⟨3, self, m.frm, [], E91⟩ : Msg), (⟨2, self, m.frm, V92, []⟩ : Msg)].getD 1 default))) he2137 (fun vals' hv _ => ⟨rfl, hv.trans (congrArg Value.bool hl2220)⟩)
      intro vals w2221 hW2222 hA2223
      obtain ⟨he2137, hS2224⟩ := hW2222
      have e2225 := hA2223 9 (by decide)
      refine yj (kv := [(2, .int .i64 (self)), (4, .int .i64 (chunk)), (8, .pointer (some ⟨b2, 0, none⟩)), (11, .pointer (some ⟨b32, 0, none⟩)), (12, .pointer (some ⟨b35, 0, none⟩)), (15, v87), (16, v113), (17, .int .i64 ((1 : Nat) : Int)), (82, v87), (83, .int .i64 (([(⟨3, self, m.frm, .slice none 0 0, ve88⟩ : MsgS), (⟨2, self, m.frm, vv89, .slice none 0 0⟩ : MsgS)].length : Nat) : Int)), (84, .bool true), (96, .bool false)]) ⟨rfl, rfl, rfl, rfl, rfl, rfl, rfl, rfl, rfl, rfl, rfl, (by exact e2225), trivial⟩ (fun ρw2221 => ?_)
      refine zg ?_
      refine zk rfl ?_
      refine zp ?_
      refine zd ?_
      refine za (by kernel_rfl) (fun _ => ?_)
      refine st (zb (v := v87) rfl ?_)
      refine st (zb (v := .int .i64 ((1 : Nat) : Int)) rfl ?_)
      have hi2226 : 1 < [(⟨3, self, m.frm, .slice none 0 0, ve88⟩ : MsgS), (⟨2, self, m.frm, vv89, .slice none 0 0⟩ : MsgS)].length := (by first | omega | (simp only [zu]; omega))
      refine st (zl (k := 5) (i := 1) Try.underlying58 Try.sizeOf57 rfl hr1330.1 rfl hi2226 ?_)
      refine st (yh rfl ?_)
      have hi2228 : 1 < [(⟨3, self, m.frm, .slice none 0 0, ve88⟩ : MsgS), (⟨2, self, m.frm, vv89, .slice none 0 0⟩ : MsgS)].length := (by first | omega | (simp only [zu]; omega))
      obtain ⟨_, _, hce2227, rfl, hoke2227⟩ := hS2224.rowAt (i := 4) (j := 1) rfl hi2228
      rw [← zo default hi2228] at hce2227 hoke2227
      refine st (zh (v := ([(⟨3, self, m.frm, .slice none 0 0, ve88⟩ : MsgS), (⟨2, self, m.frm, vv89, .slice none 0 0⟩ : MsgS)].getD 1 default).vv) Try.isAgg34 rfl (hce2227.get (j := 3) rfl) ?_)
      obtain ⟨f2229, hm2230, hS2231⟩ := hS2224.toML
      refine st (zj (f := 37) (vals := [vv89]) (cap := []) rfl rfl Try.call37 (yf  hm2230 hS2231) ?_)
      rintro _ w2232 ⟨rfl, hS2233⟩
      refine zg ?_
      refine za (by kernel_rfl) (fun _ => ?_)
      refine st (zb (v := v87) rfl ?_)
      refine st (zb (v := .int .i64 ((1 : Nat) : Int)) rfl ?_)
      have hi2234 : 1 < [(⟨3, self, m.frm, .slice none 0 0, ve88⟩ : MsgS), (⟨2, self, m.frm, vv89, .slice none 0 0⟩ : MsgS)].length := (by first | omega | (simp only [zu]; omega))
      refine st (zl (k := 5) (i := 1) Try.underlying58 Try.sizeOf57 rfl hr1330.1 rfl hi2234 ?_)
      refine st (xo rfl ?_)
      have hi2236 : 1 < [(⟨3, self, m.frm, .slice none 0 0, ve88⟩ : MsgS), (⟨2, self, m.frm, vv89, .slice none 0 0⟩ : MsgS)].length := (by first | omega | (simp only [zu]; omega))
      obtain ⟨_, _, hce2235, rfl, hoke2235⟩ := hS2233.rowAt (i := 4) (j := 1) rfl hi2236
      rw [← zo default hi2236] at hce2235 hoke2235
      refine st (zh (v := ([(⟨3, self, m.frm, .slice none 0 0, ve88⟩ : MsgS), (⟨2, self, m.frm, vv89, .slice none 0 0⟩ : MsgS)].getD 1 default).ve) Try.isAgg22 rfl (hce2235.get (j := 4) rfl) ?_)
      have hS2237 : Sep G1356 w1350 ((RowE (α := Ev) own 36 (.slice none 0 0) ([] : List Ev)) :: (ML w2221 f2229 noX) :: (if 1 ≤ 0 then (RowE (α := Ev) own 36 ve88 E91) else Emp) :: (RefS b35 (1 + q26) (ze (1 + q26) l)) :: (SetO b32 (1 + q26) (ze (1 + q26) l)) :: (RowE (α := MsgS) own 57 v87 [(⟨3, self, m.frm, .slice none 0 0, ve88⟩ : MsgS), (⟨2, self, m.frm, vv89, .slice none 0 0⟩ : MsgS)]) :: (Blk b2 (m.cells dm0 dm1).toArray 57) :: Rs) w2232 := hS2233.rowNil own 36
      obtain ⟨f2238, hm2239, hS2240⟩ := hS2237.toML
      refine st (zj (f := 45) (vals := [(.slice none 0 0)]) (cap := []) rfl rfl Try.call45 (yR  hm2239 hS2240) ?_)
      rintro _ w2241 ⟨rfl, hS2242⟩
      refine zg ?_
      refine za (by kernel_rfl) (fun _ => ?_)
      refine st (zb (v := .int .i64 ((1 : Nat) : Int)) rfl ?_)
      have hr2243 : InR ((1 + 1 : Nat) : Int) := by first | omega | (simp only [zu]; omega)
      refine st (zU (r := ((1 + 1 : Nat) : Int)) (k := .i64) (a := ((1 : Nat) : Int)) (b := 1) rfl rfl (by rw [show (((1 : Nat) : Int) + 1 : Int) = ((1 + 1 : Nat) : Int) by first | omega | (simp only [zu]; omega)]; exact zH hr2243) ?_)
      refine st (zf (v := .int .i64 ((1 + 1 : Nat) : Int)) rfl ?_)
      refine zg ?_
      have hS2244 := hS2242.mv1
      have hS2245 : Sep G1356 w1350 ((if 1 + 1 ≤ 0 then (RowE (α := Ev) own 36 ve88 E91) else Emp) :: (ML w2221 f2229 noX) :: (RefS b35 (1 + q26) (ze (1 + q26) l)) :: (SetO b32 (1 + q26) (ze (1 + q26) l)) :: (RowE (α := MsgS) own 57 v87 [(⟨3, self, m.frm, .slice none 0 0, ve88⟩ : MsgS), (⟨2, self, m.frm, vv89, .slice none 0 0⟩ : MsgS)]) :: (Blk b2 (m.cells dm0 dm1).toArray 57) :: Rs) w2241 := Sep.old hS2244 (by omega) (RowE (α := Ev) own 36 ve88 E91)
      have hS2246 := hS2245.mv1
      have hS2247 : Sep G1356 w1350 ((if 1 + 1 ≤ 1 then (RowE (α := Int) own 3 vv89 V92) else Emp) :: (if 1 + 1 ≤ 0 then (RowE (α := Ev) own 36 ve88 E91) else Emp) :: (RefS b35 (1 + q26) (ze (1 + q26) l)) :: (SetO b32 (1 + q26) (ze (1 + q26) l)) :: (RowE (α := MsgS) own 57 v87 [(⟨3, self, m.frm, .slice none 0 0, ve88⟩ : MsgS), (⟨2, self, m.frm, vv89, .slice none 0 0⟩ : MsgS)]) :: (Blk b2 (m.cells dm0 dm1).toArray 57) :: Rs) w2241 := Sep.old hS2246 (by omega) (RowE (α := Int) own 3 vv89 V92)
      exact ⟨_, (by omega), 1 + 1, _, rfl, zn ⟨rfl, rfl, rfl, rfl, rfl, rfl, rfl, rfl, trivial⟩, (by omega), hS2247⟩
   ·skip
    have hS2248 : Sep G W ((RefS b35 (1 + q26) (ze (1 + q26) l)) :: (RowE (α := Msg) own 57 v113 (xi (1 + q26) (ze (1 + q26) l) self m chunk)) :: (SetO b32 (1 + q26) (ze (1 + q26) l)) :: (RowE (α := Int) own 3 v044 m.vec) :: (RowE (α := Ev) own 36 v145 m.evs) :: (RowE (α := MsgS) own 57 v87 [(⟨2, self, m.frm, vv89, .slice none 0 0⟩ : MsgS)]) :: (RowE (α := Ev) own 36 ve88 E91) :: (RowE (α := Int) own 3 vv89 V92) :: (Blk b51 (m.cells v044 v145).toArray 57) :: (Blk b2 (m.cells dm0 dm1).toArray 57) :: Rs) w114 := hS117
    have hr2249 := hS2248.row (i := 5) rfl
    have hr2249s : _ * 72 ≤ _ := hr2249.2
    rw [hA9118] at hS2248
    have hS2250 : Sep G W ((RefS b35 (1 + q26) (ze (1 + q26) l)) :: (RowE (α := Msg) own 57 v113 [(⟨2, self, m.frm, V92, []⟩ : Msg)]) :: (SetO b32 (1 + q26) (ze (1 + q26) l)) :: (RowE (α := Int) own 3 v044 m.vec) :: (RowE (α := Ev) own 36 v145 m.evs) :: (RowE (α := MsgS) own 57 v87 [(⟨2, self, m.frm, vv89, .slice none 0 0⟩ : MsgS)]) :: (RowE (α := Ev) own 36 ve88 E91) :: (RowE (α := Int) own 3 vv89 V92) :: (Blk b51 (m.cells v044 v145).toArray 57) :: (Blk b2 (m.cells dm0 dm1).toArray 57) :: Rs) w114 := hS2248
    have hr2251 := hS2250.row (i := 1) rfl
    have hr2251s : _ * 72 ≤ _ := hr2251.2
    have hxl9 : [(⟨2, self, m.frm, vv89, .slice none 0 0⟩ : MsgS)].length = 1 ∧ [(⟨2, self, m.frm, V92, []⟩ : Msg)].length = 1 := ⟨rfl, rfl⟩
    refine zF (by kernel_rfl) ?_
    refine st (zb (v := v87) rfl ?_)
    refine st (zB (n := [(⟨2, self, m.frm, vv89, .slice none 0 0⟩ : MsgS)].length) Try.underlying58 rfl hr2249.1 ?_)
    refine st (zb (v := v113) rfl ?_)
    refine st (zB (n := [(⟨2, self, m.frm, V92, []⟩ : Msg)].length) Try.underlying58 rfl hr2251.1 ?_)
    have hkn2252 : (!decide ((([(⟨2, self, m.frm, vv89, .slice none 0 0⟩ : MsgS)].length : Nat) : Int) = (([(⟨2, self, m.frm, V92, []⟩ : Msg)].length : Nat) : Int))) = false := by simp
    refine st (xh (congrArg Value.bool hkn2252) (fun K9 h9 => yu (k := .i64) (a := (([(⟨2, self, m.frm, vv89, .slice none 0 0⟩ : MsgS)].length : Nat) : Int)) (b := (([(⟨2, self, m.frm, V92, []⟩ : Msg)].length : Nat) : Int)) rfl rfl h9) ?_)
    refine st (zb (v := .bool false) rfl ?_)
    refine sty rfl rfl (zv (k := 5) Try.isAgg57 Try.sizeOf57 rfl rfl (CellsAt.all (hS2250.blk (i := 8) rfl)) ?_)
    refine sty rfl rfl (zv (k := 5) Try.isAgg57 Try.sizeOf57 rfl rfl (CellsAt.all (hS2250.blk (i := 9) rfl)) ?_)
    have hS2253 := hS2250.mv3
    obtain ⟨G2254, hA2256, hB2257, hS2258, hk2259⟩ := hS2253.lend
    have hrd2260 := RowE.rd hA2256
    have hrd2260s : _ * 8 ≤ _ := hrd2260.small
    have hS2261 := hS2258.mv3
    obtain ⟨G2262, hA2264, hB2265, hS2266, hk2267⟩ := hS2261.lend
    have hrd2268 := RowE.rd hA2264
    have hrd2268s : _ * 96 ≤ _ := hrd2268.small
    refine sty rfl rfl (zj (f := 44) (vals := [.agg (m.cells v044 v145).toArray, .agg (m.cells dm0 dm1).toArray]) (cap := []) rfl rfl Try.call44 (yg (a := m) (b := m) (RdS.base hrd2260 hB2265) hrd2268 om (RdS.base (RdS.base hdm0 hB2257) hB2265) (RdS.base (RdS.base hdm1 hB2257) hB2265) om hS2266) ?_)
    rintro _ w2269 ⟨rfl, hS2270⟩
    have hS2271 := hk2267 _ _ hS2270
    have hS2272 := hk2259 _ _ hS2271
    have hkn2273 : (decide (m = m)) = true := decide_eq_true rfl
    rw [hkn2273]
    refine sty rfl rfl (yH (a := true) rfl ?_)
    refine st (xc (v := .bool false) rfl rfl ?_)
    refine zg ?_
    refine zk rfl ?_
    refine zp ?_
    refine zd ?_
    refine zd ?_
    have hS2274 := hS2272.mv3
    obtain ⟨G2275, hA2277, hB2278, hS2279, hk2280⟩ := hS2274.lend
    have hrd2281 := RowE.rd hA2277
    have hrd2281s : _ * 72 ≤ _ := hrd2281.small
    have hS2282 : Sep G2275 w2269 ((RefS b35 (1 + q26) (ze (1 + q26) l)) :: (SetO b32 (1 + q26) (ze (1 + q26) l)) :: (RowE (α := MsgS) own 57 v87 [(⟨2, self, m.frm, vv89, .slice none 0 0⟩ : MsgS)]) :: (RowE (α := Int) own 3 vv89 V92) :: (Blk b2 (m.cells dm0 dm1).toArray 57) :: Rs) w2269 := hS2279.sel 9 [2, 3, 4, 6, 8] (Nat.le_add_left _ _) rfl rfl
    have hS2283 := hS2282.mv3
    have hS2284 : Sep G2275 w2269 ((if 0 ≤ 0 then (RowE (α := Int) own 3 vv89 V92) else Emp) :: (RefS b35 (1 + q26) (ze (1 + q26) l)) :: (SetO b32 (1 + q26) (ze (1 + q26) l)) :: (RowE (α := MsgS) own 57 v87 [(⟨2, self, m.frm, vv89, .slice none 0 0⟩ : MsgS)]) :: (Blk b2 (m.cells dm0 dm1).toArray 57) :: Rs) w2269 := Sep.yet hS2283 (Nat.zero_le _)
    refine za (by kernel_rfl) (fun _ => ?_)
    refine st (zf (v := .int .i64 (0)) rfl ?_)
    refine zg ?_
    refine zx ?_
    refine yb (fun mq σ wq => ∃ (i9 : Nat) (ρ : Env), mq = 1 - i9 ∧ σ = ye ρ [(2, .int .i64 (self)), (4, .int .i64 (chunk)), (8, .pointer (some ⟨b2, 0, none⟩)), (11, .pointer (some ⟨b32, 0, none⟩)), (12, .pointer (some ⟨b35, 0, none⟩)), (15, v87), (16, v113), (17, .int .i64 ((i9 : Nat) : Int))] ∧ (i9 ≤ 1) ∧ Sep G2275 w2269 ((if i9 ≤ 0 then (RowE (α := Int) own 3 vv89 V92) else Emp) :: (RefS b35 (1 + q26) (ze (1 + q26) l)) :: (SetO b32 (1 + q26) (ze (1 + q26) l)) :: (RowE (α := MsgS) own 57 v87 [(⟨2, self, m.frm, vv89, .slice none 0 0⟩ : MsgS)]) :: (Blk b2 (m.cells dm0 dm1).toArray 57) :: Rs) wq) ⟨0, _, rfl, zn ⟨rfl, rfl, rfl, rfl, rfl, rfl, rfl, rfl, trivial⟩, Nat.zero_le _, hS2284⟩ ?_
    rintro m2286 σ2287 w2285 ⟨i9, ρl5, rfl, rfl, hi9, hS2288⟩
    refine zd ?_
    refine zd ?_
    refine za (by kernel_rfl) (fun _ => ?_)
    refine st (zb (v := .int .i64 ((i9 : Nat) : Int)) rfl ?_)
    refine st (zb (v := v87) rfl ?_)
    refine st (zB (n := [(⟨2, self, m.frm, vv89, .slice none 0 0⟩ : MsgS)].length) Try.underlying58 rfl hr2249.1 ?_)
    refine st (zJ (k := .i64) (a := ((i9 : Nat) : Int)) (b := (([(⟨2, self, m.frm, vv89, .slice none 0 0⟩ : MsgS)].length : Nat) : Int)) rfl rfl ?_)
    refine zg ?_
    cases hc2289 : decide (((i9 : Nat) : Int) < (([(⟨2, self, m.frm, vv89, .slice none 0 0⟩ : MsgS)].length : Nat) : Int))
    ·skip
     have hc2289r := hc2289
     have hc2289 := of_decide_eq_false hc2289
     refine zk rfl ?_
     refine ya ?_
     refine zQ ?_
     refine zd ?_
     refine za (by kernel_rfl) (fun _ => ?_)
     refine st (zb (v := .pointer (some ⟨b32, 0, none⟩)) rfl ?_)
     refine st (zb (v := .int .i64 (self)) rfl ?_)
     refine st (zb (v := .int .i64 (chunk)) rfl ?_)
     have hS2290 := hS2288.mv2
     obtain ⟨G2291, hA2293, hB2294, hS2295, hk2296⟩ := hS2290.lend
     obtain ⟨vv2297, m2298, R2299, hb2300, hv2301, hr2302⟩ := SetO.sh hA2293
     have hsm2303 : (zc (1 + q26) (ze (1 + q26) l)).length * 8 ≤ 140737488355328 := hv2301.small
     refine st (zj (f := 46) (vals := [.pointer (some ⟨b32, 0, none⟩), .int .i64 (self), .int .i64 (chunk)]) (cap := []) rfl rfl Try.call46 (xV (fr := self) (tt := chunk) hA2293 (by omega) (by omega) hS2295) ?_)
     rintro _ w2306 ⟨v2304, rfl, hmo2305, hS2307⟩
     have hr2308 := hS2307.row (i := 0) rfl
     have hr2308s : _ * 8 ≤ _ := hr2308.2
     have hS2309 := hk2296 _ _ hS2307
     refine st (zX Try.zeroValue57 ?_)
     intro w2312 b2311 hn2310
     have hS2313 := hS2309.new hn2310
     refine stn (zT (v := .agg ((⟨1, self, chunk, zc (1 + q26) (ze (1 + q26) l), []⟩ : Msg).cells v2304 (.slice none 0 0)).toArray) (c' := ((⟨1, self, chunk, zc (1 + q26) (ze (1 + q26) l), []⟩ : Msg).cells v2304 (.slice none 0 0)).toArray) Try.sizeOf57 rfl rfl (hS2313.blk (i := 0) rfl) (yz ⟨rfl, rfl, rfl, hr2308.1.one, rfl, trivial⟩) (Nat.le_of_ble_eq_true rfl) rfl ?_)
     intro w2314 hp2315
     have hS2316 := hS2313.pt0 hp2315
     refine zg ?_
     refine zd ?_
     refine za (by kernel_rfl) (fun _ => ?_)
     refine st (zb (v := .pointer (some ⟨b32, 0, none⟩)) rfl ?_)
     refine st (zb (v := .int .i64 (self)) rfl ?_)
     refine st (zb (v := .int .i64 (chunk)) rfl ?_)
     have hS2317 := hS2316.mv1
     obtain ⟨G2318, hA2320, hB2321, hS2322, hk2323⟩ := hS2317.lend
     obtain ⟨vv2324, m2325, R2326, hb2327, hv2328, hr2329⟩ := SetO.sh hA2320
     have hsm2330 : (zc (1 + q26) (ze (1 + q26) l)).length * 8 ≤ 140737488355328 := hv2328.small
     refine st (zj (f := 47) (vals := [.pointer (some ⟨b32, 0, none⟩), .int .i64 (self), .int .i64 (chunk)]) (cap := []) rfl rfl Try.call47 (ZY (fr := self) (tt := chunk) hA2320 (by omega) (by omega) hS2322) ?_)
     rintro _ w2333 ⟨v2331, rfl, hmo2332, hS2334⟩
     have hr2335 := hS2334.row (i := 0) rfl
     have hr2335s : _ * 8 ≤ _ := hr2335.2
     have hS2336 := hk2323 _ _ hS2334
     refine st (zX Try.zeroValue57 ?_)
     intro w2339 b2338 hn2337
     have hS2340 := hS2336.new hn2337
     refine stn (zT (v := .agg ((⟨4, self, chunk, zc (1 + q26) (ze (1 + q26) l), []⟩ : Msg).cells v2331 (.slice none 0 0)).toArray) (c' := ((⟨4, self, chunk, zc (1 + q26) (ze (1 + q26) l), []⟩ : Msg).cells v2331 (.slice none 0 0)).toArray) Try.sizeOf57 rfl rfl (hS2340.blk (i := 0) rfl) (yz ⟨rfl, rfl, rfl, hr2335.1.one, rfl, trivial⟩) (Nat.le_of_ble_eq_true rfl) rfl ?_)
     intro w2341 hp2342
     have hS2343 := hS2340.pt0 hp2342
     refine zg ?_
     refine zd ?_
     refine zS ((fun TT pp0 pp1 pp2 pp3 pp4 pp5 pp6 => WF [fun vals wq => Sep G2275 w2269 (pp0 :: pp1 :: pp2 :: pp3 :: pp4 :: pp5 :: pp6 :: TT) wq, fun vals wq => ∃ (v2390 : Value), (vals 4 = (.agg ((⟨1, self, chunk, zc (1 + q26) (ze (1 + q26) l), []⟩ : Msg).cells v2390 (.slice none 0 0)).toArray : Value)) ∧ ((⟨1, self, chunk, zc (1 + q26) (ze (1 + q26) l), []⟩ : Msg).Ok) ∧ Sep G2275 w2269 (pp6 :: (RowE (α := Int) own 3 v2390 (zc (1 + q26) (ze (1 + q26) l))) :: pp0 :: pp1 :: pp2 :: pp3 :: pp4 :: pp5 :: TT) wq, fun vals wq => ∃ (v2390 : Value), (vals 4 = (.agg ((⟨1, self, chunk, zc (1 + q26) (ze (1 + q26) l), []⟩ : Msg).cells v2390 (.slice none 0 0)).toArray : Value)) ∧ (vals 5 = (.bool (decide ((⟨1, self, chunk, zc (1 + q26) (ze (1 + q26) l), []⟩ : Msg) = (⟨1, self, chunk, zc (1 + q26) (ze (1 + q26) l), []⟩ : Msg))) : Value)) ∧ ((⟨1, self, chunk, zc (1 + q26) (ze (1 + q26) l), []⟩ : Msg).Ok) ∧ Sep G2275 w2269 (pp4 :: (RowE (α := Int) own 3 v2390 (zc (1 + q26) (ze (1 + q26) l))) :: pp6 :: pp0 :: pp1 :: pp2 :: pp3 :: pp5 :: TT) wq, fun vals wq => ∃ (v2390 : Value) (v2485 : Value), (vals 4 = (.agg ((⟨1, self, chunk, zc (1 + q26) (ze (1 + q26) l), []⟩ : Msg).cells v2390 (.slice none 0 0)).toArray : Value)) ∧ (vals 5 = (.bool (decide ((⟨1, self, chunk, zc (1 + q26) (ze (1 + q26) l), []⟩ : Msg) = (⟨1, self, chunk, zc (1 + q26) (ze (1 + q26) l), []⟩ : Msg))) : Value)) ∧ (vals 11 = (.agg ((⟨4, self, chunk, zc (1 + q26) (ze (1 + q26) l), []⟩ : Msg).cells v2485 (.slice none 0 0)).toArray : Value)) ∧ ((⟨1, self, chunk, zc (1 + q26) (ze (1 + q26) l), []⟩ : Msg).Ok) ∧ ((⟨4, self, chunk, zc (1 + q26) (ze (1 + q26) l), []⟩ : Msg).Ok) ∧ Sep G2275 w2269 (pp6 :: (RowE (α := Int) own 3 v2485 (zc (1 + q26) (ze (1 + q26) l))) :: pp4 :: (RowE (α := Int) own 3 v2390 (zc (1 + q26) (ze (1 + q26) l))) :: pp0 :: pp1 :: pp2 :: pp3 :: pp5 :: TT) wq, fun vals wq => ∃ (v2390 : Value) (v2485 : Value), (vals 4 = (.agg ((⟨1, self, chunk, zc (1 + q26) (ze (1 + q26) l), []⟩ : Msg).cells v2390 (.slice none 0 0)).toArray : Value)) ∧ (vals 5 = (.bool (decide ((⟨1, self, chunk, zc (1 + q26) (ze (1 + q26) l), []⟩ : Msg) = (⟨1, self, chunk, zc (1 + q26) (ze (1 + q26) l), []⟩ : Msg))) : Value)) ∧ (vals 11 = (.agg ((⟨4, self, chunk, zc (1 + q26) (ze (1 + q26) l), []⟩ : Msg).cells v2485 (.slice none 0 0)).toArray : Value)) ∧ (vals 12 = (.bool (decide ((⟨4, self, chunk, zc (1 + q26) (ze (1 + q26) l), []⟩ : Msg) = (⟨4, self, chunk, zc (1 + q26) (ze (1 + q26) l), []⟩ : Msg))) : Value)) ∧ ((⟨1, self, chunk, zc (1 + q26) (ze (1 + q26) l), []⟩ : Msg).Ok) ∧ ((⟨4, self, chunk, zc (1 + q26) (ze (1 + q26) l), []⟩ : Msg).Ok) ∧ Sep G2275 w2269 (pp2 :: (RowE (α := Int) own 3 v2485 (zc (1 + q26) (ze (1 + q26) l))) :: pp6 :: pp4 :: (RowE (α := Int) own 3 v2390 (zc (1 + q26) (ze (1 + q26) l))) :: pp0 :: pp1 :: pp3 :: pp5 :: TT) wq]) ((RowE (α := MsgS) own 57 v87 [(⟨2, self, m.frm, vv89, .slice none 0 0⟩ : MsgS)]) :: (Blk b2 (m.cells dm0 dm1).toArray 57) :: Rs) (Blk b2338 ((⟨4, self, chunk, zc (1 + q26) (ze (1 + q26) l), []⟩ : Msg).cells v2331 (.slice none 0 0)).toArray 57) (SetO b32 (1 + q26) (ze (1 + q26) l)) (RowE (α := Int) own 3 v2331 (zc (1 + q26) (ze (1 + q26) l))) (Blk b2311 ((⟨1, self, chunk, zc (1 + q26) (ze (1 + q26) l), []⟩ : Msg).cells v2304 (.slice none 0 0)).toArray 57) (RowE (α := Int) own 3 v2304 (zc (1 + q26) (ze (1 + q26) l))) (if i9 ≤ 0 then (RowE (α := Int) own 3 vv89 V92) else Emp) (RefS b35 (1 + q26) (ze (1 + q26) l))) (AF [Vl 0 (.agg ((⟨1, self, chunk, zc (1 + q26) (ze (1 + q26) l), []⟩ : Msg).cells v2304 (.slice none 0 0)).toArray), Vl 1 (.pointer (some ⟨b35, 0, none⟩)), Vl 2 (.int .i64 (self)), Vl 3 (.int .i64 (chunk)), fun _ => True, fun _ => True, Vl 6 (.bool true), Vl 7 (.agg ((⟨4, self, chunk, zc (1 + q26) (ze (1 + q26) l), []⟩ : Msg).cells v2331 (.slice none 0 0)).toArray), Vl 8 (.pointer (some ⟨b35, 0, none⟩)), Vl 9 (.int .i64 (self)), Vl 10 (.int .i64 (chunk)), fun _ => True, fun _ => True, Vl 13 (.bool true), Vl 14 (.bool true)]) [[], [], [], [], [1, 2, 3], [0, 1, 2, 3, 4], [0, 1, 2, 3, 4, 5], [0, 1, 2, 3, 4, 5, 6], [0, 1, 2, 3, 4, 5, 6], [0, 1, 2, 3, 4, 5, 6], [0, 1, 2, 3, 4, 5, 6], [0, 1, 2, 3, 4, 5, 6, 8, 9, 10], [0, 1, 2, 3, 4, 5, 6, 7, 8, 9, 10, 11], [0, 1, 2, 3, 4, 5, 6, 7, 8, 9, 10, 11, 12], [0, 1, 2, 3, 4, 5, 6, 7, 8, 9, 10, 11, 12, 13]] [4, 5, 11, 12] [(0, 1), (0, 0), (0, 0), (0, 0), (0, 0), (1, 1), (2, 2), (2, 3), (2, 2), (2, 2), (2, 2), (2, 2), (3, 3), (4, 4), (4, 4)] (by kernel_rfl) (by kernel_rfl) (by kernel_rfl) rfl (by kernel_rfl) (by kernel_rfl) (fun _ h1 h2 h3 h4 _ => hS2343.same h1 h2 h3 h4) ?_ (yk ⟨dA, dA, dA, dA, dT, dT, dA, dA, dA, dA, dA, dT, dT, dA, dA, trivial⟩) ⟨?_, ?_, ?_, ?_, ?_, ?_, ?_, ?_, ?_, ?_, ?_, ?_, ?_, ?_, ?_, trivial⟩ ?_
     ·intro k vals vals' w hv h
      have e : ∀ j ∈ ([4, 5, 11, 12] : List Nat), vals' j = vals j := hv
      match k, h with
      | 0, h => exact h
      | 1, h => exact (by simpa only [WF, List.getElem?_cons_zero, List.getElem?_cons_succ, e 4 (by decide)] using h)
      | 2, h => exact (by simpa only [WF, List.getElem?_cons_zero, List.getElem?_cons_succ, e 4 (by decide), e 5 (by decide)] using h)
      | 3, h => exact (by simpa only [WF, List.getElem?_cons_zero, List.getElem?_cons_succ, e 4 (by decide), e 5 (by decide), e 11 (by decide)] using h)
      | 4, h => exact (by simpa only [WF, List.getElem?_cons_zero, List.getElem?_cons_succ, e 4 (by decide), e 5 (by decide), e 11 (by decide), e 12 (by decide)] using h)
      | _ + 5, _ => trivial
     ·intro k2538 vals w2539 h2542 h2543 hW2541 hA2540
      have hkk : k2538 = 0 ∨ k2538 = 1 := by have h1 : 0 ≤ k2538 := h2542; have h2 : k2538 ≤ 1 := h2543; omega
      rcases hkk with rfl | rfl
      ·skip
       have hS2544 : Sep _ _ _ _ := hW2541
       refine obl rfl ?_
       exact zv (k := 5) Try.isAgg57 Try.sizeOf57 rfl rfl (CellsAt.all (hS2544.blk (i := 3) rfl)) (fun vals' hv _ => ⟨rfl, hv⟩)
      ·skip
       obtain ⟨v2390, he2396, hmo2391, hS2545⟩ := hW2541
       refine obl rfl ?_
       exact zv (k := 5) Try.isAgg57 Try.sizeOf57 rfl rfl (CellsAt.all (hS2545.blk (i := 5) rfl)) (fun vals' hv _ => ⟨rfl, hv⟩)
     ·intro k2546 vals w2547 h2550 h2551 hW2549 hA2548
      refine obl rfl ?_
      exact zb (v := .pointer (some ⟨b35, 0, none⟩)) rfl (fun vals' hv _ => ⟨rfl, hv⟩)
     ·intro k2552 vals w2553 h2556 h2557 hW2555 hA2554
      refine obl rfl ?_
      exact zb (v := .int .i64 (self)) rfl (fun vals' hv _ => ⟨rfl, hv⟩)
     ·intro k2558 vals w2559 h2562 h2563 hW2561 hA2560
      refine obl rfl ?_
      exact zb (v := .int .i64 (chunk)) rfl (fun vals' hv _ => ⟨rfl, hv⟩)
     ·intro k2369 vals w2370 h2373 h2374 hW2372 hA2371
      obtain rfl : k2369 = 0 := Nat.le_antisymm h2374 h2373
      have hS2375 : Sep _ _ _ _ := hW2372
      have e2376 := hA2371 1 (by decide)
      have e2377 := hA2371 2 (by decide)
      have e2378 := hA2371 3 (by decide)
      refine obl rfl ?_
      have hS2379 := hS2375.mv6
      obtain ⟨G2380, hA2382, hB2383, hS2384, hk2385⟩ := hS2379.lend
      obtain ⟨vl2386, hb2387, hl2388⟩ := RefS.sh hA2382
      have hsm2389 : (ze (1 + q26) l).length * 96 ≤ 140737488355328 := hl2388.small
      refine (zj (f := 48) (vals := [.pointer (some ⟨b35, 0, none⟩), .int .i64 (self), .int .i64 (chunk)]) (cap := []) rfl (yD ⟨e2376, e2377, e2378, trivial⟩) Try.call48 (xD (fr := self) (tt := chunk) hA2382 (by omega) (by omega) hS2384 (by first | exact hG9 | exact laidL_good) ((by omega))) ?_)
      rintro _ w2392 ⟨v2390, rfl, hmo2391, hS2393⟩
      have hr2394 := hS2393.row (i := 0) rfl
      have hr2394s : _ * 8 ≤ _ := hr2394.2
      have hS2395 := hk2385 _ _ hS2393
      intro vals' hv hv'
      refine ⟨?_, trivial⟩
      show ∃ (v2390 : Value), (vals' 4 = (.agg ((⟨1, self, chunk, zc (1 + q26) (ze (1 + q26) l), []⟩ : Msg).cells v2390 (.slice none 0 0)).toArray : Value)) ∧ ((⟨1, self, chunk, zc (1 + q26) (ze (1 + q26) l), []⟩ : Msg).Ok) ∧ Sep G2275 w2269 ((RefS b35 (1 + q26) (ze (1 + q26) l)) :: (RowE (α := Int) own 3 v2390 (zc (1 + q26) (ze (1 + q26) l))) :: (Blk b2338 ((⟨4, self, chunk, zc (1 + q26) (ze (1 + q26) l), []⟩ : Msg).cells v2331 (.slice none 0 0)).toArray 57) :: (SetO b32 (1 + q26) (ze (1 + q26) l)) :: (RowE (α := Int) own 3 v2331 (zc (1 + q26) (ze (1 + q26) l))) :: (Blk b2311 ((⟨1, self, chunk, zc (1 + q26) (ze (1 + q26) l), []⟩ : Msg).cells v2304 (.slice none 0 0)).toArray 57) :: (RowE (α := Int) own 3 v2304 (zc (1 + q26) (ze (1 + q26) l))) :: (if i9 ≤ 0 then (RowE (α := Int) own 3 vv89 V92) else Emp) :: (RowE (α := MsgS) own 57 v87 [(⟨2, self, m.frm, vv89, .slice none 0 0⟩ : MsgS)]) :: (Blk b2 (m.cells dm0 dm1).toArray 57) :: Rs) w2392
      exact ⟨v2390, hv, hmo2391, hS2395⟩
     ·intro k2397 vals w2398 h2401 h2402 hW2400 hA2399
      obtain rfl : k2397 = 1 := Nat.le_antisymm h2402 h2401
      obtain ⟨v2390, he2396, hmo2391, hS2403⟩ := hW2400
      have e2404 := hA2399 0 (by decide)
      refine obl rfl ?_
      have hS2405 := hS2403.mv6
      obtain ⟨G2406, hA2408, hB2409, hS2410, hk2411⟩ := hS2405.lend
      have hrd2412 := RowE.rd hA2408
      have hrd2412s : _ * 8 ≤ _ := hrd2412.small
      have hS2413 := hS2410.mv1
      obtain ⟨G2414, hA2416, hB2417, hS2418, hk2419⟩ := hS2413.lend
      have hrd2420 := RowE.rd hA2416
      have hrd2420s : _ * 8 ≤ _ := hrd2420.small
      refine (zj (f := 44) (vals := [.agg ((⟨1, self, chunk, zc (1 + q26) (ze (1 + q26) l), []⟩ : Msg).cells v2304 (.slice none 0 0)).toArray, .agg ((⟨1, self, chunk, zc (1 + q26) (ze (1 + q26) l), []⟩ : Msg).cells v2390 (.slice none 0 0)).toArray]) (cap := []) rfl (yD ⟨e2404, he2396, trivial⟩) Try.call44 (yg (a := (⟨1, self, chunk, zc (1 + q26) (ze (1 + q26) l), []⟩ : Msg)) (b := (⟨1, self, chunk, zc (1 + q26) (ze (1 + q26) l), []⟩ : Msg)) (RdS.base hrd2412 hB2417) (RdS.nil _ _) hmo2391 hrd2420 (RdS.nil _ _) hmo2391 hS2418) ?_)
      rintro _ w2421 ⟨rfl, hS2422⟩
      have hS2423 := hk2419 _ _ hS2422
      have hS2424 := hk2411 _ _ hS2423
      intro vals' hv hv'
      refine ⟨?_, trivial⟩
      show ∃ (v2390 : Value), (vals' 4 = (.agg ((⟨1, self, chunk, zc (1 + q26) (ze (1 + q26) l), []⟩ : Msg).cells v2390 (.slice none 0 0)).toArray : Value)) ∧ (vals' 5 = (.bool (decide ((⟨1, self, chunk, zc (1 + q26) (ze (1 + q26) l), []⟩ : Msg) = (⟨1, self, chunk, zc (1 + q26) (ze (1 + q26) l), []⟩ : Msg))) : Value)) ∧ ((⟨1, self, chunk, zc (1 + q26) (ze (1 + q26) l), []⟩ : Msg).Ok) ∧ Sep G2275 w2269 ((RowE (α := Int) own 3 v2304 (zc (1 + q26) (ze (1 + q26) l))) :: (RowE (α := Int) own 3 v2390 (zc (1 + q26) (ze (1 + q26) l))) :: (RefS b35 (1 + q26) (ze (1 + q26) l)) :: (Blk b2338 ((⟨4, self, chunk, zc (1 + q26) (ze (1 + q26) l), []⟩ : Msg).cells v2331 (.slice none 0 0)).toArray 57) :: (SetO b32 (1 + q26) (ze (1 + q26) l)) :: (RowE (α := Int) own 3 v2331 (zc (1 + q26) (ze (1 + q26) l))) :: (Blk b2311 ((⟨1, self, chunk, zc (1 + q26) (ze (1 + q26) l), []⟩ : Msg).cells v2304 (.slice none 0 0)).toArray 57) :: (if i9 ≤ 0 then (RowE (α := Int) own 3 vv89 V92) else Emp) :: (RowE (α := MsgS) own 57 v87 [(⟨2, self, m.frm, vv89, .slice none 0 0⟩ : MsgS)]) :: (Blk b2 (m.cells dm0 dm1).toArray 57) :: Rs) w2421
      exact ⟨v2390, (by rw [hv' 4 (by decide)]; exact he2396), hv, hmo2391, hS2424⟩
     ·intro k2564 vals w2565 h2568 h2569 hW2567 hA2566
      obtain rfl : k2564 = 2 := Nat.le_antisymm h2569 h2568
      obtain ⟨v2390, he2396, he2425, hmo2391, hS2570⟩ := hW2567
      refine obl rfl ?_
      have hl2571 : (decide ((⟨1, self, chunk, zc (1 + q26) (ze (1 + q26) l), []⟩ : Msg) = (⟨1, self, chunk, zc (1 + q26) (ze (1 + q26) l), []⟩ : Msg))) = true := decide_eq_true rfl
      exact zb (v := .bool (decide ((⟨1, self, chunk, zc (1 + q26) (ze (1 + q26) l), []⟩ : Msg) = (⟨1, self, chunk, zc (1 + q26) (ze (1 + q26) l), []⟩ : Msg)))) he2425 (fun vals' hv _ => ⟨rfl, hv.trans (congrArg Value.bool hl2571)⟩)
     ·intro k2572 vals w2573 h2576 h2577 hW2575 hA2574
      have hkk : k2572 = 2 ∨ k2572 = 3 := by have h1 : 2 ≤ k2572 := h2576; have h2 : k2572 ≤ 3 := h2577; omega
      rcases hkk with rfl | rfl
      ·skip
       obtain ⟨v2390, he2396, he2425, hmo2391, hS2578⟩ := hW2575
       have e2579 := hA2574 6 (by decide)
       refine ym rfl rfl e2579 (fun _ => ?_) (fun hb => absurd rfl hb)
       exact zv (k := 5) Try.isAgg57 Try.sizeOf57 rfl rfl (CellsAt.all (hS2578.blk (i := 3) rfl)) (fun vals' hv _ => ⟨rfl, hv⟩)
      ·skip
       obtain ⟨v2390, v2485, he2396, he2425, he2491, hmo2391, hmo2486, hS2580⟩ := hW2575
       have e2581 := hA2574 6 (by decide)
       refine ym rfl rfl e2581 (fun _ => ?_) (fun hb => absurd rfl hb)
       exact zv (k := 5) Try.isAgg57 Try.sizeOf57 rfl rfl (CellsAt.all (hS2580.blk (i := 4) rfl)) (fun vals' hv _ => ⟨rfl, hv⟩)
     ·intro k2582 vals w2583 h2586 h2587 hW2585 hA2584
      have e2588 := hA2584 6 (by decide)
      refine ym rfl rfl e2588 (fun _ => ?_) (fun hb => absurd rfl hb)
      exact zb (v := .pointer (some ⟨b35, 0, none⟩)) rfl (fun vals' hv _ => ⟨rfl, hv⟩)
     ·intro k2589 vals w2590 h2593 h2594 hW2592 hA2591
      have e2595 := hA2591 6 (by decide)
      refine ym rfl rfl e2595 (fun _ => ?_) (fun hb => absurd rfl hb)
      exact zb (v := .int .i64 (self)) rfl (fun vals' hv _ => ⟨rfl, hv⟩)
     ·intro k2596 vals w2597 h2600 h2601 hW2599 hA2598
      have e2602 := hA2598 6 (by decide)
      refine ym rfl rfl e2602 (fun _ => ?_) (fun hb => absurd rfl hb)
      exact zb (v := .int .i64 (chunk)) rfl (fun vals' hv _ => ⟨rfl, hv⟩)
     ·intro k2463 vals w2464 h2467 h2468 hW2466 hA2465
      obtain rfl : k2463 = 2 := Nat.le_antisymm h2468 h2467
      obtain ⟨v2390, he2396, he2425, hmo2391, hS2469⟩ := hW2466
      have e2470 := hA2465 6 (by decide)
      have e2471 := hA2465 8 (by decide)
      have e2472 := hA2465 9 (by decide)
      have e2473 := hA2465 10 (by decide)
      refine ym rfl rfl e2470 (fun _ => ?_) (fun hb => absurd rfl hb)
      have hS2474 := hS2469.mv2
      obtain ⟨G2475, hA2477, hB2478, hS2479, hk2480⟩ := hS2474.lend
      obtain ⟨vl2481, hb2482, hl2483⟩ := RefS.sh hA2477
      have hsm2484 : (ze (1 + q26) l).length * 96 ≤ 140737488355328 := hl2483.small
      refine (zj (f := 49) (vals := [.pointer (some ⟨b35, 0, none⟩), .int .i64 (self), .int .i64 (chunk)]) (cap := []) rfl (yD ⟨e2471, e2472, e2473, trivial⟩) Try.call49 (ZC (fr := self) (tt := chunk) hA2477 (by omega) (by omega) hS2479 (by first | exact hG9 | exact laidL_good) ((by omega))) ?_)
      rintro _ w2487 ⟨v2485, rfl, hmo2486, hS2488⟩
      have hr2489 := hS2488.row (i := 0) rfl
      have hr2489s : _ * 8 ≤ _ := hr2489.2
      have hS2490 := hk2480 _ _ hS2488
      intro vals' hv hv'
      refine ⟨?_, trivial⟩
      show ∃ (v2390 : Value) (v2485 : Value), (vals' 4 = (.agg ((⟨1, self, chunk, zc (1 + q26) (ze (1 + q26) l), []⟩ : Msg).cells v2390 (.slice none 0 0)).toArray : Value)) ∧ (vals' 5 = (.bool (decide ((⟨1, self, chunk, zc (1 + q26) (ze (1 + q26) l), []⟩ : Msg) = (⟨1, self, chunk, zc (1 + q26) (ze (1 + q26) l), []⟩ : Msg))) : Value)) ∧ (vals' 11 = (.agg ((⟨4, self, chunk, zc (1 + q26) (ze (1 + q26) l), []⟩ : Msg).cells v2485 (.slice none 0 0)).toArray : Value)) ∧ ((⟨1, self, chunk, zc (1 + q26) (ze (1 + q26) l), []⟩ : Msg).Ok) ∧ ((⟨4, self, chunk, zc (1 + q26) (ze (1 + q26) l), []⟩ : Msg).Ok) ∧ Sep G2275 w2269 ((RefS b35 (1 + q26) (ze (1 + q26) l)) :: (RowE (α := Int) own 3 v2485 (zc (1 + q26) (ze (1 + q26) l))) :: (RowE (α := Int) own 3 v2304 (zc (1 + q26) (ze (1 + q26) l))) :: (RowE (α := Int) own 3 v2390 (zc (1 + q26) (ze (1 + q26) l))) :: (Blk b2338 ((⟨4, self, chunk, zc (1 + q26) (ze (1 + q26) l), []⟩ : Msg).cells v2331 (.slice none 0 0)).toArray 57) :: (SetO b32 (1 + q26) (ze (1 + q26) l)) :: (RowE (α := Int) own 3 v2331 (zc (1 + q26) (ze (1 + q26) l))) :: (Blk b2311 ((⟨1, self, chunk, zc (1 + q26) (ze (1 + q26) l), []⟩ : Msg).cells v2304 (.slice none 0 0)).toArray 57) :: (if i9 ≤ 0 then (RowE (α := Int) own 3 vv89 V92) else Emp) :: (RowE (α := MsgS) own 57 v87 [(⟨2, self, m.frm, vv89, .slice none 0 0⟩ : MsgS)]) :: (Blk b2 (m.cells dm0 dm1).toArray 57) :: Rs) w2487
      exact ⟨v2390, v2485, (by rw [hv' 4 (by decide)]; exact he2396), (by rw [hv' 5 (by decide)]; exact he2425), hv, hmo2391, hmo2486, hS2490⟩
     ·intro k2492 vals w2493 h2496 h2497 hW2495 hA2494
      obtain rfl : k2492 = 3 := Nat.le_antisymm h2497 h2496
      obtain ⟨v2390, v2485, he2396, he2425, he2491, hmo2391, hmo2486, hS2498⟩ := hW2495
      have e2499 := hA2494 6 (by decide)
      have e2500 := hA2494 7 (by decide)
      refine ym rfl rfl e2499 (fun _ => ?_) (fun hb => absurd rfl hb)
      have hS2501 := hS2498.mv6
      obtain ⟨G2502, hA2504, hB2505, hS2506, hk2507⟩ := hS2501.lend
      have hrd2508 := RowE.rd hA2504
      have hrd2508s : _ * 8 ≤ _ := hrd2508.small
      have hS2509 := hS2506.mv1
      obtain ⟨G2510, hA2512, hB2513, hS2514, hk2515⟩ := hS2509.lend
      have hrd2516 := RowE.rd hA2512
      have hrd2516s : _ * 8 ≤ _ := hrd2516.small
      refine (zj (f := 44) (vals := [.agg ((⟨4, self, chunk, zc (1 + q26) (ze (1 + q26) l), []⟩ : Msg).cells v2331 (.slice none 0 0)).toArray, .agg ((⟨4, self, chunk, zc (1 + q26) (ze (1 + q26) l), []⟩ : Msg).cells v2485 (.slice none 0 0)).toArray]) (cap := []) rfl (yD ⟨e2500, he2491, trivial⟩) Try.call44 (yg (a := (⟨4, self, chunk, zc (1 + q26) (ze (1 + q26) l), []⟩ : Msg)) (b := (⟨4, self, chunk, zc (1 + q26) (ze (1 + q26) l), []⟩ : Msg)) (RdS.base hrd2508 hB2513) (RdS.nil _ _) hmo2486 hrd2516 (RdS.nil _ _) hmo2486 hS2514) ?_)
      rintro _ w2517 ⟨rfl, hS2518⟩
      have hS2519 := hk2515 _ _ hS2518
      have hS2520 := hk2507 _ _ hS2519
      intro vals' hv hv'
      refine ⟨?_, trivial⟩
      show ∃ (v2390 : Value) (v2485 : Value), (vals' 4 = (.agg ((⟨1, self, chunk, zc (1 + q26) (ze (1 + q26) l), []⟩ : Msg).cells v2390 (.slice none 0 0)).toArray : Value)) ∧ (vals' 5 = (.bool (decide ((⟨1, self, chunk, zc (1 + q26) (ze (1 + q26) l), []⟩ : Msg) = (⟨1, self, chunk, zc (1 + q26) (ze (1 + q26) l), []⟩ : Msg))) : Value)) ∧ (vals' 11 = (.agg ((⟨4, self, chunk, zc (1 + q26) (ze (1 + q26) l), []⟩ : Msg).cells v2485 (.slice none 0 0)).toArray : Value)) ∧ (vals' 12 = (.bool (decide ((⟨4, self, chunk, zc (1 + q26) (ze (1 + q26) l), []⟩ : Msg) = (⟨4, self, chunk, zc (1 + q26) (ze (1 + q26) l), []⟩ : Msg))) : Value)) ∧ ((⟨1, self, chunk, zc (1 + q26) (ze (1 + q26) l), []⟩ : Msg).Ok) ∧ ((⟨4, self, chunk, zc (1 + q26) (ze (1 + q26) l), []⟩ : Msg).Ok) ∧ Sep G2275 w2269 ((RowE (α := Int) own 3 v2331 (zc (1 + q26) (ze (1 + q26) l))) :: (RowE (α := Int) own 3 v2485 (zc (1 + q26) (ze (1 + q26) l))) :: (RefS b35 (1 + q26) (ze (1 + q26) l)) :: (RowE (α := Int) own 3 v2304 (zc (1 + q26) (ze (1 + q26) l))) :: (RowE (α := Int) own 3 v2390 (zc (1 + q26) (ze (1 + q26) l))) :: (Blk b2338 ((⟨4, self, chunk, zc (1 + q26) (ze (1 + q26) l), []⟩ : Msg).cells v2331 (.slice none 0 0)).toArray 57) :: (SetO b32 (1 + q26) (ze (1 + q26) l)) :: (Blk b2311 ((⟨1, self, chunk, zc (1 + q26) (ze (1 + q26) l), []⟩ : Msg).cells v2304 (.slice none 0 0)).toArray 57) :: (if i9 ≤ 0 then (RowE (α := Int) own 3 vv89 V92) else Emp) :: (RowE (α := MsgS) own 57 v87 [(⟨2, self, m.frm, vv89, .slice none 0 0⟩ : MsgS)]) :: (Blk b2 (m.cells dm0 dm1).toArray 57) :: Rs) w2517
      exact ⟨v2390, v2485, (by rw [hv' 4 (by decide)]; exact he2396), (by rw [hv' 5 (by decide)]; exact he2425), (by rw [hv' 11 (by decide)]; exact he2491), hv, hmo2391, hmo2486, hS2520⟩
     ·intro k2603 vals w2604 h2607 h2608 hW2606 hA2605
      obtain rfl : k2603 = 4 := Nat.le_antisymm h2608 h2607
      obtain ⟨v2390, v2485, he2396, he2425, he2491, he2521, hmo2391, hmo2486, hS2609⟩ := hW2606
      have e2610 := hA2605 6 (by decide)
      refine obl rfl ?_
      have hl2611 : (decide ((⟨4, self, chunk, zc (1 + q26) (ze (1 + q26) l), []⟩ : Msg) = (⟨4, self, chunk, zc (1 + q26) (ze (1 + q26) l), []⟩ : Msg))) = true := decide_eq_true rfl
      exact zG (v := .bool (decide ((⟨4, self, chunk, zc (1 + q26) (ze (1 + q26) l), []⟩ : Msg) = (⟨4, self, chunk, zc (1 + q26) (ze (1 + q26) l), []⟩ : Msg)))) e2610 he2521 (fun vals' hv _ => ⟨rfl, hv.trans (congrArg Value.bool hl2611)⟩)
     ·intro k2612 vals w2613 h2616 h2617 hW2615 hA2614
      have e2618 := hA2614 13 (by decide)
      refine obl rfl ?_
      exact zf (v := .bool true) e2618 (fun vals' hv _ => ⟨rfl, hv⟩)
     intro vals w2619 hW2620 hA2621
     obtain ⟨v2390, v2485, he2396, he2425, he2491, he2521, hmo2391, hmo2486, hS2622⟩ := hW2620
     have e2623 := hA2621 14 (by decide)
     refine yj (kv := [(2, .int .i64 (self)), (4, .int .i64 (chunk)), (8, .pointer (some ⟨b2, 0, none⟩)), (11, .pointer (some ⟨b32, 0, none⟩)), (12, .pointer (some ⟨b35, 0, none⟩)), (15, v87), (16, v113), (17, .int .i64 ((i9 : Nat) : Int)), (81, .int .i64 ((i9 : Nat) : Int)), (82, v87), (83, .int .i64 (([(⟨2, self, m.frm, vv89, .slice none 0 0⟩ : MsgS)].length : Nat) : Int)), (84, .bool false), (109, .pointer (some ⟨b32, 0, none⟩)), (110, .int .i64 (self)), (111, .int .i64 (chunk)), (112, .agg ((⟨1, self, chunk, zc (1 + q26) (ze (1 + q26) l), []⟩ : Msg).cells v2304 (.slice none 0 0)).toArray), (18, .pointer (some ⟨b2311, 0, none⟩)), (113, .pointer (some ⟨b32, 0, none⟩)), (114, .int .i64 (self)), (115, .int .i64 (chunk)), (116, .agg ((⟨4, self, chunk, zc (1 + q26) (ze (1 + q26) l), []⟩ : Msg).cells v2331 (.slice none 0 0)).toArray), (19, .pointer (some ⟨b2338, 0, none⟩)), (20, .bool true)]) ⟨rfl, rfl, rfl, rfl, rfl, rfl, rfl, rfl, rfl, rfl, rfl, rfl, rfl, rfl, rfl, rfl, rfl, rfl, rfl, rfl, rfl, rfl, (by exact e2623), trivial⟩ (fun ρw2619 => ?_)
     refine zg ?_
     refine zd ?_
     refine za (by kernel_rfl) (fun _ => ?_)
     refine st (yh rfl ?_)
     refine st (zh (v := v2304) Try.isAgg34 rfl (zi (hS2622.blk (i := 7) rfl) rfl) ?_)
     have hS2624 := hS2622.mv3
     obtain ⟨f2625, hm2626, hS2627⟩ := hS2624.toML
     refine st (zj (f := 37) (vals := [v2304]) (cap := []) rfl rfl Try.call37 (yf  hm2626 hS2627) ?_)
     rintro _ w2628 ⟨rfl, hS2629⟩
     refine zg ?_
     refine zd ?_
     refine za (by kernel_rfl) (fun _ => ?_)
     refine st (yh rfl ?_)
     refine st (zh (v := v2331) Try.isAgg34 rfl (zi (hS2629.blk (i := 5) rfl) rfl) ?_)
     have hS2630 := hS2629.mv1
     obtain ⟨f2631, hm2632, hS2633⟩ := hS2630.toML
     refine st (zj (f := 37) (vals := [v2331]) (cap := []) rfl rfl Try.call37 (yf  hm2632 hS2633) ?_)
     rintro _ w2634 ⟨rfl, hS2635⟩
     refine zg ?_
     refine zd ?_
     refine zF (by kernel_rfl) ?_
     refine st (zb (v := .bool true) rfl ?_)
     refine st (zb (v := .bool true) rfl ?_)
     refine sty rfl rfl (zb (v := .pointer (some ⟨b32, 0, none⟩)) rfl ?_)
     have hS2636 := hS2635.mv6
     obtain ⟨G2637, hA2639, hB2640, hS2641, hk2642⟩ := hS2636.lend
     obtain ⟨vv2643, m2644, R2645, hb2646, hv2647, hr2648⟩ := SetO.sh hA2639
     have hsm2649 : (zc (1 + q26) (ze (1 + q26) l)).length * 8 ≤ 140737488355328 := hv2647.small
     refine sty rfl rfl (zj (f := 19) (vals := [.pointer (some ⟨b32, 0, none⟩)]) (cap := []) rfl rfl Try.call19 (Xm  hA2639 hS2641 (hG9.ids) (hG9.srt) ((Nat.le_trans hL9 (by omega)))) ?_)
     rintro v2650 w2651 ⟨_, rfl, hS2652⟩
     have hr2653 := hS2652.row (i := 0) rfl
     have hr2653s : _ * 96 ≤ _ := hr2653.2
     have hS2654 := hk2642 _ _ hS2652
     refine sty rfl rfl (zb (v := .pointer (some ⟨b35, 0, none⟩)) rfl ?_)
     have hS2655 := hS2654.mv5
     obtain ⟨G2656, hA2658, hB2659, hS2660, hk2661⟩ := hS2655.lend
     obtain ⟨vl2662, hb2663, hl2664⟩ := RefS.sh hA2658
     have hsm2665 : (ze (1 + q26) l).length * 96 ≤ 140737488355328 := hl2664.small
     refine sty rfl rfl (zj (f := 50) (vals := [.pointer (some ⟨b35, 0, none⟩)]) (cap := []) rfl rfl Try.call50 (ZR  hA2658 hS2660) ?_)
     rintro v2666 w2667 ⟨_, rfl, hS2668⟩
     have hr2669 := hS2668.row (i := 0) rfl
     have hr2669s : _ * 96 ≤ _ := hr2669.2
     have hS2670 := hk2661 _ _ hS2668
     have hS2671 := hS2670.mv3
     obtain ⟨G2672, hA2674, hB2675, hS2676, hk2677⟩ := hS2671.lend
     have hrd2678 := RowE.rd hA2674
     have hrd2678s : _ * 96 ≤ _ := hrd2678.small
     have hS2679 := hS2676.mv1
     obtain ⟨G2680, hA2682, hB2683, hS2684, hk2685⟩ := hS2679.lend
     have hrd2686 := RowE.rd hA2682
     have hrd2686s : _ * 96 ≤ _ := hrd2686.small
     refine sty rfl rfl (zj (f := 22) (vals := [v2650, v2666]) (cap := []) rfl rfl Try.call22 (yO (a := (ze (1 + q26) l)) (va := v2650) (b := (ze (1 + q26) l)) (vb := v2666) (RdS.base hrd2678 hB2683) hrd2686 hS2684) ?_)
     rintro _ w2687 ⟨rfl, hS2688⟩
     have hS2689 := hk2685 _ _ hS2688
     have hS2690 := hk2677 _ _ hS2689
     have hkn2691 : (decide ((ze (1 + q26) l) = (ze (1 + q26) l))) = true := decide_eq_true rfl
     rw [hkn2691]
     refine st (zG (v := .bool true) rfl rfl ?_)
     refine st (zb (v := .bool true) rfl ?_)
     refine sty rfl rfl (zb (v := .pointer (some ⟨b32, 0, none⟩)) rfl ?_)
     have hS2692 := hS2690.mv3
     obtain ⟨G2693, hA2695, hB2696, hS2697, hk2698⟩ := hS2692.lend
     obtain ⟨vv2699, m2700, R2701, hb2702, hv2703, hr2704⟩ := SetO.sh hA2695
     have hsm2705 : (zc (1 + q26) (ze (1 + q26) l)).length * 8 ≤ 140737488355328 := hv2703.small
     refine sty rfl rfl (zj (f := 26) (vals := [.pointer (some ⟨b32, 0, none⟩)]) (cap := []) rfl rfl Try.call26 (xM  hA2695 hS2697) ?_)
     rintro v2706 w2707 ⟨_, rfl, hS2708⟩
     have hr2709 := hS2708.row (i := 0) rfl
     have hr2709s : _ * 8 ≤ _ := hr2709.2
     have hS2710 := hk2698 _ _ hS2708
     refine sty rfl rfl (zb (v := .pointer (some ⟨b35, 0, none⟩)) rfl ?_)
     have hS2711 := hS2710.mv4
     obtain ⟨G2712, hA2714, hB2715, hS2716, hk2717⟩ := hS2711.lend
     obtain ⟨vl2718, hb2719, hl2720⟩ := RefS.sh hA2714
     have hsm2721 : (ze (1 + q26) l).length * 96 ≤ 140737488355328 := hl2720.small
     refine sty rfl rfl (zj (f := 51) (vals := [.pointer (some ⟨b35, 0, none⟩)]) (cap := []) rfl rfl Try.call51 (xy  hA2714 hS2716 (by first | exact hG9 | exact laidL_good) ((by omega))) ?_)
     rintro v2722 w2723 ⟨_, rfl, hS2724⟩
     have hr2725 := hS2724.row (i := 0) rfl
     have hr2725s : _ * 8 ≤ _ := hr2725.2
     have hS2726 := hk2717 _ _ hS2724
     have hS2727 := hS2726.mv3
     obtain ⟨G2728, hA2730, hB2731, hS2732, hk2733⟩ := hS2727.lend
     have hrd2734 := RowE.rd hA2730
     have hrd2734s : _ * 8 ≤ _ := hrd2734.small
     have hS2735 := hS2732.mv1
     obtain ⟨G2736, hA2738, hB2739, hS2740, hk2741⟩ := hS2735.lend
     have hrd2742 := RowE.rd hA2738
     have hrd2742s : _ * 8 ≤ _ := hrd2742.small
     refine sty rfl rfl (zj (f := 27) (vals := [v2706, v2722]) (cap := []) rfl rfl Try.call27 (yL (a := zc (1 + q26) (ze (1 + q26) l)) (va := v2706) (b := zc (1 + q26) (ze (1 + q26) l)) (vb := v2722) (RdS.base hrd2734 hB2739) hrd2742 hS2740) ?_)
     rintro _ w2743 ⟨rfl, hS2744⟩
     have hS2745 := hk2741 _ _ hS2744
     have hS2746 := hk2733 _ _ hS2745
     have hkn2747 : (decide ((zc (1 + q26) (ze (1 + q26) l)) = (zc (1 + q26) (ze (1 + q26) l)))) = true := decide_eq_true rfl
     rw [hkn2747]
     refine st (zG (v := .bool true) rfl rfl ?_)
     refine st (zb (v := .bool true) rfl ?_)
     refine sty rfl rfl (zj (f := 39) (vals := []) (cap := []) rfl rfl Try.call39 (xm  hS2746) ?_)
     rintro _ w2748 ⟨rfl, hS2749⟩
     refine st (zG (v := .bool true) rfl rfl ?_)
     refine st (zf (v := .bool true) rfl ?_)
     refine zg ?_
     refine zw ?_
     refine zM Try.results11 (show _ = (.bool true : Value) from rfl) ?_
     have hS2750 := hk2280 _ _ hS2749
     have hS2751 : Sep G W Rs w2748 := hS2750.sel 16 [] (Nat.le_add_left _ _) rfl rfl
     refine ⟨rfl, hS2751⟩
    ·skip
     have hc2289r := hc2289
     have hc2289 := of_decide_eq_true hc2289
     refine zm rfl ?_
     refine zp ?_
     refine zd ?_
     refine zx ?_
     refine zd ?_
     refine zd ?_
     obtain rfl : i9 = 0 := by omega
     ·skip
      have hS2752 : Sep G2275 w2269 ((RowE (α := Int) own 3 vv89 V92) :: (RefS b35 (1 + q26) (ze (1 + q26) l)) :: (SetO b32 (1 + q26) (ze (1 + q26) l)) :: (RowE (α := MsgS) own 57 v87 [(⟨2, self, m.frm, vv89, .slice none 0 0⟩ : MsgS)]) :: (Blk b2 (m.cells dm0 dm1).toArray 57) :: Rs) w2285 := Sep.still hS2288 (by omega)
      have hr2753 := hS2752.row (i := 0) rfl
      have hr2753s : _ * 8 ≤ _ := hr2753.2
      refine zS ((fun TT pp0 => WF [fun vals wq => Sep G2275 w2269 (pp0 :: TT) wq, fun vals wq => (vals 8 = (.bool (decide ((⟨2, self, m.frm, V92, []⟩ : Msg) = ([(⟨2, self, m.frm, V92, []⟩ : Msg)].getD 0 default))) : Value)) ∧ Sep G2275 w2269 (pp0 :: TT) wq]) ((RefS b35 (1 + q26) (ze (1 + q26) l)) :: (SetO b32 (1 + q26) (ze (1 + q26) l)) :: (RowE (α := MsgS) own 57 v87 [(⟨2, self, m.frm, vv89, .slice none 0 0⟩ : MsgS)]) :: (Blk b2 (m.cells dm0 dm1).toArray 57) :: Rs) (RowE (α := Int) own 3 vv89 V92)) (AF [Vl 0 (v87), Vl 1 (.int .i64 ((0 : Nat) : Int)), Vl 2 (.pointer (some ⟨sb v87, so v87 + 0 * 5, none⟩)), Vl 3 (.agg (([(⟨2, self, m.frm, vv89, .slice none 0 0⟩ : MsgS)].getD 0 default).cells).toArray), Vl 4 (v113), Vl 5 (.int .i64 ((0 : Nat) : Int)), Vl 6 (.pointer (some ⟨sb v113, so v113 + 0 * 5, none⟩)), Vl 7 (.agg (([(⟨2, self, m.frm, V92, []⟩ : Msg)].getD 0 default).cells (zR w2269 (sb v113) (so v113 + 0 * 5 + 3)) (zR w2269 (sb v113) (so v113 + 0 * 5 + 4))).toArray), fun _ => True, Vl 9 (.bool false)]) [[], [], [0, 1], [0, 1, 2], [], [], [4, 5], [4, 5, 6], [0, 1, 2, 3, 4, 5, 6, 7], [0, 1, 2, 3, 4, 5, 6, 7, 8]] [8] [(0, 0), (0, 0), (0, 0), (0, 0), (0, 0), (0, 0), (0, 0), (0, 0), (0, 0), (1, 1)] (by kernel_rfl) (by kernel_rfl) (by kernel_rfl) rfl (by kernel_rfl) (by kernel_rfl) (fun _ h1 h2 h3 h4 _ => hS2752.same h1 h2 h3 h4) ?_ (yk ⟨dA, dA, dA, dA, dA, dA, dA, dA, dT, dA, trivial⟩) ⟨?_, ?_, ?_, ?_, ?_, ?_, ?_, ?_, ?_, ?_, trivial⟩ ?_
      ·intro k vals vals' w hv h
       have e : ∀ j ∈ ([8] : List Nat), vals' j = vals j := hv
       match k, h with
       | 0, h => exact h
       | 1, h => exact (by simpa only [WF, List.getElem?_cons_zero, List.getElem?_cons_succ, e 8 (by decide)] using h)
       | _ + 2, _ => trivial
      ·intro k2854 vals w2855 h2858 h2859 hW2857 hA2856
       refine obl rfl ?_
       exact zb (v := v87) rfl (fun vals' hv _ => ⟨rfl, hv⟩)
      ·intro k2860 vals w2861 h2864 h2865 hW2863 hA2862
       refine obl rfl ?_
       exact zb (v := .int .i64 ((0 : Nat) : Int)) rfl (fun vals' hv _ => ⟨rfl, hv⟩)
      ·intro k2866 vals w2867 h2870 h2871 hW2869 hA2868
       obtain rfl : k2866 = 0 := Nat.le_antisymm h2871 h2870
       have hS2872 : Sep _ _ _ _ := hW2869
       have e2873 := hA2868 0 (by decide)
       have e2874 := hA2868 1 (by decide)
       refine obl rfl ?_
       have hi2875 : 0 < [(⟨2, self, m.frm, vv89, .slice none 0 0⟩ : MsgS)].length := (by first | omega | (simp only [zu]; omega))
       exact zl (k := 5) (i := 0) Try.underlying58 Try.sizeOf57 e2873 hr2249.1 e2874 hi2875 (fun vals' hv _ => ⟨rfl, hv⟩)
      ·intro k2876 vals w2877 h2880 h2881 hW2879 hA2878
       obtain rfl : k2876 = 0 := Nat.le_antisymm h2881 h2880
       have hS2882 : Sep _ _ _ _ := hW2879
       have e2883 := hA2878 2 (by decide)
       refine obl rfl ?_
       have hi2885 : 0 < [(⟨2, self, m.frm, vv89, .slice none 0 0⟩ : MsgS)].length := (by first | omega | (simp only [zu]; omega))
       obtain ⟨_, _, hce2884, rfl, hoke2884⟩ := hS2882.rowAt (i := 3) (j := 0) rfl hi2885
       rw [← zo default hi2885] at hce2884 hoke2884
       exact zv (k := 5) Try.isAgg57 Try.sizeOf57 rfl e2883 hce2884 (fun vals' hv _ => ⟨rfl, hv⟩)
      ·intro k2886 vals w2887 h2890 h2891 hW2889 hA2888
       refine obl rfl ?_
       exact zb (v := v113) rfl (fun vals' hv _ => ⟨rfl, hv⟩)
      ·intro k2892 vals w2893 h2896 h2897 hW2895 hA2894
       refine obl rfl ?_
       exact zb (v := .int .i64 ((0 : Nat) : Int)) rfl (fun vals' hv _ => ⟨rfl, hv⟩)
      ·intro k2898 vals w2899 h2902 h2903 hW2901 hA2900
       obtain rfl : k2898 = 0 := Nat.le_antisymm h2903 h2902
       have hS2904 : Sep _ _ _ _ := hW2901
       have e2905 := hA2900 4 (by decide)
       have e2906 := hA2900 5 (by decide)
       refine obl rfl ?_
       have hi2907 : 0 < [(⟨2, self, m.frm, V92, []⟩ : Msg)].length := (by first | omega | (simp only [zu]; omega))
       exact zl (k := 5) (i := 0) Try.underlying58 Try.sizeOf57 e2905 hrd2281.sl e2906 hi2907 (fun vals' hv _ => ⟨rfl, hv⟩)
      ·intro k2908 vals w2909 h2912 h2913 hW2911 hA2910
       obtain rfl : k2908 = 0 := Nat.le_antisymm h2913 h2912
       have hS2914 : Sep _ _ _ _ := hW2911
       have e2915 := hA2910 6 (by decide)
       refine obl rfl ?_
       have hi2917 : 0 < [(⟨2, self, m.frm, V92, []⟩ : Msg)].length := (by first | omega | (simp only [zu]; omega))
       obtain ⟨hce2916, hde2916_0, hde2916_1, hoke2916⟩ := hrd2281.msg hi2917
       rw [← zo default hi2917] at hce2916 hde2916_0 hde2916_1 hoke2916
       have hsm2918 : (([(⟨2, self, m.frm, V92, []⟩ : Msg)].getD 0 default).vec).length * 8 ≤ 140737488355328 := hde2916_0.small
       have hsm2919 : (([(⟨2, self, m.frm, V92, []⟩ : Msg)].getD 0 default).evs).length * 96 ≤ 140737488355328 := hde2916_1.small
       have hcw2920 := hS2914.cells hce2916 (hrd2281.foot (ne_of_lt hi2917))
       exact zv (k := 5) Try.isAgg57 Try.sizeOf57 rfl e2915 hcw2920 (fun vals' hv _ => ⟨rfl, hv⟩)
      ·intro k2821 vals w2822 h2825 h2826 hW2824 hA2823
       obtain rfl : k2821 = 0 := Nat.le_antisymm h2826 h2825
       have hS2827 : Sep _ _ _ _ := hW2824
       have e2828 := hA2823 3 (by decide)
       have e2829 := hA2823 7 (by decide)
       refine obl rfl ?_
       have hi2831 : 0 < [(⟨2, self, m.frm, V92, []⟩ : Msg)].length := (by first | omega | (simp only [zu]; omega))
       obtain ⟨hce2830, hde2830_0, hde2830_1, hoke2830⟩ := hrd2281.msg hi2831
       rw [← zo default hi2831] at hce2830 hde2830_0 hde2830_1 hoke2830
       have hsm2832 : (([(⟨2, self, m.frm, V92, []⟩ : Msg)].getD 0 default).vec).length * 8 ≤ 140737488355328 := hde2830_0.small
       have hsm2833 : (([(⟨2, self, m.frm, V92, []⟩ : Msg)].getD 0 default).evs).length * 96 ≤ 140737488355328 := hde2830_1.small
       have hcw2834 := hS2827.cells hce2830 (hrd2281.foot (ne_of_lt hi2831))
       obtain ⟨G2835, hA2837, hB2838, hS2839, hk2840⟩ := hS2827.lend
       have hrd2841 := RowE.rd hA2837
       have hrd2841s : _ * 8 ≤ _ := hrd2841.small
       refine (zj (f := 44) (vals := [.agg ((⟨2, self, m.frm, V92, []⟩ : Msg).cells vv89 (.slice none 0 0)).toArray, .agg (([(⟨2, self, m.frm, V92, []⟩ : Msg)].getD 0 default).cells (zR w2269 (sb v113) (so v113 + 0 * 5 + 3)) (zR w2269 (sb v113) (so v113 + 0 * 5 + 4))).toArray]) (cap := []) rfl (yD ⟨e2828, e2829, trivial⟩) Try.call44 (yg (a := (⟨2, self, m.frm, V92, []⟩ : Msg)) (b := ([(⟨2, self, m.frm, V92, []⟩ : Msg)].getD 0 default)) hrd2841 (RdS.nil _ _) ⟨(show InR 2 from by decide), hself, om.frm⟩ (RdS.base hde2830_0 hB2838) (RdS.base hde2830_1 hB2838) hoke2830 hS2839) ?_)
       rintro _ w2842 ⟨rfl, hS2843⟩
       have hS2844 := hk2840 _ _ hS2843
       intro vals' hv hv'
       refine ⟨?_, trivial⟩
       show (vals' 8 = (.bool (decide ((⟨2, self, m.frm, V92, []⟩ : Msg) = ([(⟨2, self, m.frm, V92, []⟩ : Msg)].getD 0 default))) : Value)) ∧ Sep G2275 w2269 ((RowE (α := Int) own 3 vv89 V92) :: (RefS b35 (1 + q26) (ze (1 + q26) l)) :: (SetO b32 (1 + q26) (ze (1 + q26) l)) :: (RowE (α := MsgS) own 57 v87 [(⟨2, self, m.frm, vv89, .slice none 0 0⟩ : MsgS)]) :: (Blk b2 (m.cells dm0 dm1).toArray 57) :: Rs) w2842
       exact ⟨hv, hS2844⟩
      ·intro k2921 vals w2922 h2925 h2926 hW2924 hA2923
       obtain rfl : k2921 = 1 := Nat.le_antisymm h2926 h2925
       obtain ⟨he2845, hS2927⟩ := hW2924
       refine obl rfl ?_
       have hl2928 : (!(decide ((⟨2, self, m.frm, V92, []⟩ : Msg) = ([(⟨2, self, m.frm, V92, []⟩ : Msg)].getD 0 default)))) = false := by simp
       exact yH (a := decide ((⟨2, self, m.frm, V92, []⟩ : Msg) = ([(⟨2, self, m.frm, V92, []⟩ : Msg)].getD 0 default))) he2845 (fun vals' hv _ => ⟨rfl, hv.trans (congrArg Value.bool hl2928)⟩)
      intro vals w2929 hW2930 hA2931
      obtain ⟨he2845, hS2932⟩ := hW2930
      have e2933 := hA2931 9 (by decide)
      refine yj (kv := [(2, .int .i64 (self)), (4, .int .i64 (chunk)), (8, .pointer (some ⟨b2, 0, none⟩)), (11, .pointer (some ⟨b32, 0, none⟩)), (12, .pointer (some ⟨b35, 0, none⟩)), (15, v87), (16, v113), (17, .int .i64 ((0 : Nat) : Int)), (82, v87), (83, .int .i64 (([(⟨2, self, m.frm, vv89, .slice none 0 0⟩ : MsgS)].length : Nat) : Int)), (84, .bool true), (96, .bool false)]) ⟨rfl, rfl, rfl, rfl, rfl, rfl, rfl, rfl, rfl, rfl, rfl, (by exact e2933), trivial⟩ (fun ρw2929 => ?_)
      refine zg ?_
      refine zk rfl ?_
      refine zp ?_
      refine zd ?_
      refine za (by kernel_rfl) (fun _ => ?_)
      refine st (zb (v := v87) rfl ?_)
      refine st (zb (v := .int .i64 ((0 : Nat) : Int)) rfl ?_)
      have hi2934 : 0 < [(⟨2, self, m.frm, vv89, .slice none 0 0⟩ : MsgS)].length := (by first | omega | (simp only [zu]; omega))
      refine st (zl (k := 5) (i := 0) Try.underlying58 Try.sizeOf57 rfl hr2249.1 rfl hi2934 ?_)
      refine st (yh rfl ?_)
      have hi2936 : 0 < [(⟨2, self, m.frm, vv89, .slice none 0 0⟩ : MsgS)].length := (by first | omega | (simp only [zu]; omega))
      obtain ⟨_, _, hce2935, rfl, hoke2935⟩ := hS2932.rowAt (i := 3) (j := 0) rfl hi2936
      rw [← zo default hi2936] at hce2935 hoke2935
      refine st (zh (v := ([(⟨2, self, m.frm, vv89, .slice none 0 0⟩ : MsgS)].getD 0 default).vv) Try.isAgg34 rfl (hce2935.get (j := 3) rfl) ?_)
      obtain ⟨f2937, hm2938, hS2939⟩ := hS2932.toML
      refine st (zj (f := 37) (vals := [vv89]) (cap := []) rfl rfl Try.call37 (yf  hm2938 hS2939) ?_)
      rintro _ w2940 ⟨rfl, hS2941⟩
      refine zg ?_
      refine za (by kernel_rfl) (fun _ => ?_)
      refine st (zb (v := v87) rfl ?_)
      refine st (zb (v := .int .i64 ((0 : Nat) : Int)) rfl ?_)
      have hi2942 : 0 < [(⟨2, self, m.frm, vv89, .slice none 0 0⟩ : MsgS)].length := (by first | omega | (simp only [zu]; omega))
      refine st (zl (k := 5) (i := 0) Try.underlying58 Try.sizeOf57 rfl hr2249.1 rfl hi2942 ?_)
      refine st (xo rfl ?_)
      have hi2944 : 0 < [(⟨2, self, m.frm, vv89, .slice none 0 0⟩ : MsgS)].length := (by first | omega | (simp only [zu]; omega))
      obtain ⟨_, _, hce2943, rfl, hoke2943⟩ := hS2941.rowAt (i := 3) (j := 0) rfl hi2944
      rw [← zo default hi2944] at hce2943 hoke2943
      refine st (zh (v := ([(⟨2, self, m.frm, vv89, .slice none 0 0⟩ : MsgS)].getD 0 default).ve) Try.isAgg22 rfl (hce2943.get (j := 4) rfl) ?_)
      have hS2945 : Sep G2275 w2269 ((RowE (α := Ev) own 36 (.slice none 0 0) ([] : List Ev)) :: (ML w2929 f2937 noX) :: (RefS b35 (1 + q26) (ze (1 + q26) l)) :: (SetO b32 (1 + q26) (ze (1 + q26) l)) :: (RowE (α := MsgS) own 57 v87 [(⟨2, self, m.frm, vv89, .slice none 0 0⟩ : MsgS)]) :: (Blk b2 (m.cells dm0 dm1).toArray 57) :: Rs) w2940 := hS2941.rowNil own 36
      obtain ⟨f2946, hm2947, hS2948⟩ := hS2945.toML
      refine st (zj (f := 45) (vals := [(.slice none 0 0)]) (cap := []) rfl rfl Try.call45 (yR  hm2947 hS2948) ?_)
      rintro _ w2949 ⟨rfl, hS2950⟩
      refine zg ?_
      refine za (by kernel_rfl) (fun _ => ?_)
      refine st (zb (v := .int .i64 ((0 : Nat) : Int)) rfl ?_)
      have hr2951 : InR ((0 + 1 : Nat) : Int) := by first | omega | (simp only [zu]; omega)
      refine st (zU (r := ((0 + 1 : Nat) : Int)) (k := .i64) (a := ((0 : Nat) : Int)) (b := 1) rfl rfl (by rw [show (((0 : Nat) : Int) + 1 : Int) = ((0 + 1 : Nat) : Int) by first | omega | (simp only [zu]; omega)]; exact zH hr2951) ?_)
      refine st (zf (v := .int .i64 ((0 + 1 : Nat) : Int)) rfl ?_)
      refine zg ?_
      have hS2952 : Sep G2275 w2269 ((if 0 + 1 ≤ 0 then (RowE (α := Int) own 3 vv89 V92) else Emp) :: (RefS b35 (1 + q26) (ze (1 + q26) l)) :: (SetO b32 (1 + q26) (ze (1 + q26) l)) :: (RowE (α := MsgS) own 57 v87 [(⟨2, self, m.frm, vv89, .slice none 0 0⟩ : MsgS)]) :: (Blk b2 (m.cells dm0 dm1).toArray 57) :: Rs) w2949 := Sep.old hS2950 (by omega) (RowE (α := Int) own 3 vv89 V92)
      exact ⟨_, (by omega), 0 + 1, _, rfl, zn ⟨rfl, rfl, rfl, rfl, rfl, rfl, rfl, rfl, trivial⟩, (by omega), hS2952⟩
   ·skip
    have hS2953 : Sep G W ((RefS b35 (1 + q26) (ze (1 + q26) l)) :: (RowE (α := Msg) own 57 v113 (xi (1 + q26) (ze (1 + q26) l) self m chunk)) :: (SetO b32 (1 + q26) (ze (1 + q26) l)) :: (RowE (α := Int) own 3 v044 m.vec) :: (RowE (α := Ev) own 36 v145 m.evs) :: (RowE (α := MsgS) own 57 v87 [(⟨4, self, m.frm, vv89, .slice none 0 0⟩ : MsgS)]) :: (RowE (α := Ev) own 36 ve88 E91) :: (RowE (α := Int) own 3 vv89 V92) :: (Blk b51 (m.cells v044 v145).toArray 57) :: (Blk b2 (m.cells dm0 dm1).toArray 57) :: Rs) w114 := hS117
    have hr2954 := hS2953.row (i := 5) rfl
    have hr2954s : _ * 72 ≤ _ := hr2954.2
    rw [hA9118] at hS2953
    have hS2955 : Sep G W ((RefS b35 (1 + q26) (ze (1 + q26) l)) :: (RowE (α := Msg) own 57 v113 [(⟨4, self, m.frm, V92, []⟩ : Msg)]) :: (SetO b32 (1 + q26) (ze (1 + q26) l)) :: (RowE (α := Int) own 3 v044 m.vec) :: (RowE (α := Ev) own 36 v145 m.evs) :: (RowE (α := MsgS) own 57 v87 [(⟨4, self, m.frm, vv89, .slice none 0 0⟩ : MsgS)]) :: (RowE (α := Ev) own 36 ve88 E91) :: (RowE (α := Int) own 3 vv89 V92) :: (Blk b51 (m.cells v044 v145).toArray 57) :: (Blk b2 (m.cells dm0 dm1).toArray 57) :: Rs) w114 := hS2953
    have hr2956 := hS2955.row (i := 1) rfl
    have hr2956s : _ * 72 ≤ _ := hr2956.2
    have hxl9 : [(⟨4, self, m.frm, vv89, .slice none 0 0⟩ : MsgS)].length = 1 ∧ [(⟨4, self, m.frm, V92, []⟩ : Msg)].length = 1 := ⟨rfl, rfl⟩
    refine zF (by kernel_rfl) ?_
    refine st (zb (v := v87) rfl ?_)
    refine st (zB (n := [(⟨4, self, m.frm, vv89, .slice none 0 0⟩ : MsgS)].length) Try.underlying58 rfl hr2954.1 ?_)
    refine st (zb (v := v113) rfl ?_)
    refine st (zB (n := [(⟨4, self, m.frm, V92, []⟩ : Msg)].length) Try.underlying58 rfl hr2956.1 ?_)
    have hkn2957 : (!decide ((([(⟨4, self, m.frm, vv89, .slice none 0 0⟩ : MsgS)].length : Nat) : Int) = (([(⟨4, self, m.frm, V92, []⟩ : Msg)].length : Nat) : Int))) = false := by simp
    refine st (xh (congrArg Value.bool hkn2957) (fun K9 h9 => yu (k := .i64) (a := (([(⟨4, self, m.frm, vv89, .slice none 0 0⟩ : MsgS)].length : Nat) : Int)) (b := (([(⟨4, self, m.frm, V92, []⟩ : Msg)].length : Nat) : Int)) rfl rfl h9) ?_)
    refine st (zb (v := .bool false) rfl ?_)
    refine sty rfl rfl (zv (k := 5) Try.isAgg57 Try.sizeOf57 rfl rfl (CellsAt.all (hS2955.blk (i := 8) rfl)) ?_)
    refine sty rfl rfl (zv (k := 5) Try.isAgg57 Try.sizeOf57 rfl rfl (CellsAt.all (hS2955.blk (i := 9) rfl)) ?_)
    have hS2958 := hS2955.mv3
    obtain ⟨G2959, hA2961, hB2962, hS2963, hk2964⟩ := hS2958.lend
    have hrd2965 := RowE.rd hA2961
    have hrd2965s : _ * 8 ≤ _ := hrd2965.small
    have hS2966 := hS2963.mv3
    obtain ⟨G2967, hA2969, hB2970, hS2971, hk2972⟩ := hS2966.lend
    have hrd2973 := RowE.rd hA2969
    have hrd2973s : _ * 96 ≤ _ := hrd2973.small
    refine sty rfl rfl (zj (f := 44) (vals := [.agg (m.cells v044 v145).toArray, .agg (m.cells dm0 dm1).toArray]) (cap := []) rfl rfl Try.call44 (yg (a := m) (b := m) (RdS.base hrd2965 hB2970) hrd2973 om (RdS.base (RdS.base hdm0 hB2962) hB2970) (RdS.base (RdS.base hdm1 hB2962) hB2970) om hS2971) ?_)
    rintro _ w2974 ⟨rfl, hS2975⟩
    have hS2976 := hk2972 _ _ hS2975
    have hS2977 := hk2964 _ _ hS2976
    have hkn2978 : (decide (m = m)) = true := decide_eq_true rfl
    rw [hkn2978]
    refine sty rfl rfl (yH (a := true) rfl ?_)
    refine st (xc (v := .bool false) rfl rfl ?_)
    refine zg ?_
    refine zk rfl ?_
    refine zp ?_
    refine zd ?_
    refine zd ?_
    have hS2979 := hS2977.mv3
    obtain ⟨G2980, hA2982, hB2983, hS2984, hk2985⟩ := hS2979.lend
    have hrd2986 := RowE.rd hA2982
    have hrd2986s : _ * 72 ≤ _ := hrd2986.small
    have hS2987 : Sep G2980 w2974 ((RefS b35 (1 + q26) (ze (1 + q26) l)) :: (SetO b32 (1 + q26) (ze (1 + q26) l)) :: (RowE (α := MsgS) own 57 v87 [(⟨4, self, m.frm, vv89, .slice none 0 0⟩ : MsgS)]) :: (RowE (α := Int) own 3 vv89 V92) :: (Blk b2 (m.cells dm0 dm1).toArray 57) :: Rs) w2974 := hS2984.sel 9 [2, 3, 4, 6, 8] (Nat.le_add_left _ _) rfl rfl
    have hS2988 := hS2987.mv3
    have hS2989 : Sep G2980 w2974 ((if 0 ≤ 0 then (RowE (α := Int) own 3 vv89 V92) else Emp) :: (RefS b35 (1 + q26) (ze (1 + q26) l)) :: (SetO b32 (1 + q26) (ze (1 + q26) l)) :: (RowE (α := MsgS) own 57 v87 [(⟨4, self, m.frm, vv89, .slice none 0 0⟩ : MsgS)]) :: (Blk b2 (m.cells dm0 dm1).toArray 57) :: Rs) w2974 := Sep.yet hS2988 (Nat.zero_le _)
    refine za (by kernel_rfl) (fun _ => ?_)
    refine st (zf (v := .int .i64 (0)) rfl ?_)
    refine zg ?_
    refine zx ?_
    refine yb (fun mq σ wq => ∃ (i9 : Nat) (ρ : Env), mq = 1 - i9 ∧ σ = ye ρ [(2, .int .i64 (self)), (4, .int .i64 (chunk)), (8, .pointer (some ⟨b2, 0, none⟩)), (11, .pointer (some ⟨b32, 0, none⟩)), (12, .pointer (some ⟨b35, 0, none⟩)), (15, v87), (16, v113), (17, .int .i64 ((i9 : Nat) : Int))] ∧ (i9 ≤ 1) ∧ Sep G2980 w2974 ((if i9 ≤ 0 then (RowE (α := Int) own 3 vv89 V92) else Emp) :: (RefS b35 (1 + q26) (ze (1 + q26) l)) :: (SetO b32 (1 + q26) (ze (1 + q26) l)) :: (RowE (α := MsgS) own 57 v87 [(⟨4, self, m.frm, vv89, .slice none 0 0⟩ : MsgS)]) :: (Blk b2 (m.cells dm0 dm1).toArray 57) :: Rs) wq) ⟨0, _, rfl, zn ⟨rfl, rfl, rfl, rfl, rfl, rfl, rfl, rfl, trivial⟩, Nat.zero_le _, hS2989⟩ ?_
    rintro m2991 σ2992 w2990 ⟨i9, ρl6, rfl, rfl, hi9, hS2993⟩
    refine zd ?_
    refine zd ?_
    refine za (by kernel_rfl) (fun _ => ?_)
    refine st (zb (v := .int .i64 ((i9 : Nat) : Int)) rfl ?_)
    refine st (zb (v := v87) rfl ?_)
    refine st (zB (n := [(⟨4, self, m.frm, vv89, .slice none 0 0⟩ : MsgS)].length) Try.underlying58 rfl hr2954.1 ?_)
    refine st (zJ (k := .i64) (a := ((i9 : Nat) : Int)) (b := (([(⟨4, self, m.frm, vv89, .slice none 0 0⟩ : MsgS)].length : Nat) : Int)) rfl rfl ?_)
    refine zg ?_
    cases hc2994 : decide (((i9 : Nat) : Int) < (([(⟨4, self, m.frm, vv89, .slice none 0 0⟩ : MsgS)].length : Nat) : Int))
    ·skip
     have hc2994r := hc2994
     have hc2994 := of_decide_eq_false hc2994
     refine zk rfl ?_
     refine ya ?_
     refine zQ ?_
     refine zd ?_
     refine za (by kernel_rfl) (fun _ => ?_)
     refine st (zb (v := .pointer (some ⟨b32, 0, none⟩)) rfl ?_)
     refine st (zb (v := .int .i64 (self)) rfl ?_)
     refine st (zb (v := .int .i64 (chunk)) rfl ?_)
     have hS2995 := hS2993.mv2
     obtain ⟨G2996, hA2998, hB2999, hS3000, hk3001⟩ := hS2995.lend
     obtain ⟨vv3002, m3003, R3004, hb3005, hv3006, hr3007⟩ := SetO.sh hA2998
     have hsm3008 : (zc (1 + q26) (ze (1 + q26) l)).length * 8 ≤ 140737488355328 := hv3006.small
     refine st (zj (f := 46) (vals := [.pointer (some ⟨b32, 0, none⟩), .int .i64 (self), .int .i64 (chunk)]) (cap := []) rfl rfl Try.call46 (xV (fr := self) (tt := chunk) hA2998 (by omega) (by omega) hS3000) ?_)
     rintro _ w3011 ⟨v3009, rfl, hmo3010, hS3012⟩
     have hr3013 := hS3012.row (i := 0) rfl
     have hr3013s : _ * 8 ≤ _ := hr3013.2
     have hS3014 := hk3001 _ _ hS3012
     refine st (zX Try.zeroValue57 ?_)
     intro w3017 b3016 hn3015
     have hS3018 := hS3014.new hn3015
     refine stn (zT (v := .agg ((⟨1, self, chunk, zc (1 + q26) (ze (1 + q26) l), []⟩ : Msg).cells v3009 (.slice none 0 0)).toArray) (c' := ((⟨1, self, chunk, zc (1 + q26) (ze (1 + q26) l), []⟩ : Msg).cells v3009 (.slice none 0 0)).toArray) Try.sizeOf57 rfl rfl (hS3018.blk (i := 0) rfl) (yz ⟨rfl, rfl, rfl, hr3013.1.one, rfl, trivial⟩) (Nat.le_of_ble_eq_true rfl) rfl ?_)
     intro w3019 hp3020
     have hS3021 := hS3018.pt0 hp3020
     refine zg ?_
     refine zd ?_
     refine za (by kernel_rfl) (fun _ => ?_)
     refine st (zb (v := .pointer (some ⟨b32, 0, none⟩)) rfl ?_)
     refine st (zb (v := .int .i64 (self)) rfl ?_)
     refine st (zb (v := .int .i64 (chunk)) rfl ?_)
     have hS3022 := hS3021.mv1
     obtain ⟨G3023, hA3025, hB3026, hS3027, hk3028⟩ := hS3022.lend
     obtain ⟨vv3029, m3030, R3031, hb3032, hv3033, hr3034⟩ := SetO.sh hA3025
     have hsm3035 : (zc (1 + q26) (ze (1 + q26) l)).length * 8 ≤ 140737488355328 := hv3033.small
     refine st (zj (f := 47) (vals := [.pointer (some ⟨b32, 0, none⟩), .int .i64 (self), .int .i64 (chunk)]) (cap := []) rfl rfl Try.call47 (ZY (fr := self) (tt := chunk) hA3025 (by omega) (by omega) hS3027) ?_)
     rintro _ w3038 ⟨v3036, rfl, hmo3037, hS3039⟩
     have hr3040 := hS3039.row (i := 0) rfl
     have hr3040s : _ * 8 ≤ _ := hr3040.2
     have hS3041 := hk3028 _ _ hS3039
     refine st (zX Try.zeroValue57 ?_)
     intro w3044 b3043 hn3042
     have hS3045 := hS3041.new hn3042
     refine stn (zT (v := .agg ((⟨4, self, chunk, zc (1 + q26) (ze (1 + q26) l), []⟩ : Msg).cells v3036 (.slice none 0 0)).toArray) (c' := ((⟨4, self, chunk, zc (1 + q26) (ze (1 + q26) l), []⟩ : Msg).cells v3036 (.slice none 0 0)).toArray) Try.sizeOf57 rfl rfl (hS3045.blk (i := 0) rfl) (yz ⟨rfl, rfl, rfl, hr3040.1.one, rfl, trivial⟩) (Nat.le_of_ble_eq_true rfl) rfl ?_)
     intro w3046 hp3047
     have hS3048 := hS3045.pt0 hp3047
     refine zg ?_
     refine zd ?_
     refine zS ((fun TT pp0 pp1 pp2 pp3 pp4 pp5 pp6 => WF [fun vals wq => Sep G2980 w2974 (pp0 :: pp1 :: pp2 :: pp3 :: pp4 :: pp5 :: pp6 :: TT) wq, fun vals wq => ∃ (v3095 : Value), (vals 4 = (.agg ((⟨1, self, chunk, zc (1 + q26) (ze (1 + q26) l), []⟩ : Msg).cells v3095 (.slice none 0 0)).toArray : Value)) ∧ ((⟨1, self, chunk, zc (1 + q26) (ze (1 + q26) l), []⟩ : Msg).Ok) ∧ Sep G2980 w2974 (pp6 :: (RowE (α := Int) own 3 v3095 (zc (1 + q26) (ze (1 + q26) l))) :: pp0 :: pp1 :: pp2 :: pp3 :: pp4 :: pp5 :: TT) wq, fun vals wq => ∃ (v3095 : Value), (vals 4 = (.agg ((⟨1, self, chunk, zc (1 + q26) (ze (1 + q26) l), []⟩ : Msg).cells v3095 (.slice none 0 0)).toArray : Value)) ∧ (vals 5 = (.bool (decide ((⟨1, self, chunk, zc (1 + q26) (ze (1 + q26) l), []⟩ : Msg) = (⟨1, self, chunk, zc (1 + q26) (ze (1 + q26) l), []⟩ : Msg))) : Value)) ∧ ((⟨1, self, chunk, zc (1 + q26) (ze (1 + q26) l), []⟩ : Msg).Ok) ∧ Sep G2980 w2974 (pp4 :: (RowE (α := Int) own 3 v3095 (zc (1 + q26) (ze (1 + q26) l))) :: pp6 :: pp0 :: pp1 :: pp2 :: pp3 :: pp5 :: TT) wq, fun vals wq => ∃ (v3095 : Value) (v3190 : Value), (vals 4 = (.agg ((⟨1, self, chunk, zc (1 + q26) (ze (1 + q26) l), []⟩ : Msg).cells v3095 (.slice none 0 0)).toArray : Value)) ∧ (vals 5 = (.bool (decide ((⟨1, self, chunk, zc (1 + q26) (ze (1 + q26) l), []⟩ : Msg) = (⟨1, self, chunk, zc (1 + q26) (ze (1 + q26) l), []⟩ : Msg))) : Value)) ∧ (vals 11 = (.agg ((⟨4, self, chunk, zc (1 + q26) (ze (1 + q26) l), []⟩ : Msg).cells v3190 (.slice none 0 0)).toArray : Value)) ∧ ((⟨1, self, chunk, zc (1 + q26) (ze (1 + q26) l), []⟩ : Msg).Ok) ∧ ((⟨4, self, chunk, zc (1 + q26) (ze (1 + q26) l), []⟩ : Msg).Ok) ∧ Sep G2980 w2974 (pp6 :: (RowE (α := Int) own 3 v3190 (zc (1 + q26) (ze (1 + q26) l))) :: pp4 :: (RowE (α := Int) own 3 v3095 (zc (1 + q26) (ze (1 + q26) l))) :: pp0 :: pp1 :: pp2 :: pp3 :: pp5 :: TT) wq, fun vals wq => ∃ (v3095 : Value) (v3190 : Value), (vals 4 = (.agg ((⟨1, self, chunk, zc (1 + q26) (ze (1 + q26) l), []⟩ : Msg).cells v3095 (.slice none 0 0)).toArray : Value)) ∧ (vals 5 = (.bool (decide ((⟨1, self, chunk, zc (1 + q26) (ze (1 + q26) l), []⟩ : Msg) = (⟨1, self, chunk, zc (1 + q26) (ze (1 + q26) l), []⟩ : Msg))) : Value)) ∧ (vals 11 = (.agg ((⟨4, self, chunk, zc (1 + q26) (ze (1 + q26) l), []⟩ : Msg).cells v3190 (.slice none 0 0)).toArray : Value)) ∧ (vals 12 = (.bool (decide ((⟨4, self, chunk, zc (1 + q26) (ze (1 + q26) l), []⟩ : Msg) = (⟨4, self, chunk, zc (1 + q26) (ze (1 + q26) l), []⟩ : Msg))) : Value)) ∧ ((⟨1, self, chunk, zc (1 + q26) (ze (1 + q26) l), []⟩ : Msg).Ok) ∧ ((⟨4, self, chunk, zc (1 + q26) (ze (1 + q26) l), []⟩ : Msg).Ok) ∧ Sep G2980 w2974 (pp2 :: (RowE (α := Int) own 3 v3190 (zc (1 + q26) (ze (1 + q26) l))) :: pp6 :: pp4 :: (RowE (α := Int) own 3 v3095 (zc (1 + q26) (ze (1 + q26) l))) :: pp0 :: pp1 :: pp3 :: pp5 :: TT) wq]) ((RowE (α := MsgS) own 57 v87 [(⟨4, self, m.frm, vv89, .slice none 0 0⟩ : MsgS)]) :: (Blk b2 (m.cells dm0 dm1).toArray 57) :: Rs) (Blk b3043 ((⟨4, self, chunk, zc (1 + q26) (ze (1 + q26) l), []⟩ : Msg).cells v3036 (.slice none 0 0)).toArray 57) (SetO b32 (1 + q26) (ze (1 + q26) l)) (RowE (α := Int) own 3 v3036 (zc (1 + q26) (ze (1 + q26) l))) (Blk b3016 ((⟨1, self, chunk, zc (1 + q26) (ze (1 + q26) l), []⟩ : Msg).cells v3009 (.slice none 0 0)).toArray 57) (RowE (α := Int) own 3 v3009 (zc (1 + q26) (ze (1 + q26) l))) (if i9 ≤ 0 then (RowE (α := Int) own 3 vv89 V92) else Emp) (RefS b35 (1 + q26) (ze (1 + q26) l))) (AF [Vl 0 (.agg ((⟨1, self, chunk, zc (1 + q26) (ze (1 + q26) l), []⟩ : Msg).cells v3009 (.slice none 0 0)).toArray), Vl 1 (.pointer (some ⟨b35, 0, none⟩)), Vl 2 (.int .i64 (self)), Vl 3 (.int .i64 (chunk)), fun _ => True, fun _ => True, Vl 6 (.bool true), Vl 7 (.agg ((⟨4, self, chunk, zc (1 + q26) (ze (1 + q26) l), []⟩ : Msg).cells v3036 (.slice none 0 0)).toArray), Vl 8 (.pointer (some ⟨b35, 0, none⟩)), Vl 9 (.int .i64 (self)), Vl 10 (.int .i64 (chunk)), fun _ => True, fun _ => True, Vl 13 (.bool true), Vl 14 (.bool true)]) [[], [], [], [], [1, 2, 3], [0, 1, 2, 3, 4], [0, 1, 2, 3, 4, 5], [0, 1, 2, 3, 4, 5, 6], [0, 1, 2, 3, 4, 5, 6], [0, 1, 2, 3, 4, 5, 6], [0, 1, 2, 3, 4, 5, 6], [0, 1, 2, 3, 4, 5, 6, 8, 9, 10], [0, 1, 2, 3, 4, 5, 6, 7, 8, 9, 10, 11], [0, 1, 2, 3, 4, 5, 6, 7, 8, 9, 10, 11, 12], [0, 1, 2, 3, 4, 5, 6, 7, 8, 9, 10, 11, 12, 13]] [4, 5, 11, 12] [(0, 1), (0, 0), (0, 0), (0, 0), (0, 0), (1, 1), (2, 2), (2, 3), (2, 2), (2, 2), (2, 2), (2, 2), (3, 3), (4, 4), (4, 4)] (by kernel_rfl) (by kernel_rfl) (by kernel_rfl) rfl (by kernel_rfl) (by kernel_rfl) (fun _ h1 h2 h3 h4 _ => hS3048.same h1 h2 h3 h4) ?_ (yk ⟨dA, dA, dA, dA, dT, dT, dA, dA, dA, dA, dA, dT, dT, dA, dA, trivial⟩) ⟨?_, ?_, ?_, ?_, ?_, ?_, ?_, ?_, ?_, ?_, ?_, ?_, ?_, ?_, ?_, trivial⟩ ?_
     ·intro k vals vals' w hv h
      have e : ∀ j ∈ ([4, 5, 11, 12] : List Nat), vals' j = vals j := hv
      match k, h with
      | 0, h => exact h
      | 1, h => exact (by simpa only [WF, List.getElem?_cons_zero, List.getElem?_cons_succ, e 4 (by decide)] using h)
      | 2, h => exact (by simpa only [WF, List.getElem?_cons_zero, List.getElem?_cons_succ, e 4 (by decide), e 5 (by decide)] using h)
      | 3, h => exact (by simpa only [WF, List.getElem?_cons_zero, List.getElem?_cons_succ, e 4 (by decide), e 5 (by decide), e 11 (by decide)] using h)
      | 4, h => exact (by simpa only [WF, List.getElem?_cons_zero, List.getElem?_cons_succ, e 4 (by decide), e 5 (by decide), e 11 (by decide), e 12 (by decide)] using h)
      | _ + 5, _ => trivial
     ·intro k3243 vals w3244 h3247 h3248 hW3246 hA3245
      have hkk : k3243 = 0 ∨ k3243 = 1 := by have h1 : 0 ≤ k3243 := h3247; have h2 : k3243 ≤ 1 := h3248; omega
      rcases hkk with rfl | rfl
      ·skip
       have hS3249 : Sep _ _ _ _ := hW3246
       refine obl rfl ?_
       exact zv (k := 5) Try.isAgg57 Try.sizeOf57 rfl rfl (CellsAt.all (hS3249.blk (i := 3) rfl)) (fun vals' hv _ => ⟨rfl, hv⟩)
      ·skip
       obtain ⟨v3095, he3101, hmo3096, hS3250⟩ := hW3246
       refine obl rfl ?_
       exact zv (k := 5) Try.isAgg57 Try.sizeOf57 rfl rfl (CellsAt.all (hS3250.blk (i := 5) rfl)) (fun vals' hv _ => ⟨rfl, hv⟩)
     ·intro k3251 vals w3252 h3255 h3256 hW3254 hA3253
      refine obl rfl ?_
      exact zb (v := .pointer (some ⟨b35, 0, none⟩)) rfl (fun vals' hv _ => ⟨rfl, hv⟩)
     ·intro k3257 vals w3258 h3261 h3262 hW3260 hA3259
      refine obl rfl ?_
      exact zb (v := .int .i64 (self)) rfl (fun vals' hv _ => ⟨rfl, hv⟩)
     ·intro k3263 vals w3264 h3267 h3268 hW3266 hA3265
      refine obl rfl ?_
      exact zb (v := .int .i64 (chunk)) rfl (fun vals' hv _ => ⟨rfl, hv⟩)
     ·intro k3074 vals w3075 h3078 h3079 hW3077 hA3076
      obtain rfl : k3074 = 0 := Nat.le_antisymm h3079 h3078
      have hS3080 : Sep _ _ _ _ := hW3077
      have e3081 := hA3076 1 (by decide)
      have e3082 := hA3076 2 (by decide)
      have e3083 := hA3076 3 (by decide)
      refine obl rfl ?_
      have hS3084 := hS3080.mv6
      obtain ⟨G3085, hA3087, hB3088, hS3089, hk3090⟩ := hS3084.lend
      obtain ⟨vl3091, hb3092, hl3093⟩ := RefS.sh hA3087
      have hsm3094 : (ze (1 + q26) l).length * 96 ≤ 140737488355328 := hl3093.small
      refine (zj (f := 48) (vals := [.pointer (some ⟨b35, 0, none⟩), .int .i64 (self), .int .i64 (chunk)]) (cap := []) rfl (yD ⟨e3081, e3082, e3083, trivial⟩) Try.call48 (xD (fr := self) (tt := chunk) hA3087 (by omega) (by omega) hS3089 (by first | exact hG9 | exact laidL_good) ((by omega))) ?_)
      rintro _ w3097 ⟨v3095, rfl, hmo3096, hS3098⟩
      have hr3099 := hS3098.row (i := 0) rfl
      have hr3099s : _ * 8 ≤ _ := hr3099.2
      have hS3100 := hk3090 _ _ hS3098
      intro vals' hv hv'
      refine ⟨?_, trivial⟩
      show ∃ (v3095 : Value), (vals' 4 = (.agg ((⟨1, self, chunk, zc (1 + q26) (ze (1 + q26) l), []⟩ : Msg).cells v3095 (.slice none 0 0)).toArray : Value)) ∧ ((⟨1, self, chunk, zc (1 + q26) (ze (1 + q26) l), []⟩ : Msg).Ok) ∧ Sep G2980 w2974 ((RefS b35 (1 + q26) (ze (1 + q26) l)) :: (RowE (α := Int) own 3 v3095 (zc (1 + q26) (ze (1 + q26) l))) :: (Blk b3043 ((⟨4, self, chunk, zc (1 + q26) (ze (1 + q26) l), []⟩ : Msg).cells v3036 (.slice none 0 0)).toArray 57) :: (SetO b32 (1 + q26) (ze (1 + q26) l)) :: (RowE (α := Int) own 3 v3036 (zc (1 + q26) (ze (1 + q26) l))) :: (Blk b3016 ((⟨1, self, chunk, zc (1 + q26) (ze (1 + q26) l), []⟩ : Msg).cells v3009 (.slice none 0 0)).toArray 57) :: (RowE (α := Int) own 3 v3009 (zc (1 + q26) (ze (1 + q26) l))) :: (if i9 ≤ 0 then (RowE (α := Int) own 3 vv89 V92) else Emp) :: (RowE (α := MsgS) own 57 v87 [(⟨4, self, m.frm, vv89, .slice none 0 0⟩ : MsgS)]) :: (Blk b2 (m.cells dm0 dm1).toArray 57) :: Rs) w3097
      exact ⟨v3095, hv, hmo3096, hS3100⟩
     ·intro k3102 vals w3103 h3106 h3107 hW3105 hA3104
      obtain rfl : k3102 = 1 := Nat.le_antisymm h3107 h3106
      obtain ⟨v3095, he3101, hmo3096, hS3108⟩ := hW3105
      have e3109 := hA3104 0 (by decide)
      refine obl rfl ?_
      have hS3110 := hS3108.mv6
      obtain ⟨G3111, hA3113, hB3114, hS3115, hk3116⟩ := hS3110.lend
      have hrd3117 := RowE.rd hA3113
      have hrd3117s : _ * 8 ≤ _ := hrd3117.small
      have hS3118 := hS3115.mv1
      obtain ⟨G3119, hA3121, hB3122, hS3123, hk3124⟩ := hS3118.lend
      have hrd3125 := RowE.rd hA3121
      have hrd3125s : _ * 8 ≤ _ := hrd3125.small
      refine (zj (f := 44) (vals := [.agg ((⟨1, self, chunk, zc (1 + q26) (ze (1 + q26) l), []⟩ : Msg).cells v3009 (.slice none 0 0)).toArray, .agg ((⟨1, self, chunk, zc (1 + q26) (ze (1 + q26) l), []⟩ : Msg).cells v3095 (.slice none 0 0)).toArray]) (cap := []) rfl (yD ⟨e3109, he3101, trivial⟩) Try.call44 (yg (a := (⟨1, self, chunk, zc (1 + q26) (ze (1 + q26) l), []⟩ : Msg)) (b := (⟨1, self, chunk, zc (1 + q26) (ze (1 + q26) l), []⟩ : Msg)) (RdS.base hrd3117 hB3122) (RdS.nil _ _) hmo3096 hrd3125 (RdS.nil _ _) hmo3096 hS3123) ?_)
      rintro _ w3126 ⟨rfl, hS3127⟩
      have hS3128 := hk3124 _ _ hS3127
      have hS3129 := hk3116 _ _ hS3128
      intro vals' hv hv'
      refine ⟨?_, trivial⟩
      show ∃ (v3095 : Value), (vals' 4 = (.agg ((⟨1, self, chunk, zc (1 + q26) (ze (1 + q26) l), []⟩ : Msg).cells v3095 (.slice none 0 0)).toArray : Value)) ∧ (vals' 5 = (.bool (decide ((⟨1, self, chunk, zc (1 + q26) (ze (1 + q26) l), []⟩ : Msg) = (⟨1, self, chunk, zc (1 + q26) (ze (1 + q26) l), []⟩ : Msg))) : Value)) ∧ ((⟨1, self, chunk, zc (1 + q26) (ze (1 + q26) l), []⟩ : Msg).Ok) ∧ Sep G2980 w2974 ((RowE (α := Int) own 3 v3009 (zc (1 + q26) (ze (1 + q26) l))) :: (RowE (α := Int) own 3 v3095 (zc (1 + q26) (ze (1 + q26) l))) :: (RefS b35 (1 + q26) (ze (1 + q26) l)) :: (Blk b3043 ((⟨4, self, chunk, zc (1 + q26) (ze (1 + q26) l), []⟩ : Msg).cells v3036 (.slice none 0 0)).toArray 57) :: (SetO b32 (1 + q26) (ze (1 + q26) l)) :: (RowE (α := Int) own 3 v3036 (zc (1 + q26) (ze (1 + q26) l))) :: (Blk b3016 ((⟨1, self, chunk, zc (1 + q26) (ze (1 + q26) l), []⟩ : Msg).cells v3009 (.slice none 0 0)).toArray 57) :: (if i9 ≤ 0 then (RowE (α := Int) own 3 vv89 V92) else Emp) :: (RowE (α := MsgS) own 57 v87 [(⟨4, self, m.frm, vv89, .slice none 0 0⟩ : MsgS)]) :: (Blk b2 (m.cells dm0 dm1).toArray 57) :: Rs) w3126
      exact ⟨v3095, (by rw [hv' 4 (by decide)]; exact he3101), hv, hmo3096, hS3129⟩
     ·intro k3269 vals w3270 h3273 h3274 hW3272 hA3271
      obtain rfl : k3269 = 2 := Nat.le_antisymm h3274 h3273
      obtain ⟨v3095, he3101, he3130, hmo3096, hS3275⟩ := hW3272
      refine obl rfl ?_
      have hl3276 : (decide ((⟨1, self, chunk, zc (1 + q26) (ze (1 + q26) l), []⟩ : Msg) = (⟨1, self, chunk, zc (1 + q26) (ze (1 + q26) l), []⟩ : Msg))) = true := decide_eq_true rfl
      exact zb (v := .bool (decide ((⟨1, self, chunk, zc (1 + q26) (ze (1 + q26) l), []⟩ : Msg) = (⟨1, self, chunk, zc (1 + q26) (ze (1 + q26) l), []⟩ : Msg)))) he3130 (fun vals' hv _ => ⟨rfl, hv.trans (congrArg Value.bool hl3276)⟩)
     ·intro k3277 vals w3278 h3281 h3282 hW3280 hA3279
      have hkk : k3277 = 2 ∨ k3277 = 3 := by have h1 : 2 ≤ k3277 := h3281; have h2 : k3277 ≤ 3 := h3282; omega
      rcases hkk with rfl | rfl
      ·skip
       obtain ⟨v3095, he3101, he3130, hmo3096, hS3283⟩ := hW3280
       have e3284 := hA3279 6 (by decide)
       refine ym rfl rfl e3284 (fun _ => ?_) (fun hb => absurd rfl hb)
       exact zv (k := 5) Try.isAgg57 Try.sizeOf57 rfl rfl (CellsAt.all (hS3283.blk (i := 3) rfl)) (fun vals' hv _ => ⟨rfl, hv⟩)
      ·skip
       obtain ⟨v3095, v3190, he3101, he3130, he3196, hmo3096, hmo3191, hS3285⟩ := hW3280
       have e3286 := hA3279 6 (by decide)
       refine ym rfl rfl e3286 (fun _ => ?_) (fun hb => absurd rfl hb)
       exact zv (k := 5) Try.isAgg57 Try.sizeOf57 rfl rfl (CellsAt.all (hS3285.blk (i := 4) rfl)) (fun vals' hv _ => ⟨rfl, hv⟩)
     ·intro k3287 vals w3288 h3291 h3292 hW3290 hA3289
      have e3293 := hA3289 6 (by decide)
      refine ym rfl rfl e3293 (fun _ => ?_) (fun hb => absurd rfl hb)
      exact zb (v := .pointer (some ⟨b35, 0, none⟩)) rfl (fun vals' hv _ => ⟨rfl, hv⟩)
     ·intro k3294 vals w3295 h3298 h3299 hW3297 hA3296
      have e3300 := hA3296 6 (by decide)
      refine ym rfl rfl e3300 (fun _ => ?_) (fun hb => absurd rfl hb)
      exact zb (v := .int .i64 (self)) rfl (fun vals' hv _ => ⟨rfl, hv⟩)
     ·intro k3301 vals w3302 h3305 h3306 hW3304 hA3303
      have e3307 := hA3303 6 (by decide)
      refine ym rfl rfl e3307 (fun _ => ?_) (fun hb => absurd rfl hb)
      exact zb (v := .int .i64 (chunk)) rfl (fun vals' hv _ => ⟨rfl, hv⟩)
     ·intro k3168 vals w3169 h3172 h3173 hW3171 hA3170
      obtain rfl : k3168 = 2 := Nat.le_antisymm h3173 h3172
      obtain ⟨v3095, he3101, he3130, hmo3096, hS3174⟩ := hW3171
      have e3175 := hA3170 6 (by decide)
      have e3176 := hA3170 8 (by decide)
      have e3177 := hA3170 9 (by decide)
      have e3178 := hA3170 10 (by decide)
      refine ym rfl rfl e3175 (fun _ => ?_) (fun hb => absurd rfl hb)
      have hS3179 := hS3174.mv2
      obtain ⟨G3180, hA3182, hB3183, hS3184, hk3185⟩ := hS3179.lend
      obtain ⟨vl3186, hb3187, hl3188⟩ := RefS.sh hA3182
      have hsm3189 : (ze (1 + q26) l).length * 96 ≤ 140737488355328 := hl3188.small
      refine (zj (f := 49) (vals := [.pointer (some ⟨b35, 0, none⟩), .int .i64 (self), .int .i64 (chunk)]) (cap := []) rfl (yD ⟨e3176, e3177, e3178, trivial⟩) Try.call49 (ZC (fr := self) (tt := chunk) hA3182 (by omega) (by omega) hS3184 (by first | exact hG9 | exact laidL_good) ((by omega))) ?_)
      rintro _ w3192 ⟨v3190, rfl, hmo3191, hS3193⟩
      have hr3194 := hS3193.row (i := 0) rfl
      have hr3194s : _ * 8 ≤ _ := hr3194.2
      have hS3195 := hk3185 _ _ hS3193
      intro vals' hv hv'
      refine ⟨?_, trivial⟩
      show ∃ (v3095 : Value) (v3190 : Value), (vals' 4 = (.agg ((⟨1, self, chunk, zc (1 + q26) (ze (1 + q26) l), []⟩ : Msg).cells v3095 (.slice none 0 0)).toArray : Value)) ∧ (vals' 5 = (.bool (decide ((⟨1, self, chunk, zc (1 + q26) (ze (1 + q26) l), []⟩ : Msg) = (⟨1, self, chunk, zc (1 + q26) (ze (1 + q26) l), []⟩ : Msg))) : Value)) ∧ (vals' 11 = (.agg ((⟨4, self, chunk, zc (1 + q26) (ze (1 + q26) l), []⟩ : Msg).cells v3190 (.slice none 0 0)).toArray : Value)) ∧ ((⟨1, self, chunk, zc (1 + q26) (ze (1 + q26) l), []⟩ : Msg).Ok) ∧ ((⟨4, self, chunk, zc (1 + q26) (ze (1 + q26) l), []⟩ : Msg).Ok) ∧ Sep G2980 w2974 ((RefS b35 (1 + q26) (ze (1 + q26) l)) :: (RowE (α := Int) own 3 v3190 (zc (1 + q26) (ze (1 + q26) l))) :: (RowE (α := Int) own 3 v3009 (zc (1 + q26) (ze (1 + q26) l))) :: (RowE (α := Int) own 3 v3095 (zc (1 + q26) (ze (1 + q26) l))) :: (Blk b3043 ((⟨4, self, chunk, zc (1 + q26) (ze (1 + q26) l), []⟩ : Msg).cells v3036 (.slice none 0 0)).toArray 57) :: (SetO b32 (1 + q26) (ze (1 + q26) l)) :: (RowE (α := Int) own 3 v3036 (zc (1 + q26) (ze (1 + q26) l))) :: (Blk b3016 ((⟨1, self, chunk, zc (1 + q26) (ze (1 + q26) l), []⟩ : Msg).cells v3009 (.slice none 0 0)).toArray 57) :: (if i9 ≤ 0 then (RowE (α := Int) own 3 vv89 V92) else Emp) :: (RowE (α := MsgS) own 57 v87 [(⟨4, self, m.frm, vv89, .slice none 0 0⟩ : MsgS)]) :: (Blk b2 (m.cells dm0 dm1).toArray 57) :: Rs) w3192
      exact ⟨v3095, v3190, (by rw [hv' 4 (by decide)]; exact he3101), (by rw [hv' 5 (by decide)]; exact he3130), hv, hmo3096, hmo3191, hS3195⟩
     ·intro k3197 vals w3198 h3201 h3202 hW3200 hA3199
      obtain rfl : k3197 = 3 := Nat.le_antisymm h3202 h3201
      obtain ⟨v3095, v3190, he3101, he3130, he3196, hmo3096, hmo3191, hS3203⟩ := hW3200
      have e3204 := hA3199 6 (by decide)
      have e3205 := hA3199 7 (by decide)
      refine ym rfl rfl e3204 (fun _ => ?_) (fun hb => absurd rfl hb)
      have hS3206 := hS3203.mv6
      obtain ⟨G3207, hA3209, hB3210, hS3211, hk3212⟩ := hS3206.lend
      have hrd3213 := RowE.rd hA3209
      have hrd3213s : _ * 8 ≤ _ := hrd3213.small
      have hS3214 := hS3211.mv1
      obtain ⟨G3215, hA3217, hB3218, hS3219, hk3220⟩ := hS3214.lend
      have hrd3221 := RowE.rd hA3217
      have hrd3221s : _ * 8 ≤ _ := hrd3221.small
      refine (zj (f := 44) (vals := [.agg ((⟨4, self, chunk, zc (1 + q26) (ze (1 + q26) l), []⟩ : Msg).cells v3036 (.slice none 0 0)).toArray, .agg ((⟨4, self, chunk, zc (1 + q26) (ze (1 + q26) l), []⟩ : Msg).cells v3190 (.slice none 0 0)).toArray]) (cap := []) rfl (yD ⟨e3205, he3196, trivial⟩) Try.call44 (yg (a := (⟨4, self, chunk, zc (1 + q26) (ze (1 + q26) l), []⟩ : Msg)) (b := (⟨4, self, chunk, zc (1 + q26) (ze (1 + q26) l), []⟩ : Msg)) (RdS.base hrd3213 hB3218) (RdS.nil _ _) hmo3191 hrd3221 (RdS.nil _ _) hmo3191 hS3219) ?_)
      rintro _ w3222 ⟨rfl, hS3223⟩
      have hS3224 := hk3220 _ _ hS3223
      have hS3225 := hk3212 _ _ hS3224
      intro vals' hv hv'
      refine ⟨?_, trivial⟩
      show ∃ (v3095 : Value) (v3190 : Value), (vals' 4 = (.agg ((⟨1, self, chunk, zc (1 + q26) (ze (1 + q26) l), []⟩ : Msg).cells v3095 (.slice none 0 0)).toArray : Value)) ∧ (vals' 5 = (.bool (decide ((⟨1, self, chunk, zc (1 + q26) (ze (1 + q26) l), []⟩ : Msg) = (⟨1, self, chunk, zc (1 + q26) (ze (1 + q26) l), []⟩ : Msg))) : Value)) ∧ (vals' 11 = (.agg ((⟨4, self, chunk, zc (1 + q26) (ze (1 + q26) l), []⟩ : Msg).cells v3190 (.slice none 0 0)).toArray : Value)) ∧ (vals' 12 = (.bool (decide ((⟨4, self, chunk, zc (1 + q26) (ze (1 + q26) l), []⟩ : Msg) = (⟨4, self, chunk, zc (1 + q26) (ze (1 + q26) l), []⟩ : Msg))) : Value)) ∧ ((⟨1, self, chunk, zc (1 + q26) (ze (1 + q26) l), []⟩ : Msg).Ok) ∧ ((⟨4, self, chunk, zc (1 + q26) (ze (1 + q26) l), []⟩ : Msg).Ok) ∧ Sep G2980 w2974 ((RowE (α := Int) own 3 v3036 (zc (1 + q26) (ze (1 + q26) l))) :: (RowE (α := Int) own 3 v3190 (zc (1 + q26) (ze (1 + q26) l))) :: (RefS b35 (1 + q26) (ze (1 + q26) l)) :: (RowE (α := Int) own 3 v3009 (zc (1 + q26) (ze (1 + q26) l))) :: (RowE (α := Int) own 3 v3095 (zc (1 + q26) (ze (1 + q26) l))) :: (Blk b3043 ((⟨4, self, chunk, zc (1 + q26) (ze (1 + q26) l), []⟩ : Msg).cells v3036 (.slice none 0 0)).toArray 57) :: (SetO b32 (1 + q26) (ze (1 + q26) l)) :: (Blk b3016 ((⟨1, self, chunk, zc (1 + q26) (ze (1 + q26) l), []⟩ : Msg).cells v3009 (.slice none 0 0)).toArray 57) :: (if i9 ≤ 0 then (RowE (α := Int) own 3 vv89 V92) else Emp) :: (RowE (α := MsgS) own 57 v87 [(⟨4, self, m.frm, vv89, .slice none 0 0⟩ : MsgS)]) :: (Blk b2 (m.cells dm0 dm1).toArray 57) :: Rs) w3222
      exact ⟨v3095, v3190, (by rw [hv' 4 (by decide)]; exact he3101), (by rw [hv' 5 (by decide)]; exact he3130), (by rw [hv' 11 (by decide)]; exact he3196), hv, hmo3096, hmo3191, hS3225⟩
     ·intro k3308 vals w3309 h3312 h3313 hW3311 hA3310
      obtain rfl : k3308 = 4 := Nat.le_antisymm h3313 h3312
      obtain ⟨v3095, v3190, he3101, he3130, he3196, he3226, hmo3096, hmo3191, hS3314⟩ := hW3311
      have e3315 := hA3310 6 (by decide)
      refine obl rfl ?_
      have hl3316 : (decide ((⟨4, self, chunk, zc (1 + q26) (ze (1 + q26) l), []⟩ : Msg) = (⟨4, self, chunk, zc (1 + q26) (ze (1 + q26) l), []⟩ : Msg))) = true := decide_eq_true rfl
      exact zG (v := .bool (decide ((⟨4, self, chunk, zc (1 + q26) (ze (1 + q26) l), []⟩ : Msg) = (⟨4, self, chunk, zc (1 + q26) (ze (1 + q26) l), []⟩ : Msg)))) e3315 he3226 (fun vals' hv _ => ⟨rfl, hv.trans (congrArg Value.bool hl3316)⟩)
     ·intro k3317 vals w3318 h3321 h3322 hW3320 hA3319
      have e3323 := hA3319 13 (by decide)
      refine obl rfl ?_
      exact zf (v := .bool true) e3323 (fun vals' hv _ => ⟨rfl, hv⟩)
     intro vals w3324 hW3325 hA3326
     obtain ⟨v3095, v3190, he3101, he3130, he3196, he3226, hmo3096, hmo3191, hS3327⟩ := hW3325
     have e3328 := hA3326 14 (by decide)
     refine yj (kv := [(2, .int .i64 (self)), (4, .int .i64 (chunk)), (8, .pointer (some ⟨b2, 0, none⟩)), (11, .pointer (some ⟨b32, 0, none⟩)), (12, .pointer (some ⟨b35, 0, none⟩)), (15, v87), (16, v113), (17, .int .i64 ((i9 : Nat) : Int)), (81, .int .i64 ((i9 : Nat) : Int)), (82, v87), (83, .int .i64 (([(⟨4, self, m.frm, vv89, .slice none 0 0⟩ : MsgS)].length : Nat) : Int)), (84, .bool false), (109, .pointer (some ⟨b32, 0, none⟩)), (110, .int .i64 (self)), (111, .int .i64 (chunk)), (112, .agg ((⟨1, self, chunk, zc (1 + q26) (ze (1 + q26) l), []⟩ : Msg).cells v3009 (.slice none 0 0)).toArray), (18, .pointer (some ⟨b3016, 0, none⟩)), (113, .pointer (some ⟨b32, 0, none⟩)), (114, .int .i64 (self)), (115, .int .i64 (chunk)), (116, .agg ((⟨4, self, chunk, zc (1 + q26) (ze (1 + q26) l), []⟩ : Msg).cells v3036 (.slice none 0 0)).toArray), (19, .pointer (some ⟨b3043, 0, none⟩)), (20, .bool true)]) ⟨rfl, rfl, rfl, rfl, rfl, rfl, rfl, rfl, rfl, rfl, rfl, rfl, rfl, rfl, rfl, rfl, rfl, rfl, rfl, rfl, rfl, rfl, (by exact e3328), trivial⟩ (fun ρw3324 => ?_)
     refine zg ?_
     refine zd ?_
     refine za (by kernel_rfl) (fun _ => ?_)
     refine st (yh rfl ?_)
     refine st (zh (v := v3009) Try.isAgg34 rfl (zi (hS3327.blk (i := 7) rfl) rfl) ?_)
     have hS3329 := hS3327.mv3
     obtain ⟨f3330, hm3331, hS3332⟩ := hS3329.toML
     refine st (zj (f := 37) (vals := [v3009]) (cap := []) rfl rfl Try.call37 (yf  hm3331 hS3332) ?_)
     rintro _ w3333 ⟨rfl, hS3334⟩
     refine zg ?_
     refine zd ?_
     refine za (by kernel_rfl) (fun _ => ?_)
     refine st (yh rfl ?_)
     refine st (zh (v := v3036) Try.isAgg34 rfl (zi (hS3334.blk (i := 5) rfl) rfl) ?_)
     have hS3335 := hS3334.mv1
     obtain ⟨f3336, hm3337, hS3338⟩ := hS3335.toML
     refine st (zj (f := 37) (vals := [v3036]) (cap := []) rfl rfl Try.call37 (yf  hm3337 hS3338) ?_)
     rintro _ w3339 ⟨rfl, hS3340⟩
     refine zg ?_
     refine zd ?_
     refine zF (by kernel_rfl) ?_
     refine st (zb (v := .bool true) rfl ?_)
     refine st (zb (v := .bool true) rfl ?_)
     refine sty rfl rfl (zb (v := .pointer (some ⟨b32, 0, none⟩)) rfl ?_)
     have hS3341 := hS3340.mv6
     obtain ⟨G3342, hA3344, hB3345, hS3346, hk3347⟩ := hS3341.lend
     obtain ⟨vv3348, m3349, R3350, hb3351, hv3352, hr3353⟩ := SetO.sh hA3344
     have hsm3354 : (zc (1 + q26) (ze (1 + q26) l)).length * 8 ≤ 140737488355328 := hv3352.small
     refine sty rfl rfl (zj (f := 19) (vals := [.pointer (some ⟨b32, 0, none⟩)]) (cap := []) rfl rfl Try.call19 (Xm  hA3344 hS3346 (hG9.ids) (hG9.srt) ((Nat.le_trans hL9 (by omega)))) ?_)
     rintro v3355 w3356 ⟨_, rfl, hS3357⟩
     have hr3358 := hS3357.row (i := 0) rfl
     have hr3358s : _ * 96 ≤ _ := hr3358.2
     have hS3359 := hk3347 _ _ hS3357
     refine sty rfl rfl (zb (v := .pointer (some ⟨b35, 0, none⟩)) rfl ?_)
     have hS3360 := hS3359.mv5
     obtain ⟨G3361, hA3363, hB3364, hS3365, hk3366⟩ := hS3360.lend
     obtain ⟨vl3367, hb3368, hl3369⟩ := RefS.sh hA3363
     have hsm3370 : (ze (1 + q26) l).length * 96 ≤ 140737488355328 := hl3369.small
     refine sty rfl rfl (zj (f := 50) (vals := [.pointer (some ⟨b35, 0, none⟩)]) (cap := []) rfl rfl Try.call50 (ZR  hA3363 hS3365) ?_)
     rintro v3371 w3372 ⟨_, rfl, hS3373⟩
     have hr3374 := hS3373.row (i := 0) rfl
     have hr3374s : _ * 96 ≤ _ := hr3374.2
     have hS3375 := hk3366 _ _ hS3373
     have hS3376 := hS3375.mv3
     obtain ⟨G3377, hA3379, hB3380, hS3381, hk3382⟩ := hS3376.lend
     have hrd3383 := RowE.rd hA3379
     have hrd3383s : _ * 96 ≤ _ := hrd3383.small
     have hS3384 := hS3381.mv1
     obtain ⟨G3385, hA3387, hB3388, hS3389, hk3390⟩ := hS3384.lend
     have hrd3391 := RowE.rd hA3387
     have hrd3391s : _ * 96 ≤ _ := hrd3391.small
     refine sty rfl rfl (zj (f := 22) (vals := [v3355, v3371]) (cap := []) rfl rfl Try.call22 (yO (a := (ze (1 + q26) l)) (va := v3355) (b := (ze (1 + q26) l)) (vb := v3371) (RdS.base hrd3383 hB3388) hrd3391 hS3389) ?_)
     rintro _ w3392 ⟨rfl, hS3393⟩
     have hS3394 := hk3390 _ _ hS3393
     have hS3395 := hk3382 _ _ hS3394
     have hkn3396 : (decide ((ze (1 + q26) l) = (ze (1 + q26) l))) = true := decide_eq_true rfl
     rw [hkn3396]
     refine st (zG (v := .bool true) rfl rfl ?_)
     refine st (zb (v := .bool true) rfl ?_)
     refine sty rfl rfl (zb (v := .pointer (some ⟨b32, 0, none⟩)) rfl ?_)
     have hS3397 := hS3395.mv3
     obtain ⟨G3398, hA3400, hB3401, hS3402, hk3403⟩ := hS3397.lend
     obtain ⟨vv3404, m3405, R3406, hb3407, hv3408, hr3409⟩ := SetO.sh hA3400
     have hsm3410 : (zc (1 + q26) (ze (1 + q26) l)).length * 8 ≤ 140737488355328 := hv3408.small
     refine sty rfl rfl (zj (f := 26) (vals := [.pointer (some ⟨b32, 0, none⟩)]) (cap := []) rfl rfl Try.call26 (xM  hA3400 hS3402) ?_)
     rintro v3411 w3412 ⟨_, rfl, hS3413⟩
     have hr3414 := hS3413.row (i := 0) rfl
     have hr3414s : _ * 8 ≤ _ := hr3414.2
     have hS3415 := hk3403 _ _ hS3413
     refine sty rfl rfl (zb (v := .pointer (some ⟨b35, 0, none⟩)) rfl ?_)
     have hS3416 := hS3415.mv4
     obtain ⟨G3417, hA3419, hB3420, hS3421, hk3422⟩ := hS3416.lend
     obtain ⟨vl3423, hb3424, hl3425⟩ := RefS.sh hA3419
     have hsm3426 : (ze (1 + q26) l).length * 96 ≤ 140737488355328 := hl3425.small
     refine sty rfl rfl (zj (f := 51) (vals := [.pointer (some ⟨b35, 0, none⟩)]) (cap := []) rfl rfl Try.call51 (xy  hA3419 hS3421 (by first | exact hG9 | exact laidL_good) ((by omega))) ?_)
     rintro v3427 w3428 ⟨_, rfl, hS3429⟩
     have hr3430 := hS3429.row (i := 0) rfl
     have hr3430s : _ * 8 ≤ _ := hr3430.2
     have hS3431 := hk3422 _ _ hS3429
     have hS3432 := hS3431.mv3
     obtain ⟨G3433, hA3435, hB3436, hS3437, hk3438⟩ := hS3432.lend
     have hrd3439 := RowE.rd hA3435
     have hrd3439s : _ * 8 ≤ _ := hrd3439.small
     have hS3440 := hS3437.mv1
     obtain ⟨G3441, hA3443, hB3444, hS3445, hk3446⟩ := hS3440.lend
     have hrd3447 := RowE.rd hA3443
     have hrd3447s : _ * 8 ≤ _ := hrd3447.small
     refine sty rfl rfl (zj (f := 27) (vals := [v3411, v3427]) (cap := []) rfl rfl Try.call27 (yL (a := zc (1 + q26) (ze (1 + q26) l)) (va := v3411) (b := zc (1 + q26) (ze (1 + q26) l)) (vb := v3427) (RdS.base hrd3439 hB3444) hrd3447 hS3445) ?_)
     rintro _ w3448 ⟨rfl, hS3449⟩
     have hS3450 := hk3446 _ _ hS3449
     have hS3451 := hk3438 _ _ hS3450
     have hkn3452 : (decide ((zc (1 + q26) (ze (1 + q26) l)) = (zc (1 + q26) (ze (1 + q26) l)))) = true := decide_eq_true rfl
     rw [hkn3452]
     refine st (zG (v := .bool true) rfl rfl ?_)
     refine st (zb (v := .bool true) rfl ?_)
     refine sty rfl rfl (zj (f := 39) (vals := []) (cap := []) rfl rfl Try.call39 (xm  hS3451) ?_)
     rintro _ w3453 ⟨rfl, hS3454⟩
     refine st (zG (v := .bool true) rfl rfl ?_)
     refine st (zf (v := .bool true) rfl ?_)
     refine zg ?_
     refine zw ?_
     refine zM Try.results11 (show _ = (.bool true : Value) from rfl) ?_
     have hS3455 := hk2985 _ _ hS3454
     have hS3456 : Sep G W Rs w3453 := hS3455.sel 16 [] (Nat.le_add_left _ _) rfl rfl
     refine ⟨rfl, hS3456⟩
    ·skip
     have hc2994r := hc2994
     have hc2994 := of_decide_eq_true hc2994
     refine zm rfl ?_
     refine zp ?_
     refine zd ?_
     refine zx ?_
     refine zd ?_
     refine zd ?_
     obtain rfl : i9 = 0 := by omega
     ·skip
      have hS3457 : Sep G2980 w2974 ((RowE (α := Int) own 3 vv89 V92) :: (RefS b35 (1 + q26) (ze (1 + q26) l)) :: (SetO b32 (1 + q26) (ze (1 + q26) l)) :: (RowE (α := MsgS) own 57 v87 [(⟨4, self, m.frm, vv89, .slice none 0 0⟩ : MsgS)]) :: (Blk b2 (m.cells dm0 dm1).toArray 57) :: Rs) w2990 := Sep.still hS2993 (by omega)
      have hr3458 := hS3457.row (i := 0) rfl
      have hr3458s : _ * 8 ≤ _ := hr3458.2
      refine zS ((fun TT pp0 => WF [fun vals wq => Sep G2980 w2974 (pp0 :: TT) wq, fun vals wq => (vals 8 = (.bool (decide ((⟨4, self, m.frm, V92, []⟩ : Msg) = ([(⟨4, self, m.frm, V92, []⟩ : Msg)].getD 0 default))) : Value)) ∧ Sep G2980 w2974 (pp0 :: TT) wq]) ((RefS b35 (1 + q26) (ze (1 + q26) l)) :: (SetO b32 (1 + q26) (ze (1 + q26) l)) :: (RowE (α := MsgS) own 57 v87 [(⟨4, self, m.frm, vv89, .slice none 0 0⟩ : MsgS)]) :: (Blk b2 (m.cells dm0 dm1).toArray 57) :: Rs) (RowE (α := Int) own 3 vv89 V92)) (AF [Vl 0 (v87), Vl 1 (.int .i64 ((0 : Nat) : Int)), Vl 2 (.pointer (some ⟨sb v87, so v87 + 0 * 5, none⟩)), Vl 3 (.agg (([(⟨4, self, m.frm, vv89, .slice none 0 0⟩ : MsgS)].getD 0 default).cells).toArray), Vl 4 (v113), Vl 5 (.int .i64 ((0 : Nat) : Int)), Vl 6 (.pointer (some ⟨sb v113, so v113 + 0 * 5, none⟩)), Vl 7 (.agg (([(⟨4, self, m.frm, V92, []⟩ : Msg)].getD 0 default).cells (zR w2974 (sb v113) (so v113 + 0 * 5 + 3)) (zR w2974 (sb v113) (so v113 + 0 * 5 + 4))).toArray), fun _ => True, Vl 9 (.bool false)]) [[], [], [0, 1], [0, 1, 2], [], [], [4, 5], [4, 5, 6], [0, 1, 2, 3, 4, 5, 6, 7], [0, 1, 2, 3, 4, 5, 6, 7, 8]] [8] [(0, 0), (0, 0), (0, 0), (0, 0), (0, 0), (0, 0), (0, 0), (0, 0), (0, 0), (1, 1)] (by kernel_rfl) (by kernel_rfl) (by kernel_rfl) rfl (by kernel_rfl) (by kernel_rfl) (fun _ h1 h2 h3 h4 _ => hS3457.same h1 h2 h3 h4) ?_ (yk ⟨dA, dA, dA, dA, dA, dA, dA, dA, dT, dA, trivial⟩) ⟨?_, ?_, ?_, ?_, ?_, ?_, ?_, ?_, ?_, ?_, trivial⟩ ?_
      ·intro k vals vals' w hv h
       have e : ∀ j ∈ ([8] : List Nat), vals' j = vals j := hv
       match k, h with
       | 0, h => exact h
       | 1, h => exact (by simpa only [WF, List.getElem?_cons_zero, List.getElem?_cons_succ, e 8 (by decide)] using h)
       | _ + 2, _ => trivial
      ·intro k3559 vals w3560 h3563 h3564 hW3562 hA3561
       refine obl rfl ?_
       exact zb (v := v87) rfl (fun vals' hv _ => ⟨rfl, hv⟩)
      ·intro k3565 vals w3566 h3569 h3570 hW3568 hA3567
       refine obl rfl ?_
       exact zb (v := .int .i64 ((0 : Nat) : Int)) rfl (fun vals' hv _ => ⟨rfl, hv⟩)
      ·intro k3571 vals w3572 h3575 h3576 hW3574 hA3573
       obtain rfl : k3571 = 0 := Nat.le_antisymm h3576 h3575
       have hS3577 : Sep _ _ _ _ := hW3574
       have e3578 := hA3573 0 (by decide)
       have e3579 := hA3573 1 (by decide)
       refine obl rfl ?_
       have hi3580 : 0 < [(⟨4, self, m.frm, vv89, .slice none 0 0⟩ : MsgS)].length := (by first | omega | (simp only [zu]; omega))
       exact zl (k := 5) (i := 0) Try.underlying58 Try.sizeOf57 e3578 hr2954.1 e3579 hi3580 (fun vals' hv _ => ⟨rfl, hv⟩)
      ·intro k3581 vals w3582 h3585 h3586 hW3584 hA3583
       obtain rfl : k3581 = 0 := Nat.le_antisymm h3586 h3585
       have hS3587 : Sep _ _ _ _ := hW3584
       have e3588 := hA3583 2 (by decide)
       refine obl rfl ?_
       have hi3590 : 0 < [(⟨4, self, m.frm, vv89, .slice none 0 0⟩ : MsgS)].length := (by first | omega | (simp only [zu]; omega))
       obtain ⟨_, _, hce3589, rfl, hoke3589⟩ := hS3587.rowAt (i := 3) (j := 0) rfl hi3590
       rw [← zo default hi3590] at hce3589 hoke3589
       exact zv (k := 5) Try.isAgg57 Try.sizeOf57 rfl e3588 hce3589 (fun vals' hv _ => ⟨rfl, hv⟩)
      ·intro k3591 vals w3592 h3595 h3596 hW3594 hA3593
       refine obl rfl ?_
       exact zb (v := v113) rfl (fun vals' hv _ => ⟨rfl, hv⟩)
      ·intro k3597 vals w3598 h3601 h3602 hW3600 hA3599
       refine obl rfl ?_
       exact zb (v := .int .i64 ((0 : Nat) : Int)) rfl (fun vals' hv _ => ⟨rfl, hv⟩)
      ·intro k3603 vals w3604 h3607 h3608 hW3606 hA3605
       obtain rfl : k3603 = 0 := Nat.le_antisymm h3608 h3607
       have hS3609 : Sep _ _ _ _ := hW3606
       have e3610 := hA3605 4 (by decide)
       have e3611 := hA3605 5 (by decide)
       refine obl rfl ?_
       have hi3612 : 0 < [(⟨4, self, m.frm, V92, []⟩ : Msg)].length := (by first | omega | (simp only [zu]; omega))
       exact zl (k := 5) (i := 0) Try.underlying58 Try.sizeOf57 e3610 hrd2986.sl e3611 hi3612 (fun vals' hv _ => ⟨rfl, hv⟩)
      ·intro k3613 vals w3614 h3617 h3618 hW3616 hA3615
       obtain rfl : k3613 = 0 := Nat.le_antisymm h3618 h3617
       have hS3619 : Sep _ _ _ _ := hW3616
       have e3620 := hA3615 6 (by decide)
       refine obl rfl ?_
       have hi3622 : 0 < [(⟨4, self, m.frm, V92, []⟩ : Msg)].length := (by first | omega | (simp only [zu]; omega))
       obtain ⟨hce3621, hde3621_0, hde3621_1, hoke3621⟩ := hrd2986.msg hi3622
       rw [← zo default hi3622] at hce3621 hde3621_0 hde3621_1 hoke3621
       have hsm3623 : (([(⟨4, self, m.frm, V92, []⟩ : Msg)].getD 0 default).vec).length * 8 ≤ 140737488355328 := hde3621_0.small
       have hsm3624 : (([(⟨4, self, m.frm, V92, []⟩ : Msg)].getD 0 default).evs).length * 96 ≤ 140737488355328 := hde3621_1.small
       have hcw3625 := hS3619.cells hce3621 (hrd2986.foot (ne_of_lt hi3622))
       exact zv (k := 5) Try.isAgg57 Try.sizeOf57 rfl e3620 hcw3625 (fun vals' hv _ => ⟨rfl, hv⟩)
      ·intro k3526 vals w3527 h3530 h3531 hW3529 hA3528
       obtain rfl : k3526 = 0 := Nat.le_antisymm h3531 h3530
       have hS3532 : Sep _ _ _ _ := hW3529
       have e3533 := hA3528 3 (by decide)
       have e3534 := hA3528 7 (by decide)
       refine obl rfl ?_
       have hi3536 : 0 < [(⟨4, self, m.frm, V92, []⟩ : Msg)].length := (by first | omega | (simp only [zu]; omega))
       obtain ⟨hce3535, hde3535_0, hde3535_1, hoke3535⟩ := hrd2986.msg hi3536
       rw [← zo default hi3536] at hce3535 hde3535_0 hde3535_1 hoke3535
       have hsm3537 : (([(⟨4, self, m.frm, V92, []⟩ : Msg)].getD 0 default).vec).length * 8 ≤ 140737488355328 := hde3535_0.small
       have hsm3538 : (([(⟨4, self, m.frm, V92, []⟩ : Msg)].getD 0 default).evs).length * 96 ≤ 140737488355328 := hde3535_1.small
       have hcw3539 := hS3532.cells hce3535 (hrd2986.foot (ne_of_lt hi3536))
       obtain ⟨G3540, hA3542, hB3543, hS3544, hk3545⟩ := hS3532.lend
       have hrd3546 := RowE.rd hA3542
       have hrd3546s : _ * 8 ≤ _ := hrd3546.small
       refine (zj (f := 44) (vals := [.agg ((⟨4, self, m.frm, V92, []⟩ : Msg).cells vv89 (.slice none 0 0)).toArray, .agg (([(⟨4, self, m.frm, V92, []⟩ : Msg)].getD 0 default).cells (zR w2974 (sb v113) (so v113 + 0 * 5 + 3)) (zR w2974 (sb v113) (so v113 + 0 * 5 + 4))).toArray]) (cap := []) rfl (yD ⟨e3533, e3534, trivial⟩) Try.call44 (yg (a := (⟨4, self, m.frm, V92, []⟩ : Msg)) (b := ([(⟨4, self, m.frm, V92, []⟩ : Msg)].getD 0 default)) hrd3546 (RdS.nil _ _) ⟨(show InR 4 from by decide), hself, om.frm⟩ (RdS.base hde3535_0 hB3543) (RdS.base hde3535_1 hB3543) hoke3535 hS3544) ?_)
       rintro _ w3547 ⟨rfl, hS3548⟩
       have hS3549 := hk3545 _ _ hS3548
       intro vals' hv hv'
       refine ⟨?_, trivial⟩
       show (vals' 8 = (.bool (decide ((⟨4, self, m.frm, V92, []⟩ : Msg) = ([(⟨4, self, m.frm, V92, []⟩ : Msg)].getD 0 default))) : Value)) ∧ Sep G2980 w2974 ((RowE (α := Int) own 3 vv89 V92) :: (RefS b35 (1 + q26) (ze (1 + q26) l)) :: (SetO b32 (1 + q26) (ze (1 + q26) l)) :: (RowE (α := MsgS) own 57 v87 [(⟨4, self, m.frm, vv89, .slice none 0 0⟩ : MsgS)]) :: (Blk b2 (m.cells dm0 dm1).toArray 57) :: Rs) w3547
       exact ⟨hv, hS3549⟩
      ·intro k3626 vals w3627 h3630 h3631 hW3629 hA3628
       obtain rfl : k3626 = 1 := Nat.le_antisymm h3631 h3630
       obtain ⟨he3550, hS3632⟩ := hW3629
       refine obl rfl ?_
       have hl3633 : (!(decide ((⟨4, self, m.frm, V92, []⟩ : Msg) = ([(⟨4, self, m.frm, V92, []⟩ : Msg)].getD 0 default)))) = false := by simp
       exact yH (a := decide ((⟨4, self, m.frm, V92, []⟩ : Msg) = ([(⟨4, self, m.frm, V92, []⟩ : Msg)].getD 0 default))) he3550 (fun vals' hv _ => ⟨rfl, hv.trans (congrArg Value.bool hl3633)⟩)
      intro vals w3634 hW3635 hA3636
      obtain ⟨he3550, hS3637⟩ := hW3635
      have e3638 := hA3636 9 (by decide)
      refine yj (kv := [(2, .int .i64 (self)), (4, .int .i64 (chunk)), (8, .pointer (some ⟨b2, 0, none⟩)), (11, .pointer (some ⟨b32, 0, none⟩)), (12, .pointer (some ⟨b35, 0, none⟩)), (15, v87), (16, v113), (17, .int .i64 ((0 : Nat) : Int)), (82, v87), (83, .int .i64 (([(⟨4, self, m.frm, vv89, .slice none 0 0⟩ : MsgS)].length : Nat) : Int)), (84, .bool true), (96, .bool false)]) ⟨rfl, rfl, rfl, rfl, rfl, rfl, rfl, rfl, rfl, rfl, rfl, (by exact e3638), trivial⟩ (fun ρw3634 => ?_)
      refine zg ?_
      refine zk rfl ?_
      refine zp ?_
      refine zd ?_
      refine za (by kernel_rfl) (fun _ => ?_)
      refine st (zb (v := v87) rfl ?_)
      refine st (zb (v := .int .i64 ((0 : Nat) : Int)) rfl ?_)
      have hi3639 : 0 < [(⟨4, self, m.frm, vv89, .slice none 0 0⟩ : MsgS)].length := (by first | omega | (simp only [zu]; omega))
      refine st (zl (k := 5) (i := 0) Try.underlying58 Try.sizeOf57 rfl hr2954.1 rfl hi3639 ?_)
      refine st (yh rfl ?_)
      have hi3641 : 0 < [(⟨4, self, m.frm, vv89, .slice none 0 0⟩ : MsgS)].length := (by first | omega | (simp only [zu]; omega))
      obtain ⟨_, _, hce3640, rfl, hoke3640⟩ := hS3637.rowAt (i := 3) (j := 0) rfl hi3641
      rw [← zo default hi3641] at hce3640 hoke3640
      refine st (zh (v := ([(⟨4, self, m.frm, vv89, .slice none 0 0⟩ : MsgS)].getD 0 default).vv) Try.isAgg34 rfl (hce3640.get (j := 3) rfl) ?_)
      obtain ⟨f3642, hm3643, hS3644⟩ := hS3637.toML
      refine st (zj (f := 37) (vals := [vv89]) (cap := []) rfl rfl Try.call37 (yf  hm3643 hS3644) ?_)
      rintro _ w3645 ⟨rfl, hS3646⟩
      refine zg ?_
      refine za (by kernel_rfl) (fun _ => ?_)
      refine st (zb (v := v87) rfl ?_)
      refine st (zb (v := .int .i64 ((0 : Nat) : Int)) rfl ?_)
      have hi3647 : 0 < [(⟨4, self, m.frm, vv89, .slice none 0 0⟩ : MsgS)].length := (by first | omega | (simp only [zu]; omega))
      refine st (zl (k := 5) (i := 0) Try.underlying58 Try.sizeOf57 rfl hr2954.1 rfl hi3647 ?_)
      refine st (xo rfl ?_)
      have hi3649 : 0 < [(⟨4, self, m.frm, vv89, .slice none 0 0⟩ : MsgS)].length := (by first | omega | (simp only [zu]; omega))
      obtain ⟨_, _, hce3648, rfl, hoke3648⟩ := hS3646.rowAt (i := 3) (j := 0) rfl hi3649
      rw [← zo default hi3649] at hce3648 hoke3648
      refine st (zh (v := ([(⟨4, self, m.frm, vv89, .slice none 0 0⟩ : MsgS)].getD 0 default).ve) Try.isAgg22 rfl (hce3648.get (j := 4) rfl) ?_)
      have hS3650 : Sep G2980 w2974 ((RowE (α := Ev) own 36 (.slice none 0 0) ([] : List Ev)) :: (ML w3634 f3642 noX) :: (RefS b35 (1 + q26) (ze (1 + q26) l)) :: (SetO b32 (1 + q26) (ze (1 + q26) l)) :: (RowE (α := MsgS) own 57 v87 [(⟨4, self, m.frm, vv89, .slice none 0 0⟩ : MsgS)]) :: (Blk b2 (m.cells dm0 dm1).toArray 57) :: Rs) w3645 := hS3646.rowNil own 36
      obtain ⟨f3651, hm3652, hS3653⟩ := hS3650.toML
      refine st (zj (f := 45) (vals := [(.slice none 0 0)]) (cap := []) rfl rfl Try.call45 (yR  hm3652 hS3653) ?_)
      rintro _ w3654 ⟨rfl, hS3655⟩
      refine zg ?_
      refine za (by kernel_rfl) (fun _ => ?_)
      refine st (zb (v := .int .i64 ((0 : Nat) : Int)) rfl ?_)
      have hr3656 : InR ((0 + 1 : Nat) : Int) := by first | omega | (simp only [zu]; omega)
      refine st (zU (r := ((0 + 1 : Nat) : Int)) (k := .i64) (a := ((0 : Nat) : Int)) (b := 1) rfl rfl (by rw [show (((0 : Nat) : Int) + 1 : Int) = ((0 + 1 : Nat) : Int) by first | omega | (simp only [zu]; omega)]; exact zH hr3656) ?_)
      refine st (zf (v := .int .i64 ((0 + 1 : Nat) : Int)) rfl ?_)
      refine zg ?_
      have hS3657 : Sep G2980 w2974 ((if 0 + 1 ≤ 0 then (RowE (α := Int) own 3 vv89 V92) else Emp) :: (RefS b35 (1 + q26) (ze (1 + q26) l)) :: (SetO b32 (1 + q26) (ze (1 + q26) l)) :: (RowE (α := MsgS) own 57 v87 [(⟨4, self, m.frm, vv89, .slice none 0 0⟩ : MsgS)]) :: (Blk b2 (m.cells dm0 dm1).toArray 57) :: Rs) w3654 := Sep.old hS3655 (by omega) (RowE (α := Int) own 3 vv89 V92)
      exact ⟨_, (by omega), 0 + 1, _, rfl, zn ⟨rfl, rfl, rfl, rfl, rfl, rfl, rfl, rfl, trivial⟩, (by omega), hS3657⟩
  ·skip
   have hc42r := hc42
   have hc42 := of_decide_eq_true hc42
   refine zm rfl ?_
   refine zp ?_
   refine zd ?_
   refine zx ?_
   refine za (by kernel_rfl) (fun _ => ?_)
   refine st (zb (v := .pointer (some ⟨b35, 0, none⟩)) rfl ?_)
   refine st (zb (v := vl) rfl ?_)
   refine st (zb (v := .int .i64 ((k : Nat) : Int)) rfl ?_)
   have hi3658 : k < l.length := (by first | omega | (simp only [zu]; omega))
   refine st (zl (k := 10) (i := k) Try.underlying22 Try.sizeOf36 rfl hl.sl rfl hi3658 ?_)
   have hi3660 : k < l.length := (by first | omega | (simp only [zu]; omega))
   obtain ⟨hce3659, hde3659_0, hoke3659⟩ := hl.ev hi3660
   rw [← zo default hi3660] at hce3659 hde3659_0 hoke3659
   have hsm3661 : ((l.getD k default).deps).length * 8 ≤ 140737488355328 := hde3659_0.small
   have hcw3662 := hS41.cells hce3659 (hl.foot (ne_of_lt hi3660))
   refine st (zv (k := 10) Try.isAgg36 Try.sizeOf36 rfl rfl hcw3662 ?_)
   refine st (zj (f := 36) (vals := [.pointer (some ⟨b35, 0, none⟩), .agg ((l.getD k default).cells (zR W (sb vl) (so vl + k * 10 + 3))).toArray]) (cap := []) rfl rfl Try.call36 (UD (e := (l.getD k default)) hde3659_0 hoke3659 hS41 (by first | exact hG9 | exact laidL_good) ((by omega)) ((by first | exact Nat.le_trans Zx (by omega) | exact Nat.le_trans ZA (by omega) | exact Nat.le_trans XB (by omega)))) ?_)
   rintro _ w3663 ⟨rfl, hS3664⟩
   refine zg ?_
   refine za (by kernel_rfl) (fun _ => ?_)
   refine st (zb (v := .int .i64 ((k : Nat) : Int)) rfl ?_)
   have hr3665 : InR ((k + 1 : Nat) : Int) := by first | omega | (simp only [zu]; omega)
   refine st (zU (r := ((k + 1 : Nat) : Int)) (k := .i64) (a := ((k : Nat) : Int)) (b := 1) rfl rfl (by rw [show (((k : Nat) : Int) + 1 : Int) = ((k + 1 : Nat) : Int) by first | omega | (simp only [zu]; omega)]; exact zH hr3665) ?_)
   refine st (zf (v := .int .i64 ((k + 1 : Nat) : Int)) rfl ?_)
   refine zg ?_
   have hL3666 : (ze (1 + q26) (l.take (k + 1))) = (addL (1 + q26) (ze (1 + q26) (l.take k)) (l.getD k default)) := (YD (by omega)).symm
   rw [← hL3666] at hS3664
   exact ⟨_, by omega, k + 1, _, rfl, zn ⟨rfl, rfl, rfl, rfl, rfl, rfl, rfl, trivial⟩, by omega, hS3664⟩
 ·skip
  have hc25r := hc25
  try simp only [zr] at hc25
  refine zm rfl ?_
  refine zd ?_
  refine za (by kernel_rfl) (fun _ => ?_)
  refine st (zj (f := 39) (vals := []) (cap := []) rfl rfl Try.call39 (xm  hS8) ?_)
  rintro _ w3667 ⟨rfl, hS3668⟩
  refine st (zf (v := .bool true) rfl ?_)
  refine zg ?_
  refine zw ?_
  refine zM Try.results11 (show _ = (.bool true : Value) from rfl) ?_
  have hS3669 : Sep G W Rs w3667 := hS3668.sel 1 [] (Nat.le_add_left _ _) rfl rfl
  refine ⟨rfl, hS3669⟩

end Go.Proofs.Ytgjgmojjeehieaa
