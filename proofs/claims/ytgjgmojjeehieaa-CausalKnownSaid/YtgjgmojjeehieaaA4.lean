/- Steps of the proofs of this seat: part A4. -/
import Derived.Test.YtgjgmojjeehieaaA3
set_option linter.unusedSimpArgs false
set_option linter.unusedVariables false
set_option maxRecDepth 8000
set_option maxHeartbeats 4000000
namespace Go.Proofs.Ytgjgmojjeehieaa
open Go.Proofs Go.RowKit

/-- What is wrong with an event among n. -/
def checkE (e : Ev) (n : Int) : Int :=
  if (((((decide (e.origin < 0) || decide (n ≤ e.origin)) || decide (min e.seq e.lam < 1)) || decide (min e.agg e.key < 0)) || !decide (((e.deps.length : Nat) : Int) = n)) || negL e.deps) = true then 1
  else if (!decide (e.deps.getD e.origin.toNat 0 = e.seq - 1)) = true then 9
  else if (decide (e.op < 1) || decide (5 < e.op)) = true then 2
  else if ((decide (min e.typ e.field < 0) || decide (8 ≤ e.typ)) || decide (8 ≤ e.field)) = true then 8
  else 0
theorem fd36_4 {d : Option Tmp} {ty : TypeId} {pos : String} {af : Array Edge} {g : Option (Nat × Bool)} {σ : Env} {w : World} {K : Value → World → Prop} {x : Operand} {b o : Nat} (hx : ev σ x = .pointer (some ⟨b, o, none⟩)) (h : K (.pointer (some ⟨b, o + 5, none⟩)) w) : opV Try.prog ⟨d, .fieldAddr 36 x 4, ty, pos, af, g⟩ σ w K := ov_fieldAddr Try.underlying36 rfl rfl (fun w => ⟨0, Try.sizeOf3 w⟩) hx h
theorem fd36_8 {d : Option Tmp} {ty : TypeId} {pos : String} {af : Array Edge} {g : Option (Nat × Bool)} {σ : Env} {w : World} {K : Value → World → Prop} {x : Operand} {b o : Nat} (hx : ev σ x = .pointer (some ⟨b, o, none⟩)) (h : K (.pointer (some ⟨b, o + 9, none⟩)) w) : opV Try.prog ⟨d, .fieldAddr 36 x 8, ty, pos, af, g⟩ σ w K := ov_fieldAddr Try.underlying36 rfl rfl (fun w => ⟨0, Try.sizeOf3 w⟩) hx h
theorem fd36_6 {d : Option Tmp} {ty : TypeId} {pos : String} {af : Array Edge} {g : Option (Nat × Bool)} {σ : Env} {w : World} {K : Value → World → Prop} {x : Operand} {b o : Nat} (hx : ev σ x = .pointer (some ⟨b, o, none⟩)) (h : K (.pointer (some ⟨b, o + 7, none⟩)) w) : opV Try.prog ⟨d, .fieldAddr 36 x 6, ty, pos, af, g⟩ σ w K := ov_fieldAddr Try.underlying36 rfl rfl (fun w => ⟨0, Try.sizeOf3 w⟩) hx h
theorem fd36_3 {d : Option Tmp} {ty : TypeId} {pos : String} {af : Array Edge} {g : Option (Nat × Bool)} {σ : Env} {w : World} {K : Value → World → Prop} {x : Operand} {b o : Nat} (hx : ev σ x = .pointer (some ⟨b, o, none⟩)) (h : K (.pointer (some ⟨b, o + 4, none⟩)) w) : opV Try.prog ⟨d, .fieldAddr 36 x 3, ty, pos, af, g⟩ σ w K := ov_fieldAddr Try.underlying36 rfl rfl (fun w => ⟨0, Try.sizeOf3 w⟩) hx h
theorem fd36_5 {d : Option Tmp} {ty : TypeId} {pos : String} {af : Array Edge} {g : Option (Nat × Bool)} {σ : Env} {w : World} {K : Value → World → Prop} {x : Operand} {b o : Nat} (hx : ev σ x = .pointer (some ⟨b, o, none⟩)) (h : K (.pointer (some ⟨b, o + 6, none⟩)) w) : opV Try.prog ⟨d, .fieldAddr 36 x 5, ty, pos, af, g⟩ σ w K := ov_fieldAddr Try.underlying36 rfl rfl (fun w => ⟨0, Try.sizeOf3 w⟩) hx h
theorem D_check {G : Nat → Prop} {W w : World} {Rs : List HP} {e : Ev} {de0 : Value} (hde0 : RdS W G de0 e.deps) (oe : e.Ok) {n : Int} (hn : InR n) (hS0 : Sep G W Rs w) : Ret Try.prog 55 [.agg (e.cells de0).toArray, .int .i64 (n)] w (fun r w' => r = (.int .i64 ((checkE e n)) : Value) ∧ Sep G W Rs w') := by
 have hde0s : e.deps.length * 8 ≤ 140737488355328 := hde0.small
 refine Calls_of_WP (args := [.agg (e.cells de0).toArray, .int .i64 (n)]) Try.func55 rfl rfl ?_
 refine WP_seq ?_
 refine WP_region0 (by kernel_rfl) (fun _ => ?_)
 refine st (ov_box (v := .agg (e.cells de0).toArray) rfl ?_)
 intro w3 b2 hn1
 have hS4 : Sep G W ((Blk b2 (e.cells de0).toArray 36) :: Rs) w3 := hS0.new hn1
 refine st (ov_assign (v := .int .i64 (0)) rfl ?_)
 refine st_nil ?_
 refine WP_seq ?_
 refine WP_region0 (by kernel_rfl) (fun _ => ?_)
 refine st (ov_assign (v := .func (.func 79) #[] #[]) rfl ?_)
 refine st_nil ?_
 refine WP_seq ?_
 refine WP_block ?_
 refine WP_seq ?_
 refine WP_region (by kernel_rfl) ?_
 refine st (fd36_0 rfl ?_)
 refine st (fd33_0 rfl ?_)
 refine st (ov_load1 (v := .int .i64 (e.origin)) Try.isAgg3 rfl (blk_cellL (hS4.blk (i := 0) rfl) rfl) ?_)
 refine st (ov_lss (k := .i64) (a := e.origin) (b := 0) rfl rfl ?_)
 refine st (ov_move (v := .bool (decide (e.origin < 0))) rfl ?_)
 refine stc (V := .pointer (some ⟨b2, 0, none⟩)) rfl rfl (fun hb5 => ?_) ?_
 ·have hl6 := hb5
  have hl6 := of_decide_eq_false hl6
  exact fd36_0 rfl ⟨rfl, rfl⟩
 refine stc (V := .pointer (some ⟨b2, 0, none⟩)) rfl rfl (fun hb7 => ?_) ?_
 ·have hl8 := hb7
  have hl8 := of_decide_eq_false hl8
  exact fd33_0 (show _ = (.pointer (some ⟨b2, 0, none⟩) : Value) from (if_pos hb7)) ⟨rfl, rfl⟩
 refine stc (V := .int .i64 (e.origin)) rfl rfl (fun hb9 => ?_) ?_
 ·have hl10 := hb9
  have hl10 := of_decide_eq_false hl10
  exact ov_load1 (v := .int .i64 (e.origin)) Try.isAgg3 (show _ = (.pointer (some ⟨b2, 0, none⟩) : Value) from (if_pos hb9)) (blk_cellL (hS4.blk (i := 0) rfl) rfl) ⟨rfl, rfl⟩
 refine stc (V := .int .i64 (n)) rfl rfl (fun hb11 => ?_) ?_
 ·have hl12 := hb11
  have hl12 := of_decide_eq_false hl12
  exact ov_move (v := .int .i64 (n)) rfl ⟨rfl, rfl⟩
 refine stc (V := .bool (decide (n ≤ e.origin))) rfl rfl (fun hb13 => ?_) ?_
 ·have hl14 := hb13
  have hl14 := of_decide_eq_false hl14
  exact ov_geq (k := .i64) (a := e.origin) (b := n) (show _ = (.int .i64 (e.origin) : Value) from (if_pos hb13)) (show _ = (.int .i64 (n) : Value) from (if_pos hb13)) ⟨rfl, rfl⟩
 refine st (ov_pick_or (b := decide (e.origin < 0)) (b' := decide (n ≤ e.origin)) rfl (fun hbp => (show _ = (.bool (decide (n ≤ e.origin)) : Value) from (if_pos hbp))) ?_)
 refine st (ov_move (v := .bool ((decide (e.origin < 0)) || (decide (n ≤ e.origin)))) rfl ?_)
 refine stc (V := .pointer (some ⟨b2, 0, none⟩)) rfl rfl (fun hb15 => ?_) ?_
 ·have hl16 := hb15
  try simp only [bools] at hl16
  exact fd36_0 rfl ⟨rfl, rfl⟩
 refine stc (V := .pointer (some ⟨b2, 1, none⟩)) rfl rfl (fun hb17 => ?_) ?_
 ·have hl18 := hb17
  try simp only [bools] at hl18
  exact fd33_1 (show _ = (.pointer (some ⟨b2, 0, none⟩) : Value) from (if_pos hb17)) ⟨rfl, rfl⟩
 refine stc (V := .int .i64 (e.seq)) rfl rfl (fun hb19 => ?_) ?_
 ·have hl20 := hb19
  try simp only [bools] at hl20
  exact ov_load1 (v := .int .i64 (e.seq)) Try.isAgg3 (show _ = (.pointer (some ⟨b2, 1, none⟩) : Value) from (if_pos hb19)) (blk_cellL (hS4.blk (i := 0) rfl) rfl) ⟨rfl, rfl⟩
 refine stc (V := .pointer (some ⟨b2, 2, none⟩)) rfl rfl (fun hb21 => ?_) ?_
 ·have hl22 := hb21
  try simp only [bools] at hl22
  exact fd36_1 rfl ⟨rfl, rfl⟩
 refine stc (V := .int .i64 (e.lam)) rfl rfl (fun hb23 => ?_) ?_
 ·have hl24 := hb23
  try simp only [bools] at hl24
  exact ov_load1 (v := .int .i64 (e.lam)) Try.isAgg3 (show _ = (.pointer (some ⟨b2, 2, none⟩) : Value) from (if_pos hb23)) (blk_cellL (hS4.blk (i := 0) rfl) rfl) ⟨rfl, rfl⟩
 refine stc (V := .int .i64 (min e.seq e.lam)) rfl rfl (fun hb25 => ?_) ?_
 ·have hl26 := hb25
  try simp only [bools] at hl26
  exact ov_min (k := .i64) (a := e.seq) (b := e.lam) (show _ = (.int .i64 (e.seq) : Value) from (if_pos hb25)) (show _ = (.int .i64 (e.lam) : Value) from (if_pos hb25)) ⟨rfl, rfl⟩
 refine stc (V := .bool (decide ((min e.seq e.lam) < 1))) rfl rfl (fun hb27 => ?_) ?_
 ·have hl28 := hb27
  try simp only [bools] at hl28
  exact ov_lss (k := .i64) (a := min e.seq e.lam) (b := 1) (show _ = (.int .i64 (min e.seq e.lam) : Value) from (if_pos hb27)) rfl ⟨rfl, rfl⟩
 refine st (ov_pick_or (b := (decide (e.origin < 0)) || (decide (n ≤ e.origin))) (b' := decide ((min e.seq e.lam) < 1)) rfl (fun hbp => (show _ = (.bool (decide ((min e.seq e.lam) < 1)) : Value) from (if_pos hbp))) ?_)
 refine st (ov_move (v := .bool (((decide (e.origin < 0)) || (decide (n ≤ e.origin))) || (decide ((min e.seq e.lam) < 1)))) rfl ?_)
 refine stc (V := .pointer (some ⟨b2, 5, none⟩)) rfl rfl (fun hb29 => ?_) ?_
 ·have hl30 := hb29
  try simp only [bools] at hl30
  exact fd36_4 rfl ⟨rfl, rfl⟩
 refine stc (V := .int .i64 (e.agg)) rfl rfl (fun hb31 => ?_) ?_
 ·have hl32 := hb31
  try simp only [bools] at hl32
  exact ov_load1 (v := .int .i64 (e.agg)) Try.isAgg3 (show _ = (.pointer (some ⟨b2, 5, none⟩) : Value) from (if_pos hb31)) (blk_cellL (hS4.blk (i := 0) rfl) rfl) ⟨rfl, rfl⟩
 refine stc (V := .pointer (some ⟨b2, 9, none⟩)) rfl rfl (fun hb33 => ?_) ?_
 ·have hl34 := hb33
  try simp only [bools] at hl34
  exact fd36_8 rfl ⟨rfl, rfl⟩
 refine stc (V := .int .i64 (e.key)) rfl rfl (fun hb35 => ?_) ?_
 ·have hl36 := hb35
  try simp only [bools] at hl36
  exact ov_load1 (v := .int .i64 (e.key)) Try.isAgg3 (show _ = (.pointer (some ⟨b2, 9, none⟩) : Value) from (if_pos hb35)) (blk_cellL (hS4.blk (i := 0) rfl) rfl) ⟨rfl, rfl⟩
 refine stc (V := .int .i64 (min e.agg e.key)) rfl rfl (fun hb37 => ?_) ?_
 ·have hl38 := hb37
  try simp only [bools] at hl38
  exact ov_min (k := .i64) (a := e.agg) (b := e.key) (show _ = (.int .i64 (e.agg) : Value) from (if_pos hb37)) (show _ = (.int .i64 (e.key) : Value) from (if_pos hb37)) ⟨rfl, rfl⟩
 refine stc (V := .bool (decide ((min e.agg e.key) < 0))) rfl rfl (fun hb39 => ?_) ?_
 ·have hl40 := hb39
  try simp only [bools] at hl40
  exact ov_lss (k := .i64) (a := min e.agg e.key) (b := 0) (show _ = (.int .i64 (min e.agg e.key) : Value) from (if_pos hb39)) rfl ⟨rfl, rfl⟩
 refine st (ov_pick_or (b := ((decide (e.origin < 0)) || (decide (n ≤ e.origin))) || (decide ((min e.seq e.lam) < 1))) (b' := decide ((min e.agg e.key) < 0)) rfl (fun hbp => (show _ = (.bool (decide ((min e.agg e.key) < 0)) : Value) from (if_pos hbp))) ?_)
 refine st (ov_move (v := .bool ((((decide (e.origin < 0)) || (decide (n ≤ e.origin))) || (decide ((min e.seq e.lam) < 1))) || (decide ((min e.agg e.key) < 0)))) rfl ?_)
 refine stc (V := .pointer (some ⟨b2, 3, none⟩)) rfl rfl (fun hb41 => ?_) ?_
 ·have hl42 := hb41
  try simp only [bools] at hl42
  exact fd36_2 rfl ⟨rfl, rfl⟩
 refine stc (V := de0) rfl rfl (fun hb43 => ?_) ?_
 ·have hl44 := hb43
  try simp only [bools] at hl44
  exact ov_load1 (v := de0) Try.isAgg34 (show _ = (.pointer (some ⟨b2, 3, none⟩) : Value) from (if_pos hb43)) (blk_cellL (hS4.blk (i := 0) rfl) rfl) ⟨rfl, rfl⟩
 refine stc (V := .int .i64 ((e.deps.length : Nat) : Int)) rfl rfl (fun hb45 => ?_) ?_
 ·have hl46 := hb45
  try simp only [bools] at hl46
  exact ov_len (n := e.deps.length) Try.underlying34 (show _ = (de0 : Value) from (if_pos hb45)) hde0.sl ⟨rfl, rfl⟩
 refine stc (V := .int .i64 (n)) rfl rfl (fun hb47 => ?_) ?_
 ·have hl48 := hb47
  try simp only [bools] at hl48
  exact ov_move (v := .int .i64 (n)) rfl ⟨rfl, rfl⟩
 refine stc (V := .bool (!decide (((e.deps.length : Nat) : Int) = n))) rfl rfl (fun hb49 => ?_) ?_
 ·have hl50 := hb49
  try simp only [bools] at hl50
  exact ov_neq (k := .i64) (a := ((e.deps.length : Nat) : Int)) (b := n) (show _ = (.int .i64 ((e.deps.length : Nat) : Int) : Value) from (if_pos hb49)) (show _ = (.int .i64 (n) : Value) from (if_pos hb49)) ⟨rfl, rfl⟩
 refine st (ov_pick_or (b := (((decide (e.origin < 0)) || (decide (n ≤ e.origin))) || (decide ((min e.seq e.lam) < 1))) || (decide ((min e.agg e.key) < 0))) (b' := !decide (((e.deps.length : Nat) : Int) = n)) rfl (fun hbp => (show _ = (.bool (!decide (((e.deps.length : Nat) : Int) = n)) : Value) from (if_pos hbp))) ?_)
 refine st (ov_move (v := .bool (((((decide (e.origin < 0)) || (decide (n ≤ e.origin))) || (decide ((min e.seq e.lam) < 1))) || (decide ((min e.agg e.key) < 0))) || (!decide (((e.deps.length : Nat) : Int) = n)))) rfl ?_)
 refine stc (V := .pointer (some ⟨b2, 3, none⟩)) rfl rfl (fun hb51 => ?_) ?_
 ·have hl52 := hb51
  try simp only [bools] at hl52
  exact fd36_2 rfl ⟨rfl, rfl⟩
 refine stc (V := de0) rfl rfl (fun hb53 => ?_) ?_
 ·have hl54 := hb53
  try simp only [bools] at hl54
  exact ov_load1 (v := de0) Try.isAgg34 (show _ = (.pointer (some ⟨b2, 3, none⟩) : Value) from (if_pos hb53)) (blk_cellL (hS4.blk (i := 0) rfl) rfl) ⟨rfl, rfl⟩
 refine stc (V := .func (.func 79) #[] #[]) rfl rfl (fun hb55 => ?_) ?_
 ·have hl56 := hb55
  try simp only [bools] at hl56
  exact ov_move (v := .func (.func 79) #[] #[]) rfl ⟨rfl, rfl⟩
 refine stcw (V := .bool ((negL e.deps))) (fun _ wq => Sep G W ((Blk b2 (e.cells de0).toArray 36) :: Rs) wq) hS4 rfl rfl (fun hb57 => ?_) (fun w61 hS62 => ?_)
 ·have hl58 := hb57
  try simp only [bools] at hl58
  refine (ov_call (f := 80) (vals := [de0, .func (.func 79) #[] #[]]) (cap := []) (show _ = (.func (.func 80) #[] #[] : Value) from rfl) (mapL ⟨(show _ = (de0 : Value) from (if_pos hb57)), (show _ = (.func (.func 79) #[] #[] : Value) from (if_pos hb57)), trivial⟩) Try.call80 (D_containsNeg (l := e.deps) (vl := de0) hde0 hS4) ?_)
  rintro _ w59 ⟨rfl, hS60⟩
  exact ⟨rfl, hS60⟩
 refine st (ov_pick_or (b := ((((decide (e.origin < 0)) || (decide (n ≤ e.origin))) || (decide ((min e.seq e.lam) < 1))) || (decide ((min e.agg e.key) < 0))) || (!decide (((e.deps.length : Nat) : Int) = n))) (b' := (negL e.deps)) rfl (fun hbp => (show _ = (.bool ((negL e.deps)) : Value) from (if_pos hbp))) ?_)
 refine st (ov_assign (v := .bool ((((((decide (e.origin < 0)) || (decide (n ≤ e.origin))) || (decide ((min e.seq e.lam) < 1))) || (decide ((min e.agg e.key) < 0))) || (!decide (((e.deps.length : Nat) : Int) = n))) || (negL e.deps))) rfl ?_)
 refine st_nil ?_
 cases hc63 : (((((decide (e.origin < 0)) || (decide (n ≤ e.origin))) || (decide ((min e.seq e.lam) < 1))) || (decide ((min e.agg e.key) < 0))) || (!decide (((e.deps.length : Nat) : Int) = n))) || (negL e.deps)
 ·skip
  have hc63r := hc63
  try simp only [bools] at hc63
  refine WP_cond_f rfl ?_
  refine WP_seq ?_
  refine WP_draw4 (WF [fun vals wq => Sep G W ((Blk b2 (e.cells de0).toArray 36) :: Rs) wq]) (AF [Vl 0 (.pointer (some ⟨b2, 3, none⟩)), Vl 1 (de0), Vl 2 (.pointer (some ⟨b2, 0, none⟩)), Vl 3 (.pointer (some ⟨b2, 0, none⟩)), Vl 4 (.int .i64 (e.origin)), Vl 5 (.pointer (some ⟨sb de0, so de0 + e.origin.toNat * 1, none⟩)), Vl 6 (.int .i64 ((e.deps.getD e.origin.toNat 0))), Vl 7 (.pointer (some ⟨b2, 0, none⟩)), Vl 8 (.pointer (some ⟨b2, 1, none⟩)), Vl 9 (.int .i64 (e.seq)), Vl 10 (.int .i64 (e.seq - 1)), Vl 11 (.bool (!decide ((e.deps.getD e.origin.toNat 0) = (e.seq - 1)))), Vl 12 (.bool (!decide ((e.deps.getD e.origin.toNat 0) = (e.seq - 1))))]) [[], [0], [], [2], [2, 3], [0, 1, 2, 3, 4], [0, 1, 2, 3, 4, 5], [], [7], [7, 8], [7, 8, 9], [0, 1, 2, 3, 4, 5, 6, 7, 8, 9, 10], [0, 1, 2, 3, 4, 5, 6, 7, 8, 9, 10, 11]] [] [(0, 0), (0, 0), (0, 0), (0, 0), (0, 0), (0, 0), (0, 0), (0, 0), (0, 0), (0, 0), (0, 0), (0, 0), (0, 0)] (by kernel_rfl) (by kernel_rfl) (by kernel_rfl) rfl (by kernel_rfl) (by kernel_rfl) (fun _ h1 h2 h3 h4 _ => hS62.same h1 h2 h3 h4) ?_ (AF_loc ⟨dA, dA, dA, dA, dA, dA, dA, dA, dA, dA, dA, dA, dA, trivial⟩) ⟨?_, ?_, ?_, ?_, ?_, ?_, ?_, ?_, ?_, ?_, ?_, ?_, ?_, trivial⟩ ?_
  ·intro k vals vals' w hv h
   match k, h with
   | 0, h => exact h
   | _ + 1, _ => trivial
  ·intro k166 vals w167 h170 h171 hW169 hA168
   refine obl rfl ?_
   exact fd36_2 rfl (fun vals' hv _ => ⟨rfl, hv⟩)
  ·intro k172 vals w173 h176 h177 hW175 hA174
   obtain rfl : k172 = 0 := Nat.le_antisymm h177 h176
   have hS178 : Sep G W ((Blk b2 (e.cells de0).toArray 36) :: Rs) w173 := hW175
   have e179 := hA174 0 (by decide)
   refine obl rfl ?_
   exact ov_load1 (v := de0) Try.isAgg34 e179 (blk_cellL (hS178.blk (i := 0) rfl) rfl) (fun vals' hv _ => ⟨rfl, hv⟩)
  ·intro k180 vals w181 h184 h185 hW183 hA182
   refine obl rfl ?_
   exact fd36_0 rfl (fun vals' hv _ => ⟨rfl, hv⟩)
  ·intro k186 vals w187 h190 h191 hW189 hA188
   have e192 := hA188 2 (by decide)
   refine obl rfl ?_
   exact fd33_0 e192 (fun vals' hv _ => ⟨rfl, hv⟩)
  ·intro k193 vals w194 h197 h198 hW196 hA195
   obtain rfl : k193 = 0 := Nat.le_antisymm h198 h197
   have hS199 : Sep G W ((Blk b2 (e.cells de0).toArray 36) :: Rs) w194 := hW196
   have e200 := hA195 3 (by decide)
   refine obl rfl ?_
   exact ov_load1 (v := .int .i64 (e.origin)) Try.isAgg3 e200 (blk_cellL (hS199.blk (i := 0) rfl) rfl) (fun vals' hv _ => ⟨rfl, hv⟩)
  ·intro k201 vals w202 h205 h206 hW204 hA203
   obtain rfl : k201 = 0 := Nat.le_antisymm h206 h205
   have hS207 : Sep G W ((Blk b2 (e.cells de0).toArray 36) :: Rs) w202 := hW204
   have e208 := hA203 1 (by decide)
   have e209 := hA203 4 (by decide)
   refine obl rfl ?_
   have hi210 : e.origin.toNat < e.deps.length := (by first | omega | (simp only [lens]; omega))
   exact ov_indexAddr (k := 1) (i := e.origin) Try.underlying34 Try.sizeOf3 e208 hde0.sl e209 ⟨by omega, by omega⟩ (fun vals' hv _ => ⟨rfl, hv⟩)
  ·intro k211 vals w212 h215 h216 hW214 hA213
   obtain rfl : k211 = 0 := Nat.le_antisymm h216 h215
   have hS217 : Sep G W ((Blk b2 (e.cells de0).toArray 36) :: Rs) w212 := hW214
   have e218 := hA213 5 (by decide)
   refine obl rfl ?_
   have hi220 : e.origin.toNat < e.deps.length := (by first | omega | (simp only [lens]; omega))
   obtain ⟨hce219, hxe219⟩ := hde0.int hi220
   rw [← getD_at 0 hi220] at hce219 hxe219
   have hcw221 := hS217.cells hce219 (hde0.foot (ne_of_lt hi220))
   exact ov_load1 (v := .int .i64 ((e.deps.getD e.origin.toNat 0))) Try.isAgg3 e218 (hcw221.get (j := 0) rfl) (fun vals' hv _ => ⟨rfl, hv⟩)
  ·intro k222 vals w223 h226 h227 hW225 hA224
   refine obl rfl ?_
   exact fd36_0 rfl (fun vals' hv _ => ⟨rfl, hv⟩)
  ·intro k228 vals w229 h232 h233 hW231 hA230
   have e234 := hA230 7 (by decide)
   refine obl rfl ?_
   exact fd33_1 e234 (fun vals' hv _ => ⟨rfl, hv⟩)
  ·intro k235 vals w236 h239 h240 hW238 hA237
   obtain rfl : k235 = 0 := Nat.le_antisymm h240 h239
   have hS241 : Sep G W ((Blk b2 (e.cells de0).toArray 36) :: Rs) w236 := hW238
   have e242 := hA237 8 (by decide)
   refine obl rfl ?_
   exact ov_load1 (v := .int .i64 (e.seq)) Try.isAgg3 e242 (blk_cellL (hS241.blk (i := 0) rfl) rfl) (fun vals' hv _ => ⟨rfl, hv⟩)
  ·intro k243 vals w244 h247 h248 hW246 hA245
   obtain rfl : k243 = 0 := Nat.le_antisymm h248 h247
   have hS249 : Sep G W ((Blk b2 (e.cells de0).toArray 36) :: Rs) w244 := hW246
   have e250 := hA245 9 (by decide)
   refine obl rfl ?_
   have hr251 : InR (e.seq - 1) := (by have h9 := oe.seq; omega)
   exact ov_sub (r := e.seq - 1) (k := .i64) (a := e.seq) (b := 1) e250 rfl (by rw [show (e.seq - 1 : Int) = e.seq - 1 from rfl]; exact wrap_in hr251) (fun vals' hv _ => ⟨rfl, hv⟩)
  ·intro k252 vals w253 h256 h257 hW255 hA254
   obtain rfl : k252 = 0 := Nat.le_antisymm h257 h256
   have hS258 : Sep G W ((Blk b2 (e.cells de0).toArray 36) :: Rs) w253 := hW255
   have e259 := hA254 6 (by decide)
   have e260 := hA254 10 (by decide)
   refine obl rfl ?_
   exact ov_neq (k := .i64) (a := (e.deps.getD e.origin.toNat 0)) (b := e.seq - 1) e259 e260 (fun vals' hv _ => ⟨rfl, hv⟩)
  ·intro k261 vals w262 h265 h266 hW264 hA263
   have e267 := hA263 11 (by decide)
   refine obl rfl ?_
   exact ov_assign (v := .bool (!decide ((e.deps.getD e.origin.toNat 0) = (e.seq - 1)))) e267 (fun vals' hv _ => ⟨rfl, hv⟩)
  intro vals w268 hW269 hA270
  have hS271 : Sep G W ((Blk b2 (e.cells de0).toArray 36) :: Rs) w268 := hW269
  have e272 := hA270 12 (by decide)
  refine st_env (kv := [(0, .agg (e.cells de0).toArray), (1, .int .i64 (n)), (2, .pointer (some ⟨b2, 0, none⟩)), (4, .int .i64 (0)), (5, .func (.func 79) #[] #[]), (7, .pointer (some ⟨b2, 0, none⟩)), (8, .pointer (some ⟨b2, 0, none⟩)), (9, .int .i64 (e.origin)), (10, .bool (decide (e.origin < 0))), (11, .bool (decide (e.origin < 0))), (17, .bool ((decide (e.origin < 0)) || (decide (n ≤ e.origin)))), (18, .bool ((decide (e.origin < 0)) || (decide (n ≤ e.origin)))), (26, .bool (((decide (e.origin < 0)) || (decide (n ≤ e.origin))) || (decide ((min e.seq e.lam) < 1)))), (27, .bool (((decide (e.origin < 0)) || (decide (n ≤ e.origin))) || (decide ((min e.seq e.lam) < 1)))), (34, .bool ((((decide (e.origin < 0)) || (decide (n ≤ e.origin))) || (decide ((min e.seq e.lam) < 1))) || (decide ((min e.agg e.key) < 0)))), (35, .bool ((((decide (e.origin < 0)) || (decide (n ≤ e.origin))) || (decide ((min e.seq e.lam) < 1))) || (decide ((min e.agg e.key) < 0)))), (41, .bool (((((decide (e.origin < 0)) || (decide (n ≤ e.origin))) || (decide ((min e.seq e.lam) < 1))) || (decide ((min e.agg e.key) < 0))) || (!decide (((e.deps.length : Nat) : Int) = n)))), (42, .bool (((((decide (e.origin < 0)) || (decide (n ≤ e.origin))) || (decide ((min e.seq e.lam) < 1))) || (decide ((min e.agg e.key) < 0))) || (!decide (((e.deps.length : Nat) : Int) = n)))), (47, .bool false), (6, .bool false), (48, .bool (!decide ((e.deps.getD e.origin.toNat 0) = (e.seq - 1))))]) ⟨rfl, rfl, rfl, rfl, rfl, rfl, rfl, rfl, rfl, rfl, rfl, rfl, rfl, rfl, rfl, rfl, rfl, rfl, rfl, rfl, (by exact e272), trivial⟩ (fun ρw268 => ?_)
  refine st_nil ?_
  cases hc273 : !decide ((e.deps.getD e.origin.toNat 0) = (e.seq - 1))
  ·skip
   have hc273r := hc273
   have hc273 := ndec_false hc273
   refine WP_cond_f rfl ?_
   refine WP_seq ?_
   refine WP_region (by kernel_rfl) ?_
   refine st (fd36_6 rfl ?_)
   refine st (ov_load1 (v := .int .i64 (e.op)) Try.isAgg3 rfl (blk_cellL (hS271.blk (i := 0) rfl) rfl) ?_)
   refine st (ov_lss (k := .i64) (a := e.op) (b := 1) rfl rfl ?_)
   refine st (ov_move (v := .bool (decide (e.op < 1))) rfl ?_)
   refine stc (V := .pointer (some ⟨b2, 7, none⟩)) rfl rfl (fun hb274 => ?_) ?_
   ·have hl275 := hb274
    have hl275 := of_decide_eq_false hl275
    exact fd36_6 rfl ⟨rfl, rfl⟩
   refine stc (V := .int .i64 (e.op)) rfl rfl (fun hb276 => ?_) ?_
   ·have hl277 := hb276
    have hl277 := of_decide_eq_false hl277
    exact ov_load1 (v := .int .i64 (e.op)) Try.isAgg3 (show _ = (.pointer (some ⟨b2, 7, none⟩) : Value) from (if_pos hb276)) (blk_cellL (hS271.blk (i := 0) rfl) rfl) ⟨rfl, rfl⟩
   refine stc (V := .bool (decide (5 < e.op))) rfl rfl (fun hb278 => ?_) ?_
   ·have hl279 := hb278
    have hl279 := of_decide_eq_false hl279
    exact ov_gtr (k := .i64) (a := e.op) (b := 5) (show _ = (.int .i64 (e.op) : Value) from (if_pos hb278)) rfl ⟨rfl, rfl⟩
   refine st (ov_pick_or (b := decide (e.op < 1)) (b' := decide (5 < e.op)) rfl (fun hbp => (show _ = (.bool (decide (5 < e.op)) : Value) from (if_pos hbp))) ?_)
   refine st (ov_assign (v := .bool ((decide (e.op < 1)) || (decide (5 < e.op)))) rfl ?_)
   refine st_nil ?_
   cases hc280 : (decide (e.op < 1)) || (decide (5 < e.op))
   ·skip
    have hc280r := hc280
    try simp only [bools] at hc280
    refine WP_cond_f rfl ?_
    refine WP_seq ?_
    refine WP_region (by kernel_rfl) ?_
    refine st (fd36_3 rfl ?_)
    refine st (ov_load1 (v := .int .i64 (e.typ)) Try.isAgg3 rfl (blk_cellL (hS271.blk (i := 0) rfl) rfl) ?_)
    refine st (fd36_5 rfl ?_)
    refine st (ov_load1 (v := .int .i64 (e.field)) Try.isAgg3 rfl (blk_cellL (hS271.blk (i := 0) rfl) rfl) ?_)
    refine st (ov_min (k := .i64) (a := e.typ) (b := e.field) rfl rfl ?_)
    refine st (ov_lss (k := .i64) (a := min e.typ e.field) (b := 0) rfl rfl ?_)
    refine st (ov_move (v := .bool (decide ((min e.typ e.field) < 0))) rfl ?_)
    refine stc (V := .pointer (some ⟨b2, 4, none⟩)) rfl rfl (fun hb281 => ?_) ?_
    ·have hl282 := hb281
     have hl282 := of_decide_eq_false hl282
     exact fd36_3 rfl ⟨rfl, rfl⟩
    refine stc (V := .int .i64 (e.typ)) rfl rfl (fun hb283 => ?_) ?_
    ·have hl284 := hb283
     have hl284 := of_decide_eq_false hl284
     exact ov_load1 (v := .int .i64 (e.typ)) Try.isAgg3 (show _ = (.pointer (some ⟨b2, 4, none⟩) : Value) from (if_pos hb283)) (blk_cellL (hS271.blk (i := 0) rfl) rfl) ⟨rfl, rfl⟩
    refine stc (V := .bool (decide (8 ≤ e.typ))) rfl rfl (fun hb285 => ?_) ?_
    ·have hl286 := hb285
     have hl286 := of_decide_eq_false hl286
     exact ov_geq (k := .i64) (a := e.typ) (b := 8) (show _ = (.int .i64 (e.typ) : Value) from (if_pos hb285)) rfl ⟨rfl, rfl⟩
    refine st (ov_pick_or (b := decide ((min e.typ e.field) < 0)) (b' := decide (8 ≤ e.typ)) rfl (fun hbp => (show _ = (.bool (decide (8 ≤ e.typ)) : Value) from (if_pos hbp))) ?_)
    refine st (ov_move (v := .bool ((decide ((min e.typ e.field) < 0)) || (decide (8 ≤ e.typ)))) rfl ?_)
    refine stc (V := .pointer (some ⟨b2, 6, none⟩)) rfl rfl (fun hb287 => ?_) ?_
    ·have hl288 := hb287
     try simp only [bools] at hl288
     exact fd36_5 rfl ⟨rfl, rfl⟩
    refine stc (V := .int .i64 (e.field)) rfl rfl (fun hb289 => ?_) ?_
    ·have hl290 := hb289
     try simp only [bools] at hl290
     exact ov_load1 (v := .int .i64 (e.field)) Try.isAgg3 (show _ = (.pointer (some ⟨b2, 6, none⟩) : Value) from (if_pos hb289)) (blk_cellL (hS271.blk (i := 0) rfl) rfl) ⟨rfl, rfl⟩
    refine stc (V := .bool (decide (8 ≤ e.field))) rfl rfl (fun hb291 => ?_) ?_
    ·have hl292 := hb291
     try simp only [bools] at hl292
     exact ov_geq (k := .i64) (a := e.field) (b := 8) (show _ = (.int .i64 (e.field) : Value) from (if_pos hb291)) rfl ⟨rfl, rfl⟩
    refine st (ov_pick_or (b := (decide ((min e.typ e.field) < 0)) || (decide (8 ≤ e.typ))) (b' := decide (8 ≤ e.field)) rfl (fun hbp => (show _ = (.bool (decide (8 ≤ e.field)) : Value) from (if_pos hbp))) ?_)
    refine st (ov_assign (v := .bool (((decide ((min e.typ e.field) < 0)) || (decide (8 ≤ e.typ))) || (decide (8 ≤ e.field)))) rfl ?_)
    refine st_nil ?_
    cases hc293 : ((decide ((min e.typ e.field) < 0)) || (decide (8 ≤ e.typ))) || (decide (8 ≤ e.field))
    ·skip
     have hc293r := hc293
     try simp only [bools] at hc293
     refine WP_cond_f rfl ?_
     refine WP_skip ?_
     refine WP_seq ?_
     refine WP_region0 (by kernel_rfl) (fun _ => ?_)
     refine st (ov_assign (v := .int .i64 (0)) rfl ?_)
     refine st_nil ?_
     refine WP_ret ?_
     refine fin1 Try.results55 (show _ = (.int .i64 (0) : Value) from rfl) ?_
     have hS294 : Sep G W Rs w268 := hS271.sel 1 [] (Nat.le_add_left _ _) rfl rfl
     refine ⟨?_, hS294⟩
     unfold checkE
     simp only [hc63r, hc273r, hc280r, hc293r, if_true, if_false, Bool.false_eq_true, ↓reduceIte]
    ·skip
     have hc293r := hc293
     try simp only [bools] at hc293
     refine WP_cond_t rfl ?_
     refine WP_seq ?_
     refine WP_region0 (by kernel_rfl) (fun _ => ?_)
     refine st (ov_assign (v := .int .i64 (8)) rfl ?_)
     refine st_nil ?_
     refine WP_ret ?_
     refine fin1 Try.results55 (show _ = (.int .i64 (8) : Value) from rfl) ?_
     have hS295 : Sep G W Rs w268 := hS271.sel 1 [] (Nat.le_add_left _ _) rfl rfl
     refine ⟨?_, hS295⟩
     unfold checkE
     simp only [hc63r, hc273r, hc280r, hc293r, if_true, if_false, Bool.false_eq_true, ↓reduceIte]
   ·skip
    have hc280r := hc280
    try simp only [bools] at hc280
    refine WP_cond_t rfl ?_
    refine WP_seq ?_
    refine WP_region0 (by kernel_rfl) (fun _ => ?_)
    refine st (ov_assign (v := .int .i64 (2)) rfl ?_)
    refine st_nil ?_
    refine WP_ret ?_
    refine fin1 Try.results55 (show _ = (.int .i64 (2) : Value) from rfl) ?_
    have hS296 : Sep G W Rs w268 := hS271.sel 1 [] (Nat.le_add_left _ _) rfl rfl
    refine ⟨?_, hS296⟩
    unfold checkE
    simp only [hc63r, hc273r, hc280r, if_true, if_false, Bool.false_eq_true, ↓reduceIte]
  ·skip
   have hc273r := hc273
   have hc273 := ndec_true hc273
   refine WP_cond_t rfl ?_
   refine WP_seq ?_
   refine WP_region0 (by kernel_rfl) (fun _ => ?_)
   refine st (ov_assign (v := .int .i64 (9)) rfl ?_)
   refine st_nil ?_
   refine WP_ret ?_
   refine fin1 Try.results55 (show _ = (.int .i64 (9) : Value) from rfl) ?_
   have hS297 : Sep G W Rs w268 := hS271.sel 1 [] (Nat.le_add_left _ _) rfl rfl
   refine ⟨?_, hS297⟩
   unfold checkE
   simp only [hc63r, hc273r, if_true, if_false, Bool.false_eq_true, ↓reduceIte]
 ·skip
  have hc63r := hc63
  try simp only [bools] at hc63
  refine WP_cond_t rfl ?_
  refine WP_seq ?_
  refine WP_region0 (by kernel_rfl) (fun _ => ?_)
  refine st (ov_assign (v := .int .i64 (1)) rfl ?_)
  refine st_nil ?_
  refine WP_ret ?_
  refine fin1 Try.results55 (show _ = (.int .i64 (1) : Value) from rfl) ?_
  have hS298 : Sep G W Rs w61 := hS62.sel 1 [] (Nat.le_add_left _ _) rfl rfl
  refine ⟨?_, hS298⟩
  unfold checkE
  simp only [hc63r, if_true, if_false, Bool.false_eq_true, ↓reduceIte]

end Go.Proofs.Ytgjgmojjeehieaa
