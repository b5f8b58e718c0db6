/- Steps of the proofs of this seat: part P1. -/
import Derived.Test.YtbbpmhfcgoljdaaRecs
import Derived.Test.YtbbpmhfcgoljdaaMaps
import Derived.Test.YtbbpmhfcgoljdaaSortL
import Derived.Test.YtbbpmhfcgoljdaaSortF
set_option linter.unusedSimpArgs false
set_option linter.unusedVariables false
namespace Go.Proofs.Ytbbpmhfcgoljdaa
open Go.Proofs Go.RowKit

theorem elem25 : Elem Try.prog 25 3 1 8 := ⟨Try.underlying25, _, _, rfl, rfl, rfl, rfl, rfl⟩
theorem elem28 : Elem Try.prog 28 31 3 24 := ⟨Try.underlying28, _, _, rfl, rfl, rfl, rfl, rfl⟩
/-- The group of an event. -/
def grpI (p : Prj) (e : Ev) (reg : Int) : Option Int := if p.pgroup = 1 then some e.agg else if p.pgroup = 2 then some e.arg else if p.pgroup = 3 then some reg else none
theorem grpI_in {p : Prj} {e : Ev} {reg : Int} (oe : e.Ok) (hr : InR reg) : InR ((grpI p e reg).getD 0) := by
  unfold grpI
  split
  · exact oe.agg
  · split
    · exact oe.arg
    · split
      · exact hr
      · decide
/-- What is made of a row's value. -/
def madeI (p : Prj) (r : Row) (arg : Int) : Int := if p.pmake = 1 then r.count else if p.pmake = 2 then IntKind.i64.wrap (r.value + arg) else if p.pmake = 5 ∨ (r.count = 1 ∧ (p.pmake = 3 ∨ p.pmake = 4)) then arg else if p.pmake = 3 then min r.value arg else if p.pmake = 4 then max r.value arg else 0
/-- An entry done. -/
def addM (p : Prj) (L : List (Int × Row)) (e : Ent) (reg : Int) : List (Int × Row) := match grpI p e.ev reg with
  | none => L
  | some g => if e.void = true ∨ e.ev.typ ≠ p.ptyp ∨ e.ev.field ≠ p.pfield then L else
      updM L g ⟨g, madeI p ⟨g, ((lookM L g).getD ⟨0, 0, 0⟩).value, ((lookM L g).getD ⟨0, 0, 0⟩).count + 1⟩ e.ev.arg, ((lookM L g).getD ⟨0, 0, 0⟩).count + 1⟩

theorem fa58_0 {d : Option Tmp} {ty : TypeId} {pos : String} {af : Array Edge} {g : Option (Nat × Bool)} {σ : Env} {w : World} {K : Value → World → Prop} {x : Operand} {b o : Nat} (hx : ev σ x = .pointer (some ⟨b, o, none⟩)) (h : K (.pointer (some ⟨b, o + 0, none⟩)) w) : opV Try.prog ⟨d, .fieldAddr 58 x 0, ty, pos, af, g⟩ σ w K := ov_fieldAddr Try.underlying58 rfl rfl (fun w => ⟨4, Try.sizeOf23 w⟩) hx h
theorem fa23_2 {d : Option Tmp} {ty : TypeId} {pos : String} {af : Array Edge} {g : Option (Nat × Bool)} {σ : Env} {w : World} {K : Value → World → Prop} {x : Operand} {b o : Nat} (hx : ev σ x = .pointer (some ⟨b, o, none⟩)) (h : K (.pointer (some ⟨b, o + 2, none⟩)) w) : opV Try.prog ⟨d, .fieldAddr 23 x 2, ty, pos, af, g⟩ σ w K := ov_fieldAddr Try.underlying23 rfl rfl (fun w => ⟨0, Try.sizeOf3 w⟩) hx h
theorem fa36_7 {d : Option Tmp} {ty : TypeId} {pos : String} {af : Array Edge} {g : Option (Nat × Bool)} {σ : Env} {w : World} {K : Value → World → Prop} {x : Operand} {b o : Nat} (hx : ev σ x = .pointer (some ⟨b, o, none⟩)) (h : K (.pointer (some ⟨b, o + 8, none⟩)) w) : opV Try.prog ⟨d, .fieldAddr 36 x 7, ty, pos, af, g⟩ σ w K := ov_fieldAddr Try.underlying36 rfl rfl (fun w => ⟨0, Try.sizeOf3 w⟩) hx h
theorem fa36_4 {d : Option Tmp} {ty : TypeId} {pos : String} {af : Array Edge} {g : Option (Nat × Bool)} {σ : Env} {w : World} {K : Value → World → Prop} {x : Operand} {b o : Nat} (hx : ev σ x = .pointer (some ⟨b, o, none⟩)) (h : K (.pointer (some ⟨b, o + 5, none⟩)) w) : opV Try.prog ⟨d, .fieldAddr 36 x 4, ty, pos, af, g⟩ σ w K := ov_fieldAddr Try.underlying36 rfl rfl (fun w => ⟨0, Try.sizeOf3 w⟩) hx h
theorem C_group {w : World} {a m : Nat} {p : Prj} (ha : w.heap[a]? = some (.cells #[.int .i64 (p.ptyp), .int .i64 (p.pfield), .int .i64 (p.pgroup), .int .i64 (p.pby), .int .i64 (p.pmake), .map (some m)] 58)) (op : p.Ok) {Fe : Nat → Prop} {e : Ev} {de0 : Value} (he0 : RdS w Fe de0 e.deps) (oe : e.Ok) {reg : Int} (hreg : InR reg) : Ret Try.prog 27 [.pointer (some ⟨a, 0, none⟩), .agg (e.cells de0).toArray, .int .i64 (reg)] w (fun r w' => r = .tuple #[.int .i64 ((grpI p e reg).getD 0), .bool (grpI p e reg).isSome] ∧ Ext w w') := by
  have he0s : e.deps.length * 8 ≤ 140737488355328 := he0.small
  refine Calls_of_WP (args := [.pointer (some ⟨a, 0, none⟩), .agg (e.cells de0).toArray, .int .i64 (reg)]) Try.func27 rfl rfl ?_
  refine WP_seq ?_
  refine WP_region0 (by kernel_rfl) (fun _ => ?_)
  refine st (ov_box (v := .agg (e.cells de0).toArray) rfl (fun w1 b2 hn1 => ?_))
  have hb3 : w1.heap[b2]? = some (.cells (e.cells de0).toArray 36) := hn1.at_
  have hs4 := hn1.size; have hs4e := hn1.eq
  refine st (ov_assign (v := .int .i64 (0)) rfl ?_)
  refine st (ov_assign (v := .bool false) rfl ?_)
  refine st_nil ?_
  refine WP_seq ?_
  refine WP_seq ?_
  refine WP_region0 (by kernel_rfl) (fun _ => ?_)
  refine st (ov_move (v := .pointer (some ⟨a, 0, none⟩)) rfl ?_)
  refine st (ov_nilCheck (b := a) (o := 0) rfl ?_)
  refine st (fa58_0 rfl ?_)
  refine st (fa23_2 rfl ?_)
  have h5 := hn1.ext.keep ha (fun h => h)
  refine st (ov_load1 (v := .int .i64 (p.pgroup)) Try.isAgg3 rfl (blk_cellL h5 rfl) ?_)
  refine st_nil ?_
  refine WP_block ?_
  refine WP_seq ?_
  refine WP_region0 (by kernel_rfl) (fun _ => ?_)
  refine st (ov_eql (k := .i64) (a := p.pgroup) (b := 1) rfl rfl ?_)
  refine st (ov_assign (v := .bool (decide (p.pgroup = 1))) rfl ?_)
  refine st_nil ?_
  cases hc6 : decide (p.pgroup = 1)
  · skip
    have hc6 := of_decide_eq_false hc6
    refine WP_cond_f rfl ?_
    refine WP_seq ?_
    refine WP_region0 (by kernel_rfl) (fun _ => ?_)
    refine st (ov_eql (k := .i64) (a := p.pgroup) (b := 2) rfl rfl ?_)
    refine st (ov_assign (v := .bool (decide (p.pgroup = 2))) rfl ?_)
    refine st_nil ?_
    cases hc7 : decide (p.pgroup = 2)
    · skip
      have hc7 := of_decide_eq_false hc7
      refine WP_cond_f rfl ?_
      refine WP_seq ?_
      refine WP_region0 (by kernel_rfl) (fun _ => ?_)
      refine st (ov_eql (k := .i64) (a := p.pgroup) (b := 3) rfl rfl ?_)
      refine st (ov_assign (v := .bool (decide (p.pgroup = 3))) rfl ?_)
      refine st_nil ?_
      cases hc8 : decide (p.pgroup = 3)
      · skip
        have hc8 := of_decide_eq_false hc8
        refine WP_cond_f rfl ?_
        refine WP_skip ?_
        refine WP_seq ?_
        refine WP_region0 (by kernel_rfl) (fun _ => ?_)
        refine st (ov_assign (v := .int .i64 (0)) rfl ?_)
        refine st (ov_assign (v := .bool false) rfl ?_)
        refine st_nil ?_
        refine WP_ret ?_
        refine fin2 Try.results27 (show _ = (.int .i64 (0) : Value) from rfl) (show _ = (.bool false : Value) from rfl) ?_
        refine ⟨?_, hn1.ext⟩
        unfold grpI
        (repeat (first | rw [if_pos (by omega)] | rw [if_neg (by omega)]))
        rfl
      · skip
        have hc8 := of_decide_eq_true hc8
        refine WP_cond_t rfl ?_
        refine WP_seq ?_
        refine WP_region0 (by kernel_rfl) (fun _ => ?_)
        refine st (ov_move (v := .int .i64 (reg)) rfl ?_)
        refine st (ov_assign (v := .int .i64 (reg)) rfl ?_)
        refine st (ov_assign (v := .bool true) rfl ?_)
        refine st_nil ?_
        refine WP_ret ?_
        refine fin2 Try.results27 (show _ = (.int .i64 (reg) : Value) from rfl) (show _ = (.bool true : Value) from rfl) ?_
        refine ⟨?_, hn1.ext⟩
        unfold grpI
        (repeat (first | rw [if_pos (by omega)] | rw [if_neg (by omega)]))
        rfl
    · skip
      have hc7 := of_decide_eq_true hc7
      refine WP_cond_t rfl ?_
      refine WP_seq ?_
      refine WP_region0 (by kernel_rfl) (fun _ => ?_)
      refine st (fa36_7 rfl ?_)
      refine st (ov_load1 (v := .int .i64 (e.arg)) Try.isAgg3 rfl (blk_cellL hb3 rfl) ?_)
      refine st (ov_assign (v := .int .i64 (e.arg)) rfl ?_)
      refine st (ov_assign (v := .bool true) rfl ?_)
      refine st_nil ?_
      refine WP_ret ?_
      refine fin2 Try.results27 (show _ = (.int .i64 (e.arg) : Value) from rfl) (show _ = (.bool true : Value) from rfl) ?_
      refine ⟨?_, hn1.ext⟩
      unfold grpI
      (repeat (first | rw [if_pos (by omega)] | rw [if_neg (by omega)]))
      rfl
  · skip
    have hc6 := of_decide_eq_true hc6
    refine WP_cond_t rfl ?_
    refine WP_seq ?_
    refine WP_region0 (by kernel_rfl) (fun _ => ?_)
    refine st (fa36_4 rfl ?_)
    refine st (ov_load1 (v := .int .i64 (e.agg)) Try.isAgg3 rfl (blk_cellL hb3 rfl) ?_)
    refine st (ov_assign (v := .int .i64 (e.agg)) rfl ?_)
    refine st (ov_assign (v := .bool true) rfl ?_)
    refine st_nil ?_
    refine WP_ret ?_
    refine fin2 Try.results27 (show _ = (.int .i64 (e.agg) : Value) from rfl) (show _ = (.bool true : Value) from rfl) ?_
    refine ⟨?_, hn1.ext⟩
    unfold grpI
    (repeat (first | rw [if_pos (by omega)] | rw [if_neg (by omega)]))
    rfl

theorem fa31_2 {d : Option Tmp} {ty : TypeId} {pos : String} {af : Array Edge} {g : Option (Nat × Bool)} {σ : Env} {w : World} {K : Value → World → Prop} {x : Operand} {b o : Nat} (hx : ev σ x = .pointer (some ⟨b, o, none⟩)) (h : K (.pointer (some ⟨b, o + 2, none⟩)) w) : opV Try.prog ⟨d, .fieldAddr 31 x 2, ty, pos, af, g⟩ σ w K := ov_fieldAddr Try.underlying31 rfl rfl (fun w => ⟨0, Try.sizeOf3 w⟩) hx h
theorem fa23_4 {d : Option Tmp} {ty : TypeId} {pos : String} {af : Array Edge} {g : Option (Nat × Bool)} {σ : Env} {w : World} {K : Value → World → Prop} {x : Operand} {b o : Nat} (hx : ev σ x = .pointer (some ⟨b, o, none⟩)) (h : K (.pointer (some ⟨b, o + 4, none⟩)) w) : opV Try.prog ⟨d, .fieldAddr 23 x 4, ty, pos, af, g⟩ σ w K := ov_fieldAddr Try.underlying23 rfl rfl (fun w => ⟨0, Try.sizeOf3 w⟩) hx h
theorem fa31_1 {d : Option Tmp} {ty : TypeId} {pos : String} {af : Array Edge} {g : Option (Nat × Bool)} {σ : Env} {w : World} {K : Value → World → Prop} {x : Operand} {b o : Nat} (hx : ev σ x = .pointer (some ⟨b, o, none⟩)) (h : K (.pointer (some ⟨b, o + 1, none⟩)) w) : opV Try.prog ⟨d, .fieldAddr 31 x 1, ty, pos, af, g⟩ σ w K := ov_fieldAddr Try.underlying31 rfl rfl (fun w => ⟨0, Try.sizeOf3 w⟩) hx h
theorem C_made {w : World} {a m : Nat} {p : Prj} (ha : w.heap[a]? = some (.cells #[.int .i64 (p.ptyp), .int .i64 (p.pfield), .int .i64 (p.pgroup), .int .i64 (p.pby), .int .i64 (p.pmake), .map (some m)] 58)) (op : p.Ok) {q : Row} (oq : q.Ok) {arg : Int} (harg : InR arg) : Ret Try.prog 28 [.pointer (some ⟨a, 0, none⟩), .agg (q.cells).toArray, .int .i64 (arg)] w (fun r w' => r = .int .i64 (madeI p q arg) ∧ Ext w w') := by
  refine Calls_of_WP (args := [.pointer (some ⟨a, 0, none⟩), .agg (q.cells).toArray, .int .i64 (arg)]) Try.func28 rfl rfl ?_
  refine WP_seq ?_
  refine WP_region0 (by kernel_rfl) (fun _ => ?_)
  refine st (ov_box (v := .agg (q.cells).toArray) rfl (fun w1 b2 hn1 => ?_))
  have hb3 : w1.heap[b2]? = some (.cells (q.cells).toArray 31) := hn1.at_
  have hs4 := hn1.size; have hs4e := hn1.eq
  refine st (ov_assign (v := .int .i64 (0)) rfl ?_)
  refine st_nil ?_
  refine WP_seq ?_
  refine WP_region0 (by kernel_rfl) (fun _ => ?_)
  refine st (fa31_2 rfl ?_)
  refine st (ov_load1 (v := .int .i64 (q.count)) Try.isAgg3 rfl (blk_cellL hb3 rfl) ?_)
  refine st (ov_eql (k := .i64) (a := q.count) (b := 1) rfl rfl ?_)
  refine st (ov_assign (v := .bool (decide (q.count = 1))) rfl ?_)
  refine st_nil ?_
  refine WP_seq ?_
  refine WP_block ?_
  refine WP_seq ?_
  refine WP_region0 (by kernel_rfl) (fun _ => ?_)
  refine st (ov_move (v := .pointer (some ⟨a, 0, none⟩)) rfl ?_)
  refine st (ov_nilCheck (b := a) (o := 0) rfl ?_)
  refine st (fa58_0 rfl ?_)
  refine st (fa23_4 rfl ?_)
  have h5 := hn1.ext.keep ha (fun h => h)
  refine st (ov_load1 (v := .int .i64 (p.pmake)) Try.isAgg3 rfl (blk_cellL h5 rfl) ?_)
  refine st (ov_eql (k := .i64) (a := p.pmake) (b := 1) rfl rfl ?_)
  refine st (ov_assign (v := .bool (decide (p.pmake = 1))) rfl ?_)
  refine st_nil ?_
  cases hc6 : decide (p.pmake = 1)
  · skip
    have hc6 := of_decide_eq_false hc6
    refine WP_cond_f rfl ?_
    refine WP_seq ?_
    refine WP_region0 (by kernel_rfl) (fun _ => ?_)
    refine st (ov_move (v := .pointer (some ⟨a, 0, none⟩)) rfl ?_)
    refine st (ov_nilCheck (b := a) (o := 0) rfl ?_)
    refine st (fa58_0 rfl ?_)
    refine st (fa23_4 rfl ?_)
    refine st (ov_load1 (v := .int .i64 (p.pmake)) Try.isAgg3 rfl (blk_cellL h5 rfl) ?_)
    refine st (ov_eql (k := .i64) (a := p.pmake) (b := 2) rfl rfl ?_)
    refine st (ov_assign (v := .bool (decide (p.pmake = 2))) rfl ?_)
    refine st_nil ?_
    cases hc7 : decide (p.pmake = 2)
    · skip
      have hc7 := of_decide_eq_false hc7
      refine WP_cond_f rfl ?_
      refine WP_seq ?_
      refine WP_seq ?_
      refine WP_region0 (by kernel_rfl) (fun _ => ?_)
      refine st (ov_move (v := .pointer (some ⟨a, 0, none⟩)) rfl ?_)
      refine st (ov_nilCheck (b := a) (o := 0) rfl ?_)
      refine st (fa58_0 rfl ?_)
      refine st (fa23_4 rfl ?_)
      refine st (ov_load1 (v := .int .i64 (p.pmake)) Try.isAgg3 rfl (blk_cellL h5 rfl) ?_)
      refine st (ov_eql (k := .i64) (a := p.pmake) (b := 5) rfl rfl ?_)
      refine st (ov_assign (v := .bool (decide (p.pmake = 5))) rfl ?_)
      refine st_nil ?_
      cases hc8 : decide (p.pmake = 5)
      · skip
        have hc8 := of_decide_eq_false hc8
        refine WP_cond_f rfl ?_
        refine WP_region (by kernel_rfl) ?_
        refine st (ov_move (v := .bool (decide (q.count = 1))) rfl ?_)
        refine st (ov_move (v := .bool (decide (q.count = 1))) rfl ?_)
        refine stc (V := .pointer (some ⟨a, 0, none⟩)) rfl rfl (fun hb9 => ?_) ?_
        · have hl10 : (decide (q.count = 1)) = true := hb9
          have hl10 := of_decide_eq_true hl10
          exact ov_move (v := .pointer (some ⟨a, 0, none⟩)) rfl ⟨rfl, rfl⟩
        refine stc (V := .pointer (some ⟨a, 0, none⟩)) rfl rfl (fun hb11 => ?_) ?_
        · have hl12 : (decide (q.count = 1)) = true := hb11
          have hl12 := of_decide_eq_true hl12
          exact ov_nilCheck (b := a) (o := 0) (show _ = (.pointer (some ⟨a, 0, none⟩) : Value) from (if_pos hb11)) ⟨rfl, rfl⟩
        refine stc (V := .pointer (some ⟨a, 0, none⟩)) rfl rfl (fun hb13 => ?_) ?_
        · have hl14 : (decide (q.count = 1)) = true := hb13
          have hl14 := of_decide_eq_true hl14
          exact fa58_0 (show _ = (.pointer (some ⟨a, 0, none⟩) : Value) from (if_pos hb13)) ⟨rfl, rfl⟩
        refine stc (V := .pointer (some ⟨a, 4, none⟩)) rfl rfl (fun hb15 => ?_) ?_
        · have hl16 : (decide (q.count = 1)) = true := hb15
          have hl16 := of_decide_eq_true hl16
          exact fa23_4 (show _ = (.pointer (some ⟨a, 0, none⟩) : Value) from (if_pos hb15)) ⟨rfl, rfl⟩
        refine stc (V := .int .i64 (p.pmake)) rfl rfl (fun hb17 => ?_) ?_
        · have hl18 : (decide (q.count = 1)) = true := hb17
          have hl18 := of_decide_eq_true hl18
          exact ov_load1 (v := .int .i64 (p.pmake)) Try.isAgg3 (show _ = (.pointer (some ⟨a, 4, none⟩) : Value) from (if_pos hb17)) (blk_cellL h5 rfl) ⟨rfl, rfl⟩
        refine stc (V := .bool (decide (p.pmake = 3))) rfl rfl (fun hb19 => ?_) ?_
        · have hl20 : (decide (q.count = 1)) = true := hb19
          have hl20 := of_decide_eq_true hl20
          exact ov_eql (k := .i64) (a := p.pmake) (b := 3) (show _ = (.int .i64 (p.pmake) : Value) from (if_pos hb19)) rfl ⟨rfl, rfl⟩
        refine stc (V := .bool (decide (p.pmake = 3))) rfl rfl (fun hb21 => ?_) ?_
        · have hl22 : (decide (q.count = 1)) = true := hb21
          have hl22 := of_decide_eq_true hl22
          exact ov_move (v := .bool (decide (p.pmake = 3))) (show _ = (.bool (decide (p.pmake = 3)) : Value) from (if_pos hb21)) ⟨rfl, rfl⟩
        refine stcP (V := .pointer (some ⟨a, 0, none⟩)) rfl rfl (fun hb23 => ?_) ?_
        · have hl24 : (decide (q.count = 1)) = true := hb23.1
          have hl24 := of_decide_eq_true hl24
          have hl25 : (decide (p.pmake = 3)) = false := hb23.2
          have hl25 := of_decide_eq_false hl25
          exact ov_move (v := .pointer (some ⟨a, 0, none⟩)) rfl ⟨rfl, rfl⟩
        refine stcP (V := .pointer (some ⟨a, 0, none⟩)) rfl rfl (fun hb26 => ?_) ?_
        · have hl27 : (decide (q.count = 1)) = true := hb26.1
          have hl27 := of_decide_eq_true hl27
          have hl28 : (decide (p.pmake = 3)) = false := hb26.2
          have hl28 := of_decide_eq_false hl28
          exact ov_nilCheck (b := a) (o := 0) (show _ = (.pointer (some ⟨a, 0, none⟩) : Value) from (if_pos ⟨hb26.1, hb26.2⟩)) ⟨rfl, rfl⟩
        refine stcP (V := .pointer (some ⟨a, 0, none⟩)) rfl rfl (fun hb29 => ?_) ?_
        · have hl30 : (decide (q.count = 1)) = true := hb29.1
          have hl30 := of_decide_eq_true hl30
          have hl31 : (decide (p.pmake = 3)) = false := hb29.2
          have hl31 := of_decide_eq_false hl31
          exact fa58_0 (show _ = (.pointer (some ⟨a, 0, none⟩) : Value) from (if_pos ⟨hb29.1, hb29.2⟩)) ⟨rfl, rfl⟩
        refine stcP (V := .pointer (some ⟨a, 4, none⟩)) rfl rfl (fun hb32 => ?_) ?_
        · have hl33 : (decide (q.count = 1)) = true := hb32.1
          have hl33 := of_decide_eq_true hl33
          have hl34 : (decide (p.pmake = 3)) = false := hb32.2
          have hl34 := of_decide_eq_false hl34
          exact fa23_4 (show _ = (.pointer (some ⟨a, 0, none⟩) : Value) from (if_pos ⟨hb32.1, hb32.2⟩)) ⟨rfl, rfl⟩
        refine stcP (V := .int .i64 (p.pmake)) rfl rfl (fun hb35 => ?_) ?_
        · have hl36 : (decide (q.count = 1)) = true := hb35.1
          have hl36 := of_decide_eq_true hl36
          have hl37 : (decide (p.pmake = 3)) = false := hb35.2
          have hl37 := of_decide_eq_false hl37
          exact ov_load1 (v := .int .i64 (p.pmake)) Try.isAgg3 (show _ = (.pointer (some ⟨a, 4, none⟩) : Value) from (if_pos ⟨hb35.1, hb35.2⟩)) (blk_cellL h5 rfl) ⟨rfl, rfl⟩
        refine stcP (V := .bool (decide (p.pmake = 4))) rfl rfl (fun hb38 => ?_) ?_
        · have hl39 : (decide (q.count = 1)) = true := hb38.1
          have hl39 := of_decide_eq_true hl39
          have hl40 : (decide (p.pmake = 3)) = false := hb38.2
          have hl40 := of_decide_eq_false hl40
          exact ov_eql (k := .i64) (a := p.pmake) (b := 4) (show _ = (.int .i64 (p.pmake) : Value) from (if_pos ⟨hb38.1, hb38.2⟩)) rfl ⟨rfl, rfl⟩
        refine stc (V := .bool ((decide (p.pmake = 3)) || (decide (p.pmake = 4)))) rfl rfl (fun hb41 => ?_) ?_
        · have hl42 : (decide (q.count = 1)) = true := hb41
          have hl42 := of_decide_eq_true hl42
          exact ov_pick_or (b := decide (p.pmake = 3)) (b' := decide (p.pmake = 4)) (show _ = (.bool (decide (p.pmake = 3)) : Value) from (if_pos hb41)) (fun hbp => (show _ = (.bool (decide (p.pmake = 4)) : Value) from (if_pos ⟨hb41, hbp⟩))) ⟨rfl, rfl⟩
        refine st (ov_pick_and (b := decide (q.count = 1)) (b' := (decide (p.pmake = 3)) || (decide (p.pmake = 4))) rfl (fun hbp => (show _ = (.bool ((decide (p.pmake = 3)) || (decide (p.pmake = 4))) : Value) from (if_pos hbp))) ?_)
        refine st (ov_assign (v := .bool ((decide (q.count = 1)) && ((decide (p.pmake = 3)) || (decide (p.pmake = 4))))) rfl ?_)
        refine st_nil ?_
        cases hc43 : (decide (q.count = 1)) && ((decide (p.pmake = 3)) || (decide (p.pmake = 4)))
        · skip
          simp only [Bool.and_eq_true, Bool.or_eq_true, Bool.and_eq_false_iff, Bool.or_eq_false_iff, decide_eq_true_eq, decide_eq_false_iff_not, Bool.not_eq_true', Bool.not_eq_false', Int.not_lt, Int.not_le] at hc43
          refine WP_cond_f rfl ?_
          refine WP_seq ?_
          refine WP_region0 (by kernel_rfl) (fun _ => ?_)
          refine st (ov_move (v := .pointer (some ⟨a, 0, none⟩)) rfl ?_)
          refine st (ov_nilCheck (b := a) (o := 0) rfl ?_)
          refine st (fa58_0 rfl ?_)
          refine st (fa23_4 rfl ?_)
          refine st (ov_load1 (v := .int .i64 (p.pmake)) Try.isAgg3 rfl (blk_cellL h5 rfl) ?_)
          refine st (ov_eql (k := .i64) (a := p.pmake) (b := 3) rfl rfl ?_)
          refine st (ov_assign (v := .bool (decide (p.pmake = 3))) rfl ?_)
          refine st_nil ?_
          cases hc44 : decide (p.pmake = 3)
          · skip
            have hc44 := of_decide_eq_false hc44
            refine WP_cond_f rfl ?_
            refine WP_seq ?_
            refine WP_region0 (by kernel_rfl) (fun _ => ?_)
            refine st (ov_move (v := .pointer (some ⟨a, 0, none⟩)) rfl ?_)
            refine st (ov_nilCheck (b := a) (o := 0) rfl ?_)
            refine st (fa58_0 rfl ?_)
            refine st (fa23_4 rfl ?_)
            refine st (ov_load1 (v := .int .i64 (p.pmake)) Try.isAgg3 rfl (blk_cellL h5 rfl) ?_)
            refine st (ov_eql (k := .i64) (a := p.pmake) (b := 4) rfl rfl ?_)
            refine st (ov_assign (v := .bool (decide (p.pmake = 4))) rfl ?_)
            refine st_nil ?_
            cases hc45 : decide (p.pmake = 4)
            · skip
              have hc45 := of_decide_eq_false hc45
              refine WP_cond_f rfl ?_
              refine WP_skip ?_
              refine WP_seq ?_
              refine WP_region0 (by kernel_rfl) (fun _ => ?_)
              refine st (ov_assign (v := .int .i64 (0)) rfl ?_)
              refine st_nil ?_
              refine WP_ret ?_
              refine fin1 Try.results28 (show _ = (.int .i64 (0) : Value) from rfl) ?_
              refine ⟨?_, hn1.ext⟩
              unfold madeI
              (repeat (first | rw [if_pos (by omega)] | rw [if_neg (by omega)]))
            · skip
              have hc45 := of_decide_eq_true hc45
              refine WP_cond_t rfl ?_
              refine WP_seq ?_
              refine WP_region0 (by kernel_rfl) (fun _ => ?_)
              refine st (fa31_1 rfl ?_)
              refine st (ov_load1 (v := .int .i64 (q.value)) Try.isAgg3 rfl (blk_cellL hb3 rfl) ?_)
              refine st (ov_move (v := .int .i64 (arg)) rfl ?_)
              refine st (ov_max (k := .i64) (a := q.value) (b := arg) rfl rfl ?_)
              refine st (ov_assign (v := .int .i64 (max q.value arg)) rfl ?_)
              refine st_nil ?_
              refine WP_ret ?_
              refine fin1 Try.results28 (show _ = (.int .i64 (max q.value arg) : Value) from rfl) ?_
              refine ⟨?_, hn1.ext⟩
              unfold madeI
              (repeat (first | rw [if_pos (by omega)] | rw [if_neg (by omega)]))
          · skip
            have hc44 := of_decide_eq_true hc44
            refine WP_cond_t rfl ?_
            refine WP_seq ?_
            refine WP_region0 (by kernel_rfl) (fun _ => ?_)
            refine st (fa31_1 rfl ?_)
            refine st (ov_load1 (v := .int .i64 (q.value)) Try.isAgg3 rfl (blk_cellL hb3 rfl) ?_)
            refine st (ov_move (v := .int .i64 (arg)) rfl ?_)
            refine st (ov_min (k := .i64) (a := q.value) (b := arg) rfl rfl ?_)
            refine st (ov_assign (v := .int .i64 (min q.value arg)) rfl ?_)
            refine st_nil ?_
            refine WP_ret ?_
            refine fin1 Try.results28 (show _ = (.int .i64 (min q.value arg) : Value) from rfl) ?_
            refine ⟨?_, hn1.ext⟩
            unfold madeI
            (repeat (first | rw [if_pos (by omega)] | rw [if_neg (by omega)]))
        · skip
          simp only [Bool.and_eq_true, Bool.or_eq_true, Bool.and_eq_false_iff, Bool.or_eq_false_iff, decide_eq_true_eq, decide_eq_false_iff_not, Bool.not_eq_true', Bool.not_eq_false', Int.not_lt, Int.not_le] at hc43
          refine WP_cond_t rfl ?_
          refine WP_seq ?_
          refine WP_region0 (by kernel_rfl) (fun _ => ?_)
          refine st (ov_move (v := .int .i64 (arg)) rfl ?_)
          refine st (ov_assign (v := .int .i64 (arg)) rfl ?_)
          refine st_nil ?_
          refine WP_ret ?_
          refine fin1 Try.results28 (show _ = (.int .i64 (arg) : Value) from rfl) ?_
          refine ⟨?_, hn1.ext⟩
          unfold madeI
          (repeat (first | rw [if_pos (by omega)] | rw [if_neg (by omega)]))
      · skip
        have hc8 := of_decide_eq_true hc8
        refine WP_cond_t rfl ?_
        refine WP_skip ?_
        refine WP_cond_t rfl ?_
        refine WP_seq ?_
        refine WP_region0 (by kernel_rfl) (fun _ => ?_)
        refine st (ov_move (v := .int .i64 (arg)) rfl ?_)
        refine st (ov_assign (v := .int .i64 (arg)) rfl ?_)
        refine st_nil ?_
        refine WP_ret ?_
        refine fin1 Try.results28 (show _ = (.int .i64 (arg) : Value) from rfl) ?_
        refine ⟨?_, hn1.ext⟩
        unfold madeI
        (repeat (first | rw [if_pos (by omega)] | rw [if_neg (by omega)]))
    · skip
      have hc7 := of_decide_eq_true hc7
      refine WP_cond_t rfl ?_
      refine WP_seq ?_
      refine WP_region0 (by kernel_rfl) (fun _ => ?_)
      refine st (fa31_1 rfl ?_)
      refine st (ov_load1 (v := .int .i64 (q.value)) Try.isAgg3 rfl (blk_cellL hb3 rfl) ?_)
      refine st (ov_move (v := .int .i64 (arg)) rfl ?_)
      refine st (ov_add (r := IntKind.i64.wrap (q.value + arg)) (k := .i64) (a := q.value) (b := arg) rfl rfl rfl ?_)
      refine st (ov_assign (v := .int .i64 (IntKind.i64.wrap (q.value + arg))) rfl ?_)
      refine st_nil ?_
      refine WP_ret ?_
      refine fin1 Try.results28 (show _ = (.int .i64 (IntKind.i64.wrap (q.value + arg)) : Value) from rfl) ?_
      refine ⟨?_, hn1.ext⟩
      unfold madeI
      (repeat (first | rw [if_pos (by omega)] | rw [if_neg (by omega)]))
  · skip
    have hc6 := of_decide_eq_true hc6
    refine WP_cond_t rfl ?_
    refine WP_seq ?_
    refine WP_region0 (by kernel_rfl) (fun _ => ?_)
    refine st (fa31_2 rfl ?_)
    refine st (ov_load1 (v := .int .i64 (q.count)) Try.isAgg3 rfl (blk_cellL hb3 rfl) ?_)
    refine st (ov_assign (v := .int .i64 (q.count)) rfl ?_)
    refine st_nil ?_
    refine WP_ret ?_
    refine fin1 Try.results28 (show _ = (.int .i64 (q.count) : Value) from rfl) ?_
    refine ⟨?_, hn1.ext⟩
    unfold madeI
    (repeat (first | rw [if_pos (by omega)] | rw [if_neg (by omega)]))

end Go.Proofs.Ytbbpmhfcgoljdaa
