/- Steps of the proofs of this seat: part Fns5. -/
import Derived.Test.YtbbhpddgjiifmaaFns4
set_option linter.unusedSimpArgs false
set_option linter.unusedVariables false
namespace Go.Proofs.Ytbbhpddgjiifmaa
open Go.Proofs Go.RowKit

theorem C_refApart {w : World} {Fa : Nat → Prop} {a : Ev} {da : Value} (ha : RdS w Fa da a.deps) (oa : a.Ok) {Fb : Nat → Prop} {b : Ev} {db : Value} (hb : RdS w Fb db b.deps) (ob : b.Ok) : Ret Try.prog 14 [.agg (a.cells da).toArray, .agg (b.cells db).toArray] w (fun r w' => r = .bool (apart a b) ∧ Ext w w') := by
  have has : a.deps.length * 8 ≤ 140737488355328 := ha.small
  have hbs : b.deps.length * 8 ≤ 140737488355328 := hb.small
  refine Calls_of_WP (args := [.agg (a.cells da).toArray, .agg (b.cells db).toArray]) Try.func14 rfl rfl ?_
  refine WP_seq ?_
  refine WP_region0 (by kernel_rfl) (fun _ => ?_)
  refine st (ov_box (v := .agg (a.cells da).toArray) rfl (fun w1 b2 hn1 => ?_))
  have hb3 : w1.heap[b2]? = some (.cells (a.cells da).toArray 29) := hn1.at_
  have hs4 := hn1.size; have hs4e := hn1.eq
  refine st (ov_box (v := .agg (b.cells db).toArray) rfl (fun w2 b6 hn5 => ?_))
  have hb7 : w2.heap[b6]? = some (.cells (b.cells db).toArray 29) := hn5.at_
  have hs8 := hn5.size; have hs8e := hn5.eq
  refine st (ov_assign (v := .bool false) rfl ?_)
  refine st_nil ?_
  refine WP_seq ?_
  refine WP_seq ?_
  refine WP_region (by kernel_rfl) ?_
  refine st (fa29_0 rfl ?_)
  refine st (fa26_0 rfl ?_)
  have h9 := hn5.ext.keep hb3 (fun h => h)
  refine st (ov_load1 (v := .int .i64 (a.origin)) Try.isAgg3 rfl (blk_cellL h9 rfl) ?_)
  refine st (fa29_0 rfl ?_)
  refine st (fa26_0 rfl ?_)
  refine st (ov_load1 (v := .int .i64 (b.origin)) Try.isAgg3 rfl (blk_cellL hb7 rfl) ?_)
  refine st (ov_eql (k := .i64) (a := a.origin) (b := b.origin) rfl rfl ?_)
  refine st (ov_move (v := .bool (decide (a.origin = b.origin))) rfl ?_)
  refine stc (V := .pointer (some ⟨b2, 0, none⟩)) rfl rfl (fun hb10 => ?_) ?_
  · have hl11 : (decide (a.origin = b.origin)) = true := hb10
    have hl11 := of_decide_eq_true hl11
    exact fa29_0 rfl ⟨rfl, rfl⟩
  refine stc (V := .pointer (some ⟨b2, 1, none⟩)) rfl rfl (fun hb12 => ?_) ?_
  · have hl13 : (decide (a.origin = b.origin)) = true := hb12
    have hl13 := of_decide_eq_true hl13
    exact fa26_1 (show _ = (.pointer (some ⟨b2, 0, none⟩) : Value) from (if_pos hb12)) ⟨rfl, rfl⟩
  refine stc (V := .int .i64 (a.seq)) rfl rfl (fun hb14 => ?_) ?_
  · have hl15 : (decide (a.origin = b.origin)) = true := hb14
    have hl15 := of_decide_eq_true hl15
    exact ov_load1 (v := .int .i64 (a.seq)) Try.isAgg3 (show _ = (.pointer (some ⟨b2, 1, none⟩) : Value) from (if_pos hb14)) (blk_cellL h9 rfl) ⟨rfl, rfl⟩
  refine stc (V := .pointer (some ⟨b6, 0, none⟩)) rfl rfl (fun hb16 => ?_) ?_
  · have hl17 : (decide (a.origin = b.origin)) = true := hb16
    have hl17 := of_decide_eq_true hl17
    exact fa29_0 rfl ⟨rfl, rfl⟩
  refine stc (V := .pointer (some ⟨b6, 1, none⟩)) rfl rfl (fun hb18 => ?_) ?_
  · have hl19 : (decide (a.origin = b.origin)) = true := hb18
    have hl19 := of_decide_eq_true hl19
    exact fa26_1 (show _ = (.pointer (some ⟨b6, 0, none⟩) : Value) from (if_pos hb18)) ⟨rfl, rfl⟩
  refine stc (V := .int .i64 (b.seq)) rfl rfl (fun hb20 => ?_) ?_
  · have hl21 : (decide (a.origin = b.origin)) = true := hb20
    have hl21 := of_decide_eq_true hl21
    exact ov_load1 (v := .int .i64 (b.seq)) Try.isAgg3 (show _ = (.pointer (some ⟨b6, 1, none⟩) : Value) from (if_pos hb20)) (blk_cellL hb7 rfl) ⟨rfl, rfl⟩
  refine stc (V := .bool (decide (a.seq = b.seq))) rfl rfl (fun hb22 => ?_) ?_
  · have hl23 : (decide (a.origin = b.origin)) = true := hb22
    have hl23 := of_decide_eq_true hl23
    exact ov_eql (k := .i64) (a := a.seq) (b := b.seq) (show _ = (.int .i64 (a.seq) : Value) from (if_pos hb22)) (show _ = (.int .i64 (b.seq) : Value) from (if_pos hb22)) ⟨rfl, rfl⟩
  refine st (ov_pick_and (b := decide (a.origin = b.origin)) (b' := decide (a.seq = b.seq)) rfl (fun hbp => (show _ = (.bool (decide (a.seq = b.seq)) : Value) from (if_pos hbp))) ?_)
  refine st_nil ?_
  cases hc24 : (decide (a.origin = b.origin)) && (decide (a.seq = b.seq))
  · skip
    simp only [Bool.and_eq_true, Bool.or_eq_true, Bool.and_eq_false_iff, Bool.or_eq_false_iff, decide_eq_true_eq, decide_eq_false_iff_not, Bool.not_eq_true', Bool.not_eq_false', Int.not_lt, Int.not_le] at hc24
    refine WP_cond_f rfl ?_
    refine WP_skip ?_
    refine WP_seq ?_
    refine WP_region (by kernel_rfl) ?_
    refine st (ov_loadk (k := 10) Try.isAgg29 Try.sizeOf29 rfl rfl (CellsAt.all h9) ?_)
    refine st (ov_loadk (k := 10) Try.isAgg29 Try.sizeOf29 rfl rfl (CellsAt.all hb7) ?_)
    have h25 := ha.ext (Chg.trans hn1.ext hn5.ext)
    have h26 := hb.ext (Chg.trans hn1.ext hn5.ext)
    refine st (ov_call (f := 12) (vals := [.agg (a.cells da).toArray, .agg (b.cells db).toArray]) (cap := []) (show _ = (.func (.func 12) #[] #[] : Value) from rfl) rfl Try.call12 (C_refBefore h25 oa h26 ob) ?_)
    rintro _ w3 ⟨rfl, hx27⟩
    have hx27s := hx27.size
    refine st (ov_not (a := before a b) rfl ?_)
    refine st (ov_move (v := .bool (!(before a b))) rfl ?_)
    refine stc (V := .agg (b.cells db).toArray) rfl rfl (fun hb28 => ?_) ?_
    · have hl29 : (!(before a b)) = true := hb28
      simp only [Bool.and_eq_true, Bool.or_eq_true, Bool.and_eq_false_iff, Bool.or_eq_false_iff, decide_eq_true_eq, decide_eq_false_iff_not, Bool.not_eq_true', Bool.not_eq_false', Int.not_lt, Int.not_le] at hl29
      have h30 := hx27.keep hb7 (fun h => h)
      exact ov_loadk (k := 10) Try.isAgg29 Try.sizeOf29 rfl rfl (CellsAt.all h30) ⟨rfl, rfl⟩
    refine stc (V := .agg (a.cells da).toArray) rfl rfl (fun hb31 => ?_) ?_
    · have hl32 : (!(before a b)) = true := hb31
      simp only [Bool.and_eq_true, Bool.or_eq_true, Bool.and_eq_false_iff, Bool.or_eq_false_iff, decide_eq_true_eq, decide_eq_false_iff_not, Bool.not_eq_true', Bool.not_eq_false', Int.not_lt, Int.not_le] at hl32
      have h33 := hx27.keep h9 (fun h => h)
      exact ov_loadk (k := 10) Try.isAgg29 Try.sizeOf29 rfl rfl (CellsAt.all h33) ⟨rfl, rfl⟩
    refine stcw (V := .bool (before b a)) Ext (Chg.refl _ _) rfl rfl (fun hb34 => ?_) (fun w4 hx38 => ?_)
    · have hl35 : (!(before a b)) = true := hb34
      simp only [Bool.and_eq_true, Bool.or_eq_true, Bool.and_eq_false_iff, Bool.or_eq_false_iff, decide_eq_true_eq, decide_eq_false_iff_not, Bool.not_eq_true', Bool.not_eq_false', Int.not_lt, Int.not_le] at hl35
      have h36 := h26.ext hx27
      have h37 := h25.ext hx27
      exact ov_call (f := 12) (vals := [.agg (b.cells db).toArray, .agg (a.cells da).toArray]) (cap := []) (show _ = (.func (.func 12) #[] #[] : Value) from rfl) (mapL ⟨(show _ = (.agg (b.cells db).toArray : Value) from (if_pos hb34)), (show _ = (.agg (a.cells da).toArray : Value) from (if_pos hb34)), trivial⟩) Try.call12 (C_refBefore h36 ob h37 oa) (fun _ _ h => h)
    have hs39 := hx38.size
    refine stc (V := .bool (!(before b a))) rfl rfl (fun hb40 => ?_) ?_
    · have hl41 : (!(before a b)) = true := hb40
      simp only [Bool.and_eq_true, Bool.or_eq_true, Bool.and_eq_false_iff, Bool.or_eq_false_iff, decide_eq_true_eq, decide_eq_false_iff_not, Bool.not_eq_true', Bool.not_eq_false', Int.not_lt, Int.not_le] at hl41
      exact ov_not (a := before b a) (show _ = (.bool (before b a) : Value) from (if_pos hb40)) ⟨rfl, rfl⟩
    refine st (ov_pick_and (b := !(before a b)) (b' := !(before b a)) rfl (fun hbp => (show _ = (.bool (!(before b a)) : Value) from (if_pos hbp))) ?_)
    refine st (ov_assign (v := .bool ((!(before a b)) && (!(before b a)))) rfl ?_)
    refine st_nil ?_
    refine WP_ret ?_
    refine fin1 Try.results14 (show _ = (.bool ((!(before a b)) && (!(before b a))) : Value) from rfl) ?_
    refine ⟨?_, (Chg.trans (Chg.trans (Chg.trans hn1.ext hn5.ext) hx27) hx38)⟩
    simp only [apart]
    rw [decide_eq_false (by rintro ⟨h1, h2⟩; omega)]; rfl
  · skip
    simp only [Bool.and_eq_true, Bool.or_eq_true, Bool.and_eq_false_iff, Bool.or_eq_false_iff, decide_eq_true_eq, decide_eq_false_iff_not, Bool.not_eq_true', Bool.not_eq_false', Int.not_lt, Int.not_le] at hc24
    refine WP_cond_t rfl ?_
    refine WP_seq ?_
    refine WP_region0 (by kernel_rfl) (fun _ => ?_)
    refine st (ov_assign (v := .bool false) rfl ?_)
    refine st_nil ?_
    refine WP_ret ?_
    refine fin1 Try.results14 (show _ = (.bool false : Value) from rfl) ?_
    refine ⟨?_, (Chg.trans hn1.ext hn5.ext)⟩
    simp only [apart]
    rw [decide_eq_true (by assumption)]; rfl

theorem C_refLess {w : World} {Fa : Nat → Prop} {a : Ev} {da : Value} (ha : RdS w Fa da a.deps) (oa : a.Ok) {Fb : Nat → Prop} {b : Ev} {db : Value} (hb : RdS w Fb db b.deps) (ob : b.Ok) : Ret Try.prog 16 [.agg (a.cells da).toArray, .agg (b.cells db).toArray] w (fun r w' => r = .bool (lessR a b) ∧ Ext w w') := by
  have has : a.deps.length * 8 ≤ 140737488355328 := ha.small
  have hbs : b.deps.length * 8 ≤ 140737488355328 := hb.small
  refine Calls_of_WP (args := [.agg (a.cells da).toArray, .agg (b.cells db).toArray]) Try.func16 rfl rfl ?_
  refine WP_seq ?_
  refine WP_region0 (by kernel_rfl) (fun _ => ?_)
  refine st (ov_box (v := .agg (a.cells da).toArray) rfl (fun w1 b2 hn1 => ?_))
  have hb3 : w1.heap[b2]? = some (.cells (a.cells da).toArray 29) := hn1.at_
  have hs4 := hn1.size; have hs4e := hn1.eq
  refine st (ov_box (v := .agg (b.cells db).toArray) rfl (fun w2 b6 hn5 => ?_))
  have hb7 : w2.heap[b6]? = some (.cells (b.cells db).toArray 29) := hn5.at_
  have hs8 := hn5.size; have hs8e := hn5.eq
  refine st (ov_assign (v := .bool false) rfl ?_)
  refine st_nil ?_
  refine WP_seq ?_
  refine WP_seq ?_
  refine WP_region0 (by kernel_rfl) (fun _ => ?_)
  refine st (fa29_1 rfl ?_)
  have h9 := hn5.ext.keep hb3 (fun h => h)
  refine st (ov_load1 (v := .int .i64 (a.lam)) Try.isAgg3 rfl (blk_cellL h9 rfl) ?_)
  refine st (fa29_1 rfl ?_)
  refine st (ov_load1 (v := .int .i64 (b.lam)) Try.isAgg3 rfl (blk_cellL hb7 rfl) ?_)
  refine st (ov_neq (k := .i64) (a := a.lam) (b := b.lam) rfl rfl ?_)
  refine st_nil ?_
  cases hc10 : !decide (a.lam = b.lam)
  · skip
    have hc10 := ndec_false hc10
    refine WP_cond_f rfl ?_
    refine WP_skip ?_
    refine WP_seq ?_
    refine WP_seq ?_
    refine WP_region0 (by kernel_rfl) (fun _ => ?_)
    refine st (fa29_0 rfl ?_)
    refine st (fa26_0 rfl ?_)
    refine st (ov_load1 (v := .int .i64 (a.origin)) Try.isAgg3 rfl (blk_cellL h9 rfl) ?_)
    refine st (fa29_0 rfl ?_)
    refine st (fa26_0 rfl ?_)
    refine st (ov_load1 (v := .int .i64 (b.origin)) Try.isAgg3 rfl (blk_cellL hb7 rfl) ?_)
    refine st (ov_neq (k := .i64) (a := a.origin) (b := b.origin) rfl rfl ?_)
    refine st_nil ?_
    cases hc11 : !decide (a.origin = b.origin)
    · skip
      have hc11 := ndec_false hc11
      refine WP_cond_f rfl ?_
      refine WP_skip ?_
      refine WP_seq ?_
      refine WP_region0 (by kernel_rfl) (fun _ => ?_)
      refine st (fa29_0 rfl ?_)
      refine st (fa26_1 rfl ?_)
      refine st (ov_load1 (v := .int .i64 (a.seq)) Try.isAgg3 rfl (blk_cellL h9 rfl) ?_)
      refine st (fa29_0 rfl ?_)
      refine st (fa26_1 rfl ?_)
      refine st (ov_load1 (v := .int .i64 (b.seq)) Try.isAgg3 rfl (blk_cellL hb7 rfl) ?_)
      refine st (ov_lss (k := .i64) (a := a.seq) (b := b.seq) rfl rfl ?_)
      refine st (ov_assign (v := .bool (decide (a.seq < b.seq))) rfl ?_)
      refine st_nil ?_
      refine WP_ret ?_
      refine fin1 Try.results16 (show _ = (.bool (decide (a.seq < b.seq)) : Value) from rfl) ?_
      refine ⟨?_, (Chg.trans hn1.ext hn5.ext)⟩
      unfold lessR
      (repeat (first | rw [if_pos (by omega)] | rw [if_neg (by omega)]))
    · skip
      have hc11 := ndec_true hc11
      refine WP_cond_t rfl ?_
      refine WP_seq ?_
      refine WP_region0 (by kernel_rfl) (fun _ => ?_)
      refine st (fa29_0 rfl ?_)
      refine st (fa26_0 rfl ?_)
      refine st (ov_load1 (v := .int .i64 (a.origin)) Try.isAgg3 rfl (blk_cellL h9 rfl) ?_)
      refine st (fa29_0 rfl ?_)
      refine st (fa26_0 rfl ?_)
      refine st (ov_load1 (v := .int .i64 (b.origin)) Try.isAgg3 rfl (blk_cellL hb7 rfl) ?_)
      refine st (ov_lss (k := .i64) (a := a.origin) (b := b.origin) rfl rfl ?_)
      refine st (ov_assign (v := .bool (decide (a.origin < b.origin))) rfl ?_)
      refine st_nil ?_
      refine WP_ret ?_
      refine fin1 Try.results16 (show _ = (.bool (decide (a.origin < b.origin)) : Value) from rfl) ?_
      refine ⟨?_, (Chg.trans hn1.ext hn5.ext)⟩
      unfold lessR
      (repeat (first | rw [if_pos (by omega)] | rw [if_neg (by omega)]))
  · skip
    have hc10 := ndec_true hc10
    refine WP_cond_t rfl ?_
    refine WP_seq ?_
    refine WP_region0 (by kernel_rfl) (fun _ => ?_)
    refine st (fa29_1 rfl ?_)
    refine st (ov_load1 (v := .int .i64 (a.lam)) Try.isAgg3 rfl (blk_cellL h9 rfl) ?_)
    refine st (fa29_1 rfl ?_)
    refine st (ov_load1 (v := .int .i64 (b.lam)) Try.isAgg3 rfl (blk_cellL hb7 rfl) ?_)
    refine st (ov_lss (k := .i64) (a := a.lam) (b := b.lam) rfl rfl ?_)
    refine st (ov_assign (v := .bool (decide (a.lam < b.lam))) rfl ?_)
    refine st_nil ?_
    refine WP_ret ?_
    refine fin1 Try.results16 (show _ = (.bool (decide (a.lam < b.lam)) : Value) from rfl) ?_
    refine ⟨?_, (Chg.trans hn1.ext hn5.ext)⟩
    unfold lessR
    (repeat (first | rw [if_pos (by omega)] | rw [if_neg (by omega)]))

theorem fa29_3 {d : Option Tmp} {ty : TypeId} {pos : String} {af : Array Edge} {g : Option (Nat × Bool)} {σ : Env} {w : World} {K : Value → World → Prop} {x : Operand} {b o : Nat} (hx : ev σ x = .pointer (some ⟨b, o, none⟩)) (h : K (.pointer (some ⟨b, o + 4, none⟩)) w) : opV Try.prog ⟨d, .fieldAddr 29 x 3, ty, pos, af, g⟩ σ w K := ov_fieldAddr Try.underlying29 rfl rfl (fun w => ⟨0, Try.sizeOf3 w⟩) hx h
theorem fa29_4 {d : Option Tmp} {ty : TypeId} {pos : String} {af : Array Edge} {g : Option (Nat × Bool)} {σ : Env} {w : World} {K : Value → World → Prop} {x : Operand} {b o : Nat} (hx : ev σ x = .pointer (some ⟨b, o, none⟩)) (h : K (.pointer (some ⟨b, o + 5, none⟩)) w) : opV Try.prog ⟨d, .fieldAddr 29 x 4, ty, pos, af, g⟩ σ w K := ov_fieldAddr Try.underlying29 rfl rfl (fun w => ⟨0, Try.sizeOf3 w⟩) hx h
theorem fa29_5 {d : Option Tmp} {ty : TypeId} {pos : String} {af : Array Edge} {g : Option (Nat × Bool)} {σ : Env} {w : World} {K : Value → World → Prop} {x : Operand} {b o : Nat} (hx : ev σ x = .pointer (some ⟨b, o, none⟩)) (h : K (.pointer (some ⟨b, o + 6, none⟩)) w) : opV Try.prog ⟨d, .fieldAddr 29 x 5, ty, pos, af, g⟩ σ w K := ov_fieldAddr Try.underlying29 rfl rfl (fun w => ⟨0, Try.sizeOf3 w⟩) hx h
theorem fa29_6 {d : Option Tmp} {ty : TypeId} {pos : String} {af : Array Edge} {g : Option (Nat × Bool)} {σ : Env} {w : World} {K : Value → World → Prop} {x : Operand} {b o : Nat} (hx : ev σ x = .pointer (some ⟨b, o, none⟩)) (h : K (.pointer (some ⟨b, o + 7, none⟩)) w) : opV Try.prog ⟨d, .fieldAddr 29 x 6, ty, pos, af, g⟩ σ w K := ov_fieldAddr Try.underlying29 rfl rfl (fun w => ⟨0, Try.sizeOf3 w⟩) hx h
theorem fa29_7 {d : Option Tmp} {ty : TypeId} {pos : String} {af : Array Edge} {g : Option (Nat × Bool)} {σ : Env} {w : World} {K : Value → World → Prop} {x : Operand} {b o : Nat} (hx : ev σ x = .pointer (some ⟨b, o, none⟩)) (h : K (.pointer (some ⟨b, o + 8, none⟩)) w) : opV Try.prog ⟨d, .fieldAddr 29 x 7, ty, pos, af, g⟩ σ w K := ov_fieldAddr Try.underlying29 rfl rfl (fun w => ⟨0, Try.sizeOf3 w⟩) hx h
theorem fa29_8 {d : Option Tmp} {ty : TypeId} {pos : String} {af : Array Edge} {g : Option (Nat × Bool)} {σ : Env} {w : World} {K : Value → World → Prop} {x : Operand} {b o : Nat} (hx : ev σ x = .pointer (some ⟨b, o, none⟩)) (h : K (.pointer (some ⟨b, o + 9, none⟩)) w) : opV Try.prog ⟨d, .fieldAddr 29 x 8, ty, pos, af, g⟩ σ w K := ov_fieldAddr Try.underlying29 rfl rfl (fun w => ⟨0, Try.sizeOf3 w⟩) hx h
theorem C_SameEvent {w : World} {Fa : Nat → Prop} {a : Ev} {da : Value} (ha : RdS w Fa da a.deps) (oa : a.Ok) {Fb : Nat → Prop} {b : Ev} {db : Value} (hb : RdS w Fb db b.deps) (ob : b.Ok) : Ret Try.prog 22 [.agg (a.cells da).toArray, .agg (b.cells db).toArray] w (fun r w' => r = .bool (decide (a = b)) ∧ Ext w w') := by
  have has : a.deps.length * 8 ≤ 140737488355328 := ha.small
  have hbs : b.deps.length * 8 ≤ 140737488355328 := hb.small
  refine Calls_of_WP (args := [.agg (a.cells da).toArray, .agg (b.cells db).toArray]) Try.func22 rfl rfl ?_
  refine WP_seq ?_
  refine WP_region0 (by kernel_rfl) (fun _ => ?_)
  refine st (ov_box (v := .agg (a.cells da).toArray) rfl (fun w1 b2 hn1 => ?_))
  have hb3 : w1.heap[b2]? = some (.cells (a.cells da).toArray 29) := hn1.at_
  have hs4 := hn1.size; have hs4e := hn1.eq
  refine st (ov_box (v := .agg (b.cells db).toArray) rfl (fun w2 b6 hn5 => ?_))
  have hb7 : w2.heap[b6]? = some (.cells (b.cells db).toArray 29) := hn5.at_
  have hs8 := hn5.size; have hs8e := hn5.eq
  refine st (ov_assign (v := .bool false) rfl ?_)
  refine st_nil ?_
  refine WP_seq ?_
  refine WP_region (by kernel_rfl) ?_
  refine st (fa29_0 rfl ?_)
  have h9 := hn5.ext.keep hb3 (fun h => h)
  refine st (ov_loadk (k := 2) (cs := [.int .i64 (a.origin), .int .i64 (a.seq)]) Try.isAgg26 Try.sizeOf26 rfl rfl (CellsAt.sub (CellsAt.all h9) 0 (cs2 := [.int .i64 (a.origin), .int .i64 (a.seq)]) rfl) ?_)
  refine st (fa29_0 rfl ?_)
  refine st (ov_loadk (k := 2) (cs := [.int .i64 (b.origin), .int .i64 (b.seq)]) Try.isAgg26 Try.sizeOf26 rfl rfl (CellsAt.sub (CellsAt.all hb7) 0 (cs2 := [.int .i64 (b.origin), .int .i64 (b.seq)]) rfl) ?_)
  refine st (ov_eqlS (e := decide (a.origin = b.origin ∧ a.seq = b.seq)) (xs := #[.int .i64 (a.origin), .int .i64 (a.seq)]) (ys := #[.int .i64 (b.origin), .int .i64 (b.seq)]) eqId rfl rfl ?_)
  refine st (ov_move (v := .bool (decide (a.origin = b.origin ∧ a.seq = b.seq))) rfl ?_)
  refine stc (V := .pointer (some ⟨b2, 2, none⟩)) rfl rfl (fun hb10 => ?_) ?_
  · have hl11 : (decide (a.origin = b.origin ∧ a.seq = b.seq)) = true := hb10
    have hl11 := of_decide_eq_true hl11
    exact fa29_1 rfl ⟨rfl, rfl⟩
  refine stc (V := .int .i64 (a.lam)) rfl rfl (fun hb12 => ?_) ?_
  · have hl13 : (decide (a.origin = b.origin ∧ a.seq = b.seq)) = true := hb12
    have hl13 := of_decide_eq_true hl13
    exact ov_load1 (v := .int .i64 (a.lam)) Try.isAgg3 (show _ = (.pointer (some ⟨b2, 2, none⟩) : Value) from (if_pos hb12)) (blk_cellL h9 rfl) ⟨rfl, rfl⟩
  refine stc (V := .pointer (some ⟨b6, 2, none⟩)) rfl rfl (fun hb14 => ?_) ?_
  · have hl15 : (decide (a.origin = b.origin ∧ a.seq = b.seq)) = true := hb14
    have hl15 := of_decide_eq_true hl15
    exact fa29_1 rfl ⟨rfl, rfl⟩
  refine stc (V := .int .i64 (b.lam)) rfl rfl (fun hb16 => ?_) ?_
  · have hl17 : (decide (a.origin = b.origin ∧ a.seq = b.seq)) = true := hb16
    have hl17 := of_decide_eq_true hl17
    exact ov_load1 (v := .int .i64 (b.lam)) Try.isAgg3 (show _ = (.pointer (some ⟨b6, 2, none⟩) : Value) from (if_pos hb16)) (blk_cellL hb7 rfl) ⟨rfl, rfl⟩
  refine stc (V := .bool (decide (a.lam = b.lam))) rfl rfl (fun hb18 => ?_) ?_
  · have hl19 : (decide (a.origin = b.origin ∧ a.seq = b.seq)) = true := hb18
    have hl19 := of_decide_eq_true hl19
    exact ov_eql (k := .i64) (a := a.lam) (b := b.lam) (show _ = (.int .i64 (a.lam) : Value) from (if_pos hb18)) (show _ = (.int .i64 (b.lam) : Value) from (if_pos hb18)) ⟨rfl, rfl⟩
  refine st (ov_pick_and (b := decide (a.origin = b.origin ∧ a.seq = b.seq)) (b' := decide (a.lam = b.lam)) rfl (fun hbp => (show _ = (.bool (decide (a.lam = b.lam)) : Value) from (if_pos hbp))) ?_)
  refine st (ov_move (v := .bool ((decide (a.origin = b.origin ∧ a.seq = b.seq)) && (decide (a.lam = b.lam)))) rfl ?_)
  refine stc (V := .pointer (some ⟨b2, 3, none⟩)) rfl rfl (fun hb20 => ?_) ?_
  · have hl21 : ((decide (a.origin = b.origin ∧ a.seq = b.seq)) && (decide (a.lam = b.lam))) = true := hb20
    simp only [Bool.and_eq_true, Bool.or_eq_true, Bool.and_eq_false_iff, Bool.or_eq_false_iff, decide_eq_true_eq, decide_eq_false_iff_not, Bool.not_eq_true', Bool.not_eq_false', Int.not_lt, Int.not_le] at hl21
    exact fa29_2 rfl ⟨rfl, rfl⟩
  refine stc (V := da) rfl rfl (fun hb22 => ?_) ?_
  · have hl23 : ((decide (a.origin = b.origin ∧ a.seq = b.seq)) && (decide (a.lam = b.lam))) = true := hb22
    simp only [Bool.and_eq_true, Bool.or_eq_true, Bool.and_eq_false_iff, Bool.or_eq_false_iff, decide_eq_true_eq, decide_eq_false_iff_not, Bool.not_eq_true', Bool.not_eq_false', Int.not_lt, Int.not_le] at hl23
    exact ov_load1 (v := da) Try.isAgg27 (show _ = (.pointer (some ⟨b2, 3, none⟩) : Value) from (if_pos hb22)) (blk_cellL h9 rfl) ⟨rfl, rfl⟩
  refine stc (V := .pointer (some ⟨b6, 3, none⟩)) rfl rfl (fun hb24 => ?_) ?_
  · have hl25 : ((decide (a.origin = b.origin ∧ a.seq = b.seq)) && (decide (a.lam = b.lam))) = true := hb24
    simp only [Bool.and_eq_true, Bool.or_eq_true, Bool.and_eq_false_iff, Bool.or_eq_false_iff, decide_eq_true_eq, decide_eq_false_iff_not, Bool.not_eq_true', Bool.not_eq_false', Int.not_lt, Int.not_le] at hl25
    exact fa29_2 rfl ⟨rfl, rfl⟩
  refine stc (V := db) rfl rfl (fun hb26 => ?_) ?_
  · have hl27 : ((decide (a.origin = b.origin ∧ a.seq = b.seq)) && (decide (a.lam = b.lam))) = true := hb26
    simp only [Bool.and_eq_true, Bool.or_eq_true, Bool.and_eq_false_iff, Bool.or_eq_false_iff, decide_eq_true_eq, decide_eq_false_iff_not, Bool.not_eq_true', Bool.not_eq_false', Int.not_lt, Int.not_le] at hl27
    exact ov_load1 (v := db) Try.isAgg27 (show _ = (.pointer (some ⟨b6, 3, none⟩) : Value) from (if_pos hb26)) (blk_cellL hb7 rfl) ⟨rfl, rfl⟩
  refine stcw (V := .bool (decide (a.deps = b.deps))) Ext (Chg.refl _ _) rfl rfl (fun hb28 => ?_) (fun w3 hx32 => ?_)
  · have hl29 : ((decide (a.origin = b.origin ∧ a.seq = b.seq)) && (decide (a.lam = b.lam))) = true := hb28
    simp only [Bool.and_eq_true, Bool.or_eq_true, Bool.and_eq_false_iff, Bool.or_eq_false_iff, decide_eq_true_eq, decide_eq_false_iff_not, Bool.not_eq_true', Bool.not_eq_false', Int.not_lt, Int.not_le] at hl29
    have h30 := ha.ext (Chg.trans hn1.ext hn5.ext)
    have h31 := hb.ext (Chg.trans hn1.ext hn5.ext)
    exact ov_call (f := 34) (vals := [da, db]) (cap := []) (show _ = (.func (.func 34) #[] #[] : Value) from rfl) (mapL ⟨(show _ = (da : Value) from (if_pos hb28)), (show _ = (db : Value) from (if_pos hb28)), trivial⟩) Try.call34 (C_SameInts h30 h31) (fun _ _ h => h)
  have hs33 := hx32.size
  refine st (ov_pick_and (b := (decide (a.origin = b.origin ∧ a.seq = b.seq)) && (decide (a.lam = b.lam))) (b' := decide (a.deps = b.deps)) rfl (fun hbp => (show _ = (.bool (decide (a.deps = b.deps)) : Value) from (if_pos hbp))) ?_)
  refine st (ov_move (v := .bool (((decide (a.origin = b.origin ∧ a.seq = b.seq)) && (decide (a.lam = b.lam))) && (decide (a.deps = b.deps)))) rfl ?_)
  refine stc (V := .pointer (some ⟨b2, 4, none⟩)) rfl rfl (fun hb34 => ?_) ?_
  · have hl35 : (((decide (a.origin = b.origin ∧ a.seq = b.seq)) && (decide (a.lam = b.lam))) && (decide (a.deps = b.deps))) = true := hb34
    simp only [Bool.and_eq_true, Bool.or_eq_true, Bool.and_eq_false_iff, Bool.or_eq_false_iff, decide_eq_true_eq, decide_eq_false_iff_not, Bool.not_eq_true', Bool.not_eq_false', Int.not_lt, Int.not_le] at hl35
    exact fa29_3 rfl ⟨rfl, rfl⟩
  refine stc (V := .int .i64 (a.typ)) rfl rfl (fun hb36 => ?_) ?_
  · have hl37 : (((decide (a.origin = b.origin ∧ a.seq = b.seq)) && (decide (a.lam = b.lam))) && (decide (a.deps = b.deps))) = true := hb36
    simp only [Bool.and_eq_true, Bool.or_eq_true, Bool.and_eq_false_iff, Bool.or_eq_false_iff, decide_eq_true_eq, decide_eq_false_iff_not, Bool.not_eq_true', Bool.not_eq_false', Int.not_lt, Int.not_le] at hl37
    have h38 := hx32.keep h9 (fun h => h)
    exact ov_load1 (v := .int .i64 (a.typ)) Try.isAgg3 (show _ = (.pointer (some ⟨b2, 4, none⟩) : Value) from (if_pos hb36)) (blk_cellL h38 rfl) ⟨rfl, rfl⟩
  refine stc (V := .pointer (some ⟨b6, 4, none⟩)) rfl rfl (fun hb39 => ?_) ?_
  · have hl40 : (((decide (a.origin = b.origin ∧ a.seq = b.seq)) && (decide (a.lam = b.lam))) && (decide (a.deps = b.deps))) = true := hb39
    simp only [Bool.and_eq_true, Bool.or_eq_true, Bool.and_eq_false_iff, Bool.or_eq_false_iff, decide_eq_true_eq, decide_eq_false_iff_not, Bool.not_eq_true', Bool.not_eq_false', Int.not_lt, Int.not_le] at hl40
    exact fa29_3 rfl ⟨rfl, rfl⟩
  refine stc (V := .int .i64 (b.typ)) rfl rfl (fun hb41 => ?_) ?_
  · have hl42 : (((decide (a.origin = b.origin ∧ a.seq = b.seq)) && (decide (a.lam = b.lam))) && (decide (a.deps = b.deps))) = true := hb41
    simp only [Bool.and_eq_true, Bool.or_eq_true, Bool.and_eq_false_iff, Bool.or_eq_false_iff, decide_eq_true_eq, decide_eq_false_iff_not, Bool.not_eq_true', Bool.not_eq_false', Int.not_lt, Int.not_le] at hl42
    have h43 := hx32.keep hb7 (fun h => h)
    exact ov_load1 (v := .int .i64 (b.typ)) Try.isAgg3 (show _ = (.pointer (some ⟨b6, 4, none⟩) : Value) from (if_pos hb41)) (blk_cellL h43 rfl) ⟨rfl, rfl⟩
  refine stc (V := .bool (decide (a.typ = b.typ))) rfl rfl (fun hb44 => ?_) ?_
  · have hl45 : (((decide (a.origin = b.origin ∧ a.seq = b.seq)) && (decide (a.lam = b.lam))) && (decide (a.deps = b.deps))) = true := hb44
    simp only [Bool.and_eq_true, Bool.or_eq_true, Bool.and_eq_false_iff, Bool.or_eq_false_iff, decide_eq_true_eq, decide_eq_false_iff_not, Bool.not_eq_true', Bool.not_eq_false', Int.not_lt, Int.not_le] at hl45
    exact ov_eql (k := .i64) (a := a.typ) (b := b.typ) (show _ = (.int .i64 (a.typ) : Value) from (if_pos hb44)) (show _ = (.int .i64 (b.typ) : Value) from (if_pos hb44)) ⟨rfl, rfl⟩
  refine st (ov_pick_and (b := ((decide (a.origin = b.origin ∧ a.seq = b.seq)) && (decide (a.lam = b.lam))) && (decide (a.deps = b.deps))) (b' := decide (a.typ = b.typ)) rfl (fun hbp => (show _ = (.bool (decide (a.typ = b.typ)) : Value) from (if_pos hbp))) ?_)
  refine st (ov_move (v := .bool ((((decide (a.origin = b.origin ∧ a.seq = b.seq)) && (decide (a.lam = b.lam))) && (decide (a.deps = b.deps))) && (decide (a.typ = b.typ)))) rfl ?_)
  refine stc (V := .pointer (some ⟨b2, 5, none⟩)) rfl rfl (fun hb46 => ?_) ?_
  · have hl47 : ((((decide (a.origin = b.origin ∧ a.seq = b.seq)) && (decide (a.lam = b.lam))) && (decide (a.deps = b.deps))) && (decide (a.typ = b.typ))) = true := hb46
    simp only [Bool.and_eq_true, Bool.or_eq_true, Bool.and_eq_false_iff, Bool.or_eq_false_iff, decide_eq_true_eq, decide_eq_false_iff_not, Bool.not_eq_true', Bool.not_eq_false', Int.not_lt, Int.not_le] at hl47
    exact fa29_4 rfl ⟨rfl, rfl⟩
  refine stc (V := .int .i64 (a.agg)) rfl rfl (fun hb48 => ?_) ?_
  · have hl49 : ((((decide (a.origin = b.origin ∧ a.seq = b.seq)) && (decide (a.lam = b.lam))) && (decide (a.deps = b.deps))) && (decide (a.typ = b.typ))) = true := hb48
    simp only [Bool.and_eq_true, Bool.or_eq_true, Bool.and_eq_false_iff, Bool.or_eq_false_iff, decide_eq_true_eq, decide_eq_false_iff_not, Bool.not_eq_true', Bool.not_eq_false', Int.not_lt, Int.not_le] at hl49
    have h50 := hx32.keep h9 (fun h => h)
    exact ov_load1 (v := .int .i64 (a.agg)) Try.isAgg3 (show _ = (.pointer (some ⟨b2, 5, none⟩) : Value) from (if_pos hb48)) (blk_cellL h50 rfl) ⟨rfl, rfl⟩
  refine stc (V := .pointer (some ⟨b6, 5, none⟩)) rfl rfl (fun hb51 => ?_) ?_
  · have hl52 : ((((decide (a.origin = b.origin ∧ a.seq = b.seq)) && (decide (a.lam = b.lam))) && (decide (a.deps = b.deps))) && (decide (a.typ = b.typ))) = true := hb51
    simp only [Bool.and_eq_true, Bool.or_eq_true, Bool.and_eq_false_iff, Bool.or_eq_false_iff, decide_eq_true_eq, decide_eq_false_iff_not, Bool.not_eq_true', Bool.not_eq_false', Int.not_lt, Int.not_le] at hl52
    exact fa29_4 rfl ⟨rfl, rfl⟩
  refine stc (V := .int .i64 (b.agg)) rfl rfl (fun hb53 => ?_) ?_
  · have hl54 : ((((decide (a.origin = b.origin ∧ a.seq = b.seq)) && (decide (a.lam = b.lam))) && (decide (a.deps = b.deps))) && (decide (a.typ = b.typ))) = true := hb53
    simp only [Bool.and_eq_true, Bool.or_eq_true, Bool.and_eq_false_iff, Bool.or_eq_false_iff, decide_eq_true_eq, decide_eq_false_iff_not, Bool.not_eq_true', Bool.not_eq_false', Int.not_lt, Int.not_le] at hl54
    have h55 := hx32.keep hb7 (fun h => h)
    exact ov_load1 (v := .int .i64 (b.agg)) Try.isAgg3 (show _ = (.pointer (some ⟨b6, 5, none⟩) : Value) from (if_pos hb53)) (blk_cellL h55 rfl) ⟨rfl, rfl⟩
  refine stc (V := .bool (decide (a.agg = b.agg))) rfl rfl (fun hb56 => ?_) ?_
  · have hl57 : ((((decide (a.origin = b.origin ∧ a.seq = b.seq)) && (decide (a.lam = b.lam))) && (decide (a.deps = b.deps))) && (decide (a.typ = b.typ))) = true := hb56
    simp only [Bool.and_eq_true, Bool.or_eq_true, Bool.and_eq_false_iff, Bool.or_eq_false_iff, decide_eq_true_eq, decide_eq_false_iff_not, Bool.not_eq_true', Bool.not_eq_false', Int.not_lt, Int.not_le] at hl57
    exact ov_eql (k := .i64) (a := a.agg) (b := b.agg) (show _ = (.int .i64 (a.agg) : Value) from (if_pos hb56)) (show _ = (.int .i64 (b.agg) : Value) from (if_pos hb56)) ⟨rfl, rfl⟩
  refine st (ov_pick_and (b := (((decide (a.origin = b.origin ∧ a.seq = b.seq)) && (decide (a.lam = b.lam))) && (decide (a.deps = b.deps))) && (decide (a.typ = b.typ))) (b' := decide (a.agg = b.agg)) rfl (fun hbp => (show _ = (.bool (decide (a.agg = b.agg)) : Value) from (if_pos hbp))) ?_)
  refine st (ov_move (v := .bool (((((decide (a.origin = b.origin ∧ a.seq = b.seq)) && (decide (a.lam = b.lam))) && (decide (a.deps = b.deps))) && (decide (a.typ = b.typ))) && (decide (a.agg = b.agg)))) rfl ?_)
  refine stc (V := .pointer (some ⟨b2, 6, none⟩)) rfl rfl (fun hb58 => ?_) ?_
  · have hl59 : (((((decide (a.origin = b.origin ∧ a.seq = b.seq)) && (decide (a.lam = b.lam))) && (decide (a.deps = b.deps))) && (decide (a.typ = b.typ))) && (decide (a.agg = b.agg))) = true := hb58
    simp only [Bool.and_eq_true, Bool.or_eq_true, Bool.and_eq_false_iff, Bool.or_eq_false_iff, decide_eq_true_eq, decide_eq_false_iff_not, Bool.not_eq_true', Bool.not_eq_false', Int.not_lt, Int.not_le] at hl59
    exact fa29_5 rfl ⟨rfl, rfl⟩
  refine stc (V := .int .i64 (a.field)) rfl rfl (fun hb60 => ?_) ?_
  · have hl61 : (((((decide (a.origin = b.origin ∧ a.seq = b.seq)) && (decide (a.lam = b.lam))) && (decide (a.deps = b.deps))) && (decide (a.typ = b.typ))) && (decide (a.agg = b.agg))) = true := hb60
    simp only [Bool.and_eq_true, Bool.or_eq_true, Bool.and_eq_false_iff, Bool.or_eq_false_iff, decide_eq_true_eq, decide_eq_false_iff_not, Bool.not_eq_true', Bool.not_eq_false', Int.not_lt, Int.not_le] at hl61
    have h62 := hx32.keep h9 (fun h => h)
    exact ov_load1 (v := .int .i64 (a.field)) Try.isAgg3 (show _ = (.pointer (some ⟨b2, 6, none⟩) : Value) from (if_pos hb60)) (blk_cellL h62 rfl) ⟨rfl, rfl⟩
  refine stc (V := .pointer (some ⟨b6, 6, none⟩)) rfl rfl (fun hb63 => ?_) ?_
  · have hl64 : (((((decide (a.origin = b.origin ∧ a.seq = b.seq)) && (decide (a.lam = b.lam))) && (decide (a.deps = b.deps))) && (decide (a.typ = b.typ))) && (decide (a.agg = b.agg))) = true := hb63
    simp only [Bool.and_eq_true, Bool.or_eq_true, Bool.and_eq_false_iff, Bool.or_eq_false_iff, decide_eq_true_eq, decide_eq_false_iff_not, Bool.not_eq_true', Bool.not_eq_false', Int.not_lt, Int.not_le] at hl64
    exact fa29_5 rfl ⟨rfl, rfl⟩
  refine stc (V := .int .i64 (b.field)) rfl rfl (fun hb65 => ?_) ?_
  · have hl66 : (((((decide (a.origin = b.origin ∧ a.seq = b.seq)) && (decide (a.lam = b.lam))) && (decide (a.deps = b.deps))) && (decide (a.typ = b.typ))) && (decide (a.agg = b.agg))) = true := hb65
    simp only [Bool.and_eq_true, Bool.or_eq_true, Bool.and_eq_false_iff, Bool.or_eq_false_iff, decide_eq_true_eq, decide_eq_false_iff_not, Bool.not_eq_true', Bool.not_eq_false', Int.not_lt, Int.not_le] at hl66
    have h67 := hx32.keep hb7 (fun h => h)
    exact ov_load1 (v := .int .i64 (b.field)) Try.isAgg3 (show _ = (.pointer (some ⟨b6, 6, none⟩) : Value) from (if_pos hb65)) (blk_cellL h67 rfl) ⟨rfl, rfl⟩
  refine stc (V := .bool (decide (a.field = b.field))) rfl rfl (fun hb68 => ?_) ?_
  · have hl69 : (((((decide (a.origin = b.origin ∧ a.seq = b.seq)) && (decide (a.lam = b.lam))) && (decide (a.deps = b.deps))) && (decide (a.typ = b.typ))) && (decide (a.agg = b.agg))) = true := hb68
    simp only [Bool.and_eq_true, Bool.or_eq_true, Bool.and_eq_false_iff, Bool.or_eq_false_iff, decide_eq_true_eq, decide_eq_false_iff_not, Bool.not_eq_true', Bool.not_eq_false', Int.not_lt, Int.not_le] at hl69
    exact ov_eql (k := .i64) (a := a.field) (b := b.field) (show _ = (.int .i64 (a.field) : Value) from (if_pos hb68)) (show _ = (.int .i64 (b.field) : Value) from (if_pos hb68)) ⟨rfl, rfl⟩
  refine st (ov_pick_and (b := ((((decide (a.origin = b.origin ∧ a.seq = b.seq)) && (decide (a.lam = b.lam))) && (decide (a.deps = b.deps))) && (decide (a.typ = b.typ))) && (decide (a.agg = b.agg))) (b' := decide (a.field = b.field)) rfl (fun hbp => (show _ = (.bool (decide (a.field = b.field)) : Value) from (if_pos hbp))) ?_)
  refine st (ov_move (v := .bool ((((((decide (a.origin = b.origin ∧ a.seq = b.seq)) && (decide (a.lam = b.lam))) && (decide (a.deps = b.deps))) && (decide (a.typ = b.typ))) && (decide (a.agg = b.agg))) && (decide (a.field = b.field)))) rfl ?_)
  refine stc (V := .pointer (some ⟨b2, 7, none⟩)) rfl rfl (fun hb70 => ?_) ?_
  · have hl71 : ((((((decide (a.origin = b.origin ∧ a.seq = b.seq)) && (decide (a.lam = b.lam))) && (decide (a.deps = b.deps))) && (decide (a.typ = b.typ))) && (decide (a.agg = b.agg))) && (decide (a.field = b.field))) = true := hb70
    simp only [Bool.and_eq_true, Bool.or_eq_true, Bool.and_eq_false_iff, Bool.or_eq_false_iff, decide_eq_true_eq, decide_eq_false_iff_not, Bool.not_eq_true', Bool.not_eq_false', Int.not_lt, Int.not_le] at hl71
    exact fa29_6 rfl ⟨rfl, rfl⟩
  refine stc (V := .int .i64 (a.op)) rfl rfl (fun hb72 => ?_) ?_
  · have hl73 : ((((((decide (a.origin = b.origin ∧ a.seq = b.seq)) && (decide (a.lam = b.lam))) && (decide (a.deps = b.deps))) && (decide (a.typ = b.typ))) && (decide (a.agg = b.agg))) && (decide (a.field = b.field))) = true := hb72
    simp only [Bool.and_eq_true, Bool.or_eq_true, Bool.and_eq_false_iff, Bool.or_eq_false_iff, decide_eq_true_eq, decide_eq_false_iff_not, Bool.not_eq_true', Bool.not_eq_false', Int.not_lt, Int.not_le] at hl73
    have h74 := hx32.keep h9 (fun h => h)
    exact ov_load1 (v := .int .i64 (a.op)) Try.isAgg3 (show _ = (.pointer (some ⟨b2, 7, none⟩) : Value) from (if_pos hb72)) (blk_cellL h74 rfl) ⟨rfl, rfl⟩
  refine stc (V := .pointer (some ⟨b6, 7, none⟩)) rfl rfl (fun hb75 => ?_) ?_
  · have hl76 : ((((((decide (a.origin = b.origin ∧ a.seq = b.seq)) && (decide (a.lam = b.lam))) && (decide (a.deps = b.deps))) && (decide (a.typ = b.typ))) && (decide (a.agg = b.agg))) && (decide (a.field = b.field))) = true := hb75
    simp only [Bool.and_eq_true, Bool.or_eq_true, Bool.and_eq_false_iff, Bool.or_eq_false_iff, decide_eq_true_eq, decide_eq_false_iff_not, Bool.not_eq_true', Bool.not_eq_false', Int.not_lt, Int.not_le] at hl76
    exact fa29_6 rfl ⟨rfl, rfl⟩
  refine stc (V := .int .i64 (b.op)) rfl rfl (fun hb77 => ?_) ?_
  · have hl78 : ((((((decide (a.origin = b.origin ∧ a.seq = b.seq)) && (decide (a.lam = b.lam))) && (decide (a.deps = b.deps))) && (decide (a.typ = b.typ))) && (decide (a.agg = b.agg))) && (decide (a.field = b.field))) = true := hb77
    simp only [Bool.and_eq_true, Bool.or_eq_true, Bool.and_eq_false_iff, Bool.or_eq_false_iff, decide_eq_true_eq, decide_eq_false_iff_not, Bool.not_eq_true', Bool.not_eq_false', Int.not_lt, Int.not_le] at hl78
    have h79 := hx32.keep hb7 (fun h => h)
    exact ov_load1 (v := .int .i64 (b.op)) Try.isAgg3 (show _ = (.pointer (some ⟨b6, 7, none⟩) : Value) from (if_pos hb77)) (blk_cellL h79 rfl) ⟨rfl, rfl⟩
  refine stc (V := .bool (decide (a.op = b.op))) rfl rfl (fun hb80 => ?_) ?_
  · have hl81 : ((((((decide (a.origin = b.origin ∧ a.seq = b.seq)) && (decide (a.lam = b.lam))) && (decide (a.deps = b.deps))) && (decide (a.typ = b.typ))) && (decide (a.agg = b.agg))) && (decide (a.field = b.field))) = true := hb80
    simp only [Bool.and_eq_true, Bool.or_eq_true, Bool.and_eq_false_iff, Bool.or_eq_false_iff, decide_eq_true_eq, decide_eq_false_iff_not, Bool.not_eq_true', Bool.not_eq_false', Int.not_lt, Int.not_le] at hl81
    exact ov_eql (k := .i64) (a := a.op) (b := b.op) (show _ = (.int .i64 (a.op) : Value) from (if_pos hb80)) (show _ = (.int .i64 (b.op) : Value) from (if_pos hb80)) ⟨rfl, rfl⟩
  refine st (ov_pick_and (b := (((((decide (a.origin = b.origin ∧ a.seq = b.seq)) && (decide (a.lam = b.lam))) && (decide (a.deps = b.deps))) && (decide (a.typ = b.typ))) && (decide (a.agg = b.agg))) && (decide (a.field = b.field))) (b' := decide (a.op = b.op)) rfl (fun hbp => (show _ = (.bool (decide (a.op = b.op)) : Value) from (if_pos hbp))) ?_)
  refine st (ov_move (v := .bool (((((((decide (a.origin = b.origin ∧ a.seq = b.seq)) && (decide (a.lam = b.lam))) && (decide (a.deps = b.deps))) && (decide (a.typ = b.typ))) && (decide (a.agg = b.agg))) && (decide (a.field = b.field))) && (decide (a.op = b.op)))) rfl ?_)
  refine stc (V := .pointer (some ⟨b2, 8, none⟩)) rfl rfl (fun hb82 => ?_) ?_
  · have hl83 : (((((((decide (a.origin = b.origin ∧ a.seq = b.seq)) && (decide (a.lam = b.lam))) && (decide (a.deps = b.deps))) && (decide (a.typ = b.typ))) && (decide (a.agg = b.agg))) && (decide (a.field = b.field))) && (decide (a.op = b.op))) = true := hb82
    simp only [Bool.and_eq_true, Bool.or_eq_true, Bool.and_eq_false_iff, Bool.or_eq_false_iff, decide_eq_true_eq, decide_eq_false_iff_not, Bool.not_eq_true', Bool.not_eq_false', Int.not_lt, Int.not_le] at hl83
    exact fa29_7 rfl ⟨rfl, rfl⟩
  refine stc (V := .int .i64 (a.arg)) rfl rfl (fun hb84 => ?_) ?_
  · have hl85 : (((((((decide (a.origin = b.origin ∧ a.seq = b.seq)) && (decide (a.lam = b.lam))) && (decide (a.deps = b.deps))) && (decide (a.typ = b.typ))) && (decide (a.agg = b.agg))) && (decide (a.field = b.field))) && (decide (a.op = b.op))) = true := hb84
    simp only [Bool.and_eq_true, Bool.or_eq_true, Bool.and_eq_false_iff, Bool.or_eq_false_iff, decide_eq_true_eq, decide_eq_false_iff_not, Bool.not_eq_true', Bool.not_eq_false', Int.not_lt, Int.not_le] at hl85
    have h86 := hx32.keep h9 (fun h => h)
    exact ov_load1 (v := .int .i64 (a.arg)) Try.isAgg3 (show _ = (.pointer (some ⟨b2, 8, none⟩) : Value) from (if_pos hb84)) (blk_cellL h86 rfl) ⟨rfl, rfl⟩
  refine stc (V := .pointer (some ⟨b6, 8, none⟩)) rfl rfl (fun hb87 => ?_) ?_
  · have hl88 : (((((((decide (a.origin = b.origin ∧ a.seq = b.seq)) && (decide (a.lam = b.lam))) && (decide (a.deps = b.deps))) && (decide (a.typ = b.typ))) && (decide (a.agg = b.agg))) && (decide (a.field = b.field))) && (decide (a.op = b.op))) = true := hb87
    simp only [Bool.and_eq_true, Bool.or_eq_true, Bool.and_eq_false_iff, Bool.or_eq_false_iff, decide_eq_true_eq, decide_eq_false_iff_not, Bool.not_eq_true', Bool.not_eq_false', Int.not_lt, Int.not_le] at hl88
    exact fa29_7 rfl ⟨rfl, rfl⟩
  refine stc (V := .int .i64 (b.arg)) rfl rfl (fun hb89 => ?_) ?_
  · have hl90 : (((((((decide (a.origin = b.origin ∧ a.seq = b.seq)) && (decide (a.lam = b.lam))) && (decide (a.deps = b.deps))) && (decide (a.typ = b.typ))) && (decide (a.agg = b.agg))) && (decide (a.field = b.field))) && (decide (a.op = b.op))) = true := hb89
    simp only [Bool.and_eq_true, Bool.or_eq_true, Bool.and_eq_false_iff, Bool.or_eq_false_iff, decide_eq_true_eq, decide_eq_false_iff_not, Bool.not_eq_true', Bool.not_eq_false', Int.not_lt, Int.not_le] at hl90
    have h91 := hx32.keep hb7 (fun h => h)
    exact ov_load1 (v := .int .i64 (b.arg)) Try.isAgg3 (show _ = (.pointer (some ⟨b6, 8, none⟩) : Value) from (if_pos hb89)) (blk_cellL h91 rfl) ⟨rfl, rfl⟩
  refine stc (V := .bool (decide (a.arg = b.arg))) rfl rfl (fun hb92 => ?_) ?_
  · have hl93 : (((((((decide (a.origin = b.origin ∧ a.seq = b.seq)) && (decide (a.lam = b.lam))) && (decide (a.deps = b.deps))) && (decide (a.typ = b.typ))) && (decide (a.agg = b.agg))) && (decide (a.field = b.field))) && (decide (a.op = b.op))) = true := hb92
    simp only [Bool.and_eq_true, Bool.or_eq_true, Bool.and_eq_false_iff, Bool.or_eq_false_iff, decide_eq_true_eq, decide_eq_false_iff_not, Bool.not_eq_true', Bool.not_eq_false', Int.not_lt, Int.not_le] at hl93
    exact ov_eql (k := .i64) (a := a.arg) (b := b.arg) (show _ = (.int .i64 (a.arg) : Value) from (if_pos hb92)) (show _ = (.int .i64 (b.arg) : Value) from (if_pos hb92)) ⟨rfl, rfl⟩
  refine st (ov_pick_and (b := ((((((decide (a.origin = b.origin ∧ a.seq = b.seq)) && (decide (a.lam = b.lam))) && (decide (a.deps = b.deps))) && (decide (a.typ = b.typ))) && (decide (a.agg = b.agg))) && (decide (a.field = b.field))) && (decide (a.op = b.op))) (b' := decide (a.arg = b.arg)) rfl (fun hbp => (show _ = (.bool (decide (a.arg = b.arg)) : Value) from (if_pos hbp))) ?_)
  refine st (ov_move (v := .bool ((((((((decide (a.origin = b.origin ∧ a.seq = b.seq)) && (decide (a.lam = b.lam))) && (decide (a.deps = b.deps))) && (decide (a.typ = b.typ))) && (decide (a.agg = b.agg))) && (decide (a.field = b.field))) && (decide (a.op = b.op))) && (decide (a.arg = b.arg)))) rfl ?_)
  refine stc (V := .pointer (some ⟨b2, 9, none⟩)) rfl rfl (fun hb94 => ?_) ?_
  · have hl95 : ((((((((decide (a.origin = b.origin ∧ a.seq = b.seq)) && (decide (a.lam = b.lam))) && (decide (a.deps = b.deps))) && (decide (a.typ = b.typ))) && (decide (a.agg = b.agg))) && (decide (a.field = b.field))) && (decide (a.op = b.op))) && (decide (a.arg = b.arg))) = true := hb94
    simp only [Bool.and_eq_true, Bool.or_eq_true, Bool.and_eq_false_iff, Bool.or_eq_false_iff, decide_eq_true_eq, decide_eq_false_iff_not, Bool.not_eq_true', Bool.not_eq_false', Int.not_lt, Int.not_le] at hl95
    exact fa29_8 rfl ⟨rfl, rfl⟩
  refine stc (V := .int .i64 (a.key)) rfl rfl (fun hb96 => ?_) ?_
  · have hl97 : ((((((((decide (a.origin = b.origin ∧ a.seq = b.seq)) && (decide (a.lam = b.lam))) && (decide (a.deps = b.deps))) && (decide (a.typ = b.typ))) && (decide (a.agg = b.agg))) && (decide (a.field = b.field))) && (decide (a.op = b.op))) && (decide (a.arg = b.arg))) = true := hb96
    simp only [Bool.and_eq_true, Bool.or_eq_true, Bool.and_eq_false_iff, Bool.or_eq_false_iff, decide_eq_true_eq, decide_eq_false_iff_not, Bool.not_eq_true', Bool.not_eq_false', Int.not_lt, Int.not_le] at hl97
    have h98 := hx32.keep h9 (fun h => h)
    exact ov_load1 (v := .int .i64 (a.key)) Try.isAgg3 (show _ = (.pointer (some ⟨b2, 9, none⟩) : Value) from (if_pos hb96)) (blk_cellL h98 rfl) ⟨rfl, rfl⟩
  refine stc (V := .pointer (some ⟨b6, 9, none⟩)) rfl rfl (fun hb99 => ?_) ?_
  · have hl100 : ((((((((decide (a.origin = b.origin ∧ a.seq = b.seq)) && (decide (a.lam = b.lam))) && (decide (a.deps = b.deps))) && (decide (a.typ = b.typ))) && (decide (a.agg = b.agg))) && (decide (a.field = b.field))) && (decide (a.op = b.op))) && (decide (a.arg = b.arg))) = true := hb99
    simp only [Bool.and_eq_true, Bool.or_eq_true, Bool.and_eq_false_iff, Bool.or_eq_false_iff, decide_eq_true_eq, decide_eq_false_iff_not, Bool.not_eq_true', Bool.not_eq_false', Int.not_lt, Int.not_le] at hl100
    exact fa29_8 rfl ⟨rfl, rfl⟩
  refine stc (V := .int .i64 (b.key)) rfl rfl (fun hb101 => ?_) ?_
  · have hl102 : ((((((((decide (a.origin = b.origin ∧ a.seq = b.seq)) && (decide (a.lam = b.lam))) && (decide (a.deps = b.deps))) && (decide (a.typ = b.typ))) && (decide (a.agg = b.agg))) && (decide (a.field = b.field))) && (decide (a.op = b.op))) && (decide (a.arg = b.arg))) = true := hb101
    simp only [Bool.and_eq_true, Bool.or_eq_true, Bool.and_eq_false_iff, Bool.or_eq_false_iff, decide_eq_true_eq, decide_eq_false_iff_not, Bool.not_eq_true', Bool.not_eq_false', Int.not_lt, Int.not_le] at hl102
    have h103 := hx32.keep hb7 (fun h => h)
    exact ov_load1 (v := .int .i64 (b.key)) Try.isAgg3 (show _ = (.pointer (some ⟨b6, 9, none⟩) : Value) from (if_pos hb101)) (blk_cellL h103 rfl) ⟨rfl, rfl⟩
  refine stc (V := .bool (decide (a.key = b.key))) rfl rfl (fun hb104 => ?_) ?_
  · have hl105 : ((((((((decide (a.origin = b.origin ∧ a.seq = b.seq)) && (decide (a.lam = b.lam))) && (decide (a.deps = b.deps))) && (decide (a.typ = b.typ))) && (decide (a.agg = b.agg))) && (decide (a.field = b.field))) && (decide (a.op = b.op))) && (decide (a.arg = b.arg))) = true := hb104
    simp only [Bool.and_eq_true, Bool.or_eq_true, Bool.and_eq_false_iff, Bool.or_eq_false_iff, decide_eq_true_eq, decide_eq_false_iff_not, Bool.not_eq_true', Bool.not_eq_false', Int.not_lt, Int.not_le] at hl105
    exact ov_eql (k := .i64) (a := a.key) (b := b.key) (show _ = (.int .i64 (a.key) : Value) from (if_pos hb104)) (show _ = (.int .i64 (b.key) : Value) from (if_pos hb104)) ⟨rfl, rfl⟩
  refine st (ov_pick_and (b := (((((((decide (a.origin = b.origin ∧ a.seq = b.seq)) && (decide (a.lam = b.lam))) && (decide (a.deps = b.deps))) && (decide (a.typ = b.typ))) && (decide (a.agg = b.agg))) && (decide (a.field = b.field))) && (decide (a.op = b.op))) && (decide (a.arg = b.arg))) (b' := decide (a.key = b.key)) rfl (fun hbp => (show _ = (.bool (decide (a.key = b.key)) : Value) from (if_pos hbp))) ?_)
  refine st (ov_assign (v := .bool (((((((((decide (a.origin = b.origin ∧ a.seq = b.seq)) && (decide (a.lam = b.lam))) && (decide (a.deps = b.deps))) && (decide (a.typ = b.typ))) && (decide (a.agg = b.agg))) && (decide (a.field = b.field))) && (decide (a.op = b.op))) && (decide (a.arg = b.arg))) && (decide (a.key = b.key)))) rfl ?_)
  refine st_nil ?_
  refine WP_ret ?_
  refine fin1 Try.results22 (show _ = (.bool (((((((((decide (a.origin = b.origin ∧ a.seq = b.seq)) && (decide (a.lam = b.lam))) && (decide (a.deps = b.deps))) && (decide (a.typ = b.typ))) && (decide (a.agg = b.agg))) && (decide (a.field = b.field))) && (decide (a.op = b.op))) && (decide (a.arg = b.arg))) && (decide (a.key = b.key))) : Value) from rfl) ?_
  refine ⟨?_, (Chg.trans (Chg.trans hn1.ext hn5.ext) hx32)⟩
  congr 1
  rw [Bool.eq_iff_iff]
  simp only [Bool.and_eq_true, decide_eq_true_eq, Ev.eq_iff]
  constructor
  · rintro ⟨⟨⟨⟨⟨⟨⟨⟨⟨h1, h2⟩, h3⟩, h4⟩, h5⟩, h6⟩, h7⟩, h8⟩, h9⟩, h10⟩; exact ⟨h1, h2, h3, h4, h5, h6, h7, h8, h9, h10⟩
  · rintro ⟨h1, h2, h3, h4, h5, h6, h7, h8, h9, h10⟩; exact ⟨⟨⟨⟨⟨⟨⟨⟨⟨h1, h2⟩, h3⟩, h4⟩, h5⟩, h6⟩, h7⟩, h8⟩, h9⟩, h10⟩

end Go.Proofs.Ytbbhpddgjiifmaa
