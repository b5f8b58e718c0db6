/- Steps of the proofs of this seat: part Law1. -/
import Derived.Test.YtbbhpddgjiifmaaLaw0
set_option linter.unusedSimpArgs false
set_option linter.unusedVariables false
namespace Go.Proofs.Ytbbhpddgjiifmaa
open Go.Proofs Go.RowKit

set_option maxHeartbeats 4000000 in
theorem C_OrderLess {w : World} {Fa : Nat → Prop} {a : Ev} {da : Value} (ha : RdS w Fa da a.deps) (oa : a.Ok) {Fb : Nat → Prop} {b : Ev} {db : Value} (hb : RdS w Fb db b.deps) (ob : b.Ok) {Fc : Nat → Prop} {c : Ev} {dc : Value} (hc : RdS w Fc dc c.deps) (oc : c.Ok) : Ret Try.prog 5 [.agg (a.cells da).toArray, .agg (b.cells db).toArray, .agg (c.cells dc).toArray] w (fun r w' => r = .bool true ∧ Ext w w') := by
  have has : a.deps.length * 8 ≤ 140737488355328 := ha.small
  have hbs : b.deps.length * 8 ≤ 140737488355328 := hb.small
  have hcs : c.deps.length * 8 ≤ 140737488355328 := hc.small
  refine Calls_of_WP (args := [.agg (a.cells da).toArray, .agg (b.cells db).toArray, .agg (c.cells dc).toArray]) Try.func5 rfl rfl ?_
  refine WP_seq ?_
  refine WP_region0 (by kernel_rfl) (fun _ => ?_)
  refine st (ov_box (v := .agg (a.cells da).toArray) rfl (fun w1 b2 hn1 => ?_))
  have hb3 : w1.heap[b2]? = some (.cells (a.cells da).toArray 29) := hn1.at_
  have hs4 := hn1.size; have hs4e := hn1.eq
  refine st (ov_box (v := .agg (b.cells db).toArray) rfl (fun w2 b6 hn5 => ?_))
  have hb7 : w2.heap[b6]? = some (.cells (b.cells db).toArray 29) := hn5.at_
  have hs8 := hn5.size; have hs8e := hn5.eq
  refine st (ov_box (v := .agg (c.cells dc).toArray) rfl (fun w3 b10 hn9 => ?_))
  have hb11 : w3.heap[b10]? = some (.cells (c.cells dc).toArray 29) := hn9.at_
  have hs12 := hn9.size; have hs12e := hn9.eq
  refine st (ov_assign (v := .bool false) rfl ?_)
  refine st_nil ?_
  refine WP_seq ?_
  refine WP_region (by kernel_rfl) ?_
  refine st (fa29_1 rfl ?_)
  have h13 := (Chg.trans hn5.ext hn9.ext).keep hb3 (fun h => h)
  refine st (ov_load1 (v := .int .i64 (a.lam)) Try.isAgg3 rfl (blk_cellL h13 rfl) ?_)
  refine st (fa29_1 rfl ?_)
  have h14 := hn9.ext.keep hb7 (fun h => h)
  refine st (ov_load1 (v := .int .i64 (b.lam)) Try.isAgg3 rfl (blk_cellL h14 rfl) ?_)
  refine st (ov_eql (k := .i64) (a := a.lam) (b := b.lam) rfl rfl ?_)
  refine st (ov_move (v := .bool (decide (a.lam = b.lam))) rfl ?_)
  refine stc (V := .pointer (some ⟨b2, 0, none⟩)) rfl rfl (fun hb15 => ?_) ?_
  · have hl16 : (decide (a.lam = b.lam)) = true := hb15
    have hl16 := of_decide_eq_true hl16
    exact fa29_0 rfl ⟨rfl, rfl⟩
  refine stc (V := .agg #[.int .i64 (a.origin), .int .i64 (a.seq)]) rfl rfl (fun hb17 => ?_) ?_
  · have hl18 : (decide (a.lam = b.lam)) = true := hb17
    have hl18 := of_decide_eq_true hl18
    exact ov_loadk (k := 2) (cs := [.int .i64 (a.origin), .int .i64 (a.seq)]) Try.isAgg26 Try.sizeOf26 rfl (show _ = (.pointer (some ⟨b2, 0, none⟩) : Value) from (if_pos hb17)) (CellsAt.sub (CellsAt.all h13) 0 (cs2 := [.int .i64 (a.origin), .int .i64 (a.seq)]) rfl) ⟨rfl, rfl⟩
  refine stc (V := .pointer (some ⟨b6, 0, none⟩)) rfl rfl (fun hb19 => ?_) ?_
  · have hl20 : (decide (a.lam = b.lam)) = true := hb19
    have hl20 := of_decide_eq_true hl20
    exact fa29_0 rfl ⟨rfl, rfl⟩
  refine stc (V := .agg #[.int .i64 (b.origin), .int .i64 (b.seq)]) rfl rfl (fun hb21 => ?_) ?_
  · have hl22 : (decide (a.lam = b.lam)) = true := hb21
    have hl22 := of_decide_eq_true hl22
    exact ov_loadk (k := 2) (cs := [.int .i64 (b.origin), .int .i64 (b.seq)]) Try.isAgg26 Try.sizeOf26 rfl (show _ = (.pointer (some ⟨b6, 0, none⟩) : Value) from (if_pos hb21)) (CellsAt.sub (CellsAt.all h14) 0 (cs2 := [.int .i64 (b.origin), .int .i64 (b.seq)]) rfl) ⟨rfl, rfl⟩
  refine stc (V := .bool (decide (a.origin = b.origin ∧ a.seq = b.seq))) rfl rfl (fun hb23 => ?_) ?_
  · have hl24 : (decide (a.lam = b.lam)) = true := hb23
    have hl24 := of_decide_eq_true hl24
    exact ov_eqlS (e := decide (a.origin = b.origin ∧ a.seq = b.seq)) (xs := #[.int .i64 (a.origin), .int .i64 (a.seq)]) (ys := #[.int .i64 (b.origin), .int .i64 (b.seq)]) eqId (show _ = (.agg #[.int .i64 (a.origin), .int .i64 (a.seq)] : Value) from (if_pos hb23)) (show _ = (.agg #[.int .i64 (b.origin), .int .i64 (b.seq)] : Value) from (if_pos hb23)) ⟨rfl, rfl⟩
  refine st (ov_pick_and (b := decide (a.lam = b.lam)) (b' := decide (a.origin = b.origin ∧ a.seq = b.seq)) rfl (fun hbp => (show _ = (.bool (decide (a.origin = b.origin ∧ a.seq = b.seq)) : Value) from (if_pos hbp))) ?_)
  refine st (ov_assign (v := .bool ((decide (a.lam = b.lam)) && (decide (a.origin = b.origin ∧ a.seq = b.seq)))) rfl ?_)
  refine st_nil ?_
  refine WP_seq ?_
  refine WP_seq ?_
  refine WP_region (by kernel_rfl) ?_
  refine st (ov_loadk (k := 10) Try.isAgg29 Try.sizeOf29 rfl rfl (CellsAt.all h13) ?_)
  refine st (ov_loadk (k := 10) Try.isAgg29 Try.sizeOf29 rfl rfl (CellsAt.all h13) ?_)
  have h25 := ha.ext (Chg.trans (Chg.trans hn1.ext hn5.ext) hn9.ext)
  refine st (ov_call (f := 15) (vals := [.agg (a.cells da).toArray, .agg (a.cells da).toArray]) (cap := []) (show _ = (.func (.func 15) #[] #[] : Value) from rfl) rfl Try.call15 (C_Less h25 oa h25 oa) ?_)
  rintro _ w4 ⟨rfl, hx26⟩
  have hx26s := hx26.size
  refine st (ov_move (v := .bool (less a a)) rfl ?_)
  refine stc (V := .agg (a.cells da).toArray) rfl rfl (fun hb27 => ?_) ?_
  · have hl28 : (less a a) = false := hb27
    have h29 := hx26.keep h13 (fun h => h)
    exact ov_loadk (k := 10) Try.isAgg29 Try.sizeOf29 rfl rfl (CellsAt.all h29) ⟨rfl, rfl⟩
  refine stc (V := .agg (b.cells db).toArray) rfl rfl (fun hb30 => ?_) ?_
  · have hl31 : (less a a) = false := hb30
    have h32 := hx26.keep h14 (fun h => h)
    exact ov_loadk (k := 10) Try.isAgg29 Try.sizeOf29 rfl rfl (CellsAt.all h32) ⟨rfl, rfl⟩
  refine stcw (V := .bool (less a b)) Ext (Chg.refl _ _) rfl rfl (fun hb33 => ?_) (fun w5 hx37 => ?_)
  · have hl34 : (less a a) = false := hb33
    have h35 := h25.ext hx26
    have h36 := hb.ext (Chg.trans (Chg.trans (Chg.trans hn1.ext hn5.ext) hn9.ext) hx26)
    exact ov_call (f := 15) (vals := [.agg (a.cells da).toArray, .agg (b.cells db).toArray]) (cap := []) (show _ = (.func (.func 15) #[] #[] : Value) from rfl) (mapL ⟨(show _ = (.agg (a.cells da).toArray : Value) from (if_pos hb33)), (show _ = (.agg (b.cells db).toArray : Value) from (if_pos hb33)), trivial⟩) Try.call15 (C_Less h35 oa h36 ob) (fun _ _ h => h)
  have hs38 := hx37.size
  refine stc (V := .bool (less a b)) rfl rfl (fun hb39 => ?_) ?_
  · have hl40 : (less a a) = false := hb39
    exact ov_move (v := .bool (less a b)) (show _ = (.bool (less a b) : Value) from (if_pos hb39)) ⟨rfl, rfl⟩
  refine stcP (V := .agg (b.cells db).toArray) rfl rfl (fun hb41 => ?_) ?_
  · have hl42 : (less a a) = false := hb41.1
    have hl43 : (less a b) = true := hb41.2
    have h44 := (Chg.trans hx26 hx37).keep h14 (fun h => h)
    exact ov_loadk (k := 10) Try.isAgg29 Try.sizeOf29 rfl rfl (CellsAt.all h44) ⟨rfl, rfl⟩
  refine stcP (V := .agg (a.cells da).toArray) rfl rfl (fun hb45 => ?_) ?_
  · have hl46 : (less a a) = false := hb45.1
    have hl47 : (less a b) = true := hb45.2
    have h48 := (Chg.trans hx26 hx37).keep h13 (fun h => h)
    exact ov_loadk (k := 10) Try.isAgg29 Try.sizeOf29 rfl rfl (CellsAt.all h48) ⟨rfl, rfl⟩
  refine stcwP (V := .bool (less b a)) Ext (Chg.refl _ _) rfl rfl (fun hb49 => ?_) (fun w6 hx54 => ?_)
  · have hl50 : (less a a) = false := hb49.1
    have hl51 : (less a b) = true := hb49.2
    have h52 := hb.ext (Chg.trans (Chg.trans (Chg.trans (Chg.trans hn1.ext hn5.ext) hn9.ext) hx26) hx37)
    have h53 := h25.ext (Chg.trans hx26 hx37)
    exact ov_call (f := 15) (vals := [.agg (b.cells db).toArray, .agg (a.cells da).toArray]) (cap := []) (show _ = (.func (.func 15) #[] #[] : Value) from rfl) (mapL ⟨(show _ = (.agg (b.cells db).toArray : Value) from (if_pos ⟨hb49.1, hb49.2⟩)), (show _ = (.agg (a.cells da).toArray : Value) from (if_pos ⟨hb49.1, hb49.2⟩)), trivial⟩) Try.call15 (C_Less h52 ob h53 oa) (fun _ _ h => h)
  have hs55 := hx54.size
  refine stc (V := .bool ((less a b) && (less b a))) rfl rfl (fun hb56 => ?_) ?_
  · have hl57 : (less a a) = false := hb56
    exact ov_pick_and (b := less a b) (b' := less b a) (show _ = (.bool (less a b) : Value) from (if_pos hb56)) (fun hbp => (show _ = (.bool (less b a) : Value) from (if_pos ⟨hb56, hbp⟩))) ⟨rfl, rfl⟩
  refine st (ov_pick_or (b := less a a) (b' := (less a b) && (less b a)) rfl (fun hbp => (show _ = (.bool ((less a b) && (less b a)) : Value) from (if_pos hbp))) ?_)
  refine st (ov_move (v := .bool ((less a a) || ((less a b) && (less b a)))) rfl ?_)
  refine stc (V := .bool ((decide (a.lam = b.lam)) && (decide (a.origin = b.origin ∧ a.seq = b.seq)))) rfl rfl (fun hb58 => ?_) ?_
  · have hl59 : ((less a a) || ((less a b) && (less b a))) = false := hb58
    simp only [Bool.and_eq_true, Bool.or_eq_true, Bool.and_eq_false_iff, Bool.or_eq_false_iff, decide_eq_true_eq, decide_eq_false_iff_not, Bool.not_eq_true', Bool.not_eq_false', Int.not_lt, Int.not_le] at hl59
    exact ov_move (v := .bool ((decide (a.lam = b.lam)) && (decide (a.origin = b.origin ∧ a.seq = b.seq)))) rfl ⟨rfl, rfl⟩
  refine stc (V := .agg (a.cells da).toArray) rfl rfl (fun hb60 => ?_) ?_
  · have hl61 : ((less a a) || ((less a b) && (less b a))) = false := hb60
    simp only [Bool.and_eq_true, Bool.or_eq_true, Bool.and_eq_false_iff, Bool.or_eq_false_iff, decide_eq_true_eq, decide_eq_false_iff_not, Bool.not_eq_true', Bool.not_eq_false', Int.not_lt, Int.not_le] at hl61
    have h62 := (Chg.trans (Chg.trans hx26 hx37) hx54).keep h13 (fun h => h)
    exact ov_loadk (k := 10) Try.isAgg29 Try.sizeOf29 rfl rfl (CellsAt.all h62) ⟨rfl, rfl⟩
  refine stc (V := .agg (b.cells db).toArray) rfl rfl (fun hb63 => ?_) ?_
  · have hl64 : ((less a a) || ((less a b) && (less b a))) = false := hb63
    simp only [Bool.and_eq_true, Bool.or_eq_true, Bool.and_eq_false_iff, Bool.or_eq_false_iff, decide_eq_true_eq, decide_eq_false_iff_not, Bool.not_eq_true', Bool.not_eq_false', Int.not_lt, Int.not_le] at hl64
    have h65 := (Chg.trans (Chg.trans hx26 hx37) hx54).keep h14 (fun h => h)
    exact ov_loadk (k := 10) Try.isAgg29 Try.sizeOf29 rfl rfl (CellsAt.all h65) ⟨rfl, rfl⟩
  refine stcw (V := .bool (less a b)) Ext (Chg.refl _ _) rfl rfl (fun hb66 => ?_) (fun w7 hx70 => ?_)
  · have hl67 : ((less a a) || ((less a b) && (less b a))) = false := hb66
    simp only [Bool.and_eq_true, Bool.or_eq_true, Bool.and_eq_false_iff, Bool.or_eq_false_iff, decide_eq_true_eq, decide_eq_false_iff_not, Bool.not_eq_true', Bool.not_eq_false', Int.not_lt, Int.not_le] at hl67
    have h68 := h25.ext (Chg.trans (Chg.trans hx26 hx37) hx54)
    have h69 := hb.ext (Chg.trans (Chg.trans (Chg.trans (Chg.trans (Chg.trans hn1.ext hn5.ext) hn9.ext) hx26) hx37) hx54)
    exact ov_call (f := 15) (vals := [.agg (a.cells da).toArray, .agg (b.cells db).toArray]) (cap := []) (show _ = (.func (.func 15) #[] #[] : Value) from rfl) (mapL ⟨(show _ = (.agg (a.cells da).toArray : Value) from (if_pos hb66)), (show _ = (.agg (b.cells db).toArray : Value) from (if_pos hb66)), trivial⟩) Try.call15 (C_Less h68 oa h69 ob) (fun _ _ h => h)
  have hs71 := hx70.size
  refine stc (V := .bool (less a b)) rfl rfl (fun hb72 => ?_) ?_
  · have hl73 : ((less a a) || ((less a b) && (less b a))) = false := hb72
    simp only [Bool.and_eq_true, Bool.or_eq_true, Bool.and_eq_false_iff, Bool.or_eq_false_iff, decide_eq_true_eq, decide_eq_false_iff_not, Bool.not_eq_true', Bool.not_eq_false', Int.not_lt, Int.not_le] at hl73
    exact ov_move (v := .bool (less a b)) (show _ = (.bool (less a b) : Value) from (if_pos hb72)) ⟨rfl, rfl⟩
  refine stcP (V := .agg (b.cells db).toArray) rfl rfl (fun hb74 => ?_) ?_
  · have hl75 : ((less a a) || ((less a b) && (less b a))) = false := hb74.1
    simp only [Bool.and_eq_true, Bool.or_eq_true, Bool.and_eq_false_iff, Bool.or_eq_false_iff, decide_eq_true_eq, decide_eq_false_iff_not, Bool.not_eq_true', Bool.not_eq_false', Int.not_lt, Int.not_le] at hl75
    have hl76 : (less a b) = false := hb74.2
    have h77 := (Chg.trans (Chg.trans (Chg.trans hx26 hx37) hx54) hx70).keep h14 (fun h => h)
    exact ov_loadk (k := 10) Try.isAgg29 Try.sizeOf29 rfl rfl (CellsAt.all h77) ⟨rfl, rfl⟩
  refine stcP (V := .agg (a.cells da).toArray) rfl rfl (fun hb78 => ?_) ?_
  · have hl79 : ((less a a) || ((less a b) && (less b a))) = false := hb78.1
    simp only [Bool.and_eq_true, Bool.or_eq_true, Bool.and_eq_false_iff, Bool.or_eq_false_iff, decide_eq_true_eq, decide_eq_false_iff_not, Bool.not_eq_true', Bool.not_eq_false', Int.not_lt, Int.not_le] at hl79
    have hl80 : (less a b) = false := hb78.2
    have h81 := (Chg.trans (Chg.trans (Chg.trans hx26 hx37) hx54) hx70).keep h13 (fun h => h)
    exact ov_loadk (k := 10) Try.isAgg29 Try.sizeOf29 rfl rfl (CellsAt.all h81) ⟨rfl, rfl⟩
  refine stcwP (V := .bool (less b a)) Ext (Chg.refl _ _) rfl rfl (fun hb82 => ?_) (fun w8 hx87 => ?_)
  · have hl83 : ((less a a) || ((less a b) && (less b a))) = false := hb82.1
    simp only [Bool.and_eq_true, Bool.or_eq_true, Bool.and_eq_false_iff, Bool.or_eq_false_iff, decide_eq_true_eq, decide_eq_false_iff_not, Bool.not_eq_true', Bool.not_eq_false', Int.not_lt, Int.not_le] at hl83
    have hl84 : (less a b) = false := hb82.2
    have h85 := hb.ext (Chg.trans (Chg.trans (Chg.trans (Chg.trans (Chg.trans (Chg.trans hn1.ext hn5.ext) hn9.ext) hx26) hx37) hx54) hx70)
    have h86 := h25.ext (Chg.trans (Chg.trans (Chg.trans hx26 hx37) hx54) hx70)
    exact ov_call (f := 15) (vals := [.agg (b.cells db).toArray, .agg (a.cells da).toArray]) (cap := []) (show _ = (.func (.func 15) #[] #[] : Value) from rfl) (mapL ⟨(show _ = (.agg (b.cells db).toArray : Value) from (if_pos ⟨hb82.1, hb82.2⟩)), (show _ = (.agg (a.cells da).toArray : Value) from (if_pos ⟨hb82.1, hb82.2⟩)), trivial⟩) Try.call15 (C_Less h85 ob h86 oa) (fun _ _ h => h)
  have hs88 := hx87.size
  refine stc (V := .bool ((less a b) || (less b a))) rfl rfl (fun hb89 => ?_) ?_
  · have hl90 : ((less a a) || ((less a b) && (less b a))) = false := hb89
    simp only [Bool.and_eq_true, Bool.or_eq_true, Bool.and_eq_false_iff, Bool.or_eq_false_iff, decide_eq_true_eq, decide_eq_false_iff_not, Bool.not_eq_true', Bool.not_eq_false', Int.not_lt, Int.not_le] at hl90
    exact ov_pick_or (b := less a b) (b' := less b a) (show _ = (.bool (less a b) : Value) from (if_pos hb89)) (fun hbp => (show _ = (.bool (less b a) : Value) from (if_pos ⟨hb89, hbp⟩))) ⟨rfl, rfl⟩
  refine stc (V := .bool (((decide (a.lam = b.lam)) && (decide (a.origin = b.origin ∧ a.seq = b.seq))) == ((less a b) || (less b a)))) rfl rfl (fun hb91 => ?_) ?_
  · have hl92 : ((less a a) || ((less a b) && (less b a))) = false := hb91
    simp only [Bool.and_eq_true, Bool.or_eq_true, Bool.and_eq_false_iff, Bool.or_eq_false_iff, decide_eq_true_eq, decide_eq_false_iff_not, Bool.not_eq_true', Bool.not_eq_false', Int.not_lt, Int.not_le] at hl92
    exact ov_eqlb (a := (decide (a.lam = b.lam)) && (decide (a.origin = b.origin ∧ a.seq = b.seq))) (b := (less a b) || (less b a)) Try.underlying4 (show _ = (.bool ((decide (a.lam = b.lam)) && (decide (a.origin = b.origin ∧ a.seq = b.seq))) : Value) from (if_pos hb91)) (show _ = (.bool ((less a b) || (less b a)) : Value) from (if_pos hb91)) ⟨rfl, rfl⟩
  refine st (ov_pick_or (b := (less a a) || ((less a b) && (less b a))) (b' := ((decide (a.lam = b.lam)) && (decide (a.origin = b.origin ∧ a.seq = b.seq))) == ((less a b) || (less b a))) rfl (fun hbp => (show _ = (.bool (((decide (a.lam = b.lam)) && (decide (a.origin = b.origin ∧ a.seq = b.seq))) == ((less a b) || (less b a))) : Value) from (if_pos hbp))) ?_)
  refine st_nil ?_
  cases hc93 : ((less a a) || ((less a b) && (less b a))) || (((decide (a.lam = b.lam)) && (decide (a.origin = b.origin ∧ a.seq = b.seq))) == ((less a b) || (less b a)))
  · skip
    simp only [Bool.and_eq_true, Bool.or_eq_true, Bool.and_eq_false_iff, Bool.or_eq_false_iff, decide_eq_true_eq, decide_eq_false_iff_not, Bool.not_eq_true', Bool.not_eq_false', Int.not_lt, Int.not_le] at hc93
    refine WP_cond_f rfl ?_
    refine WP_skip ?_
    refine WP_seq ?_
    refine WP_region (by kernel_rfl) ?_
    have h94 := (Chg.trans (Chg.trans (Chg.trans (Chg.trans hx26 hx37) hx54) hx70) hx87).keep h13 (fun h => h)
    refine st (ov_loadk (k := 10) Try.isAgg29 Try.sizeOf29 rfl rfl (CellsAt.all h94) ?_)
    have h95 := (Chg.trans (Chg.trans (Chg.trans (Chg.trans hx26 hx37) hx54) hx70) hx87).keep h14 (fun h => h)
    refine st (ov_loadk (k := 10) Try.isAgg29 Try.sizeOf29 rfl rfl (CellsAt.all h95) ?_)
    have h96 := h25.ext (Chg.trans (Chg.trans (Chg.trans (Chg.trans hx26 hx37) hx54) hx70) hx87)
    have h97 := hb.ext (Chg.trans (Chg.trans (Chg.trans (Chg.trans (Chg.trans (Chg.trans (Chg.trans hn1.ext hn5.ext) hn9.ext) hx26) hx37) hx54) hx70) hx87)
    refine st (ov_call (f := 15) (vals := [.agg (a.cells da).toArray, .agg (b.cells db).toArray]) (cap := []) (show _ = (.func (.func 15) #[] #[] : Value) from rfl) rfl Try.call15 (C_Less h96 oa h97 ob) ?_)
    rintro _ w9 ⟨rfl, hx98⟩
    have hx98s := hx98.size
    refine st (ov_not (a := less a b) rfl ?_)
    refine st (ov_move (v := .bool (!(less a b))) rfl ?_)
    refine stc (V := .agg (b.cells db).toArray) rfl rfl (fun hb99 => ?_) ?_
    · have hl100 : (!(less a b)) = false := hb99
      simp only [Bool.and_eq_true, Bool.or_eq_true, Bool.and_eq_false_iff, Bool.or_eq_false_iff, decide_eq_true_eq, decide_eq_false_iff_not, Bool.not_eq_true', Bool.not_eq_false', Int.not_lt, Int.not_le] at hl100
      have h101 := hx98.keep h95 (fun h => h)
      exact ov_loadk (k := 10) Try.isAgg29 Try.sizeOf29 rfl rfl (CellsAt.all h101) ⟨rfl, rfl⟩
    refine stc (V := .agg (c.cells dc).toArray) rfl rfl (fun hb102 => ?_) ?_
    · have hl103 : (!(less a b)) = false := hb102
      simp only [Bool.and_eq_true, Bool.or_eq_true, Bool.and_eq_false_iff, Bool.or_eq_false_iff, decide_eq_true_eq, decide_eq_false_iff_not, Bool.not_eq_true', Bool.not_eq_false', Int.not_lt, Int.not_le] at hl103
      have h104 := (Chg.trans (Chg.trans (Chg.trans (Chg.trans (Chg.trans hx26 hx37) hx54) hx70) hx87) hx98).keep hb11 (fun h => h)
      exact ov_loadk (k := 10) Try.isAgg29 Try.sizeOf29 rfl rfl (CellsAt.all h104) ⟨rfl, rfl⟩
    refine stcw (V := .bool (less b c)) Ext (Chg.refl _ _) rfl rfl (fun hb105 => ?_) (fun w10 hx109 => ?_)
    · have hl106 : (!(less a b)) = false := hb105
      simp only [Bool.and_eq_true, Bool.or_eq_true, Bool.and_eq_false_iff, Bool.or_eq_false_iff, decide_eq_true_eq, decide_eq_false_iff_not, Bool.not_eq_true', Bool.not_eq_false', Int.not_lt, Int.not_le] at hl106
      have h107 := h97.ext hx98
      have h108 := hc.ext (Chg.trans (Chg.trans (Chg.trans (Chg.trans (Chg.trans (Chg.trans (Chg.trans (Chg.trans hn1.ext hn5.ext) hn9.ext) hx26) hx37) hx54) hx70) hx87) hx98)
      exact ov_call (f := 15) (vals := [.agg (b.cells db).toArray, .agg (c.cells dc).toArray]) (cap := []) (show _ = (.func (.func 15) #[] #[] : Value) from rfl) (mapL ⟨(show _ = (.agg (b.cells db).toArray : Value) from (if_pos hb105)), (show _ = (.agg (c.cells dc).toArray : Value) from (if_pos hb105)), trivial⟩) Try.call15 (C_Less h107 ob h108 oc) (fun _ _ h => h)
    have hs110 := hx109.size
    refine stc (V := .bool (!(less b c))) rfl rfl (fun hb111 => ?_) ?_
    · have hl112 : (!(less a b)) = false := hb111
      simp only [Bool.and_eq_true, Bool.or_eq_true, Bool.and_eq_false_iff, Bool.or_eq_false_iff, decide_eq_true_eq, decide_eq_false_iff_not, Bool.not_eq_true', Bool.not_eq_false', Int.not_lt, Int.not_le] at hl112
      exact ov_not (a := less b c) (show _ = (.bool (less b c) : Value) from (if_pos hb111)) ⟨rfl, rfl⟩
    refine st (ov_pick_or (b := !(less a b)) (b' := !(less b c)) rfl (fun hbp => (show _ = (.bool (!(less b c)) : Value) from (if_pos hbp))) ?_)
    refine st (ov_move (v := .bool ((!(less a b)) || (!(less b c)))) rfl ?_)
    refine stc (V := .agg (a.cells da).toArray) rfl rfl (fun hb113 => ?_) ?_
    · have hl114 : ((!(less a b)) || (!(less b c))) = false := hb113
      simp only [Bool.and_eq_true, Bool.or_eq_true, Bool.and_eq_false_iff, Bool.or_eq_false_iff, decide_eq_true_eq, decide_eq_false_iff_not, Bool.not_eq_true', Bool.not_eq_false', Int.not_lt, Int.not_le] at hl114
      have h115 := (Chg.trans hx98 hx109).keep h94 (fun h => h)
      exact ov_loadk (k := 10) Try.isAgg29 Try.sizeOf29 rfl rfl (CellsAt.all h115) ⟨rfl, rfl⟩
    refine stc (V := .agg (c.cells dc).toArray) rfl rfl (fun hb116 => ?_) ?_
    · have hl117 : ((!(less a b)) || (!(less b c))) = false := hb116
      simp only [Bool.and_eq_true, Bool.or_eq_true, Bool.and_eq_false_iff, Bool.or_eq_false_iff, decide_eq_true_eq, decide_eq_false_iff_not, Bool.not_eq_true', Bool.not_eq_false', Int.not_lt, Int.not_le] at hl117
      have h118 := (Chg.trans (Chg.trans (Chg.trans (Chg.trans (Chg.trans (Chg.trans hx26 hx37) hx54) hx70) hx87) hx98) hx109).keep hb11 (fun h => h)
      exact ov_loadk (k := 10) Try.isAgg29 Try.sizeOf29 rfl rfl (CellsAt.all h118) ⟨rfl, rfl⟩
    refine stcw (V := .bool (less a c)) Ext (Chg.refl _ _) rfl rfl (fun hb119 => ?_) (fun w11 hx123 => ?_)
    · have hl120 : ((!(less a b)) || (!(less b c))) = false := hb119
      simp only [Bool.and_eq_true, Bool.or_eq_true, Bool.and_eq_false_iff, Bool.or_eq_false_iff, decide_eq_true_eq, decide_eq_false_iff_not, Bool.not_eq_true', Bool.not_eq_false', Int.not_lt, Int.not_le] at hl120
      have h121 := h96.ext (Chg.trans hx98 hx109)
      have h122 := hc.ext (Chg.trans (Chg.trans (Chg.trans (Chg.trans (Chg.trans (Chg.trans (Chg.trans (Chg.trans (Chg.trans hn1.ext hn5.ext) hn9.ext) hx26) hx37) hx54) hx70) hx87) hx98) hx109)
      exact ov_call (f := 15) (vals := [.agg (a.cells da).toArray, .agg (c.cells dc).toArray]) (cap := []) (show _ = (.func (.func 15) #[] #[] : Value) from rfl) (mapL ⟨(show _ = (.agg (a.cells da).toArray : Value) from (if_pos hb119)), (show _ = (.agg (c.cells dc).toArray : Value) from (if_pos hb119)), trivial⟩) Try.call15 (C_Less h121 oa h122 oc) (fun _ _ h => h)
    have hs124 := hx123.size
    refine st (ov_pick_or (b := (!(less a b)) || (!(less b c))) (b' := less a c) rfl (fun hbp => (show _ = (.bool (less a c) : Value) from (if_pos hbp))) ?_)
    refine st (ov_move (v := .bool (((!(less a b)) || (!(less b c))) || (less a c))) rfl ?_)
    refine stcw (V := .bool true) Ext (Chg.refl _ _) rfl rfl (fun hb125 => ?_) (fun w12 hx127 => ?_)
    · have hl126 : (((!(less a b)) || (!(less b c))) || (less a c)) = true := hb125
      simp only [Bool.and_eq_true, Bool.or_eq_true, Bool.and_eq_false_iff, Bool.or_eq_false_iff, decide_eq_true_eq, decide_eq_false_iff_not, Bool.not_eq_true', Bool.not_eq_false', Int.not_lt, Int.not_le] at hl126
      exact ov_call (f := 10) (vals := []) (cap := []) (show _ = (.func (.func 10) #[] #[] : Value) from rfl) rfl Try.call10 (C_works ) (fun _ _ h => h)
    have hs128 := hx127.size
    refine st (ov_pick_and (b := ((!(less a b)) || (!(less b c))) || (less a c)) (b' := true) rfl (fun hbp => (show _ = (.bool true : Value) from (if_pos hbp))) ?_)
    refine st (ov_assign (v := .bool ((((!(less a b)) || (!(less b c))) || (less a c)) && true)) rfl ?_)
    refine st_nil ?_
    refine WP_ret ?_
    refine fin1 Try.results5 (show _ = (.bool ((((!(less a b)) || (!(less b c))) || (less a c)) && true) : Value) from rfl) ?_
    refine ⟨?_, (Chg.trans (Chg.trans (Chg.trans (Chg.trans (Chg.trans (Chg.trans (Chg.trans (Chg.trans (Chg.trans (Chg.trans (Chg.trans hn1.ext hn5.ext) hn9.ext) hx26) hx37) hx54) hx70) hx87) hx98) hx109) hx123) hx127)⟩
    simp only [Bool.and_true, Bool.and_eq_true, Bool.or_eq_true, Bool.and_eq_false_iff, Bool.or_eq_false_iff, decide_eq_true_eq, decide_eq_false_iff_not, Bool.not_eq_true', Bool.not_eq_false', beqb_t, beqb_f, less_dec, apart, before] at hc93
    rw [show ((((!(less a b)) || (!(less b c))) || (less a c)) && true) = true from ?_]
    simp only [Bool.and_true, Bool.and_eq_true, Bool.or_eq_true, Bool.and_eq_false_iff, Bool.or_eq_false_iff, decide_eq_true_eq, decide_eq_false_iff_not, Bool.not_eq_true', Bool.not_eq_false', beqb_t, beqb_f, less_dec, apart, before]
    try simp only [LessP] at hc93
    try simp only [LessP]
    omega
  · skip
    simp only [Bool.and_eq_true, Bool.or_eq_true, Bool.and_eq_false_iff, Bool.or_eq_false_iff, decide_eq_true_eq, decide_eq_false_iff_not, Bool.not_eq_true', Bool.not_eq_false', Int.not_lt, Int.not_le] at hc93
    refine WP_cond_t rfl ?_
    refine WP_seq ?_
    refine WP_region0 (by kernel_rfl) (fun _ => ?_)
    refine st (ov_assign (v := .bool false) rfl ?_)
    refine st_nil ?_
    refine WP_ret ?_
    refine fin1 Try.results5 (show _ = (.bool false : Value) from rfl) ?_
    refine ⟨?_, (Chg.trans (Chg.trans (Chg.trans (Chg.trans (Chg.trans (Chg.trans (Chg.trans hn1.ext hn5.ext) hn9.ext) hx26) hx37) hx54) hx70) hx87)⟩
    simp only [Bool.and_true, Bool.and_eq_true, Bool.or_eq_true, Bool.and_eq_false_iff, Bool.or_eq_false_iff, decide_eq_true_eq, decide_eq_false_iff_not, Bool.not_eq_true', Bool.not_eq_false', beqb_t, beqb_f, less_dec, apart, before] at hc93
    exfalso
    try simp only [LessP] at hc93
    omega

end Go.Proofs.Ytbbhpddgjiifmaa
