/- Steps of the proofs of this seat: part P6. -/
import Derived.Test.YtbbpmhfcgoljdaaP5
set_option linter.unusedSimpArgs false
set_option linter.unusedVariables false
namespace Go.Proofs.Ytbbpmhfcgoljdaa
open Go.Proofs Go.RowKit

def cntD (p : Prj) (e : Ent) (G reg : Int) : Bool := cntB p G (e, reg)
theorem cntD_iff {p : Prj} {e : Ent} {G reg : Int} : cntD p e G reg = true ↔ (e.void = false ∧ e.ev.typ = p.ptyp ∧ e.ev.field = p.pfield) ∧ ((p.pgroup = 1 ∧ e.ev.agg = G) ∨ (p.pgroup = 2 ∧ e.ev.arg = G) ∨ (p.pgroup = 3 ∧ reg = G)) := by
  unfold cntD cntB keepB grpI
  by_cases h1 : p.pgroup = 1
  · simp [h1]
  · by_cases h2 : p.pgroup = 2
    · simp [h2]
    · by_cases h3 : p.pgroup = 3
      · simp [h3]
      · simp [h1, h2, h3]
def findR (l : List Row) (G : Int) : Row := (l.find? fun x => decide (x.group = G)).getD ⟨0, 0, 0⟩
theorem findR_at {l : List Row} {G : Int} {k : Nat} (hk : k < l.length) (h : ∀ j, j < k → (l.getD j default).group ≠ G) (he : l[k].group = G) : findR l G = l[k] := by
  unfold findR
  have : (l.find? fun x => decide (x.group = G)) = some l[k] := by
    rw [List.find?_eq_some_iff_getElem]
    refine ⟨by simpa using he, k, hk, rfl, fun j hj => ?_⟩
    have := h j hj
    rw [getD_at _ (show j < l.length by omega)] at this
    simpa using this
  rw [this]; rfl
theorem findR_none {l : List Row} {G : Int} (h : ∀ j, j < l.length → (l.getD j default).group ≠ G) : findR l G = ⟨0, 0, 0⟩ := by
  unfold findR
  have : (l.find? fun x => decide (x.group = G)) = none := by
    rw [List.find?_eq_none]
    intro x hx
    obtain ⟨j, hj, rfl⟩ := List.getElem_of_mem hx
    have := h j hj
    rw [getD_at _ hj] at this
    simpa using this
  rw [this]; rfl

theorem C_counts {w : World} {p : Prj} (op : p.Ok) {Fe : Nat → Prop} {e : Ent} {de0 : Value} (he0 : RdS w Fe de0 e.ev.deps) (oe : e.Ok) {gi : Int} (hgi : InR gi) {ri : Int} (hri : InR ri) : Ret Try.prog 12 [.agg (p.cells).toArray, .agg (e.cells de0).toArray, .int .i64 (gi), .int .i64 (ri)] w (fun r w' => r = .bool (cntD p e gi ri) ∧ Ext w w') := by
  have he0s : e.ev.deps.length * 8 ≤ 140737488355328 := he0.small
  refine Calls_of_WP (args := [.agg (p.cells).toArray, .agg (e.cells de0).toArray, .int .i64 (gi), .int .i64 (ri)]) Try.func12 rfl rfl ?_
  refine WP_seq ?_
  refine WP_region0 (by kernel_rfl) (fun _ => ?_)
  refine st (ov_box (v := .agg (p.cells).toArray) rfl (fun w1 b2 hn1 => ?_))
  have hb3 : w1.heap[b2]? = some (.cells (p.cells).toArray 23) := hn1.at_
  have hs4 := hn1.size; have hs4e := hn1.eq
  refine st (ov_box (v := .agg (e.cells de0).toArray) rfl (fun w2 b6 hn5 => ?_))
  have hb7 : w2.heap[b6]? = some (.cells (e.cells de0).toArray 38) := hn5.at_
  have hs8 := hn5.size; have hs8e := hn5.eq
  refine st (ov_assign (v := .bool false) rfl ?_)
  refine st_nil ?_
  refine WP_seq ?_
  refine WP_seq ?_
  refine WP_region (by kernel_rfl) ?_
  refine st (fa38_1 rfl ?_)
  refine st (ov_load1 (v := .bool (e.void)) Try.isAgg4 rfl (blk_cellL hb7 rfl) ?_)
  refine st (ov_move (v := .bool (e.void)) rfl ?_)
  refine stc (V := .pointer (some ⟨b6, 0, none⟩)) rfl rfl (fun hb9 => ?_) ?_
  · have hl10 : e.void = false := hb9
    exact fa38_0 rfl ⟨rfl, rfl⟩
  refine stc (V := .pointer (some ⟨b6, 4, none⟩)) rfl rfl (fun hb11 => ?_) ?_
  · have hl12 : e.void = false := hb11
    exact fa36_3 (show _ = (.pointer (some ⟨b6, 0, none⟩) : Value) from (if_pos hb11)) ⟨rfl, rfl⟩
  refine stc (V := .int .i64 (e.ev.typ)) rfl rfl (fun hb13 => ?_) ?_
  · have hl14 : e.void = false := hb13
    exact ov_load1 (v := .int .i64 (e.ev.typ)) Try.isAgg3 (show _ = (.pointer (some ⟨b6, 4, none⟩) : Value) from (if_pos hb13)) (blk_cellL hb7 rfl) ⟨rfl, rfl⟩
  refine stc (V := .pointer (some ⟨b2, 0, none⟩)) rfl rfl (fun hb15 => ?_) ?_
  · have hl16 : e.void = false := hb15
    exact fa23_0 rfl ⟨rfl, rfl⟩
  refine stc (V := .int .i64 (p.ptyp)) rfl rfl (fun hb17 => ?_) ?_
  · have hl18 : e.void = false := hb17
    have h19 := hn5.ext.keep hb3 (fun h => h)
    exact ov_load1 (v := .int .i64 (p.ptyp)) Try.isAgg3 (show _ = (.pointer (some ⟨b2, 0, none⟩) : Value) from (if_pos hb17)) (blk_cellL h19 rfl) ⟨rfl, rfl⟩
  refine stc (V := .bool (!decide (e.ev.typ = p.ptyp))) rfl rfl (fun hb20 => ?_) ?_
  · have hl21 : e.void = false := hb20
    exact ov_neq (k := .i64) (a := e.ev.typ) (b := p.ptyp) (show _ = (.int .i64 (e.ev.typ) : Value) from (if_pos hb20)) (show _ = (.int .i64 (p.ptyp) : Value) from (if_pos hb20)) ⟨rfl, rfl⟩
  refine st (ov_pick_or (b := e.void) (b' := !decide (e.ev.typ = p.ptyp)) rfl (fun hbp => (show _ = (.bool (!decide (e.ev.typ = p.ptyp)) : Value) from (if_pos hbp))) ?_)
  refine st (ov_move (v := .bool (e.void || (!decide (e.ev.typ = p.ptyp)))) rfl ?_)
  refine stc (V := .pointer (some ⟨b6, 0, none⟩)) rfl rfl (fun hb22 => ?_) ?_
  · have hl23 : (e.void || (!decide (e.ev.typ = p.ptyp))) = false := hb22
    simp only [Bool.and_eq_true, Bool.or_eq_true, Bool.and_eq_false_iff, Bool.or_eq_false_iff, decide_eq_true_eq, decide_eq_false_iff_not, Bool.not_eq_true', Bool.not_eq_false', Int.not_lt, Int.not_le] at hl23
    exact fa38_0 rfl ⟨rfl, rfl⟩
  refine stc (V := .pointer (some ⟨b6, 6, none⟩)) rfl rfl (fun hb24 => ?_) ?_
  · have hl25 : (e.void || (!decide (e.ev.typ = p.ptyp))) = false := hb24
    simp only [Bool.and_eq_true, Bool.or_eq_true, Bool.and_eq_false_iff, Bool.or_eq_false_iff, decide_eq_true_eq, decide_eq_false_iff_not, Bool.not_eq_true', Bool.not_eq_false', Int.not_lt, Int.not_le] at hl25
    exact fa36_5 (show _ = (.pointer (some ⟨b6, 0, none⟩) : Value) from (if_pos hb24)) ⟨rfl, rfl⟩
  refine stc (V := .int .i64 (e.ev.field)) rfl rfl (fun hb26 => ?_) ?_
  · have hl27 : (e.void || (!decide (e.ev.typ = p.ptyp))) = false := hb26
    simp only [Bool.and_eq_true, Bool.or_eq_true, Bool.and_eq_false_iff, Bool.or_eq_false_iff, decide_eq_true_eq, decide_eq_false_iff_not, Bool.not_eq_true', Bool.not_eq_false', Int.not_lt, Int.not_le] at hl27
    exact ov_load1 (v := .int .i64 (e.ev.field)) Try.isAgg3 (show _ = (.pointer (some ⟨b6, 6, none⟩) : Value) from (if_pos hb26)) (blk_cellL hb7 rfl) ⟨rfl, rfl⟩
  refine stc (V := .pointer (some ⟨b2, 1, none⟩)) rfl rfl (fun hb28 => ?_) ?_
  · have hl29 : (e.void || (!decide (e.ev.typ = p.ptyp))) = false := hb28
    simp only [Bool.and_eq_true, Bool.or_eq_true, Bool.and_eq_false_iff, Bool.or_eq_false_iff, decide_eq_true_eq, decide_eq_false_iff_not, Bool.not_eq_true', Bool.not_eq_false', Int.not_lt, Int.not_le] at hl29
    exact fa23_1 rfl ⟨rfl, rfl⟩
  refine stc (V := .int .i64 (p.pfield)) rfl rfl (fun hb30 => ?_) ?_
  · have hl31 : (e.void || (!decide (e.ev.typ = p.ptyp))) = false := hb30
    simp only [Bool.and_eq_true, Bool.or_eq_true, Bool.and_eq_false_iff, Bool.or_eq_false_iff, decide_eq_true_eq, decide_eq_false_iff_not, Bool.not_eq_true', Bool.not_eq_false', Int.not_lt, Int.not_le] at hl31
    have h32 := hn5.ext.keep hb3 (fun h => h)
    exact ov_load1 (v := .int .i64 (p.pfield)) Try.isAgg3 (show _ = (.pointer (some ⟨b2, 1, none⟩) : Value) from (if_pos hb30)) (blk_cellL h32 rfl) ⟨rfl, rfl⟩
  refine stc (V := .bool (!decide (e.ev.field = p.pfield))) rfl rfl (fun hb33 => ?_) ?_
  · have hl34 : (e.void || (!decide (e.ev.typ = p.ptyp))) = false := hb33
    simp only [Bool.and_eq_true, Bool.or_eq_true, Bool.and_eq_false_iff, Bool.or_eq_false_iff, decide_eq_true_eq, decide_eq_false_iff_not, Bool.not_eq_true', Bool.not_eq_false', Int.not_lt, Int.not_le] at hl34
    exact ov_neq (k := .i64) (a := e.ev.field) (b := p.pfield) (show _ = (.int .i64 (e.ev.field) : Value) from (if_pos hb33)) (show _ = (.int .i64 (p.pfield) : Value) from (if_pos hb33)) ⟨rfl, rfl⟩
  refine st (ov_pick_or (b := e.void || (!decide (e.ev.typ = p.ptyp))) (b' := !decide (e.ev.field = p.pfield)) rfl (fun hbp => (show _ = (.bool (!decide (e.ev.field = p.pfield)) : Value) from (if_pos hbp))) ?_)
  refine st_nil ?_
  cases hc35 : (e.void || (!decide (e.ev.typ = p.ptyp))) || (!decide (e.ev.field = p.pfield))
  · skip
    simp only [Bool.and_eq_true, Bool.or_eq_true, Bool.and_eq_false_iff, Bool.or_eq_false_iff, decide_eq_true_eq, decide_eq_false_iff_not, Bool.not_eq_true', Bool.not_eq_false', Int.not_lt, Int.not_le] at hc35
    refine WP_cond_f rfl ?_
    refine WP_skip ?_
    refine WP_seq ?_
    refine WP_region (by kernel_rfl) ?_
    refine st (fa23_2 rfl ?_)
    have h36 := hn5.ext.keep hb3 (fun h => h)
    refine st (ov_load1 (v := .int .i64 (p.pgroup)) Try.isAgg3 rfl (blk_cellL h36 rfl) ?_)
    refine st (ov_eql (k := .i64) (a := p.pgroup) (b := 1) rfl rfl ?_)
    refine st (ov_move (v := .bool (decide (p.pgroup = 1))) rfl ?_)
    refine stc (V := .pointer (some ⟨b6, 0, none⟩)) rfl rfl (fun hb37 => ?_) ?_
    · have hl38 : (decide (p.pgroup = 1)) = true := hb37
      have hl38 := of_decide_eq_true hl38
      exact fa38_0 rfl ⟨rfl, rfl⟩
    refine stc (V := .pointer (some ⟨b6, 5, none⟩)) rfl rfl (fun hb39 => ?_) ?_
    · have hl40 : (decide (p.pgroup = 1)) = true := hb39
      have hl40 := of_decide_eq_true hl40
      exact fa36_4 (show _ = (.pointer (some ⟨b6, 0, none⟩) : Value) from (if_pos hb39)) ⟨rfl, rfl⟩
    refine stc (V := .int .i64 (e.ev.agg)) rfl rfl (fun hb41 => ?_) ?_
    · have hl42 : (decide (p.pgroup = 1)) = true := hb41
      have hl42 := of_decide_eq_true hl42
      exact ov_load1 (v := .int .i64 (e.ev.agg)) Try.isAgg3 (show _ = (.pointer (some ⟨b6, 5, none⟩) : Value) from (if_pos hb41)) (blk_cellL hb7 rfl) ⟨rfl, rfl⟩
    refine stc (V := .int .i64 (gi)) rfl rfl (fun hb43 => ?_) ?_
    · have hl44 : (decide (p.pgroup = 1)) = true := hb43
      have hl44 := of_decide_eq_true hl44
      exact ov_move (v := .int .i64 (gi)) rfl ⟨rfl, rfl⟩
    refine stc (V := .bool (decide (e.ev.agg = gi))) rfl rfl (fun hb45 => ?_) ?_
    · have hl46 : (decide (p.pgroup = 1)) = true := hb45
      have hl46 := of_decide_eq_true hl46
      exact ov_eql (k := .i64) (a := e.ev.agg) (b := gi) (show _ = (.int .i64 (e.ev.agg) : Value) from (if_pos hb45)) (show _ = (.int .i64 (gi) : Value) from (if_pos hb45)) ⟨rfl, rfl⟩
    refine st (ov_pick_and (b := decide (p.pgroup = 1)) (b' := decide (e.ev.agg = gi)) rfl (fun hbp => (show _ = (.bool (decide (e.ev.agg = gi)) : Value) from (if_pos hbp))) ?_)
    refine st (ov_move (v := .bool ((decide (p.pgroup = 1)) && (decide (e.ev.agg = gi)))) rfl ?_)
    refine stc (V := .pointer (some ⟨b2, 2, none⟩)) rfl rfl (fun hb47 => ?_) ?_
    · have hl48 : ((decide (p.pgroup = 1)) && (decide (e.ev.agg = gi))) = false := hb47
      simp only [Bool.and_eq_true, Bool.or_eq_true, Bool.and_eq_false_iff, Bool.or_eq_false_iff, decide_eq_true_eq, decide_eq_false_iff_not, Bool.not_eq_true', Bool.not_eq_false', Int.not_lt, Int.not_le] at hl48
      exact fa23_2 rfl ⟨rfl, rfl⟩
    refine stc (V := .int .i64 (p.pgroup)) rfl rfl (fun hb49 => ?_) ?_
    · have hl50 : ((decide (p.pgroup = 1)) && (decide (e.ev.agg = gi))) = false := hb49
      simp only [Bool.and_eq_true, Bool.or_eq_true, Bool.and_eq_false_iff, Bool.or_eq_false_iff, decide_eq_true_eq, decide_eq_false_iff_not, Bool.not_eq_true', Bool.not_eq_false', Int.not_lt, Int.not_le] at hl50
      exact ov_load1 (v := .int .i64 (p.pgroup)) Try.isAgg3 (show _ = (.pointer (some ⟨b2, 2, none⟩) : Value) from (if_pos hb49)) (blk_cellL h36 rfl) ⟨rfl, rfl⟩
    refine stc (V := .bool (decide (p.pgroup = 2))) rfl rfl (fun hb51 => ?_) ?_
    · have hl52 : ((decide (p.pgroup = 1)) && (decide (e.ev.agg = gi))) = false := hb51
      simp only [Bool.and_eq_true, Bool.or_eq_true, Bool.and_eq_false_iff, Bool.or_eq_false_iff, decide_eq_true_eq, decide_eq_false_iff_not, Bool.not_eq_true', Bool.not_eq_false', Int.not_lt, Int.not_le] at hl52
      exact ov_eql (k := .i64) (a := p.pgroup) (b := 2) (show _ = (.int .i64 (p.pgroup) : Value) from (if_pos hb51)) rfl ⟨rfl, rfl⟩
    refine stc (V := .bool (decide (p.pgroup = 2))) rfl rfl (fun hb53 => ?_) ?_
    · have hl54 : ((decide (p.pgroup = 1)) && (decide (e.ev.agg = gi))) = false := hb53
      simp only [Bool.and_eq_true, Bool.or_eq_true, Bool.and_eq_false_iff, Bool.or_eq_false_iff, decide_eq_true_eq, decide_eq_false_iff_not, Bool.not_eq_true', Bool.not_eq_false', Int.not_lt, Int.not_le] at hl54
      exact ov_move (v := .bool (decide (p.pgroup = 2))) (show _ = (.bool (decide (p.pgroup = 2)) : Value) from (if_pos hb53)) ⟨rfl, rfl⟩
    refine stcP (V := .pointer (some ⟨b6, 0, none⟩)) rfl rfl (fun hb55 => ?_) ?_
    · have hl56 : ((decide (p.pgroup = 1)) && (decide (e.ev.agg = gi))) = false := hb55.1
      simp only [Bool.and_eq_true, Bool.or_eq_true, Bool.and_eq_false_iff, Bool.or_eq_false_iff, decide_eq_true_eq, decide_eq_false_iff_not, Bool.not_eq_true', Bool.not_eq_false', Int.not_lt, Int.not_le] at hl56
      have hl57 : (decide (p.pgroup = 2)) = true := hb55.2
      have hl57 := of_decide_eq_true hl57
      exact fa38_0 rfl ⟨rfl, rfl⟩
    refine stcP (V := .pointer (some ⟨b6, 8, none⟩)) rfl rfl (fun hb58 => ?_) ?_
    · have hl59 : ((decide (p.pgroup = 1)) && (decide (e.ev.agg = gi))) = false := hb58.1
      simp only [Bool.and_eq_true, Bool.or_eq_true, Bool.and_eq_false_iff, Bool.or_eq_false_iff, decide_eq_true_eq, decide_eq_false_iff_not, Bool.not_eq_true', Bool.not_eq_false', Int.not_lt, Int.not_le] at hl59
      have hl60 : (decide (p.pgroup = 2)) = true := hb58.2
      have hl60 := of_decide_eq_true hl60
      exact fa36_7 (show _ = (.pointer (some ⟨b6, 0, none⟩) : Value) from (if_pos ⟨hb58.1, hb58.2⟩)) ⟨rfl, rfl⟩
    refine stcP (V := .int .i64 (e.ev.arg)) rfl rfl (fun hb61 => ?_) ?_
    · have hl62 : ((decide (p.pgroup = 1)) && (decide (e.ev.agg = gi))) = false := hb61.1
      simp only [Bool.and_eq_true, Bool.or_eq_true, Bool.and_eq_false_iff, Bool.or_eq_false_iff, decide_eq_true_eq, decide_eq_false_iff_not, Bool.not_eq_true', Bool.not_eq_false', Int.not_lt, Int.not_le] at hl62
      have hl63 : (decide (p.pgroup = 2)) = true := hb61.2
      have hl63 := of_decide_eq_true hl63
      exact ov_load1 (v := .int .i64 (e.ev.arg)) Try.isAgg3 (show _ = (.pointer (some ⟨b6, 8, none⟩) : Value) from (if_pos ⟨hb61.1, hb61.2⟩)) (blk_cellL hb7 rfl) ⟨rfl, rfl⟩
    refine stcP (V := .int .i64 (gi)) rfl rfl (fun hb64 => ?_) ?_
    · have hl65 : ((decide (p.pgroup = 1)) && (decide (e.ev.agg = gi))) = false := hb64.1
      simp only [Bool.and_eq_true, Bool.or_eq_true, Bool.and_eq_false_iff, Bool.or_eq_false_iff, decide_eq_true_eq, decide_eq_false_iff_not, Bool.not_eq_true', Bool.not_eq_false', Int.not_lt, Int.not_le] at hl65
      have hl66 : (decide (p.pgroup = 2)) = true := hb64.2
      have hl66 := of_decide_eq_true hl66
      exact ov_move (v := .int .i64 (gi)) rfl ⟨rfl, rfl⟩
    refine stcP (V := .bool (decide (e.ev.arg = gi))) rfl rfl (fun hb67 => ?_) ?_
    · have hl68 : ((decide (p.pgroup = 1)) && (decide (e.ev.agg = gi))) = false := hb67.1
      simp only [Bool.and_eq_true, Bool.or_eq_true, Bool.and_eq_false_iff, Bool.or_eq_false_iff, decide_eq_true_eq, decide_eq_false_iff_not, Bool.not_eq_true', Bool.not_eq_false', Int.not_lt, Int.not_le] at hl68
      have hl69 : (decide (p.pgroup = 2)) = true := hb67.2
      have hl69 := of_decide_eq_true hl69
      exact ov_eql (k := .i64) (a := e.ev.arg) (b := gi) (show _ = (.int .i64 (e.ev.arg) : Value) from (if_pos ⟨hb67.1, hb67.2⟩)) (show _ = (.int .i64 (gi) : Value) from (if_pos ⟨hb67.1, hb67.2⟩)) ⟨rfl, rfl⟩
    refine stc (V := .bool ((decide (p.pgroup = 2)) && (decide (e.ev.arg = gi)))) rfl rfl (fun hb70 => ?_) ?_
    · have hl71 : ((decide (p.pgroup = 1)) && (decide (e.ev.agg = gi))) = false := hb70
      simp only [Bool.and_eq_true, Bool.or_eq_true, Bool.and_eq_false_iff, Bool.or_eq_false_iff, decide_eq_true_eq, decide_eq_false_iff_not, Bool.not_eq_true', Bool.not_eq_false', Int.not_lt, Int.not_le] at hl71
      exact ov_pick_and (b := decide (p.pgroup = 2)) (b' := decide (e.ev.arg = gi)) (show _ = (.bool (decide (p.pgroup = 2)) : Value) from (if_pos hb70)) (fun hbp => (show _ = (.bool (decide (e.ev.arg = gi)) : Value) from (if_pos ⟨hb70, hbp⟩))) ⟨rfl, rfl⟩
    refine st (ov_pick_or (b := (decide (p.pgroup = 1)) && (decide (e.ev.agg = gi))) (b' := (decide (p.pgroup = 2)) && (decide (e.ev.arg = gi))) rfl (fun hbp => (show _ = (.bool ((decide (p.pgroup = 2)) && (decide (e.ev.arg = gi))) : Value) from (if_pos hbp))) ?_)
    refine st (ov_move (v := .bool (((decide (p.pgroup = 1)) && (decide (e.ev.agg = gi))) || ((decide (p.pgroup = 2)) && (decide (e.ev.arg = gi))))) rfl ?_)
    refine stc (V := .pointer (some ⟨b2, 2, none⟩)) rfl rfl (fun hb72 => ?_) ?_
    · have hl73 : (((decide (p.pgroup = 1)) && (decide (e.ev.agg = gi))) || ((decide (p.pgroup = 2)) && (decide (e.ev.arg = gi)))) = false := hb72
      simp only [Bool.and_eq_true, Bool.or_eq_true, Bool.and_eq_false_iff, Bool.or_eq_false_iff, decide_eq_true_eq, decide_eq_false_iff_not, Bool.not_eq_true', Bool.not_eq_false', Int.not_lt, Int.not_le] at hl73
      exact fa23_2 rfl ⟨rfl, rfl⟩
    refine stc (V := .int .i64 (p.pgroup)) rfl rfl (fun hb74 => ?_) ?_
    · have hl75 : (((decide (p.pgroup = 1)) && (decide (e.ev.agg = gi))) || ((decide (p.pgroup = 2)) && (decide (e.ev.arg = gi)))) = false := hb74
      simp only [Bool.and_eq_true, Bool.or_eq_true, Bool.and_eq_false_iff, Bool.or_eq_false_iff, decide_eq_true_eq, decide_eq_false_iff_not, Bool.not_eq_true', Bool.not_eq_false', Int.not_lt, Int.not_le] at hl75
      exact ov_load1 (v := .int .i64 (p.pgroup)) Try.isAgg3 (show _ = (.pointer (some ⟨b2, 2, none⟩) : Value) from (if_pos hb74)) (blk_cellL h36 rfl) ⟨rfl, rfl⟩
    refine stc (V := .bool (decide (p.pgroup = 3))) rfl rfl (fun hb76 => ?_) ?_
    · have hl77 : (((decide (p.pgroup = 1)) && (decide (e.ev.agg = gi))) || ((decide (p.pgroup = 2)) && (decide (e.ev.arg = gi)))) = false := hb76
      simp only [Bool.and_eq_true, Bool.or_eq_true, Bool.and_eq_false_iff, Bool.or_eq_false_iff, decide_eq_true_eq, decide_eq_false_iff_not, Bool.not_eq_true', Bool.not_eq_false', Int.not_lt, Int.not_le] at hl77
      exact ov_eql (k := .i64) (a := p.pgroup) (b := 3) (show _ = (.int .i64 (p.pgroup) : Value) from (if_pos hb76)) rfl ⟨rfl, rfl⟩
    refine stc (V := .bool (decide (p.pgroup = 3))) rfl rfl (fun hb78 => ?_) ?_
    · have hl79 : (((decide (p.pgroup = 1)) && (decide (e.ev.agg = gi))) || ((decide (p.pgroup = 2)) && (decide (e.ev.arg = gi)))) = false := hb78
      simp only [Bool.and_eq_true, Bool.or_eq_true, Bool.and_eq_false_iff, Bool.or_eq_false_iff, decide_eq_true_eq, decide_eq_false_iff_not, Bool.not_eq_true', Bool.not_eq_false', Int.not_lt, Int.not_le] at hl79
      exact ov_move (v := .bool (decide (p.pgroup = 3))) (show _ = (.bool (decide (p.pgroup = 3)) : Value) from (if_pos hb78)) ⟨rfl, rfl⟩
    refine stcP (V := .int .i64 (ri)) rfl rfl (fun hb80 => ?_) ?_
    · have hl81 : (((decide (p.pgroup = 1)) && (decide (e.ev.agg = gi))) || ((decide (p.pgroup = 2)) && (decide (e.ev.arg = gi)))) = false := hb80.1
      simp only [Bool.and_eq_true, Bool.or_eq_true, Bool.and_eq_false_iff, Bool.or_eq_false_iff, decide_eq_true_eq, decide_eq_false_iff_not, Bool.not_eq_true', Bool.not_eq_false', Int.not_lt, Int.not_le] at hl81
      have hl82 : (decide (p.pgroup = 3)) = true := hb80.2
      have hl82 := of_decide_eq_true hl82
      exact ov_move (v := .int .i64 (ri)) rfl ⟨rfl, rfl⟩
    refine stcP (V := .int .i64 (gi)) rfl rfl (fun hb83 => ?_) ?_
    · have hl84 : (((decide (p.pgroup = 1)) && (decide (e.ev.agg = gi))) || ((decide (p.pgroup = 2)) && (decide (e.ev.arg = gi)))) = false := hb83.1
      simp only [Bool.and_eq_true, Bool.or_eq_true, Bool.and_eq_false_iff, Bool.or_eq_false_iff, decide_eq_true_eq, decide_eq_false_iff_not, Bool.not_eq_true', Bool.not_eq_false', Int.not_lt, Int.not_le] at hl84
      have hl85 : (decide (p.pgroup = 3)) = true := hb83.2
      have hl85 := of_decide_eq_true hl85
      exact ov_move (v := .int .i64 (gi)) rfl ⟨rfl, rfl⟩
    refine stcP (V := .bool (decide (ri = gi))) rfl rfl (fun hb86 => ?_) ?_
    · have hl87 : (((decide (p.pgroup = 1)) && (decide (e.ev.agg = gi))) || ((decide (p.pgroup = 2)) && (decide (e.ev.arg = gi)))) = false := hb86.1
      simp only [Bool.and_eq_true, Bool.or_eq_true, Bool.and_eq_false_iff, Bool.or_eq_false_iff, decide_eq_true_eq, decide_eq_false_iff_not, Bool.not_eq_true', Bool.not_eq_false', Int.not_lt, Int.not_le] at hl87
      have hl88 : (decide (p.pgroup = 3)) = true := hb86.2
      have hl88 := of_decide_eq_true hl88
      exact ov_eql (k := .i64) (a := ri) (b := gi) (show _ = (.int .i64 (ri) : Value) from (if_pos ⟨hb86.1, hb86.2⟩)) (show _ = (.int .i64 (gi) : Value) from (if_pos ⟨hb86.1, hb86.2⟩)) ⟨rfl, rfl⟩
    refine stc (V := .bool ((decide (p.pgroup = 3)) && (decide (ri = gi)))) rfl rfl (fun hb89 => ?_) ?_
    · have hl90 : (((decide (p.pgroup = 1)) && (decide (e.ev.agg = gi))) || ((decide (p.pgroup = 2)) && (decide (e.ev.arg = gi)))) = false := hb89
      simp only [Bool.and_eq_true, Bool.or_eq_true, Bool.and_eq_false_iff, Bool.or_eq_false_iff, decide_eq_true_eq, decide_eq_false_iff_not, Bool.not_eq_true', Bool.not_eq_false', Int.not_lt, Int.not_le] at hl90
      exact ov_pick_and (b := decide (p.pgroup = 3)) (b' := decide (ri = gi)) (show _ = (.bool (decide (p.pgroup = 3)) : Value) from (if_pos hb89)) (fun hbp => (show _ = (.bool (decide (ri = gi)) : Value) from (if_pos ⟨hb89, hbp⟩))) ⟨rfl, rfl⟩
    refine st (ov_pick_or (b := ((decide (p.pgroup = 1)) && (decide (e.ev.agg = gi))) || ((decide (p.pgroup = 2)) && (decide (e.ev.arg = gi)))) (b' := (decide (p.pgroup = 3)) && (decide (ri = gi))) rfl (fun hbp => (show _ = (.bool ((decide (p.pgroup = 3)) && (decide (ri = gi))) : Value) from (if_pos hbp))) ?_)
    refine st (ov_assign (v := .bool ((((decide (p.pgroup = 1)) && (decide (e.ev.agg = gi))) || ((decide (p.pgroup = 2)) && (decide (e.ev.arg = gi)))) || ((decide (p.pgroup = 3)) && (decide (ri = gi))))) rfl ?_)
    refine st_nil ?_
    refine WP_ret ?_
    refine fin1 Try.results12 (show _ = (.bool ((((decide (p.pgroup = 1)) && (decide (e.ev.agg = gi))) || ((decide (p.pgroup = 2)) && (decide (e.ev.arg = gi)))) || ((decide (p.pgroup = 3)) && (decide (ri = gi)))) : Value) from rfl) ?_
    refine ⟨?_, (Chg.trans hn1.ext hn5.ext)⟩
    congr 1
    rw [Bool.eq_iff_iff, cntD_iff]
    obtain ⟨⟨h1, h2⟩, h3⟩ := hc35
    simp only [Bool.and_eq_true, Bool.or_eq_true, decide_eq_true_eq]
    constructor
    · rintro ((⟨ha, hb⟩ | ⟨ha, hb⟩) | ⟨ha, hb⟩)
      · exact ⟨⟨h1, h2, h3⟩, .inl ⟨ha, hb⟩⟩
      · exact ⟨⟨h1, h2, h3⟩, .inr (.inl ⟨ha, hb⟩)⟩
      · exact ⟨⟨h1, h2, h3⟩, .inr (.inr ⟨ha, hb⟩)⟩
    · rintro ⟨_, ⟨ha, hb⟩ | ⟨ha, hb⟩ | ⟨ha, hb⟩⟩
      · exact .inl (.inl ⟨ha, hb⟩)
      · exact .inl (.inr ⟨ha, hb⟩)
      · exact .inr ⟨ha, hb⟩
  · skip
    simp only [Bool.and_eq_true, Bool.or_eq_true, Bool.and_eq_false_iff, Bool.or_eq_false_iff, decide_eq_true_eq, decide_eq_false_iff_not, Bool.not_eq_true', Bool.not_eq_false', Int.not_lt, Int.not_le] at hc35
    refine WP_cond_t rfl ?_
    refine WP_seq ?_
    refine WP_region0 (by kernel_rfl) (fun _ => ?_)
    refine st (ov_assign (v := .bool false) rfl ?_)
    refine st_nil ?_
    refine WP_ret ?_
    refine fin1 Try.results12 (show _ = (.bool false : Value) from rfl) ?_
    refine ⟨?_, (Chg.trans hn1.ext hn5.ext)⟩
    have hz : cntD p e gi ri = false := by
      cases hq : cntD p e gi ri with
      | false => rfl
      | true =>
        obtain ⟨⟨h1, h2, h3⟩, _⟩ := cntD_iff.1 hq
        rcases hc35 with (h | h) | h
        · rw [h] at h1; cases h1
        · exact absurd h2 h
        · exact absurd h3 h
    rw [hz]

end Go.Proofs.Ytbbpmhfcgoljdaa
