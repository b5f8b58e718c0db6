/- Steps of the proofs of this seat: part LJoins. -/
import Derived.Test.YtbbpmhfcgoljdaaJ0
import Derived.Test.YtbbpmhfcgoljdaaLMeans
set_option linter.unusedSimpArgs false
set_option linter.unusedVariables false
namespace Go.Proofs.Ytbbpmhfcgoljdaa
open Go.Proofs Go.RowKit

set_option maxHeartbeats 4000000 in
theorem C_ProjJoins {w : World} {p : Prj} (op : p.Ok) {Fl : Nat → Prop} {vl : Value} {l : List Ent} (hl0 : RdS w Fl vl l) {Fm : Nat → Prop} {vm : Value} {m : List Ent} (hm0 : RdS w Fm vm m) {rg : Int} (hrg : InR rg) : Ret Try.prog 6 [.agg (p.cells).toArray, vl, vm, .int .i64 (rg)] w (fun r w' => r = .bool true ∧ Ext w w') := by
  have hl := hl0.bnd
  have hls : l.length * 120 ≤ 140737488355328 := hl.small
  have hm := hm0.bnd
  have hms : m.length * 120 ≤ 140737488355328 := hm.small
  refine Calls_of_WP (args := [.agg (p.cells).toArray, vl, vm, .int .i64 (rg)]) Try.func6 rfl rfl ?_
  refine WP_seq ?_
  refine WP_region0 (by kernel_rfl) (fun _ => ?_)
  refine st (ov_box (v := .agg (p.cells).toArray) rfl (fun w1 b2 hn1 => ?_))
  have hb3 : w1.heap[b2]? = some (.cells (p.cells).toArray 23) := hn1.at_
  have hs4 := hn1.size; have hs4e := hn1.eq
  refine st (ov_assign (v := .bool false) rfl ?_)
  refine st_nil ?_
  refine WP_seq ?_
  refine WP_seq ?_
  refine WP_region (by kernel_rfl) ?_
  refine st (ov_move (v := vl) rfl ?_)
  have h8 := hl.ext hn1.ext
  refine st (ov_call (f := 9) (vals := [vl]) (cap := []) (show _ = (.func (.func 9) #[] #[] : Value) from rfl) rfl Try.call9 (C_Long h8) ?_)
  rintro _ w2 ⟨bb5, rfl, hlong7, hx6⟩
  have hx6s := hx6.size
  refine st (ov_move (v := .bool bb5) rfl ?_)
  cases hg9 : bb5
  · skip
    have hlq := hg9
    refine sty rfl rfl (ov_move (v := vm) rfl ?_)
    have h13 := hm.ext (Chg.trans hn1.ext hx6)
    refine sty rfl rfl (ov_call (f := 9) (vals := [vm]) (cap := []) (show _ = (.func (.func 9) #[] #[] : Value) from rfl) rfl Try.call9 (C_Long h13) ?_)
    rintro _ w3 ⟨bb10, rfl, hlong12, hx11⟩
    have hx11s := hx11.size
    refine st (ov_pick_f (v := .bool bb10) rfl rfl ?_)
    refine st (ov_move (v := .bool bb10) rfl ?_)
    refine stc (V := .pointer (some ⟨b2, 4, none⟩)) rfl rfl (fun hb14 => ?_) ?_
    · have hl15 : bb10 = false := hb14
      exact fa23_4 rfl ⟨rfl, rfl⟩
    refine stc (V := .int .i64 (p.pmake)) rfl rfl (fun hb16 => ?_) ?_
    · have hl17 : bb10 = false := hb16
      have h18 := (Chg.trans hx6 hx11).keep hb3 (fun h => h)
      exact ov_load1 (v := .int .i64 (p.pmake)) Try.isAgg3 (show _ = (.pointer (some ⟨b2, 4, none⟩) : Value) from (if_pos hb16)) (blk_cellL h18 rfl) ⟨rfl, rfl⟩
    refine stc (V := .bool (decide (p.pmake < 1))) rfl rfl (fun hb19 => ?_) ?_
    · have hl20 : bb10 = false := hb19
      exact ov_lss (k := .i64) (a := p.pmake) (b := 1) (show _ = (.int .i64 (p.pmake) : Value) from (if_pos hb19)) rfl ⟨rfl, rfl⟩
    refine st (ov_pick_or (b := bb10) (b' := decide (p.pmake < 1)) rfl (fun hbp => (show _ = (.bool (decide (p.pmake < 1)) : Value) from (if_pos hbp))) ?_)
    refine st (ov_move (v := .bool (bb10 || (decide (p.pmake < 1)))) rfl ?_)
    refine stc (V := .pointer (some ⟨b2, 4, none⟩)) rfl rfl (fun hb21 => ?_) ?_
    · have hl22 : (bb10 || (decide (p.pmake < 1))) = false := hb21
      simp only [Bool.and_eq_true, Bool.or_eq_true, Bool.and_eq_false_iff, Bool.or_eq_false_iff, decide_eq_true_eq, decide_eq_false_iff_not, Bool.not_eq_true', Bool.not_eq_false', Int.not_lt, Int.not_le] at hl22
      exact fa23_4 rfl ⟨rfl, rfl⟩
    refine stc (V := .int .i64 (p.pmake)) rfl rfl (fun hb23 => ?_) ?_
    · have hl24 : (bb10 || (decide (p.pmake < 1))) = false := hb23
      simp only [Bool.and_eq_true, Bool.or_eq_true, Bool.and_eq_false_iff, Bool.or_eq_false_iff, decide_eq_true_eq, decide_eq_false_iff_not, Bool.not_eq_true', Bool.not_eq_false', Int.not_lt, Int.not_le] at hl24
      have h25 := (Chg.trans hx6 hx11).keep hb3 (fun h => h)
      exact ov_load1 (v := .int .i64 (p.pmake)) Try.isAgg3 (show _ = (.pointer (some ⟨b2, 4, none⟩) : Value) from (if_pos hb23)) (blk_cellL h25 rfl) ⟨rfl, rfl⟩
    refine stc (V := .bool (decide (4 < p.pmake))) rfl rfl (fun hb26 => ?_) ?_
    · have hl27 : (bb10 || (decide (p.pmake < 1))) = false := hb26
      simp only [Bool.and_eq_true, Bool.or_eq_true, Bool.and_eq_false_iff, Bool.or_eq_false_iff, decide_eq_true_eq, decide_eq_false_iff_not, Bool.not_eq_true', Bool.not_eq_false', Int.not_lt, Int.not_le] at hl27
      exact ov_gtr (k := .i64) (a := p.pmake) (b := 4) (show _ = (.int .i64 (p.pmake) : Value) from (if_pos hb26)) rfl ⟨rfl, rfl⟩
    refine st (ov_pick_or (b := bb10 || (decide (p.pmake < 1))) (b' := decide (4 < p.pmake)) rfl (fun hbp => (show _ = (.bool (decide (4 < p.pmake)) : Value) from (if_pos hbp))) ?_)
    refine st_nil ?_
    cases hc28 : (bb10 || (decide (p.pmake < 1))) || (decide (4 < p.pmake))
    · skip
      simp only [Bool.and_eq_true, Bool.or_eq_true, Bool.and_eq_false_iff, Bool.or_eq_false_iff, decide_eq_true_eq, decide_eq_false_iff_not, Bool.not_eq_true', Bool.not_eq_false', Int.not_lt, Int.not_le] at hc28
      have hl300 := hlong7 (by first | exact hlq | exact (hc28).1.1)
      have hm300 := hlong12 (hc28).1.1
      refine WP_cond_f rfl ?_
      refine WP_skip ?_
      refine WP_seq ?_
      refine WP_region0 (by kernel_rfl) (fun _ => ?_)
      refine st (ov_move (v := .int .i64 (rg)) rfl ?_)
      refine st (ov_buildSlice (k := 1) (parts' := [(0, .int .i64 (rg))]) (c := #[.int .i64 (rg)]) Try.underlying25 Try.sizeOf3 Try.zeroValue3 (by decide) rfl (by kernel_rfl) (fun w4 b30 hn29 => ?_))
      have hb31 : w4.heap[b30]? = some (.cells #[.int .i64 (rg)] 3) := hn29.at_
      have hs32 := hn29.size; have hs32e := hn29.eq
      have hrd33 : RdS (α := Int) w4 (fun _ => True) ((.slice (some ⟨b30, 0, none⟩) 1 1)) [rg] := RdS.ints (l := [rg]) hb31 ⟨hrg, trivial⟩
      refine st (ov_assign (v := (.slice (some ⟨b30, 0, none⟩) 1 1)) rfl ?_)
      refine st_nil ?_
      refine WP_seq ?_
      refine WP_region0 (by kernel_rfl) (fun _ => ?_)
      have h34 := (Chg.trans (Chg.trans hx6 hx11) hn29.ext).keep hb3 (fun h => h)
      refine st (ov_loadk (k := 5) Try.isAgg23 Try.sizeOf23 rfl rfl (CellsAt.all h34) ?_)
      refine st (ov_move (v := vl) rfl ?_)
      refine st (ov_move (v := (.slice (some ⟨b30, 0, none⟩) 1 1)) rfl ?_)
      have h35 := h8.ext (Chg.trans (Chg.trans hx6 hx11) hn29.ext)
      refine st (ov_call (f := 11) (vals := [.agg (p.cells).toArray, vl, (.slice (some ⟨b30, 0, none⟩) 1 1)]) (cap := []) (show _ = (.func (.func 11) #[] #[] : Value) from rfl) rfl Try.call11 (C_all op h35 hrd33 (by omega)) ?_)
      rintro v38 w5 ⟨hx36, hf37⟩
      have hx36s := hx36.size
      have hf37r := hf37.rd
      refine st (ov_assign (v := v38) rfl ?_)
      refine st_nil ?_
      refine WP_seq ?_
      refine WP_region0 (by kernel_rfl) (fun _ => ?_)
      have h39 := hx36.keep h34 (fun h => h)
      refine st (ov_loadk (k := 5) Try.isAgg23 Try.sizeOf23 rfl rfl (CellsAt.all h39) ?_)
      refine st (ov_move (v := vm) rfl ?_)
      refine st (ov_move (v := (.slice (some ⟨b30, 0, none⟩) 1 1)) rfl ?_)
      have h40 := h13.ext (Chg.trans (Chg.trans hx11 hn29.ext) hx36)
      have h41 := hrd33.ext hx36
      refine st (ov_call (f := 11) (vals := [.agg (p.cells).toArray, vm, (.slice (some ⟨b30, 0, none⟩) 1 1)]) (cap := []) (show _ = (.func (.func 11) #[] #[] : Value) from rfl) rfl Try.call11 (C_all op h40 h41 (by omega)) ?_)
      rintro v44 w6 ⟨hx42, hf43⟩
      have hx42s := hx42.size
      have hf43r := hf43.rd
      refine st (ov_assign (v := v44) rfl ?_)
      refine st_nil ?_
      refine WP_seq ?_
      have hX45 : ∀ k vals wq, (WV [fun vals wq => Ext w6 wq, fun vals wq => OwnS (α := Ent) 38 (w6.heap.size) wq (fun b => b < w6.heap.size) (vals 1) ([]) ∧ Ext w6 wq, fun vals wq => OwnS (α := Ent) 38 (w6.heap.size) wq (fun b => b < w6.heap.size) (vals 3) (l) ∧ Ext w6 wq, fun vals wq => OwnS (α := Ent) 38 (w6.heap.size) wq (fun b => b < w6.heap.size) (vals 5) (l ++ m) ∧ Ext w6 wq, fun vals wq => Fresh (α := Row) 31 (w6.heap.size) wq (vals 7) (rowsL p (l ++ m) [rg]) ∧ Ext w6 wq, fun vals wq => Fresh (α := Row) 31 (w6.heap.size) wq (vals 8) (rowsL p (l ++ m) [rg]) ∧ Ext w6 wq]) k vals wq → k ≤ 5 → Ext w6 wq := by
        intro k vals wq h hk
        rcases k with _ | _ | _ | _ | _ | _ | k
        · exact h
        · exact h.2
        · exact h.2
        · exact h.2
        · exact h.2
        · exact h.2
        · omega
      have h46 := h35.ext (Chg.trans hx36 hx42)
      have h47 := h40.ext hx42
      have h48 := h41.ext hx42
      have qhl : RdS w6 (fun b => b < w6.heap.size) _ _ := RdS.weak h46 (fun b _ hb => (by have hb : b < w.heap.size := hb; show b < w6.heap.size; omega))
      have qhm : RdS w6 (fun b => b < w6.heap.size) _ _ := RdS.weak h47 (fun b _ hb => (by have hb : b < w.heap.size := hb; show b < w6.heap.size; omega))
      have qhg := h48
      refine WP_draw3 (WV [fun vals wq => Ext w6 wq, fun vals wq => OwnS (α := Ent) 38 (w6.heap.size) wq (fun b => b < w6.heap.size) (vals 1) ([]) ∧ Ext w6 wq, fun vals wq => OwnS (α := Ent) 38 (w6.heap.size) wq (fun b => b < w6.heap.size) (vals 3) (l) ∧ Ext w6 wq, fun vals wq => OwnS (α := Ent) 38 (w6.heap.size) wq (fun b => b < w6.heap.size) (vals 5) (l ++ m) ∧ Ext w6 wq, fun vals wq => Fresh (α := Row) 31 (w6.heap.size) wq (vals 7) (rowsL p (l ++ m) [rg]) ∧ Ext w6 wq, fun vals wq => Fresh (α := Row) 31 (w6.heap.size) wq (vals 8) (rowsL p (l ++ m) [rg]) ∧ Ext w6 wq]) (AV [fun v => v = (.agg (p.cells).toArray : Value), fun v => True, fun v => v = (vl : Value), fun v => True, fun v => v = (vm : Value), fun v => True, fun v => v = ((.slice (some ⟨b30, 0, none⟩) 1 1) : Value), fun v => True, fun v => True]) [[], [], [], [1, 2], [], [1, 2, 3, 4], [], [0, 1, 2, 3, 4, 5, 6], [0, 1, 2, 3, 4, 5, 6, 7]] [1, 3, 5, 7, 8] [none, some (0, 1), none, some (1, 2), none, some (2, 3), none, some (3, 4), some (4, 5)] (by kernel_rfl) (by kernel_rfl) (by kernel_rfl) rfl (by kernel_rfl) (by kernel_rfl) (fun _ h1 h2 h3 h4 _ => ext_same h1 h2 h3 h4) ?_ ⟨?_, ?_, ?_, ?_, ?_, ?_, ?_, ?_, ?_, trivial⟩ ?_
      · intro k vals vals' wq hv h
        rcases k with _ | _ | _ | _ | _ | _ | k
        · exact h
        · show OwnS (α := Ent) 38 (w6.heap.size) wq (fun b => b < w6.heap.size) (vals' 1) ([]) ∧ Ext w6 wq
          rw [hv 1 (by decide)]; exact h
        · show OwnS (α := Ent) 38 (w6.heap.size) wq (fun b => b < w6.heap.size) (vals' 3) (l) ∧ Ext w6 wq
          rw [hv 3 (by decide)]; exact h
        · show OwnS (α := Ent) 38 (w6.heap.size) wq (fun b => b < w6.heap.size) (vals' 5) (l ++ m) ∧ Ext w6 wq
          rw [hv 5 (by decide)]; exact h
        · show Fresh (α := Row) 31 (w6.heap.size) wq (vals' 7) (rowsL p (l ++ m) [rg]) ∧ Ext w6 wq
          rw [hv 7 (by decide)]; exact h
        · show Fresh (α := Row) 31 (w6.heap.size) wq (vals' 8) (rowsL p (l ++ m) [rg]) ∧ Ext w6 wq
          rw [hv 8 (by decide)]; exact h
        · exact trivial
      · intro vals w7 hk hA
        obtain ⟨k, hk, hW⟩ : ∃ k, k ≤ 5 ∧ (WV [fun vals wq => Ext w6 wq, fun vals wq => OwnS (α := Ent) 38 (w6.heap.size) wq (fun b => b < w6.heap.size) (vals 1) ([]) ∧ Ext w6 wq, fun vals wq => OwnS (α := Ent) 38 (w6.heap.size) wq (fun b => b < w6.heap.size) (vals 3) (l) ∧ Ext w6 wq, fun vals wq => OwnS (α := Ent) 38 (w6.heap.size) wq (fun b => b < w6.heap.size) (vals 5) (l ++ m) ∧ Ext w6 wq, fun vals wq => Fresh (α := Row) 31 (w6.heap.size) wq (vals 7) (rowsL p (l ++ m) [rg]) ∧ Ext w6 wq, fun vals wq => Fresh (α := Row) 31 (w6.heap.size) wq (vals 8) (rowsL p (l ++ m) [rg]) ∧ Ext w6 wq]) k vals w7 := hk
        have hX1 := hX45 k vals w7 hW hk
        have hXs := hX1.size
        have h49 := (Chg.trans hx42 hX1).keep h39 (fun h => h)
        exact ⟨rfl, ov_loadk (k := 5) Try.isAgg23 Try.sizeOf23 rfl rfl (CellsAt.all h49) ⟨rfl, rfl⟩⟩
      · intro vals wa hW hA
        have hW : Ext w6 wa := hW
        have hWs := hW.size
        refine ⟨rfl, ov_buildSlice (k := 13) (parts' := []) (c := #[]) Try.underlying24 Try.sizeOf38 Try.zeroValue38 (by decide) rfl (by kernel_rfl) (fun w2 b hn => ?_)⟩
        have hb := hn.at_; have hs := hn.size; have hse := hn.eq
        refine ⟨fun vals' e _ => ?_, trivial⟩
        show OwnS (α := Ent) 38 (w6.heap.size) w2 (fun b => b < w6.heap.size) (vals' 1) ([]) ∧ Ext w6 w2
        rw [e]
        exact ⟨OwnS.made hb (by omega) (by show ¬ b < w6.heap.size; omega) (fun i hi => by have hi : i < w6.heap.size := hi; exact ⟨by omega, fun h => by omega⟩), hW.trans hn.ext⟩
      · intro vals w8 hk hA
        obtain ⟨k, hk, hW⟩ : ∃ k, k ≤ 5 ∧ (WV [fun vals wq => Ext w6 wq, fun vals wq => OwnS (α := Ent) 38 (w6.heap.size) wq (fun b => b < w6.heap.size) (vals 1) ([]) ∧ Ext w6 wq, fun vals wq => OwnS (α := Ent) 38 (w6.heap.size) wq (fun b => b < w6.heap.size) (vals 3) (l) ∧ Ext w6 wq, fun vals wq => OwnS (α := Ent) 38 (w6.heap.size) wq (fun b => b < w6.heap.size) (vals 5) (l ++ m) ∧ Ext w6 wq, fun vals wq => Fresh (α := Row) 31 (w6.heap.size) wq (vals 7) (rowsL p (l ++ m) [rg]) ∧ Ext w6 wq, fun vals wq => Fresh (α := Row) 31 (w6.heap.size) wq (vals 8) (rowsL p (l ++ m) [rg]) ∧ Ext w6 wq]) k vals w8 := hk
        have hX1 := hX45 k vals w8 hW hk
        have hXs := hX1.size
        exact ⟨rfl, ov_move (v := vl) rfl ⟨rfl, rfl⟩⟩
      · intro vals wa hW hA
        have hW : OwnS (α := Ent) 38 (w6.heap.size) wa (fun b => b < w6.heap.size) (vals 1) ([]) ∧ Ext w6 wa := hW
        have hWs := hW.2.size
        have e2 : vals 2 = (vl : Value) := hA 2 (by decide)
        refine ⟨rfl, ov_append (bytes := 120) (F' := (fun b => b < w6.heap.size)) elem24 (show _ = vals 1 from rfl) hW.1 (show _ = (vl : Value) from e2) (qhl.ext hW.2) (fun _ h => h) (fun _ _ h => h) hW.1.apart hW.1.bound hWs (by first | omega | (simp only [List.length_nil]; omega)) rfl (fun v' w2 ho hch => ?_)⟩
        refine ⟨fun vals' e _ => ?_, trivial⟩
        show OwnS (α := Ent) 38 (w6.heap.size) w2 (fun b => b < w6.heap.size) (vals' 3) (l) ∧ Ext w6 w2
        rw [e]
        exact ⟨ho, hW.2.new hch (fun i hi hO => absurd (hW.1.lt i hO).1 (by omega))⟩
      · intro vals w9 hk hA
        obtain ⟨k, hk, hW⟩ : ∃ k, k ≤ 5 ∧ (WV [fun vals wq => Ext w6 wq, fun vals wq => OwnS (α := Ent) 38 (w6.heap.size) wq (fun b => b < w6.heap.size) (vals 1) ([]) ∧ Ext w6 wq, fun vals wq => OwnS (α := Ent) 38 (w6.heap.size) wq (fun b => b < w6.heap.size) (vals 3) (l) ∧ Ext w6 wq, fun vals wq => OwnS (α := Ent) 38 (w6.heap.size) wq (fun b => b < w6.heap.size) (vals 5) (l ++ m) ∧ Ext w6 wq, fun vals wq => Fresh (α := Row) 31 (w6.heap.size) wq (vals 7) (rowsL p (l ++ m) [rg]) ∧ Ext w6 wq, fun vals wq => Fresh (α := Row) 31 (w6.heap.size) wq (vals 8) (rowsL p (l ++ m) [rg]) ∧ Ext w6 wq]) k vals w9 := hk
        have hX1 := hX45 k vals w9 hW hk
        have hXs := hX1.size
        exact ⟨rfl, ov_move (v := vm) rfl ⟨rfl, rfl⟩⟩
      · intro vals wa hW hA
        have hW : OwnS (α := Ent) 38 (w6.heap.size) wa (fun b => b < w6.heap.size) (vals 3) (l) ∧ Ext w6 wa := hW
        have hWs := hW.2.size
        have e4 : vals 4 = (vm : Value) := hA 4 (by decide)
        refine ⟨rfl, ov_append (bytes := 120) (F' := (fun b => b < w6.heap.size)) elem24 (show _ = vals 3 from rfl) hW.1 (show _ = (vm : Value) from e4) (qhm.ext hW.2) (fun _ h => h) (fun _ _ h => h) hW.1.apart hW.1.bound hWs (by first | omega | (simp only [List.length_nil]; omega)) rfl (fun v' w2 ho hch => ?_)⟩
        refine ⟨fun vals' e _ => ?_, trivial⟩
        show OwnS (α := Ent) 38 (w6.heap.size) w2 (fun b => b < w6.heap.size) (vals' 5) (l ++ m) ∧ Ext w6 w2
        rw [e]
        exact ⟨ho, hW.2.new hch (fun i hi hO => absurd (hW.1.lt i hO).1 (by omega))⟩
      · intro vals w10 hk hA
        obtain ⟨k, hk, hW⟩ : ∃ k, k ≤ 5 ∧ (WV [fun vals wq => Ext w6 wq, fun vals wq => OwnS (α := Ent) 38 (w6.heap.size) wq (fun b => b < w6.heap.size) (vals 1) ([]) ∧ Ext w6 wq, fun vals wq => OwnS (α := Ent) 38 (w6.heap.size) wq (fun b => b < w6.heap.size) (vals 3) (l) ∧ Ext w6 wq, fun vals wq => OwnS (α := Ent) 38 (w6.heap.size) wq (fun b => b < w6.heap.size) (vals 5) (l ++ m) ∧ Ext w6 wq, fun vals wq => Fresh (α := Row) 31 (w6.heap.size) wq (vals 7) (rowsL p (l ++ m) [rg]) ∧ Ext w6 wq, fun vals wq => Fresh (α := Row) 31 (w6.heap.size) wq (vals 8) (rowsL p (l ++ m) [rg]) ∧ Ext w6 wq]) k vals w10 := hk
        have hX1 := hX45 k vals w10 hW hk
        have hXs := hX1.size
        exact ⟨rfl, ov_move (v := (.slice (some ⟨b30, 0, none⟩) 1 1)) rfl ⟨rfl, rfl⟩⟩
      · intro vals wa hW hA
        have hW : OwnS (α := Ent) 38 (w6.heap.size) wa (fun b => b < w6.heap.size) (vals 5) (l ++ m) ∧ Ext w6 wa := hW
        have hWs := hW.2.size
        have e0 : vals 0 = (.agg (p.cells).toArray : Value) := hA 0 (by decide)
        have e6 : vals 6 = ((.slice (some ⟨b30, 0, none⟩) 1 1) : Value) := hA 6 (by decide)
        refine ⟨rfl, ov_call (f := 11) (vals := [.agg (p.cells).toArray, vals 5, (.slice (some ⟨b30, 0, none⟩) 1 1)]) (cap := []) (show _ = (.func (.func 11) #[] #[] : Value) from rfl) (mapL ⟨(show _ = (.agg (p.cells).toArray : Value) from e0), (show _ = (vals 5 : Value) from rfl), (show _ = ((.slice (some ⟨b30, 0, none⟩) 1 1) : Value) from e6), trivial⟩) Try.call11 (C_all op (hW.1.toRd (F' := fun _ => True) (fun _ _ => trivial) (fun _ _ => trivial)) (qhg.ext hW.2) (by rw [List.length_append]; omega)) (fun v' w2 h => ?_)⟩
        refine ⟨fun vals' e _ => ?_, trivial⟩
        show Fresh (α := Row) 31 (w6.heap.size) w2 (vals' 7) (rowsL p (l ++ m) [rg]) ∧ Ext w6 w2
        rw [e]
        exact ⟨h.2.low hWs, hW.2.trans h.1⟩
      · intro vals wa hW hA
        have hW : Fresh (α := Row) 31 (w6.heap.size) wa (vals 7) (rowsL p (l ++ m) [rg]) ∧ Ext w6 wa := hW
        refine ⟨rfl, ov_assign (v := vals 7) rfl ⟨fun vals' e _ => ?_, trivial⟩⟩
        show Fresh (α := Row) 31 (w6.heap.size) wa (vals' 8) (rowsL p (l ++ m) [rg]) ∧ Ext w6 wa
        rw [e]
        exact hW
      intro valsJ w11 hW50 hA
      have hW50 : Fresh (α := Row) 31 (w6.heap.size) w11 (valsJ 8) (rowsL p (l ++ m) [rg]) ∧ Ext w6 w11 := hW50
      have hs51 := hW50.2.size
      refine st_env (kv := [(4, .pointer (some ⟨b2, 0, none⟩)), (10, v38), (11, v44), (12, (valsJ 8))]) ⟨rfl, rfl, rfl, rfl, trivial⟩ (fun ρ11 => ?_)
      clear hA hX45
      have hW50r := hW50.1.rd
      refine st_nil ?_
      refine WP_seq ?_
      refine WP_seq ?_
      refine WP_region0 (by kernel_rfl) (fun _ => ?_)
      refine st (ov_assign (v := .int .i64 (0)) rfl ?_)
      refine st_nil ?_
      refine WP_block ?_
      have hRC := Nat.le_trans (rowsL_len p (l ++ m) [rg]) (by rw [List.length_append]; omega : (l ++ m).length ≤ 600); have hRA := Nat.le_trans (rowsL_len p l [rg]) hl300
      refine WP_loop (fun mq σ wq => ∃ (k : Nat) (ρ : Env), mq = (rowsL p (l ++ m) [rg]).length - k ∧ σ = setAll ρ [(4, .pointer (some ⟨b2, 0, none⟩)), (10, v38), (11, v44), (12, (valsJ 8)), (13, .int .i64 ((k : Nat) : Int))] ∧ (Ext w11 wq) ∧ (k ≤ (rowsL p (l ++ m) [rg]).length)) ⟨0, _, rfl, setAll_self ⟨rfl, rfl, rfl, rfl, rfl, trivial⟩, (Chg.refl _ _), Nat.zero_le _⟩ ?_
      rintro m54 σ55 w12 ⟨k, ρ12, rfl, rfl, hx52, hk53⟩
      have hx52s := hx52.size
      refine WP_seq ?_
      refine WP_seq ?_
      refine WP_region0 (by kernel_rfl) (fun _ => ?_)
      refine st (ov_move (v := .int .i64 ((k : Nat) : Int)) rfl ?_)
      refine st (ov_move (v := (valsJ 8)) rfl ?_)
      refine st (ov_len (n := (rowsL p (l ++ m) [rg]).length) Try.underlying28 rfl hW50r.sl ?_)
      refine st (ov_lss (k := .i64) (a := ((k : Nat) : Int)) (b := (((rowsL p (l ++ m) [rg]).length : Nat) : Int)) rfl rfl ?_)
      refine st_nil ?_
      cases hc56 : decide (((k : Nat) : Int) < (((rowsL p (l ++ m) [rg]).length : Nat) : Int))
      · skip
        have hc56 := of_decide_eq_false hc56
        refine WP_cond_f rfl ?_
        refine WP_exit ?_
        refine blk_exit ?_
        refine WP_seq ?_
        refine WP_seq ?_
        refine WP_region0 (by kernel_rfl) (fun _ => ?_)
        refine st (ov_assign (v := .int .i64 (0)) rfl ?_)
        refine st_nil ?_
        refine WP_block ?_
        refine WP_loop (fun mq σ wq => ∃ (j : Nat) (ρ : Env), mq = (rowsL p l [rg]).length - j ∧ σ = setAll ρ [(10, v38), (12, (valsJ 8)), (17, .int .i64 ((j : Nat) : Int))] ∧ (Ext w12 wq) ∧ (j ≤ (rowsL p l [rg]).length)) ⟨0, _, rfl, setAll_self ⟨rfl, rfl, rfl, trivial⟩, (Chg.refl _ _), Nat.zero_le _⟩ ?_
        rintro m59 σ60 w13 ⟨j, ρ13, rfl, rfl, hx57, hk58⟩
        have hx57s := hx57.size
        refine WP_seq ?_
        refine WP_seq ?_
        refine WP_region0 (by kernel_rfl) (fun _ => ?_)
        refine st (ov_move (v := .int .i64 ((j : Nat) : Int)) rfl ?_)
        refine st (ov_move (v := v38) rfl ?_)
        refine st (ov_len (n := (rowsL p l ([rg])).length) Try.underlying28 rfl hf37r.sl ?_)
        refine st (ov_lss (k := .i64) (a := ((j : Nat) : Int)) (b := (((rowsL p l ([rg])).length : Nat) : Int)) rfl rfl ?_)
        refine st_nil ?_
        cases hc61 : decide (((j : Nat) : Int) < (((rowsL p l ([rg])).length : Nat) : Int))
        · skip
          have hc61 := of_decide_eq_false hc61
          refine WP_cond_f rfl ?_
          refine WP_exit ?_
          refine blk_exit ?_
          refine WP_seq ?_
          refine WP_region0 (by kernel_rfl) (fun _ => ?_)
          refine st (ov_call (f := 10) (vals := []) (cap := []) (show _ = (.func (.func 10) #[] #[] : Value) from rfl) rfl Try.call10 (C_works ) ?_)
          rintro _ w14 ⟨rfl, hx62⟩
          have hx62s := hx62.size
          refine st (ov_assign (v := .bool true) rfl ?_)
          refine st_nil ?_
          refine WP_ret ?_
          refine fin1 Try.results6 (show _ = (.bool true : Value) from rfl) ?_
          exact ⟨rfl, (Chg.trans (Chg.trans (Chg.trans (Chg.trans (Chg.trans (Chg.trans (Chg.trans (Chg.trans (Chg.trans hn1.ext hx6) hx11) hn29.ext) hx36) hx42) hW50.2) hx52) hx57) hx62)⟩
        · skip
          have hc61 := of_decide_eq_true hc61
          refine WP_cond_t rfl ?_
          refine WP_skip ?_
          refine WP_seq ?_
          refine WP_block ?_
          refine WP_seq ?_
          refine WP_region0 (by kernel_rfl) (fun _ => ?_)
          refine st (ov_move (v := (valsJ 8)) rfl ?_)
          refine st (ov_move (v := v38) rfl ?_)
          refine st (ov_move (v := .int .i64 ((j : Nat) : Int)) rfl ?_)
          have hi63 : j < (rowsL p l ([rg])).length := by omega
          have h65 := hf37r.ext (Chg.trans (Chg.trans (Chg.trans hx42 hW50.2) hx52) hx57)
          have hi64 : j < (rowsL p l ([rg])).length := by omega
          obtain ⟨hc64, hok64⟩ := h65.row hi64
          rw [← getD_at default hi64] at hc64 hok64
          refine st (ov_indexAddrN (k := 3) (i := j) Try.underlying28 Try.sizeOf31 rfl hf37r.sl rfl hi63 ?_)
          refine st (fa31_0 rfl ?_)
          refine st (ov_load1 (v := .int .i64 (((rowsL p l ([rg])).getD j default).group)) Try.isAgg3 rfl (hc64.get (j := 0) rfl) ?_)
          have h66 := hW50r.ext (Chg.trans hx52 hx57)
          refine st (ov_call (f := 16) (vals := [(valsJ 8), .int .i64 (((rowsL p l ([rg])).getD j default).group)]) (cap := []) (show _ = (.func (.func 16) #[] #[] : Value) from rfl) rfl Try.call16 (C_find h66 hok64.group) ?_)
          rintro _ w15 ⟨rfl, hx67⟩
          have hx67s := hx67.size
          have hok68 := findR_ok h66 (((rowsL p l ([rg])).getD j default).group)
          have := find_bnd p l [rg] (((rowsL p l ([rg])).getD j default).group); have := find_bnd p m [rg] (((rowsL p l ([rg])).getD j default).group)
          refine st (ov_field (u := .int .i64 ((findR (rowsL p (l ++ m) [rg]) (((rowsL p l ([rg])).getD j default).group)).count)) rfl (fun _ => by kernel_rfl) ?_)
          refine st (ov_eql (k := .i64) (a := (findR (rowsL p (l ++ m) [rg]) (((rowsL p l ([rg])).getD j default).group)).count) (b := 0) rfl rfl ?_)
          refine st_nil ?_
          cases hc69 : decide (((findR (rowsL p (l ++ m) [rg]) (((rowsL p l ([rg])).getD j default).group)).count) = 0)
          · skip
            have hc69 := of_decide_eq_false hc69
            refine WP_cond_f rfl ?_
            refine WP_skip ?_
            refine WP_region0 (by kernel_rfl) (fun _ => ?_)
            refine st (ov_move (v := .int .i64 ((j : Nat) : Int)) rfl ?_)
            have hr70 : InR ((j + 1 : Nat) : Int) := by omega
            refine st (ov_add (r := ((j + 1 : Nat) : Int)) (k := .i64) (a := ((j : Nat) : Int)) (b := 1) rfl rfl (by rw [show (((j : Nat) : Int) + 1 : Int) = ((j + 1 : Nat) : Int) by omega]; exact wrap_in hr70) ?_)
            refine st (ov_assign (v := .int .i64 ((j + 1 : Nat) : Int)) rfl ?_)
            refine st_nil ?_
            exact ⟨_, by omega, j + 1, _, rfl, setAll_self ⟨rfl, rfl, rfl, trivial⟩, (Chg.trans hx57 hx67), by omega⟩
          · skip
            have hc69 := of_decide_eq_true hc69
            refine WP_cond_t rfl ?_
            refine WP_seq ?_
            refine WP_region0 (by kernel_rfl) (fun _ => ?_)
            refine st (ov_assign (v := .bool false) rfl ?_)
            refine st_nil ?_
            refine WP_ret ?_
            refine fin1 Try.results6 (show _ = (.bool false : Value) from rfl) ?_
            exfalso
            have h1 := row_self (p := p) (l := l) (g := [rg]) (k := j) (by omega)
            have h2 := join_cnt p l m rg ((rowsL p l [rg]).getD j default).group
            rw [h1.1] at h2
            have h4 := h1.2
            omega
      · skip
        have hc56 := of_decide_eq_true hc56
        refine WP_cond_t rfl ?_
        refine WP_skip ?_
        refine WP_seq ?_
        refine WP_block ?_
        refine WP_seq ?_
        refine WP_region0 (by kernel_rfl) (fun _ => ?_)
        refine st (ov_move (v := v38) rfl ?_)
        refine st (ov_move (v := (valsJ 8)) rfl ?_)
        refine st (ov_move (v := .int .i64 ((k : Nat) : Int)) rfl ?_)
        have hi71 : k < (rowsL p (l ++ m) [rg]).length := by omega
        have h73 := hW50r.ext hx52
        have hi72 : k < (rowsL p (l ++ m) [rg]).length := by omega
        obtain ⟨hc72, hok72⟩ := h73.row hi72
        rw [← getD_at default hi72] at hc72 hok72
        refine st (ov_indexAddrN (k := 3) (i := k) Try.underlying28 Try.sizeOf31 rfl hW50r.sl rfl hi71 ?_)
        refine st (fa31_0 rfl ?_)
        refine st (ov_load1 (v := .int .i64 (((rowsL p (l ++ m) [rg]).getD k default).group)) Try.isAgg3 rfl (hc72.get (j := 0) rfl) ?_)
        have h74 := hf37r.ext (Chg.trans (Chg.trans hx42 hW50.2) hx52)
        refine st (ov_call (f := 16) (vals := [v38, .int .i64 (((rowsL p (l ++ m) [rg]).getD k default).group)]) (cap := []) (show _ = (.func (.func 16) #[] #[] : Value) from rfl) rfl Try.call16 (C_find h74 hok72.group) ?_)
        rintro _ w16 ⟨rfl, hx75⟩
        have hx75s := hx75.size
        have hok76 := findR_ok h74 (((rowsL p (l ++ m) [rg]).getD k default).group)
        have := find_bnd p l [rg] (((rowsL p (l ++ m) [rg]).getD k default).group); have := find_bnd p m [rg] (((rowsL p (l ++ m) [rg]).getD k default).group)
        refine st (ov_alloc Try.zeroValue31 (fun w17 b78 hn77 => ?_))
        have hb79 : w17.heap[b78]? = some (.cells #[.int .i64 (0), .int .i64 (0), .int .i64 (0)] 31) := hn77.at_
        have hs80 := hn77.size; have hs80e := hn77.eq
        refine stn (ov_store (v := .agg ((findR (rowsL p l ([rg])) (((rowsL p (l ++ m) [rg]).getD k default).group)).cells).toArray) (c' := ((findR (rowsL p l ([rg])) (((rowsL p (l ++ m) [rg]).getD k default).group)).cells).toArray) Try.sizeOf31 rfl rfl hb79 (all1 ⟨rfl, rfl, rfl, trivial⟩) (Nat.le_of_ble_eq_true rfl) rfl (fun w18 hp81 => ?_))
        have hs82 := hp81.size
        refine st_nil ?_
        refine WP_seq ?_
        refine WP_region0 (by kernel_rfl) (fun _ => ?_)
        refine st (ov_move (v := v44) rfl ?_)
        refine st (ov_move (v := (valsJ 8)) rfl ?_)
        refine st (ov_move (v := .int .i64 ((k : Nat) : Int)) rfl ?_)
        have hi83 : k < (rowsL p (l ++ m) [rg]).length := by omega
        refine st (ov_indexAddrN (k := 3) (i := k) Try.underlying28 Try.sizeOf31 rfl h73.sl rfl hi83 ?_)
        refine st (fa31_0 rfl ?_)
        have h84 := hc72.mono (fun hb => (Chg.new (Chg.trans hx75 hn77.ext) hp81.chg (fun i hi hO => by subst hO; omega)).block _ hb (fun h => h))
        refine st (ov_load1 (v := .int .i64 (((rowsL p (l ++ m) [rg]).getD k default).group)) Try.isAgg3 rfl (h84.get (j := 0) rfl) ?_)
        have h85 := hf43r.ext (Chg.new (Chg.trans (Chg.trans (Chg.trans hW50.2 hx52) hx75) hn77.ext) hp81.chg (fun i hi hO => by subst hO; omega))
        refine st (ov_call (f := 16) (vals := [v44, .int .i64 (((rowsL p (l ++ m) [rg]).getD k default).group)]) (cap := []) (show _ = (.func (.func 16) #[] #[] : Value) from rfl) rfl Try.call16 (C_find h85 hok72.group) ?_)
        rintro _ w19 ⟨rfl, hx86⟩
        have hx86s := hx86.size
        have hok87 := findR_ok h85 (((rowsL p (l ++ m) [rg]).getD k default).group)
        have := find_bnd p l [rg] (((rowsL p (l ++ m) [rg]).getD k default).group); have := find_bnd p m [rg] (((rowsL p (l ++ m) [rg]).getD k default).group)
        refine st (ov_alloc Try.zeroValue31 (fun w20 b89 hn88 => ?_))
        have hb90 : w20.heap[b89]? = some (.cells #[.int .i64 (0), .int .i64 (0), .int .i64 (0)] 31) := hn88.at_
        have hs91 := hn88.size; have hs91e := hn88.eq
        refine stn (ov_store (v := .agg ((findR (rowsL p m ([rg])) (((rowsL p (l ++ m) [rg]).getD k default).group)).cells).toArray) (c' := ((findR (rowsL p m ([rg])) (((rowsL p (l ++ m) [rg]).getD k default).group)).cells).toArray) Try.sizeOf31 rfl rfl hb90 (all1 ⟨rfl, rfl, rfl, trivial⟩) (Nat.le_of_ble_eq_true rfl) rfl (fun w21 hp92 => ?_))
        have hs93 := hp92.size
        refine st_nil ?_
        refine WP_seq ?_
        refine WP_region0 (by kernel_rfl) (fun _ => ?_)
        refine st (fa31_1 rfl ?_)
        have h94 := (Chg.new (Chg.trans hx86 hn88.ext) hp92.chg (fun i hi hO => by subst hO; omega)).keep hp81.at_ (fun h => h)
        refine st (ov_load1 (v := .int .i64 ((findR (rowsL p l ([rg])) (((rowsL p (l ++ m) [rg]).getD k default).group)).value)) Try.isAgg3 rfl (blk_cellL h94 rfl) ?_)
        refine st (fa31_1 rfl ?_)
        refine st (ov_load1 (v := .int .i64 ((findR (rowsL p m ([rg])) (((rowsL p (l ++ m) [rg]).getD k default).group)).value)) Try.isAgg3 rfl (blk_cellL hp92.at_ rfl) ?_)
        refine st (ov_add (r := IntKind.i64.wrap (((findR (rowsL p l ([rg])) (((rowsL p (l ++ m) [rg]).getD k default).group)).value) + ((findR (rowsL p m ([rg])) (((rowsL p (l ++ m) [rg]).getD k default).group)).value))) (k := .i64) (a := (findR (rowsL p l ([rg])) (((rowsL p (l ++ m) [rg]).getD k default).group)).value) (b := (findR (rowsL p m ([rg])) (((rowsL p (l ++ m) [rg]).getD k default).group)).value) rfl rfl rfl ?_)
        refine st (ov_assign (v := .int .i64 (IntKind.i64.wrap (((findR (rowsL p l ([rg])) (((rowsL p (l ++ m) [rg]).getD k default).group)).value) + ((findR (rowsL p m ([rg])) (((rowsL p (l ++ m) [rg]).getD k default).group)).value)))) rfl ?_)
        refine st_nil ?_
        refine WP_seq ?_
        refine WP_seq ?_
        refine WP_region0 (by kernel_rfl) (fun _ => ?_)
        refine st (fa23_4 rfl ?_)
        have h95 := (Chg.new (Chg.trans (Chg.trans (Chg.new (Chg.trans (Chg.trans (Chg.trans (Chg.trans hx42 hW50.2) hx52) hx75) hn77.ext) hp81.chg (fun i hi hO => by subst hO; omega)) hx86) hn88.ext) hp92.chg (fun i hi hO => by subst hO; omega)).keep h39 (fun h => h)
        refine st (ov_load1 (v := .int .i64 (p.pmake)) Try.isAgg3 rfl (blk_cellL h95 rfl) ?_)
        refine st (ov_eql (k := .i64) (a := p.pmake) (b := 3) rfl rfl ?_)
        refine st_nil ?_
        refine WP_join (fun σ wq => ∃ (v1 : Int) (ρ : Env), σ = setAll ρ [(4, .pointer (some ⟨b2, 0, none⟩)), (10, v38), (11, v44), (12, (valsJ 8)), (13, .int .i64 ((k : Nat) : Int)), (14, .pointer (some ⟨b78, 0, none⟩)), (15, .pointer (some ⟨b89, 0, none⟩)), (16, .int .i64 (v1))] ∧ w21 = wq ∧ v1 = if p.pmake = 3 then min ((findR (rowsL p l ([rg])) (((rowsL p (l ++ m) [rg]).getD k default).group)).value) ((findR (rowsL p m ([rg])) (((rowsL p (l ++ m) [rg]).getD k default).group)).value) else IntKind.i64.wrap (((findR (rowsL p l ([rg])) (((rowsL p (l ++ m) [rg]).getD k default).group)).value) + ((findR (rowsL p m ([rg])) (((rowsL p (l ++ m) [rg]).getD k default).group)).value))) ?_ ?_
        · cases hc96 : decide (p.pmake = 3)
          · skip
            have hc96 := of_decide_eq_false hc96
            refine WP_cond_f rfl ?_
            refine WP_skip ?_
            exact ⟨rfl, _, _, setAll_self ⟨(show _ = (.pointer (some ⟨b2, 0, none⟩) : Value) from rfl), (show _ = (v38 : Value) from rfl), (show _ = (v44 : Value) from rfl), (show _ = ((valsJ 8) : Value) from rfl), (show _ = (.int .i64 ((k : Nat) : Int) : Value) from rfl), (show _ = (.pointer (some ⟨b78, 0, none⟩) : Value) from rfl), (show _ = (.pointer (some ⟨b89, 0, none⟩) : Value) from rfl), (show _ = (.int .i64 (IntKind.i64.wrap (((findR (rowsL p l ([rg])) (((rowsL p (l ++ m) [rg]).getD k default).group)).value) + ((findR (rowsL p m ([rg])) (((rowsL p (l ++ m) [rg]).getD k default).group)).value))) : Value) from rfl), trivial⟩, rfl, (if_neg hc96).symm⟩
          · skip
            have hc96 := of_decide_eq_true hc96
            refine WP_cond_t rfl ?_
            refine WP_region0 (by kernel_rfl) (fun _ => ?_)
            refine st (fa31_1 rfl ?_)
            refine st (ov_load1 (v := .int .i64 ((findR (rowsL p l ([rg])) (((rowsL p (l ++ m) [rg]).getD k default).group)).value)) Try.isAgg3 rfl (blk_cellL h94 rfl) ?_)
            refine st (fa31_1 rfl ?_)
            refine st (ov_load1 (v := .int .i64 ((findR (rowsL p m ([rg])) (((rowsL p (l ++ m) [rg]).getD k default).group)).value)) Try.isAgg3 rfl (blk_cellL hp92.at_ rfl) ?_)
            refine st (ov_min (k := .i64) (a := (findR (rowsL p l ([rg])) (((rowsL p (l ++ m) [rg]).getD k default).group)).value) (b := (findR (rowsL p m ([rg])) (((rowsL p (l ++ m) [rg]).getD k default).group)).value) rfl rfl ?_)
            refine st (ov_assign (v := .int .i64 (min ((findR (rowsL p l ([rg])) (((rowsL p (l ++ m) [rg]).getD k default).group)).value) ((findR (rowsL p m ([rg])) (((rowsL p (l ++ m) [rg]).getD k default).group)).value))) rfl ?_)
            refine st_nil ?_
            exact ⟨rfl, _, _, setAll_self ⟨(show _ = (.pointer (some ⟨b2, 0, none⟩) : Value) from rfl), (show _ = (v38 : Value) from rfl), (show _ = (v44 : Value) from rfl), (show _ = ((valsJ 8) : Value) from rfl), (show _ = (.int .i64 ((k : Nat) : Int) : Value) from rfl), (show _ = (.pointer (some ⟨b78, 0, none⟩) : Value) from rfl), (show _ = (.pointer (some ⟨b89, 0, none⟩) : Value) from rfl), (show _ = (.int .i64 (min ((findR (rowsL p l ([rg])) (((rowsL p (l ++ m) [rg]).getD k default).group)).value) ((findR (rowsL p m ([rg])) (((rowsL p (l ++ m) [rg]).getD k default).group)).value)) : Value) from rfl), trivial⟩, rfl, (if_pos hc96).symm⟩
        rintro _ _ ⟨v1, ρj1, rfl, rfl, hj97⟩
        refine WP_seq ?_
        refine WP_seq ?_
        refine WP_region0 (by kernel_rfl) (fun _ => ?_)
        refine st (fa23_4 rfl ?_)
        refine st (ov_load1 (v := .int .i64 (p.pmake)) Try.isAgg3 rfl (blk_cellL h95 rfl) ?_)
        refine st (ov_eql (k := .i64) (a := p.pmake) (b := 4) rfl rfl ?_)
        refine st_nil ?_
        refine WP_join (fun σ wq => ∃ (v2 : Int) (ρ : Env), σ = setAll ρ [(4, .pointer (some ⟨b2, 0, none⟩)), (10, v38), (11, v44), (12, (valsJ 8)), (13, .int .i64 ((k : Nat) : Int)), (14, .pointer (some ⟨b78, 0, none⟩)), (15, .pointer (some ⟨b89, 0, none⟩)), (16, .int .i64 (v2))] ∧ w21 = wq ∧ v2 = if p.pmake = 4 then max ((findR (rowsL p l ([rg])) (((rowsL p (l ++ m) [rg]).getD k default).group)).value) ((findR (rowsL p m ([rg])) (((rowsL p (l ++ m) [rg]).getD k default).group)).value) else v1) ?_ ?_
        · cases hc98 : decide (p.pmake = 4)
          · skip
            have hc98 := of_decide_eq_false hc98
            refine WP_cond_f rfl ?_
            refine WP_skip ?_
            exact ⟨rfl, _, _, setAll_self ⟨(show _ = (.pointer (some ⟨b2, 0, none⟩) : Value) from rfl), (show _ = (v38 : Value) from rfl), (show _ = (v44 : Value) from rfl), (show _ = ((valsJ 8) : Value) from rfl), (show _ = (.int .i64 ((k : Nat) : Int) : Value) from rfl), (show _ = (.pointer (some ⟨b78, 0, none⟩) : Value) from rfl), (show _ = (.pointer (some ⟨b89, 0, none⟩) : Value) from rfl), (show _ = (.int .i64 (v1) : Value) from rfl), trivial⟩, rfl, (if_neg hc98).symm⟩
          · skip
            have hc98 := of_decide_eq_true hc98
            refine WP_cond_t rfl ?_
            refine WP_region0 (by kernel_rfl) (fun _ => ?_)
            refine st (fa31_1 rfl ?_)
            refine st (ov_load1 (v := .int .i64 ((findR (rowsL p l ([rg])) (((rowsL p (l ++ m) [rg]).getD k default).group)).value)) Try.isAgg3 rfl (blk_cellL h94 rfl) ?_)
            refine st (fa31_1 rfl ?_)
            refine st (ov_load1 (v := .int .i64 ((findR (rowsL p m ([rg])) (((rowsL p (l ++ m) [rg]).getD k default).group)).value)) Try.isAgg3 rfl (blk_cellL hp92.at_ rfl) ?_)
            refine st (ov_max (k := .i64) (a := (findR (rowsL p l ([rg])) (((rowsL p (l ++ m) [rg]).getD k default).group)).value) (b := (findR (rowsL p m ([rg])) (((rowsL p (l ++ m) [rg]).getD k default).group)).value) rfl rfl ?_)
            refine st (ov_assign (v := .int .i64 (max ((findR (rowsL p l ([rg])) (((rowsL p (l ++ m) [rg]).getD k default).group)).value) ((findR (rowsL p m ([rg])) (((rowsL p (l ++ m) [rg]).getD k default).group)).value))) rfl ?_)
            refine st_nil ?_
            exact ⟨rfl, _, _, setAll_self ⟨(show _ = (.pointer (some ⟨b2, 0, none⟩) : Value) from rfl), (show _ = (v38 : Value) from rfl), (show _ = (v44 : Value) from rfl), (show _ = ((valsJ 8) : Value) from rfl), (show _ = (.int .i64 ((k : Nat) : Int) : Value) from rfl), (show _ = (.pointer (some ⟨b78, 0, none⟩) : Value) from rfl), (show _ = (.pointer (some ⟨b89, 0, none⟩) : Value) from rfl), (show _ = (.int .i64 (max ((findR (rowsL p l ([rg])) (((rowsL p (l ++ m) [rg]).getD k default).group)).value) ((findR (rowsL p m ([rg])) (((rowsL p (l ++ m) [rg]).getD k default).group)).value)) : Value) from rfl), trivial⟩, rfl, (if_pos hc98).symm⟩
        rintro _ _ ⟨v2, ρj2, rfl, rfl, hj99⟩
        refine WP_seq ?_
        refine WP_seq ?_
        refine WP_region0 (by kernel_rfl) (fun _ => ?_)
        refine st (fa31_2 rfl ?_)
        refine st (ov_load1 (v := .int .i64 ((findR (rowsL p l ([rg])) (((rowsL p (l ++ m) [rg]).getD k default).group)).count)) Try.isAgg3 rfl (blk_cellL h94 rfl) ?_)
        refine st (ov_eql (k := .i64) (a := (findR (rowsL p l ([rg])) (((rowsL p (l ++ m) [rg]).getD k default).group)).count) (b := 0) rfl rfl ?_)
        refine st_nil ?_
        refine WP_join (fun σ wq => ∃ (v3 : Int) (ρ : Env), σ = setAll ρ [(4, .pointer (some ⟨b2, 0, none⟩)), (10, v38), (11, v44), (12, (valsJ 8)), (13, .int .i64 ((k : Nat) : Int)), (14, .pointer (some ⟨b78, 0, none⟩)), (15, .pointer (some ⟨b89, 0, none⟩)), (16, .int .i64 (v3))] ∧ w21 = wq ∧ v3 = if ((findR (rowsL p l ([rg])) (((rowsL p (l ++ m) [rg]).getD k default).group)).count) = 0 then (findR (rowsL p m ([rg])) (((rowsL p (l ++ m) [rg]).getD k default).group)).value else v2) ?_ ?_
        · cases hc100 : decide (((findR (rowsL p l ([rg])) (((rowsL p (l ++ m) [rg]).getD k default).group)).count) = 0)
          · skip
            have hc100 := of_decide_eq_false hc100
            refine WP_cond_f rfl ?_
            refine WP_skip ?_
            exact ⟨rfl, _, _, setAll_self ⟨(show _ = (.pointer (some ⟨b2, 0, none⟩) : Value) from rfl), (show _ = (v38 : Value) from rfl), (show _ = (v44 : Value) from rfl), (show _ = ((valsJ 8) : Value) from rfl), (show _ = (.int .i64 ((k : Nat) : Int) : Value) from rfl), (show _ = (.pointer (some ⟨b78, 0, none⟩) : Value) from rfl), (show _ = (.pointer (some ⟨b89, 0, none⟩) : Value) from rfl), (show _ = (.int .i64 (v2) : Value) from rfl), trivial⟩, rfl, (if_neg hc100).symm⟩
          · skip
            have hc100 := of_decide_eq_true hc100
            refine WP_cond_t rfl ?_
            refine WP_region0 (by kernel_rfl) (fun _ => ?_)
            refine st (fa31_1 rfl ?_)
            refine st (ov_load1 (v := .int .i64 ((findR (rowsL p m ([rg])) (((rowsL p (l ++ m) [rg]).getD k default).group)).value)) Try.isAgg3 rfl (blk_cellL hp92.at_ rfl) ?_)
            refine st (ov_assign (v := .int .i64 ((findR (rowsL p m ([rg])) (((rowsL p (l ++ m) [rg]).getD k default).group)).value)) rfl ?_)
            refine st_nil ?_
            exact ⟨rfl, _, _, setAll_self ⟨(show _ = (.pointer (some ⟨b2, 0, none⟩) : Value) from rfl), (show _ = (v38 : Value) from rfl), (show _ = (v44 : Value) from rfl), (show _ = ((valsJ 8) : Value) from rfl), (show _ = (.int .i64 ((k : Nat) : Int) : Value) from rfl), (show _ = (.pointer (some ⟨b78, 0, none⟩) : Value) from rfl), (show _ = (.pointer (some ⟨b89, 0, none⟩) : Value) from rfl), (show _ = (.int .i64 ((findR (rowsL p m ([rg])) (((rowsL p (l ++ m) [rg]).getD k default).group)).value) : Value) from rfl), trivial⟩, rfl, (if_pos hc100).symm⟩
        rintro _ _ ⟨v3, ρj3, rfl, rfl, hj101⟩
        refine WP_seq ?_
        refine WP_seq ?_
        refine WP_region0 (by kernel_rfl) (fun _ => ?_)
        refine st (fa31_2 rfl ?_)
        refine st (ov_load1 (v := .int .i64 ((findR (rowsL p m ([rg])) (((rowsL p (l ++ m) [rg]).getD k default).group)).count)) Try.isAgg3 rfl (blk_cellL hp92.at_ rfl) ?_)
        refine st (ov_eql (k := .i64) (a := (findR (rowsL p m ([rg])) (((rowsL p (l ++ m) [rg]).getD k default).group)).count) (b := 0) rfl rfl ?_)
        refine st_nil ?_
        refine WP_join (fun σ wq => ∃ (v4 : Int) (ρ : Env), σ = setAll ρ [(4, .pointer (some ⟨b2, 0, none⟩)), (10, v38), (11, v44), (12, (valsJ 8)), (13, .int .i64 ((k : Nat) : Int)), (14, .pointer (some ⟨b78, 0, none⟩)), (15, .pointer (some ⟨b89, 0, none⟩)), (16, .int .i64 (v4))] ∧ w21 = wq ∧ v4 = if ((findR (rowsL p m ([rg])) (((rowsL p (l ++ m) [rg]).getD k default).group)).count) = 0 then (findR (rowsL p l ([rg])) (((rowsL p (l ++ m) [rg]).getD k default).group)).value else v3) ?_ ?_
        · cases hc102 : decide (((findR (rowsL p m ([rg])) (((rowsL p (l ++ m) [rg]).getD k default).group)).count) = 0)
          · skip
            have hc102 := of_decide_eq_false hc102
            refine WP_cond_f rfl ?_
            refine WP_skip ?_
            exact ⟨rfl, _, _, setAll_self ⟨(show _ = (.pointer (some ⟨b2, 0, none⟩) : Value) from rfl), (show _ = (v38 : Value) from rfl), (show _ = (v44 : Value) from rfl), (show _ = ((valsJ 8) : Value) from rfl), (show _ = (.int .i64 ((k : Nat) : Int) : Value) from rfl), (show _ = (.pointer (some ⟨b78, 0, none⟩) : Value) from rfl), (show _ = (.pointer (some ⟨b89, 0, none⟩) : Value) from rfl), (show _ = (.int .i64 (v3) : Value) from rfl), trivial⟩, rfl, (if_neg hc102).symm⟩
          · skip
            have hc102 := of_decide_eq_true hc102
            refine WP_cond_t rfl ?_
            refine WP_region0 (by kernel_rfl) (fun _ => ?_)
            refine st (fa31_1 rfl ?_)
            refine st (ov_load1 (v := .int .i64 ((findR (rowsL p l ([rg])) (((rowsL p (l ++ m) [rg]).getD k default).group)).value)) Try.isAgg3 rfl (blk_cellL h94 rfl) ?_)
            refine st (ov_assign (v := .int .i64 ((findR (rowsL p l ([rg])) (((rowsL p (l ++ m) [rg]).getD k default).group)).value)) rfl ?_)
            refine st_nil ?_
            exact ⟨rfl, _, _, setAll_self ⟨(show _ = (.pointer (some ⟨b2, 0, none⟩) : Value) from rfl), (show _ = (v38 : Value) from rfl), (show _ = (v44 : Value) from rfl), (show _ = ((valsJ 8) : Value) from rfl), (show _ = (.int .i64 ((k : Nat) : Int) : Value) from rfl), (show _ = (.pointer (some ⟨b78, 0, none⟩) : Value) from rfl), (show _ = (.pointer (some ⟨b89, 0, none⟩) : Value) from rfl), (show _ = (.int .i64 ((findR (rowsL p l ([rg])) (((rowsL p (l ++ m) [rg]).getD k default).group)).value) : Value) from rfl), trivial⟩, rfl, (if_pos hc102).symm⟩
        rintro _ _ ⟨v4, ρj4, rfl, rfl, hj103⟩
        refine WP_seq ?_
        refine WP_draw Ext (AL [fun v w => v = ((valsJ 8) : Value), fun v w => v = (.int .i64 ((k : Nat) : Int) : Value), fun v w => v = (.pointer (some ⟨sb (valsJ 8), so (valsJ 8) + k * 3, none⟩) : Value), fun v w => v = (.pointer (some ⟨sb (valsJ 8), so (valsJ 8) + k * 3 + 2, none⟩) : Value), fun v w => v = (.int .i64 (((rowsL p (l ++ m) [rg]).getD k default).count) : Value), fun v w => v = (.pointer (some ⟨b78, 2, none⟩) : Value), fun v w => v = (.int .i64 ((findR (rowsL p l ([rg])) (((rowsL p (l ++ m) [rg]).getD k default).group)).count) : Value), fun v w => v = (.pointer (some ⟨b89, 2, none⟩) : Value), fun v w => v = (.int .i64 ((findR (rowsL p m ([rg])) (((rowsL p (l ++ m) [rg]).getD k default).group)).count) : Value), fun v w => v = (.int .i64 (((findR (rowsL p l ([rg])) (((rowsL p (l ++ m) [rg]).getD k default).group)).count) + ((findR (rowsL p m ([rg])) (((rowsL p (l ++ m) [rg]).getD k default).group)).count)) : Value), fun v w => v = (.bool (!decide ((((rowsL p (l ++ m) [rg]).getD k default).count) = (((findR (rowsL p l ([rg])) (((rowsL p (l ++ m) [rg]).getD k default).group)).count) + ((findR (rowsL p m ([rg])) (((rowsL p (l ++ m) [rg]).getD k default).group)).count)))) : Value), fun v w => v = (.bool (!decide ((((rowsL p (l ++ m) [rg]).getD k default).count) = (((findR (rowsL p l ([rg])) (((rowsL p (l ++ m) [rg]).getD k default).group)).count) + ((findR (rowsL p m ([rg])) (((rowsL p (l ++ m) [rg]).getD k default).group)).count)))) : Value), fun v w => v = (if (!decide ((((rowsL p (l ++ m) [rg]).getD k default).count) = (((findR (rowsL p l ([rg])) (((rowsL p (l ++ m) [rg]).getD k default).group)).count) + ((findR (rowsL p m ([rg])) (((rowsL p (l ++ m) [rg]).getD k default).group)).count)))) = false then ((valsJ 8) : Value) else undef), fun v w => v = (if (!decide ((((rowsL p (l ++ m) [rg]).getD k default).count) = (((findR (rowsL p l ([rg])) (((rowsL p (l ++ m) [rg]).getD k default).group)).count) + ((findR (rowsL p m ([rg])) (((rowsL p (l ++ m) [rg]).getD k default).group)).count)))) = false then (.int .i64 ((k : Nat) : Int) : Value) else undef), fun v w => v = (if (!decide ((((rowsL p (l ++ m) [rg]).getD k default).count) = (((findR (rowsL p l ([rg])) (((rowsL p (l ++ m) [rg]).getD k default).group)).count) + ((findR (rowsL p m ([rg])) (((rowsL p (l ++ m) [rg]).getD k default).group)).count)))) = false then (.pointer (some ⟨sb (valsJ 8), so (valsJ 8) + k * 3, none⟩) : Value) else undef), fun v w => v = (if (!decide ((((rowsL p (l ++ m) [rg]).getD k default).count) = (((findR (rowsL p l ([rg])) (((rowsL p (l ++ m) [rg]).getD k default).group)).count) + ((findR (rowsL p m ([rg])) (((rowsL p (l ++ m) [rg]).getD k default).group)).count)))) = false then (.pointer (some ⟨sb (valsJ 8), so (valsJ 8) + k * 3 + 2, none⟩) : Value) else undef), fun v w => v = (if (!decide ((((rowsL p (l ++ m) [rg]).getD k default).count) = (((findR (rowsL p l ([rg])) (((rowsL p (l ++ m) [rg]).getD k default).group)).count) + ((findR (rowsL p m ([rg])) (((rowsL p (l ++ m) [rg]).getD k default).group)).count)))) = false then (.int .i64 (((rowsL p (l ++ m) [rg]).getD k default).count) : Value) else undef), fun v w => v = (if (!decide ((((rowsL p (l ++ m) [rg]).getD k default).count) = (((findR (rowsL p l ([rg])) (((rowsL p (l ++ m) [rg]).getD k default).group)).count) + ((findR (rowsL p m ([rg])) (((rowsL p (l ++ m) [rg]).getD k default).group)).count)))) = false then (.bool (decide ((((rowsL p (l ++ m) [rg]).getD k default).count) = 0)) : Value) else undef), fun v w => v = (.bool ((!decide ((((rowsL p (l ++ m) [rg]).getD k default).count) = (((findR (rowsL p l ([rg])) (((rowsL p (l ++ m) [rg]).getD k default).group)).count) + ((findR (rowsL p m ([rg])) (((rowsL p (l ++ m) [rg]).getD k default).group)).count)))) || (decide ((((rowsL p (l ++ m) [rg]).getD k default).count) = 0))) : Value), fun v w => v = (.bool ((!decide ((((rowsL p (l ++ m) [rg]).getD k default).count) = (((findR (rowsL p l ([rg])) (((rowsL p (l ++ m) [rg]).getD k default).group)).count) + ((findR (rowsL p m ([rg])) (((rowsL p (l ++ m) [rg]).getD k default).group)).count)))) || (decide ((((rowsL p (l ++ m) [rg]).getD k default).count) = 0))) : Value), fun v w => v = (if ((!decide ((((rowsL p (l ++ m) [rg]).getD k default).count) = (((findR (rowsL p l ([rg])) (((rowsL p (l ++ m) [rg]).getD k default).group)).count) + ((findR (rowsL p m ([rg])) (((rowsL p (l ++ m) [rg]).getD k default).group)).count)))) || (decide ((((rowsL p (l ++ m) [rg]).getD k default).count) = 0))) = false then ((valsJ 8) : Value) else undef), fun v w => v = (if ((!decide ((((rowsL p (l ++ m) [rg]).getD k default).count) = (((findR (rowsL p l ([rg])) (((rowsL p (l ++ m) [rg]).getD k default).group)).count) + ((findR (rowsL p m ([rg])) (((rowsL p (l ++ m) [rg]).getD k default).group)).count)))) || (decide ((((rowsL p (l ++ m) [rg]).getD k default).count) = 0))) = false then (.int .i64 ((k : Nat) : Int) : Value) else undef), fun v w => v = (if ((!decide ((((rowsL p (l ++ m) [rg]).getD k default).count) = (((findR (rowsL p l ([rg])) (((rowsL p (l ++ m) [rg]).getD k default).group)).count) + ((findR (rowsL p m ([rg])) (((rowsL p (l ++ m) [rg]).getD k default).group)).count)))) || (decide ((((rowsL p (l ++ m) [rg]).getD k default).count) = 0))) = false then (.pointer (some ⟨sb (valsJ 8), so (valsJ 8) + k * 3, none⟩) : Value) else undef), fun v w => v = (if ((!decide ((((rowsL p (l ++ m) [rg]).getD k default).count) = (((findR (rowsL p l ([rg])) (((rowsL p (l ++ m) [rg]).getD k default).group)).count) + ((findR (rowsL p m ([rg])) (((rowsL p (l ++ m) [rg]).getD k default).group)).count)))) || (decide ((((rowsL p (l ++ m) [rg]).getD k default).count) = 0))) = false then (.pointer (some ⟨sb (valsJ 8), so (valsJ 8) + k * 3 + 1, none⟩) : Value) else undef), fun v w => v = (if ((!decide ((((rowsL p (l ++ m) [rg]).getD k default).count) = (((findR (rowsL p l ([rg])) (((rowsL p (l ++ m) [rg]).getD k default).group)).count) + ((findR (rowsL p m ([rg])) (((rowsL p (l ++ m) [rg]).getD k default).group)).count)))) || (decide ((((rowsL p (l ++ m) [rg]).getD k default).count) = 0))) = false then (.int .i64 (((rowsL p (l ++ m) [rg]).getD k default).value) : Value) else undef), fun v w => v = (if ((!decide ((((rowsL p (l ++ m) [rg]).getD k default).count) = (((findR (rowsL p l ([rg])) (((rowsL p (l ++ m) [rg]).getD k default).group)).count) + ((findR (rowsL p m ([rg])) (((rowsL p (l ++ m) [rg]).getD k default).group)).count)))) || (decide ((((rowsL p (l ++ m) [rg]).getD k default).count) = 0))) = false then (.int .i64 (v4) : Value) else undef), fun v w => v = (if ((!decide ((((rowsL p (l ++ m) [rg]).getD k default).count) = (((findR (rowsL p l ([rg])) (((rowsL p (l ++ m) [rg]).getD k default).group)).count) + ((findR (rowsL p m ([rg])) (((rowsL p (l ++ m) [rg]).getD k default).group)).count)))) || (decide ((((rowsL p (l ++ m) [rg]).getD k default).count) = 0))) = false then (.bool (!decide ((((rowsL p (l ++ m) [rg]).getD k default).value) = v4)) : Value) else undef), fun v w => v = (.bool (((!decide ((((rowsL p (l ++ m) [rg]).getD k default).count) = (((findR (rowsL p l ([rg])) (((rowsL p (l ++ m) [rg]).getD k default).group)).count) + ((findR (rowsL p m ([rg])) (((rowsL p (l ++ m) [rg]).getD k default).group)).count)))) || (decide ((((rowsL p (l ++ m) [rg]).getD k default).count) = 0))) || (!decide ((((rowsL p (l ++ m) [rg]).getD k default).value) = v4))) : Value)]) [[], [], [0, 1], [0, 1, 2], [0, 1, 2, 3], [], [5], [], [7], [5, 6, 7, 8], [0, 1, 2, 3, 4, 5, 6, 7, 8, 9], [0, 1, 2, 3, 4, 5, 6, 7, 8, 9, 10], [0, 1, 2, 3, 4, 5, 6, 7, 8, 9, 10, 11], [0, 1, 2, 3, 4, 5, 6, 7, 8, 9, 10, 11], [0, 1, 2, 3, 4, 5, 6, 7, 8, 9, 10, 11, 12, 13], [0, 1, 2, 3, 4, 5, 6, 7, 8, 9, 10, 11, 12, 13, 14], [0, 1, 2, 3, 4, 5, 6, 7, 8, 9, 10, 11, 12, 13, 14, 15], [0, 1, 2, 3, 4, 5, 6, 7, 8, 9, 10, 11, 12, 13, 14, 15, 16], [0, 1, 2, 3, 4, 5, 6, 7, 8, 9, 10, 11, 12, 13, 14, 15, 16, 17], [0, 1, 2, 3, 4, 5, 6, 7, 8, 9, 10, 11, 12, 13, 14, 15, 16, 17, 18], [0, 1, 2, 3, 4, 5, 6, 7, 8, 9, 10, 11, 12, 13, 14, 15, 16, 17, 18, 19], [0, 1, 2, 3, 4, 5, 6, 7, 8, 9, 10, 11, 12, 13, 14, 15, 16, 17, 18, 19], [0, 1, 2, 3, 4, 5, 6, 7, 8, 9, 10, 11, 12, 13, 14, 15, 16, 17, 18, 19, 20, 21], [0, 1, 2, 3, 4, 5, 6, 7, 8, 9, 10, 11, 12, 13, 14, 15, 16, 17, 18, 19, 20, 21, 22], [0, 1, 2, 3, 4, 5, 6, 7, 8, 9, 10, 11, 12, 13, 14, 15, 16, 17, 18, 19, 20, 21, 22, 23], [0, 1, 2, 3, 4, 5, 6, 7, 8, 9, 10, 11, 12, 13, 14, 15, 16, 17, 18, 19], [0, 1, 2, 3, 4, 5, 6, 7, 8, 9, 10, 11, 12, 13, 14, 15, 16, 17, 18, 19, 20, 21, 22, 23, 24, 25], [0, 1, 2, 3, 4, 5, 6, 7, 8, 9, 10, 11, 12, 13, 14, 15, 16, 17, 18, 19, 20, 21, 22, 23, 24, 25, 26]] 28 (by kernel_rfl) (by kernel_rfl) (by kernel_rfl) (fun w => Chg.refl _ w) (fun _ _ _ h1 h2 => h1.trans h2) (stabL ⟨fun _ _ _ _ h => h, fun _ _ _ _ h => h, fun _ _ _ _ h => h, fun _ _ _ _ h => h, fun _ _ _ _ h => h, fun _ _ _ _ h => h, fun _ _ _ _ h => h, fun _ _ _ _ h => h, fun _ _ _ _ h => h, fun _ _ _ _ h => h, fun _ _ _ _ h => h, fun _ _ _ _ h => h, fun _ _ _ _ h => h, fun _ _ _ _ h => h, fun _ _ _ _ h => h, fun _ _ _ _ h => h, fun _ _ _ _ h => h, fun _ _ _ _ h => h, fun _ _ _ _ h => h, fun _ _ _ _ h => h, fun _ _ _ _ h => h, fun _ _ _ _ h => h, fun _ _ _ _ h => h, fun _ _ _ _ h => h, fun _ _ _ _ h => h, fun _ _ _ _ h => h, fun _ _ _ _ h => h, fun _ _ _ _ h => h, trivial⟩) ?_
        intro w22 qh1 qh2 qh3 qh4
        have hx104 := ext_same qh1 qh2 qh3 qh4
        refine ⟨⟨?_, ?_, ?_, ?_, ?_, ?_, ?_, ?_, ?_, ?_, ?_, ?_, ?_, ?_, ?_, ?_, ?_, ?_, ?_, ?_, ?_, ?_, ?_, ?_, ?_, ?_, ?_, ?_, trivial⟩, ?_⟩
        · intro vals w23 hR105 hA
          have hs106 := hR105.size
          refine obl rfl ?_
          exact ov_move (v := (valsJ 8)) rfl ⟨Chg.refl _ _, rfl⟩
        · intro vals w24 hR107 hA
          have hs108 := hR107.size
          refine obl rfl ?_
          exact ov_move (v := .int .i64 ((k : Nat) : Int)) rfl ⟨Chg.refl _ _, rfl⟩
        · intro vals w25 hR109 hA
          have hs110 := hR109.size
          have e0 : (vals 0) = ((valsJ 8) : Value) := hA 0 (by decide)
          have e1 : (vals 1) = (.int .i64 ((k : Nat) : Int) : Value) := hA 1 (by decide)
          refine obl rfl ?_
          have hi111 : k < (rowsL p (l ++ m) [rg]).length := by omega
          exact ov_indexAddrN (k := 3) (i := k) Try.underlying28 Try.sizeOf31 (show _ = ((valsJ 8) : Value) from e0) h73.sl (show _ = (.int .i64 ((k : Nat) : Int) : Value) from e1) hi111 ⟨Chg.refl _ _, rfl⟩
        · intro vals w26 hR112 hA
          have hs113 := hR112.size
          have e2 : (vals 2) = (.pointer (some ⟨sb (valsJ 8), so (valsJ 8) + k * 3, none⟩) : Value) := hA 2 (by decide)
          refine obl rfl ?_
          exact fa31_2 (show _ = (.pointer (some ⟨sb (valsJ 8), so (valsJ 8) + k * 3, none⟩) : Value) from e2) ⟨Chg.refl _ _, rfl⟩
        · intro vals w27 hR114 hA
          have hs115 := hR114.size
          have e3 : (vals 3) = (.pointer (some ⟨sb (valsJ 8), so (valsJ 8) + k * 3 + 2, none⟩) : Value) := hA 3 (by decide)
          refine obl rfl ?_
          have h116 := h84.mono (fun hb => (Chg.trans (Chg.trans (Chg.new (Chg.trans hx86 hn88.ext) hp92.chg (fun i hi hO => by subst hO; omega)) hx104) hR114).block _ hb (fun h => h))
          exact ov_load1 (v := .int .i64 (((rowsL p (l ++ m) [rg]).getD k default).count)) Try.isAgg3 (show _ = (.pointer (some ⟨sb (valsJ 8), so (valsJ 8) + k * 3 + 2, none⟩) : Value) from e3) (h116.get (j := 2) rfl) ⟨Chg.refl _ _, rfl⟩
        · intro vals w28 hR117 hA
          have hs118 := hR117.size
          refine obl rfl ?_
          exact fa31_2 rfl ⟨Chg.refl _ _, rfl⟩
        · intro vals w29 hR119 hA
          have hs120 := hR119.size
          have e5 : (vals 5) = (.pointer (some ⟨b78, 2, none⟩) : Value) := hA 5 (by decide)
          refine obl rfl ?_
          have h121 := (Chg.trans hx104 hR119).keep h94 (fun h => h)
          exact ov_load1 (v := .int .i64 ((findR (rowsL p l ([rg])) (((rowsL p (l ++ m) [rg]).getD k default).group)).count)) Try.isAgg3 (show _ = (.pointer (some ⟨b78, 2, none⟩) : Value) from e5) (blk_cellL h121 rfl) ⟨Chg.refl _ _, rfl⟩
        · intro vals w30 hR122 hA
          have hs123 := hR122.size
          refine obl rfl ?_
          exact fa31_2 rfl ⟨Chg.refl _ _, rfl⟩
        · intro vals w31 hR124 hA
          have hs125 := hR124.size
          have e7 : (vals 7) = (.pointer (some ⟨b89, 2, none⟩) : Value) := hA 7 (by decide)
          refine obl rfl ?_
          have h126 := (Chg.trans hx104 hR124).keep hp92.at_ (fun h => h)
          exact ov_load1 (v := .int .i64 ((findR (rowsL p m ([rg])) (((rowsL p (l ++ m) [rg]).getD k default).group)).count)) Try.isAgg3 (show _ = (.pointer (some ⟨b89, 2, none⟩) : Value) from e7) (blk_cellL h126 rfl) ⟨Chg.refl _ _, rfl⟩
        · intro vals w32 hR127 hA
          have hs128 := hR127.size
          have e6 : (vals 6) = (.int .i64 ((findR (rowsL p l ([rg])) (((rowsL p (l ++ m) [rg]).getD k default).group)).count) : Value) := hA 6 (by decide)
          have e8 : (vals 8) = (.int .i64 ((findR (rowsL p m ([rg])) (((rowsL p (l ++ m) [rg]).getD k default).group)).count) : Value) := hA 8 (by decide)
          refine obl rfl ?_
          have hr129 : InR (((findR (rowsL p l ([rg])) (((rowsL p (l ++ m) [rg]).getD k default).group)).count) + ((findR (rowsL p m ([rg])) (((rowsL p (l ++ m) [rg]).getD k default).group)).count)) := by omega
          exact ov_add (r := ((findR (rowsL p l ([rg])) (((rowsL p (l ++ m) [rg]).getD k default).group)).count) + ((findR (rowsL p m ([rg])) (((rowsL p (l ++ m) [rg]).getD k default).group)).count)) (k := .i64) (a := (findR (rowsL p l ([rg])) (((rowsL p (l ++ m) [rg]).getD k default).group)).count) (b := (findR (rowsL p m ([rg])) (((rowsL p (l ++ m) [rg]).getD k default).group)).count) (show _ = (.int .i64 ((findR (rowsL p l ([rg])) (((rowsL p (l ++ m) [rg]).getD k default).group)).count) : Value) from e6) (show _ = (.int .i64 ((findR (rowsL p m ([rg])) (((rowsL p (l ++ m) [rg]).getD k default).group)).count) : Value) from e8) (wrap_in hr129) ⟨Chg.refl _ _, rfl⟩
        · intro vals w33 hR130 hA
          have hs131 := hR130.size
          have e4 : (vals 4) = (.int .i64 (((rowsL p (l ++ m) [rg]).getD k default).count) : Value) := hA 4 (by decide)
          have e9 : (vals 9) = (.int .i64 (((findR (rowsL p l ([rg])) (((rowsL p (l ++ m) [rg]).getD k default).group)).count) + ((findR (rowsL p m ([rg])) (((rowsL p (l ++ m) [rg]).getD k default).group)).count)) : Value) := hA 9 (by decide)
          refine obl rfl ?_
          exact ov_neq (k := .i64) (a := ((rowsL p (l ++ m) [rg]).getD k default).count) (b := ((findR (rowsL p l ([rg])) (((rowsL p (l ++ m) [rg]).getD k default).group)).count) + ((findR (rowsL p m ([rg])) (((rowsL p (l ++ m) [rg]).getD k default).group)).count)) (show _ = (.int .i64 (((rowsL p (l ++ m) [rg]).getD k default).count) : Value) from e4) (show _ = (.int .i64 (((findR (rowsL p l ([rg])) (((rowsL p (l ++ m) [rg]).getD k default).group)).count) + ((findR (rowsL p m ([rg])) (((rowsL p (l ++ m) [rg]).getD k default).group)).count)) : Value) from e9) ⟨Chg.refl _ _, rfl⟩
        · intro vals w34 hR132 hA
          have hs133 := hR132.size
          have e10 : (vals 10) = (.bool (!decide ((((rowsL p (l ++ m) [rg]).getD k default).count) = (((findR (rowsL p l ([rg])) (((rowsL p (l ++ m) [rg]).getD k default).group)).count) + ((findR (rowsL p m ([rg])) (((rowsL p (l ++ m) [rg]).getD k default).group)).count)))) : Value) := hA 10 (by decide)
          refine obl rfl ?_
          exact ov_move (v := .bool (!decide ((((rowsL p (l ++ m) [rg]).getD k default).count) = (((findR (rowsL p l ([rg])) (((rowsL p (l ++ m) [rg]).getD k default).group)).count) + ((findR (rowsL p m ([rg])) (((rowsL p (l ++ m) [rg]).getD k default).group)).count))))) (show _ = (.bool (!decide ((((rowsL p (l ++ m) [rg]).getD k default).count) = (((findR (rowsL p l ([rg])) (((rowsL p (l ++ m) [rg]).getD k default).group)).count) + ((findR (rowsL p m ([rg])) (((rowsL p (l ++ m) [rg]).getD k default).group)).count)))) : Value) from e10) ⟨Chg.refl _ _, rfl⟩
        · intro vals w35 hR134 hA
          have hs135 := hR134.size
          have e11 : (vals 11) = (.bool (!decide ((((rowsL p (l ++ m) [rg]).getD k default).count) = (((findR (rowsL p l ([rg])) (((rowsL p (l ++ m) [rg]).getD k default).group)).count) + ((findR (rowsL p m ([rg])) (((rowsL p (l ++ m) [rg]).getD k default).group)).count)))) : Value) := hA 11 (by decide)
          refine oblc rfl rfl (show _ = (.bool (!decide ((((rowsL p (l ++ m) [rg]).getD k default).count) = (((findR (rowsL p l ([rg])) (((rowsL p (l ++ m) [rg]).getD k default).group)).count) + ((findR (rowsL p m ([rg])) (((rowsL p (l ++ m) [rg]).getD k default).group)).count)))) : Value) from e11) (fun hb136 => ?_) (fun hb136 => (if_neg hb136).symm)
          have hl137 : (!decide ((((rowsL p (l ++ m) [rg]).getD k default).count) = (((findR (rowsL p l ([rg])) (((rowsL p (l ++ m) [rg]).getD k default).group)).count) + ((findR (rowsL p m ([rg])) (((rowsL p (l ++ m) [rg]).getD k default).group)).count)))) = false := hb136
          have hl137 := ndec_false hl137
          exact ov_move (v := (valsJ 8)) rfl ⟨Chg.refl _ _, (if_pos hb136).symm⟩
        · intro vals w36 hR138 hA
          have hs139 := hR138.size
          have e11 : (vals 11) = (.bool (!decide ((((rowsL p (l ++ m) [rg]).getD k default).count) = (((findR (rowsL p l ([rg])) (((rowsL p (l ++ m) [rg]).getD k default).group)).count) + ((findR (rowsL p m ([rg])) (((rowsL p (l ++ m) [rg]).getD k default).group)).count)))) : Value) := hA 11 (by decide)
          refine oblc rfl rfl (show _ = (.bool (!decide ((((rowsL p (l ++ m) [rg]).getD k default).count) = (((findR (rowsL p l ([rg])) (((rowsL p (l ++ m) [rg]).getD k default).group)).count) + ((findR (rowsL p m ([rg])) (((rowsL p (l ++ m) [rg]).getD k default).group)).count)))) : Value) from e11) (fun hb140 => ?_) (fun hb140 => (if_neg hb140).symm)
          have hl141 : (!decide ((((rowsL p (l ++ m) [rg]).getD k default).count) = (((findR (rowsL p l ([rg])) (((rowsL p (l ++ m) [rg]).getD k default).group)).count) + ((findR (rowsL p m ([rg])) (((rowsL p (l ++ m) [rg]).getD k default).group)).count)))) = false := hb140
          have hl141 := ndec_false hl141
          exact ov_move (v := .int .i64 ((k : Nat) : Int)) rfl ⟨Chg.refl _ _, (if_pos hb140).symm⟩
        · intro vals w37 hR142 hA
          have hs143 := hR142.size
          have e11 : (vals 11) = (.bool (!decide ((((rowsL p (l ++ m) [rg]).getD k default).count) = (((findR (rowsL p l ([rg])) (((rowsL p (l ++ m) [rg]).getD k default).group)).count) + ((findR (rowsL p m ([rg])) (((rowsL p (l ++ m) [rg]).getD k default).group)).count)))) : Value) := hA 11 (by decide)
          have e12 : (vals 12) = (if (!decide ((((rowsL p (l ++ m) [rg]).getD k default).count) = (((findR (rowsL p l ([rg])) (((rowsL p (l ++ m) [rg]).getD k default).group)).count) + ((findR (rowsL p m ([rg])) (((rowsL p (l ++ m) [rg]).getD k default).group)).count)))) = false then ((valsJ 8) : Value) else undef) := hA 12 (by decide)
          have e13 : (vals 13) = (if (!decide ((((rowsL p (l ++ m) [rg]).getD k default).count) = (((findR (rowsL p l ([rg])) (((rowsL p (l ++ m) [rg]).getD k default).group)).count) + ((findR (rowsL p m ([rg])) (((rowsL p (l ++ m) [rg]).getD k default).group)).count)))) = false then (.int .i64 ((k : Nat) : Int) : Value) else undef) := hA 13 (by decide)
          refine oblc rfl rfl (show _ = (.bool (!decide ((((rowsL p (l ++ m) [rg]).getD k default).count) = (((findR (rowsL p l ([rg])) (((rowsL p (l ++ m) [rg]).getD k default).group)).count) + ((findR (rowsL p m ([rg])) (((rowsL p (l ++ m) [rg]).getD k default).group)).count)))) : Value) from e11) (fun hb144 => ?_) (fun hb144 => (if_neg hb144).symm)
          have hl145 : (!decide ((((rowsL p (l ++ m) [rg]).getD k default).count) = (((findR (rowsL p l ([rg])) (((rowsL p (l ++ m) [rg]).getD k default).group)).count) + ((findR (rowsL p m ([rg])) (((rowsL p (l ++ m) [rg]).getD k default).group)).count)))) = false := hb144
          have hl145 := ndec_false hl145
          have hi146 : k < (rowsL p (l ++ m) [rg]).length := by omega
          exact ov_indexAddrN (k := 3) (i := k) Try.underlying28 Try.sizeOf31 (show _ = ((valsJ 8) : Value) from (Eq.trans e12 (if_pos hb144))) h73.sl (show _ = (.int .i64 ((k : Nat) : Int) : Value) from (Eq.trans e13 (if_pos hb144))) hi146 ⟨Chg.refl _ _, (if_pos hb144).symm⟩
        · intro vals w38 hR147 hA
          have hs148 := hR147.size
          have e11 : (vals 11) = (.bool (!decide ((((rowsL p (l ++ m) [rg]).getD k default).count) = (((findR (rowsL p l ([rg])) (((rowsL p (l ++ m) [rg]).getD k default).group)).count) + ((findR (rowsL p m ([rg])) (((rowsL p (l ++ m) [rg]).getD k default).group)).count)))) : Value) := hA 11 (by decide)
          have e14 : (vals 14) = (if (!decide ((((rowsL p (l ++ m) [rg]).getD k default).count) = (((findR (rowsL p l ([rg])) (((rowsL p (l ++ m) [rg]).getD k default).group)).count) + ((findR (rowsL p m ([rg])) (((rowsL p (l ++ m) [rg]).getD k default).group)).count)))) = false then (.pointer (some ⟨sb (valsJ 8), so (valsJ 8) + k * 3, none⟩) : Value) else undef) := hA 14 (by decide)
          refine oblc rfl rfl (show _ = (.bool (!decide ((((rowsL p (l ++ m) [rg]).getD k default).count) = (((findR (rowsL p l ([rg])) (((rowsL p (l ++ m) [rg]).getD k default).group)).count) + ((findR (rowsL p m ([rg])) (((rowsL p (l ++ m) [rg]).getD k default).group)).count)))) : Value) from e11) (fun hb149 => ?_) (fun hb149 => (if_neg hb149).symm)
          have hl150 : (!decide ((((rowsL p (l ++ m) [rg]).getD k default).count) = (((findR (rowsL p l ([rg])) (((rowsL p (l ++ m) [rg]).getD k default).group)).count) + ((findR (rowsL p m ([rg])) (((rowsL p (l ++ m) [rg]).getD k default).group)).count)))) = false := hb149
          have hl150 := ndec_false hl150
          exact fa31_2 (show _ = (.pointer (some ⟨sb (valsJ 8), so (valsJ 8) + k * 3, none⟩) : Value) from (Eq.trans e14 (if_pos hb149))) ⟨Chg.refl _ _, (if_pos hb149).symm⟩
        · intro vals w39 hR151 hA
          have hs152 := hR151.size
          have e11 : (vals 11) = (.bool (!decide ((((rowsL p (l ++ m) [rg]).getD k default).count) = (((findR (rowsL p l ([rg])) (((rowsL p (l ++ m) [rg]).getD k default).group)).count) + ((findR (rowsL p m ([rg])) (((rowsL p (l ++ m) [rg]).getD k default).group)).count)))) : Value) := hA 11 (by decide)
          have e15 : (vals 15) = (if (!decide ((((rowsL p (l ++ m) [rg]).getD k default).count) = (((findR (rowsL p l ([rg])) (((rowsL p (l ++ m) [rg]).getD k default).group)).count) + ((findR (rowsL p m ([rg])) (((rowsL p (l ++ m) [rg]).getD k default).group)).count)))) = false then (.pointer (some ⟨sb (valsJ 8), so (valsJ 8) + k * 3 + 2, none⟩) : Value) else undef) := hA 15 (by decide)
          refine oblc rfl rfl (show _ = (.bool (!decide ((((rowsL p (l ++ m) [rg]).getD k default).count) = (((findR (rowsL p l ([rg])) (((rowsL p (l ++ m) [rg]).getD k default).group)).count) + ((findR (rowsL p m ([rg])) (((rowsL p (l ++ m) [rg]).getD k default).group)).count)))) : Value) from e11) (fun hb153 => ?_) (fun hb153 => (if_neg hb153).symm)
          have hl154 : (!decide ((((rowsL p (l ++ m) [rg]).getD k default).count) = (((findR (rowsL p l ([rg])) (((rowsL p (l ++ m) [rg]).getD k default).group)).count) + ((findR (rowsL p m ([rg])) (((rowsL p (l ++ m) [rg]).getD k default).group)).count)))) = false := hb153
          have hl154 := ndec_false hl154
          have h155 := h84.mono (fun hb => (Chg.trans (Chg.trans (Chg.new (Chg.trans hx86 hn88.ext) hp92.chg (fun i hi hO => by subst hO; omega)) hx104) hR151).block _ hb (fun h => h))
          exact ov_load1 (v := .int .i64 (((rowsL p (l ++ m) [rg]).getD k default).count)) Try.isAgg3 (show _ = (.pointer (some ⟨sb (valsJ 8), so (valsJ 8) + k * 3 + 2, none⟩) : Value) from (Eq.trans e15 (if_pos hb153))) (h155.get (j := 2) rfl) ⟨Chg.refl _ _, (if_pos hb153).symm⟩
        · intro vals w40 hR156 hA
          have hs157 := hR156.size
          have e11 : (vals 11) = (.bool (!decide ((((rowsL p (l ++ m) [rg]).getD k default).count) = (((findR (rowsL p l ([rg])) (((rowsL p (l ++ m) [rg]).getD k default).group)).count) + ((findR (rowsL p m ([rg])) (((rowsL p (l ++ m) [rg]).getD k default).group)).count)))) : Value) := hA 11 (by decide)
          have e16 : (vals 16) = (if (!decide ((((rowsL p (l ++ m) [rg]).getD k default).count) = (((findR (rowsL p l ([rg])) (((rowsL p (l ++ m) [rg]).getD k default).group)).count) + ((findR (rowsL p m ([rg])) (((rowsL p (l ++ m) [rg]).getD k default).group)).count)))) = false then (.int .i64 (((rowsL p (l ++ m) [rg]).getD k default).count) : Value) else undef) := hA 16 (by decide)
          refine oblc rfl rfl (show _ = (.bool (!decide ((((rowsL p (l ++ m) [rg]).getD k default).count) = (((findR (rowsL p l ([rg])) (((rowsL p (l ++ m) [rg]).getD k default).group)).count) + ((findR (rowsL p m ([rg])) (((rowsL p (l ++ m) [rg]).getD k default).group)).count)))) : Value) from e11) (fun hb158 => ?_) (fun hb158 => (if_neg hb158).symm)
          have hl159 : (!decide ((((rowsL p (l ++ m) [rg]).getD k default).count) = (((findR (rowsL p l ([rg])) (((rowsL p (l ++ m) [rg]).getD k default).group)).count) + ((findR (rowsL p m ([rg])) (((rowsL p (l ++ m) [rg]).getD k default).group)).count)))) = false := hb158
          have hl159 := ndec_false hl159
          exact ov_eql (k := .i64) (a := ((rowsL p (l ++ m) [rg]).getD k default).count) (b := 0) (show _ = (.int .i64 (((rowsL p (l ++ m) [rg]).getD k default).count) : Value) from (Eq.trans e16 (if_pos hb158))) rfl ⟨Chg.refl _ _, (if_pos hb158).symm⟩
        · intro vals w41 hR160 hA
          have hs161 := hR160.size
          have e11 : (vals 11) = (.bool (!decide ((((rowsL p (l ++ m) [rg]).getD k default).count) = (((findR (rowsL p l ([rg])) (((rowsL p (l ++ m) [rg]).getD k default).group)).count) + ((findR (rowsL p m ([rg])) (((rowsL p (l ++ m) [rg]).getD k default).group)).count)))) : Value) := hA 11 (by decide)
          have e17 : (vals 17) = (if (!decide ((((rowsL p (l ++ m) [rg]).getD k default).count) = (((findR (rowsL p l ([rg])) (((rowsL p (l ++ m) [rg]).getD k default).group)).count) + ((findR (rowsL p m ([rg])) (((rowsL p (l ++ m) [rg]).getD k default).group)).count)))) = false then (.bool (decide ((((rowsL p (l ++ m) [rg]).getD k default).count) = 0)) : Value) else undef) := hA 17 (by decide)
          refine obl rfl ?_
          exact ov_pick_or (b := !decide ((((rowsL p (l ++ m) [rg]).getD k default).count) = (((findR (rowsL p l ([rg])) (((rowsL p (l ++ m) [rg]).getD k default).group)).count) + ((findR (rowsL p m ([rg])) (((rowsL p (l ++ m) [rg]).getD k default).group)).count)))) (b' := decide ((((rowsL p (l ++ m) [rg]).getD k default).count) = 0)) (show _ = (.bool (!decide ((((rowsL p (l ++ m) [rg]).getD k default).count) = (((findR (rowsL p l ([rg])) (((rowsL p (l ++ m) [rg]).getD k default).group)).count) + ((findR (rowsL p m ([rg])) (((rowsL p (l ++ m) [rg]).getD k default).group)).count)))) : Value) from e11) (fun hbp => (show _ = (.bool (decide ((((rowsL p (l ++ m) [rg]).getD k default).count) = 0)) : Value) from (Eq.trans e17 (if_pos hbp)))) ⟨Chg.refl _ _, rfl⟩
        · intro vals w42 hR162 hA
          have hs163 := hR162.size
          have e18 : (vals 18) = (.bool ((!decide ((((rowsL p (l ++ m) [rg]).getD k default).count) = (((findR (rowsL p l ([rg])) (((rowsL p (l ++ m) [rg]).getD k default).group)).count) + ((findR (rowsL p m ([rg])) (((rowsL p (l ++ m) [rg]).getD k default).group)).count)))) || (decide ((((rowsL p (l ++ m) [rg]).getD k default).count) = 0))) : Value) := hA 18 (by decide)
          refine obl rfl ?_
          exact ov_move (v := .bool ((!decide ((((rowsL p (l ++ m) [rg]).getD k default).count) = (((findR (rowsL p l ([rg])) (((rowsL p (l ++ m) [rg]).getD k default).group)).count) + ((findR (rowsL p m ([rg])) (((rowsL p (l ++ m) [rg]).getD k default).group)).count)))) || (decide ((((rowsL p (l ++ m) [rg]).getD k default).count) = 0)))) (show _ = (.bool ((!decide ((((rowsL p (l ++ m) [rg]).getD k default).count) = (((findR (rowsL p l ([rg])) (((rowsL p (l ++ m) [rg]).getD k default).group)).count) + ((findR (rowsL p m ([rg])) (((rowsL p (l ++ m) [rg]).getD k default).group)).count)))) || (decide ((((rowsL p (l ++ m) [rg]).getD k default).count) = 0))) : Value) from e18) ⟨Chg.refl _ _, rfl⟩
        · intro vals w43 hR164 hA
          have hs165 := hR164.size
          have e19 : (vals 19) = (.bool ((!decide ((((rowsL p (l ++ m) [rg]).getD k default).count) = (((findR (rowsL p l ([rg])) (((rowsL p (l ++ m) [rg]).getD k default).group)).count) + ((findR (rowsL p m ([rg])) (((rowsL p (l ++ m) [rg]).getD k default).group)).count)))) || (decide ((((rowsL p (l ++ m) [rg]).getD k default).count) = 0))) : Value) := hA 19 (by decide)
          refine oblc rfl rfl (show _ = (.bool ((!decide ((((rowsL p (l ++ m) [rg]).getD k default).count) = (((findR (rowsL p l ([rg])) (((rowsL p (l ++ m) [rg]).getD k default).group)).count) + ((findR (rowsL p m ([rg])) (((rowsL p (l ++ m) [rg]).getD k default).group)).count)))) || (decide ((((rowsL p (l ++ m) [rg]).getD k default).count) = 0))) : Value) from e19) (fun hb166 => ?_) (fun hb166 => (if_neg hb166).symm)
          have hl167 : ((!decide ((((rowsL p (l ++ m) [rg]).getD k default).count) = (((findR (rowsL p l ([rg])) (((rowsL p (l ++ m) [rg]).getD k default).group)).count) + ((findR (rowsL p m ([rg])) (((rowsL p (l ++ m) [rg]).getD k default).group)).count)))) || (decide ((((rowsL p (l ++ m) [rg]).getD k default).count) = 0))) = false := hb166
          simp only [Bool.and_eq_true, Bool.or_eq_true, Bool.and_eq_false_iff, Bool.or_eq_false_iff, decide_eq_true_eq, decide_eq_false_iff_not, Bool.not_eq_true', Bool.not_eq_false', Int.not_lt, Int.not_le] at hl167
          exact ov_move (v := (valsJ 8)) rfl ⟨Chg.refl _ _, (if_pos hb166).symm⟩
        · intro vals w44 hR168 hA
          have hs169 := hR168.size
          have e19 : (vals 19) = (.bool ((!decide ((((rowsL p (l ++ m) [rg]).getD k default).count) = (((findR (rowsL p l ([rg])) (((rowsL p (l ++ m) [rg]).getD k default).group)).count) + ((findR (rowsL p m ([rg])) (((rowsL p (l ++ m) [rg]).getD k default).group)).count)))) || (decide ((((rowsL p (l ++ m) [rg]).getD k default).count) = 0))) : Value) := hA 19 (by decide)
          refine oblc rfl rfl (show _ = (.bool ((!decide ((((rowsL p (l ++ m) [rg]).getD k default).count) = (((findR (rowsL p l ([rg])) (((rowsL p (l ++ m) [rg]).getD k default).group)).count) + ((findR (rowsL p m ([rg])) (((rowsL p (l ++ m) [rg]).getD k default).group)).count)))) || (decide ((((rowsL p (l ++ m) [rg]).getD k default).count) = 0))) : Value) from e19) (fun hb170 => ?_) (fun hb170 => (if_neg hb170).symm)
          have hl171 : ((!decide ((((rowsL p (l ++ m) [rg]).getD k default).count) = (((findR (rowsL p l ([rg])) (((rowsL p (l ++ m) [rg]).getD k default).group)).count) + ((findR (rowsL p m ([rg])) (((rowsL p (l ++ m) [rg]).getD k default).group)).count)))) || (decide ((((rowsL p (l ++ m) [rg]).getD k default).count) = 0))) = false := hb170
          simp only [Bool.and_eq_true, Bool.or_eq_true, Bool.and_eq_false_iff, Bool.or_eq_false_iff, decide_eq_true_eq, decide_eq_false_iff_not, Bool.not_eq_true', Bool.not_eq_false', Int.not_lt, Int.not_le] at hl171
          exact ov_move (v := .int .i64 ((k : Nat) : Int)) rfl ⟨Chg.refl _ _, (if_pos hb170).symm⟩
        · intro vals w45 hR172 hA
          have hs173 := hR172.size
          have e19 : (vals 19) = (.bool ((!decide ((((rowsL p (l ++ m) [rg]).getD k default).count) = (((findR (rowsL p l ([rg])) (((rowsL p (l ++ m) [rg]).getD k default).group)).count) + ((findR (rowsL p m ([rg])) (((rowsL p (l ++ m) [rg]).getD k default).group)).count)))) || (decide ((((rowsL p (l ++ m) [rg]).getD k default).count) = 0))) : Value) := hA 19 (by decide)
          have e20 : (vals 20) = (if ((!decide ((((rowsL p (l ++ m) [rg]).getD k default).count) = (((findR (rowsL p l ([rg])) (((rowsL p (l ++ m) [rg]).getD k default).group)).count) + ((findR (rowsL p m ([rg])) (((rowsL p (l ++ m) [rg]).getD k default).group)).count)))) || (decide ((((rowsL p (l ++ m) [rg]).getD k default).count) = 0))) = false then ((valsJ 8) : Value) else undef) := hA 20 (by decide)
          have e21 : (vals 21) = (if ((!decide ((((rowsL p (l ++ m) [rg]).getD k default).count) = (((findR (rowsL p l ([rg])) (((rowsL p (l ++ m) [rg]).getD k default).group)).count) + ((findR (rowsL p m ([rg])) (((rowsL p (l ++ m) [rg]).getD k default).group)).count)))) || (decide ((((rowsL p (l ++ m) [rg]).getD k default).count) = 0))) = false then (.int .i64 ((k : Nat) : Int) : Value) else undef) := hA 21 (by decide)
          refine oblc rfl rfl (show _ = (.bool ((!decide ((((rowsL p (l ++ m) [rg]).getD k default).count) = (((findR (rowsL p l ([rg])) (((rowsL p (l ++ m) [rg]).getD k default).group)).count) + ((findR (rowsL p m ([rg])) (((rowsL p (l ++ m) [rg]).getD k default).group)).count)))) || (decide ((((rowsL p (l ++ m) [rg]).getD k default).count) = 0))) : Value) from e19) (fun hb174 => ?_) (fun hb174 => (if_neg hb174).symm)
          have hl175 : ((!decide ((((rowsL p (l ++ m) [rg]).getD k default).count) = (((findR (rowsL p l ([rg])) (((rowsL p (l ++ m) [rg]).getD k default).group)).count) + ((findR (rowsL p m ([rg])) (((rowsL p (l ++ m) [rg]).getD k default).group)).count)))) || (decide ((((rowsL p (l ++ m) [rg]).getD k default).count) = 0))) = false := hb174
          simp only [Bool.and_eq_true, Bool.or_eq_true, Bool.and_eq_false_iff, Bool.or_eq_false_iff, decide_eq_true_eq, decide_eq_false_iff_not, Bool.not_eq_true', Bool.not_eq_false', Int.not_lt, Int.not_le] at hl175
          have hi176 : k < (rowsL p (l ++ m) [rg]).length := by omega
          exact ov_indexAddrN (k := 3) (i := k) Try.underlying28 Try.sizeOf31 (show _ = ((valsJ 8) : Value) from (Eq.trans e20 (if_pos hb174))) h73.sl (show _ = (.int .i64 ((k : Nat) : Int) : Value) from (Eq.trans e21 (if_pos hb174))) hi176 ⟨Chg.refl _ _, (if_pos hb174).symm⟩
        · intro vals w46 hR177 hA
          have hs178 := hR177.size
          have e19 : (vals 19) = (.bool ((!decide ((((rowsL p (l ++ m) [rg]).getD k default).count) = (((findR (rowsL p l ([rg])) (((rowsL p (l ++ m) [rg]).getD k default).group)).count) + ((findR (rowsL p m ([rg])) (((rowsL p (l ++ m) [rg]).getD k default).group)).count)))) || (decide ((((rowsL p (l ++ m) [rg]).getD k default).count) = 0))) : Value) := hA 19 (by decide)
          have e22 : (vals 22) = (if ((!decide ((((rowsL p (l ++ m) [rg]).getD k default).count) = (((findR (rowsL p l ([rg])) (((rowsL p (l ++ m) [rg]).getD k default).group)).count) + ((findR (rowsL p m ([rg])) (((rowsL p (l ++ m) [rg]).getD k default).group)).count)))) || (decide ((((rowsL p (l ++ m) [rg]).getD k default).count) = 0))) = false then (.pointer (some ⟨sb (valsJ 8), so (valsJ 8) + k * 3, none⟩) : Value) else undef) := hA 22 (by decide)
          refine oblc rfl rfl (show _ = (.bool ((!decide ((((rowsL p (l ++ m) [rg]).getD k default).count) = (((findR (rowsL p l ([rg])) (((rowsL p (l ++ m) [rg]).getD k default).group)).count) + ((findR (rowsL p m ([rg])) (((rowsL p (l ++ m) [rg]).getD k default).group)).count)))) || (decide ((((rowsL p (l ++ m) [rg]).getD k default).count) = 0))) : Value) from e19) (fun hb179 => ?_) (fun hb179 => (if_neg hb179).symm)
          have hl180 : ((!decide ((((rowsL p (l ++ m) [rg]).getD k default).count) = (((findR (rowsL p l ([rg])) (((rowsL p (l ++ m) [rg]).getD k default).group)).count) + ((findR (rowsL p m ([rg])) (((rowsL p (l ++ m) [rg]).getD k default).group)).count)))) || (decide ((((rowsL p (l ++ m) [rg]).getD k default).count) = 0))) = false := hb179
          simp only [Bool.and_eq_true, Bool.or_eq_true, Bool.and_eq_false_iff, Bool.or_eq_false_iff, decide_eq_true_eq, decide_eq_false_iff_not, Bool.not_eq_true', Bool.not_eq_false', Int.not_lt, Int.not_le] at hl180
          exact fa31_1 (show _ = (.pointer (some ⟨sb (valsJ 8), so (valsJ 8) + k * 3, none⟩) : Value) from (Eq.trans e22 (if_pos hb179))) ⟨Chg.refl _ _, (if_pos hb179).symm⟩
        · intro vals w47 hR181 hA
          have hs182 := hR181.size
          have e19 : (vals 19) = (.bool ((!decide ((((rowsL p (l ++ m) [rg]).getD k default).count) = (((findR (rowsL p l ([rg])) (((rowsL p (l ++ m) [rg]).getD k default).group)).count) + ((findR (rowsL p m ([rg])) (((rowsL p (l ++ m) [rg]).getD k default).group)).count)))) || (decide ((((rowsL p (l ++ m) [rg]).getD k default).count) = 0))) : Value) := hA 19 (by decide)
          have e23 : (vals 23) = (if ((!decide ((((rowsL p (l ++ m) [rg]).getD k default).count) = (((findR (rowsL p l ([rg])) (((rowsL p (l ++ m) [rg]).getD k default).group)).count) + ((findR (rowsL p m ([rg])) (((rowsL p (l ++ m) [rg]).getD k default).group)).count)))) || (decide ((((rowsL p (l ++ m) [rg]).getD k default).count) = 0))) = false then (.pointer (some ⟨sb (valsJ 8), so (valsJ 8) + k * 3 + 1, none⟩) : Value) else undef) := hA 23 (by decide)
          refine oblc rfl rfl (show _ = (.bool ((!decide ((((rowsL p (l ++ m) [rg]).getD k default).count) = (((findR (rowsL p l ([rg])) (((rowsL p (l ++ m) [rg]).getD k default).group)).count) + ((findR (rowsL p m ([rg])) (((rowsL p (l ++ m) [rg]).getD k default).group)).count)))) || (decide ((((rowsL p (l ++ m) [rg]).getD k default).count) = 0))) : Value) from e19) (fun hb183 => ?_) (fun hb183 => (if_neg hb183).symm)
          have hl184 : ((!decide ((((rowsL p (l ++ m) [rg]).getD k default).count) = (((findR (rowsL p l ([rg])) (((rowsL p (l ++ m) [rg]).getD k default).group)).count) + ((findR (rowsL p m ([rg])) (((rowsL p (l ++ m) [rg]).getD k default).group)).count)))) || (decide ((((rowsL p (l ++ m) [rg]).getD k default).count) = 0))) = false := hb183
          simp only [Bool.and_eq_true, Bool.or_eq_true, Bool.and_eq_false_iff, Bool.or_eq_false_iff, decide_eq_true_eq, decide_eq_false_iff_not, Bool.not_eq_true', Bool.not_eq_false', Int.not_lt, Int.not_le] at hl184
          have h185 := h84.mono (fun hb => (Chg.trans (Chg.trans (Chg.new (Chg.trans hx86 hn88.ext) hp92.chg (fun i hi hO => by subst hO; omega)) hx104) hR181).block _ hb (fun h => h))
          exact ov_load1 (v := .int .i64 (((rowsL p (l ++ m) [rg]).getD k default).value)) Try.isAgg3 (show _ = (.pointer (some ⟨sb (valsJ 8), so (valsJ 8) + k * 3 + 1, none⟩) : Value) from (Eq.trans e23 (if_pos hb183))) (h185.get (j := 1) rfl) ⟨Chg.refl _ _, (if_pos hb183).symm⟩
        · intro vals w48 hR186 hA
          have hs187 := hR186.size
          have e19 : (vals 19) = (.bool ((!decide ((((rowsL p (l ++ m) [rg]).getD k default).count) = (((findR (rowsL p l ([rg])) (((rowsL p (l ++ m) [rg]).getD k default).group)).count) + ((findR (rowsL p m ([rg])) (((rowsL p (l ++ m) [rg]).getD k default).group)).count)))) || (decide ((((rowsL p (l ++ m) [rg]).getD k default).count) = 0))) : Value) := hA 19 (by decide)
          refine oblc rfl rfl (show _ = (.bool ((!decide ((((rowsL p (l ++ m) [rg]).getD k default).count) = (((findR (rowsL p l ([rg])) (((rowsL p (l ++ m) [rg]).getD k default).group)).count) + ((findR (rowsL p m ([rg])) (((rowsL p (l ++ m) [rg]).getD k default).group)).count)))) || (decide ((((rowsL p (l ++ m) [rg]).getD k default).count) = 0))) : Value) from e19) (fun hb188 => ?_) (fun hb188 => (if_neg hb188).symm)
          have hl189 : ((!decide ((((rowsL p (l ++ m) [rg]).getD k default).count) = (((findR (rowsL p l ([rg])) (((rowsL p (l ++ m) [rg]).getD k default).group)).count) + ((findR (rowsL p m ([rg])) (((rowsL p (l ++ m) [rg]).getD k default).group)).count)))) || (decide ((((rowsL p (l ++ m) [rg]).getD k default).count) = 0))) = false := hb188
          simp only [Bool.and_eq_true, Bool.or_eq_true, Bool.and_eq_false_iff, Bool.or_eq_false_iff, decide_eq_true_eq, decide_eq_false_iff_not, Bool.not_eq_true', Bool.not_eq_false', Int.not_lt, Int.not_le] at hl189
          exact ov_move (v := .int .i64 (v4)) rfl ⟨Chg.refl _ _, (if_pos hb188).symm⟩
        · intro vals w49 hR190 hA
          have hs191 := hR190.size
          have e19 : (vals 19) = (.bool ((!decide ((((rowsL p (l ++ m) [rg]).getD k default).count) = (((findR (rowsL p l ([rg])) (((rowsL p (l ++ m) [rg]).getD k default).group)).count) + ((findR (rowsL p m ([rg])) (((rowsL p (l ++ m) [rg]).getD k default).group)).count)))) || (decide ((((rowsL p (l ++ m) [rg]).getD k default).count) = 0))) : Value) := hA 19 (by decide)
          have e24 : (vals 24) = (if ((!decide ((((rowsL p (l ++ m) [rg]).getD k default).count) = (((findR (rowsL p l ([rg])) (((rowsL p (l ++ m) [rg]).getD k default).group)).count) + ((findR (rowsL p m ([rg])) (((rowsL p (l ++ m) [rg]).getD k default).group)).count)))) || (decide ((((rowsL p (l ++ m) [rg]).getD k default).count) = 0))) = false then (.int .i64 (((rowsL p (l ++ m) [rg]).getD k default).value) : Value) else undef) := hA 24 (by decide)
          have e25 : (vals 25) = (if ((!decide ((((rowsL p (l ++ m) [rg]).getD k default).count) = (((findR (rowsL p l ([rg])) (((rowsL p (l ++ m) [rg]).getD k default).group)).count) + ((findR (rowsL p m ([rg])) (((rowsL p (l ++ m) [rg]).getD k default).group)).count)))) || (decide ((((rowsL p (l ++ m) [rg]).getD k default).count) = 0))) = false then (.int .i64 (v4) : Value) else undef) := hA 25 (by decide)
          refine oblc rfl rfl (show _ = (.bool ((!decide ((((rowsL p (l ++ m) [rg]).getD k default).count) = (((findR (rowsL p l ([rg])) (((rowsL p (l ++ m) [rg]).getD k default).group)).count) + ((findR (rowsL p m ([rg])) (((rowsL p (l ++ m) [rg]).getD k default).group)).count)))) || (decide ((((rowsL p (l ++ m) [rg]).getD k default).count) = 0))) : Value) from e19) (fun hb192 => ?_) (fun hb192 => (if_neg hb192).symm)
          have hl193 : ((!decide ((((rowsL p (l ++ m) [rg]).getD k default).count) = (((findR (rowsL p l ([rg])) (((rowsL p (l ++ m) [rg]).getD k default).group)).count) + ((findR (rowsL p m ([rg])) (((rowsL p (l ++ m) [rg]).getD k default).group)).count)))) || (decide ((((rowsL p (l ++ m) [rg]).getD k default).count) = 0))) = false := hb192
          simp only [Bool.and_eq_true, Bool.or_eq_true, Bool.and_eq_false_iff, Bool.or_eq_false_iff, decide_eq_true_eq, decide_eq_false_iff_not, Bool.not_eq_true', Bool.not_eq_false', Int.not_lt, Int.not_le] at hl193
          exact ov_neq (k := .i64) (a := ((rowsL p (l ++ m) [rg]).getD k default).value) (b := v4) (show _ = (.int .i64 (((rowsL p (l ++ m) [rg]).getD k default).value) : Value) from (Eq.trans e24 (if_pos hb192))) (show _ = (.int .i64 (v4) : Value) from (Eq.trans e25 (if_pos hb192))) ⟨Chg.refl _ _, (if_pos hb192).symm⟩
        · intro vals w50 hR194 hA
          have hs195 := hR194.size
          have e19 : (vals 19) = (.bool ((!decide ((((rowsL p (l ++ m) [rg]).getD k default).count) = (((findR (rowsL p l ([rg])) (((rowsL p (l ++ m) [rg]).getD k default).group)).count) + ((findR (rowsL p m ([rg])) (((rowsL p (l ++ m) [rg]).getD k default).group)).count)))) || (decide ((((rowsL p (l ++ m) [rg]).getD k default).count) = 0))) : Value) := hA 19 (by decide)
          have e26 : (vals 26) = (if ((!decide ((((rowsL p (l ++ m) [rg]).getD k default).count) = (((findR (rowsL p l ([rg])) (((rowsL p (l ++ m) [rg]).getD k default).group)).count) + ((findR (rowsL p m ([rg])) (((rowsL p (l ++ m) [rg]).getD k default).group)).count)))) || (decide ((((rowsL p (l ++ m) [rg]).getD k default).count) = 0))) = false then (.bool (!decide ((((rowsL p (l ++ m) [rg]).getD k default).value) = v4)) : Value) else undef) := hA 26 (by decide)
          refine obl rfl ?_
          exact ov_pick_or (b := (!decide ((((rowsL p (l ++ m) [rg]).getD k default).count) = (((findR (rowsL p l ([rg])) (((rowsL p (l ++ m) [rg]).getD k default).group)).count) + ((findR (rowsL p m ([rg])) (((rowsL p (l ++ m) [rg]).getD k default).group)).count)))) || (decide ((((rowsL p (l ++ m) [rg]).getD k default).count) = 0))) (b' := !decide ((((rowsL p (l ++ m) [rg]).getD k default).value) = v4)) (show _ = (.bool ((!decide ((((rowsL p (l ++ m) [rg]).getD k default).count) = (((findR (rowsL p l ([rg])) (((rowsL p (l ++ m) [rg]).getD k default).group)).count) + ((findR (rowsL p m ([rg])) (((rowsL p (l ++ m) [rg]).getD k default).group)).count)))) || (decide ((((rowsL p (l ++ m) [rg]).getD k default).count) = 0))) : Value) from e19) (fun hbp => (show _ = (.bool (!decide ((((rowsL p (l ++ m) [rg]).getD k default).value) = v4)) : Value) from (Eq.trans e26 (if_pos hbp)))) ⟨Chg.refl _ _, rfl⟩
        intro vals w51 hR196 hA
        have hs197 := hR196.size
        have hs198 := hx104.size
        have e27 : (vals 27) = (.bool (((!decide ((((rowsL p (l ++ m) [rg]).getD k default).count) = (((findR (rowsL p l ([rg])) (((rowsL p (l ++ m) [rg]).getD k default).group)).count) + ((findR (rowsL p m ([rg])) (((rowsL p (l ++ m) [rg]).getD k default).group)).count)))) || (decide ((((rowsL p (l ++ m) [rg]).getD k default).count) = 0))) || (!decide ((((rowsL p (l ++ m) [rg]).getD k default).value) = v4))) : Value) := hA 27 (by decide)
        refine st_env (kv := [(4, .pointer (some ⟨b2, 0, none⟩)), (10, v38), (11, v44), (12, (valsJ 8)), (13, .int .i64 ((k : Nat) : Int)), (14, .pointer (some ⟨b78, 0, none⟩)), (15, .pointer (some ⟨b89, 0, none⟩)), (16, .int .i64 (v4)), (131, .bool (((!decide ((((rowsL p (l ++ m) [rg]).getD k default).count) = (((findR (rowsL p l ([rg])) (((rowsL p (l ++ m) [rg]).getD k default).group)).count) + ((findR (rowsL p m ([rg])) (((rowsL p (l ++ m) [rg]).getD k default).group)).count)))) || (decide ((((rowsL p (l ++ m) [rg]).getD k default).count) = 0))) || (!decide ((((rowsL p (l ++ m) [rg]).getD k default).value) = v4))))]) ⟨rfl, rfl, rfl, rfl, rfl, rfl, rfl, rfl, (by exact e27), trivial⟩ (fun ρ51 => ?_)
        clear e27
        clear hA qh1 qh2 qh3 qh4
        refine st_nil ?_
        cases hc199 : ((!decide ((((rowsL p (l ++ m) [rg]).getD k default).count) = (((findR (rowsL p l ([rg])) (((rowsL p (l ++ m) [rg]).getD k default).group)).count) + ((findR (rowsL p m ([rg])) (((rowsL p (l ++ m) [rg]).getD k default).group)).count)))) || (decide ((((rowsL p (l ++ m) [rg]).getD k default).count) = 0))) || (!decide ((((rowsL p (l ++ m) [rg]).getD k default).value) = v4))
        · skip
          simp only [Bool.and_eq_true, Bool.or_eq_true, Bool.and_eq_false_iff, Bool.or_eq_false_iff, decide_eq_true_eq, decide_eq_false_iff_not, Bool.not_eq_true', Bool.not_eq_false', Int.not_lt, Int.not_le] at hc199
          refine WP_cond_f rfl ?_
          refine WP_skip ?_
          refine WP_region0 (by kernel_rfl) (fun _ => ?_)
          refine st (ov_move (v := .int .i64 ((k : Nat) : Int)) rfl ?_)
          have hr200 : InR ((k + 1 : Nat) : Int) := by omega
          refine st (ov_add (r := ((k + 1 : Nat) : Int)) (k := .i64) (a := ((k : Nat) : Int)) (b := 1) rfl rfl (by rw [show (((k : Nat) : Int) + 1 : Int) = ((k + 1 : Nat) : Int) by omega]; exact wrap_in hr200) ?_)
          refine st (ov_assign (v := .int .i64 ((k + 1 : Nat) : Int)) rfl ?_)
          refine st_nil ?_
          exact ⟨_, by omega, k + 1, _, rfl, setAll_self ⟨rfl, rfl, rfl, rfl, rfl, trivial⟩, (Chg.trans (Chg.trans (Chg.new (Chg.trans (Chg.trans (Chg.new (Chg.trans (Chg.trans hx52 hx75) hn77.ext) hp81.chg (fun i hi hO => by subst hO; omega)) hx86) hn88.ext) hp92.chg (fun i hi hO => by subst hO; omega)) hx104) hR196), by omega⟩
        · skip
          simp only [Bool.and_eq_true, Bool.or_eq_true, Bool.and_eq_false_iff, Bool.or_eq_false_iff, decide_eq_true_eq, decide_eq_false_iff_not, Bool.not_eq_true', Bool.not_eq_false', Int.not_lt, Int.not_le] at hc199
          refine WP_cond_t rfl ?_
          refine WP_seq ?_
          refine WP_region0 (by kernel_rfl) (fun _ => ?_)
          refine st (ov_assign (v := .bool false) rfl ?_)
          refine st_nil ?_
          refine WP_ret ?_
          refine fin1 Try.results6 (show _ = (.bool false : Value) from rfl) ?_
          exfalso
          have h1 := row_self (p := p) (l := l ++ m) (g := [rg]) (k := k) (by omega)
          have h2 := join_cnt p l m rg ((rowsL p (l ++ m) [rg]).getD k default).group
          have h3 := join_val (p := p) ⟨by omega, by omega⟩ hl300 hm300 rg ((rowsL p (l ++ m) [rg]).getD k default).group
          rw [h1.1] at h2 h3
          have h4 := h1.2
          rw [show v4 = _ from hj103, show v3 = _ from hj101, show v2 = _ from hj99, show v1 = _ from hj97, ← h3] at hc199
          omega
    · skip
      simp only [Bool.and_eq_true, Bool.or_eq_true, Bool.and_eq_false_iff, Bool.or_eq_false_iff, decide_eq_true_eq, decide_eq_false_iff_not, Bool.not_eq_true', Bool.not_eq_false', Int.not_lt, Int.not_le] at hc28
      refine WP_cond_t rfl ?_
      refine WP_seq ?_
      refine WP_region0 (by kernel_rfl) (fun _ => ?_)
      refine st (ov_call (f := 10) (vals := []) (cap := []) (show _ = (.func (.func 10) #[] #[] : Value) from rfl) rfl Try.call10 (C_works ) ?_)
      rintro _ w52 ⟨rfl, hx201⟩
      have hx201s := hx201.size
      refine st (ov_assign (v := .bool true) rfl ?_)
      refine st_nil ?_
      refine WP_ret ?_
      refine fin1 Try.results6 (show _ = (.bool true : Value) from rfl) ?_
      exact ⟨rfl, (Chg.trans (Chg.trans (Chg.trans hn1.ext hx6) hx11) hx201)⟩
  · skip
    refine stx rfl rfl ?_
    refine stx rfl rfl ?_
    refine st (ov_pick_t (v := .bool true) rfl rfl ?_)
    refine st (ov_move (v := .bool true) rfl ?_)
    refine stx rfl rfl ?_
    refine stx rfl rfl ?_
    refine stx rfl rfl ?_
    refine st (ov_pick_t (v := .bool true) rfl rfl ?_)
    refine st (ov_move (v := .bool true) rfl ?_)
    refine stx rfl rfl ?_
    refine stx rfl rfl ?_
    refine stx rfl rfl ?_
    refine st (ov_pick_t (v := .bool true) rfl rfl ?_)
    refine st_nil ?_
    refine WP_cond_t rfl ?_
    refine WP_seq ?_
    refine WP_region0 (by kernel_rfl) (fun _ => ?_)
    refine st (ov_call (f := 10) (vals := []) (cap := []) (show _ = (.func (.func 10) #[] #[] : Value) from rfl) rfl Try.call10 (C_works ) ?_)
    rintro _ w53 ⟨rfl, hx202⟩
    have hx202s := hx202.size
    refine st (ov_assign (v := .bool true) rfl ?_)
    refine st_nil ?_
    refine WP_ret ?_
    refine fin1 Try.results6 (show _ = (.bool true : Value) from rfl) ?_
    exact ⟨rfl, (Chg.trans (Chg.trans hn1.ext hx6) hx202)⟩

end Go.Proofs.Ytbbpmhfcgoljdaa
