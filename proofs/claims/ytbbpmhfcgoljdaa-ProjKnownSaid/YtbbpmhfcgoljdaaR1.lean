/- Steps of the proofs of this seat: part R1. -/
import Derived.Test.YtbbpmhfcgoljdaaP6
set_option linter.unusedSimpArgs false
set_option linter.unusedVariables false
namespace Go.Proofs.Ytbbpmhfcgoljdaa
open Go.Proofs Go.RowKit

/-- A row with an event more. -/
def oneR (p : Prj) (q : Row) (x : Int) : Row := ⟨q.group, if 1 ≤ p.pmake ∧ p.pmake ≤ 5 then madeI p ⟨q.group, q.value, q.count + 1⟩ x else q.value, q.count + 1⟩
theorem oneR_ok {p : Prj} {q : Row} {x : Int} (oq : q.Ok) (hx : InR x) (hc : 0 ≤ q.count ∧ q.count < 4611686018427387904) : (oneR p q x).Ok := by
  have h1 : InR (q.count + 1) := by omega
  refine ⟨oq.group, ?_, h1⟩
  unfold oneR
  dsimp only
  split
  · exact madeI_in oq.value h1 hx
  · exact oq.value
theorem getD_atR (l : List Row) {i : Nat} (h : i < l.length) : l.getD i default = l[i] := getD_at _ h

theorem fa60_0 {d : Option Tmp} {ty : TypeId} {pos : String} {af : Array Edge} {g : Option (Nat × Bool)} {σ : Env} {w : World} {K : Value → World → Prop} {x : Operand} {b o : Nat} (hx : ev σ x = .pointer (some ⟨b, o, none⟩)) (h : K (.pointer (some ⟨b, o + 0, none⟩)) w) : opV Try.prog ⟨d, .fieldAddr 60 x 0, ty, pos, af, g⟩ σ w K := ov_fieldAddr Try.underlying60 rfl rfl (fun w => ⟨4, Try.sizeOf23 w⟩) hx h
theorem C_one {w : World} {a : Nat} {p : Prj} {vx : Value} (ha : w.heap[a]? = some (.cells #[.int .i64 (p.ptyp), .int .i64 (p.pfield), .int .i64 (p.pgroup), .int .i64 (p.pby), .int .i64 (p.pmake), vx] 60)) (op : p.Ok) {q : Row} (oq : q.Ok) {arg : Int} (harg : InR arg) (hqc : 0 ≤ q.count ∧ q.count < 4611686018427387904) : Ret Try.prog 29 [.pointer (some ⟨a, 0, none⟩), .agg (q.cells).toArray, .int .i64 (arg)] w (fun r w' => r = .agg ((oneR p q arg).cells).toArray ∧ Ext w w') := by
  refine Calls_of_WP (args := [.pointer (some ⟨a, 0, none⟩), .agg (q.cells).toArray, .int .i64 (arg)]) Try.func29 rfl rfl ?_
  refine WP_seq ?_
  refine WP_region0 (by kernel_rfl) (fun _ => ?_)
  refine st (ov_box (v := .agg (q.cells).toArray) rfl (fun w1 b2 hn1 => ?_))
  have hb3 : w1.heap[b2]? = some (.cells (q.cells).toArray 31) := hn1.at_
  have hs4 := hn1.size; have hs4e := hn1.eq
  refine st (ov_alloc Try.zeroValue31 (fun w2 b6 hn5 => ?_))
  have hb7 : w2.heap[b6]? = some (.cells #[.int .i64 (0), .int .i64 (0), .int .i64 (0)] 31) := hn5.at_
  have hs8 := hn5.size; have hs8e := hn5.eq
  refine st_nil ?_
  refine WP_seq ?_
  refine WP_region0 (by kernel_rfl) (fun _ => ?_)
  refine st (fa31_2 rfl ?_)
  have h9 := hn5.ext.keep hb3 (fun h => h)
  refine st (ov_load1 (v := .int .i64 (q.count)) Try.isAgg3 rfl (blk_cellL h9 rfl) ?_)
  have hr10 : InR (q.count + 1) := by omega
  refine st (ov_add (r := q.count + 1) (k := .i64) (a := q.count) (b := 1) rfl rfl (wrap_in hr10) ?_)
  refine st (fa31_2 rfl ?_)
  refine stn (ov_store1 (v := .int .i64 (q.count + 1)) (c := [.int .i64 (q.group), .int .i64 (q.value), .int .i64 (q.count)]) (c' := [.int .i64 (q.group), .int .i64 (q.value), .int .i64 (q.count + 1)]) Try.sizeOf3 rfl rfl h9 rfl rfl rfl (fun w3 hp11 => ?_))
  have hs12 := hp11.size
  have ok13 : Row.Ok (⟨q.group, q.value, q.count + 1⟩ : Row) := ⟨oq.group, oq.value, hr10⟩
  refine st_nil ?_
  refine WP_seq ?_
  refine WP_seq ?_
  refine WP_region0 (by kernel_rfl) (fun _ => ?_)
  refine st (ov_move (v := .pointer (some ⟨a, 0, none⟩)) rfl ?_)
  refine st (ov_nilCheck (b := a) (o := 0) rfl ?_)
  refine st (fa60_0 rfl ?_)
  refine st (fa23_4 rfl ?_)
  have h14 := (Chg.new (Chg.trans hn1.ext hn5.ext) hp11.chg (fun i hi hO => by subst hO; omega)).keep ha (fun h => h)
  refine st (ov_load1 (v := .int .i64 (p.pmake)) Try.isAgg3 rfl (blk_cellL h14 rfl) ?_)
  refine st_nil ?_
  refine WP_block ?_
  refine WP_seq ?_
  refine WP_region0 (by kernel_rfl) (fun _ => ?_)
  refine st (ov_eql (k := .i64) (a := p.pmake) (b := 1) rfl rfl ?_)
  refine st (ov_assign (v := .bool (decide (p.pmake = 1))) rfl ?_)
  refine st_nil ?_
  cases hc15 : decide (p.pmake = 1)
  · skip
    have hc15 := of_decide_eq_false hc15
    refine WP_cond_f rfl ?_
    refine WP_seq ?_
    refine WP_region0 (by kernel_rfl) (fun _ => ?_)
    refine st (ov_eql (k := .i64) (a := p.pmake) (b := 2) rfl rfl ?_)
    refine st (ov_assign (v := .bool (decide (p.pmake = 2))) rfl ?_)
    refine st_nil ?_
    cases hc16 : decide (p.pmake = 2)
    · skip
      have hc16 := of_decide_eq_false hc16
      refine WP_cond_f rfl ?_
      refine WP_seq ?_
      refine WP_region0 (by kernel_rfl) (fun _ => ?_)
      refine st (ov_eql (k := .i64) (a := p.pmake) (b := 3) rfl rfl ?_)
      refine st (ov_assign (v := .bool (decide (p.pmake = 3))) rfl ?_)
      refine st_nil ?_
      cases hc17 : decide (p.pmake = 3)
      · skip
        have hc17 := of_decide_eq_false hc17
        refine WP_cond_f rfl ?_
        refine WP_seq ?_
        refine WP_region0 (by kernel_rfl) (fun _ => ?_)
        refine st (ov_eql (k := .i64) (a := p.pmake) (b := 4) rfl rfl ?_)
        refine st (ov_assign (v := .bool (decide (p.pmake = 4))) rfl ?_)
        refine st_nil ?_
        cases hc18 : decide (p.pmake = 4)
        · skip
          have hc18 := of_decide_eq_false hc18
          refine WP_cond_f rfl ?_
          refine WP_seq ?_
          refine WP_region0 (by kernel_rfl) (fun _ => ?_)
          refine st (ov_eql (k := .i64) (a := p.pmake) (b := 5) rfl rfl ?_)
          refine st (ov_assign (v := .bool (decide (p.pmake = 5))) rfl ?_)
          refine st_nil ?_
          cases hc19 : decide (p.pmake = 5)
          · skip
            have hc19 := of_decide_eq_false hc19
            refine WP_cond_f rfl ?_
            refine WP_skip ?_
            refine WP_seq ?_
            refine WP_region0 (by kernel_rfl) (fun _ => ?_)
            refine st (ov_loadk (k := 3) Try.isAgg31 Try.sizeOf31 rfl rfl (CellsAt.all hp11.at_) ?_)
            have h20 := (hp11.chg.keep hb7 (fun e => by have e : b6 = b2 := e; omega))
            refine stn (ov_store (v := .agg ((⟨q.group, q.value, q.count + 1⟩ : Row).cells).toArray) (c' := ((⟨q.group, q.value, q.count + 1⟩ : Row).cells).toArray) Try.sizeOf31 rfl rfl h20 (all1 ⟨rfl, rfl, rfl, trivial⟩) (Nat.le_of_ble_eq_true rfl) rfl (fun w4 hp21 => ?_))
            have hs22 := hp21.size
            refine st_nil ?_
            refine WP_ret ?_
            refine finc (b := b6) Try.results29 Try.isAgg31 Try.sizeOf31 rfl rfl (CellsAt.all hp21.at_) ?_
            refine ⟨?_, (Chg.new (Chg.new (Chg.trans hn1.ext hn5.ext) hp11.chg (fun i hi hO => by subst hO; omega)) hp21.chg (fun i hi hO => by subst hO; omega))⟩
            have hone : oneR p q arg = ⟨q.group, (⟨q.group, q.value, q.count + 1⟩ : Row).value, q.count + 1⟩ := by
              unfold oneR madeI
              refine Row.eq_iff.2 ⟨rfl, ?_, rfl⟩
              dsimp only
              first | omega | ((repeat' split) <;> first | rfl | omega)
            rw [hone]
            try rfl
          · skip
            have hc19 := of_decide_eq_true hc19
            refine WP_cond_t rfl ?_
            refine WP_region0 (by kernel_rfl) (fun _ => ?_)
            refine st (ov_move (v := .int .i64 (arg)) rfl ?_)
            refine st (fa31_1 rfl ?_)
            refine stn (ov_store1 (v := .int .i64 (arg)) (c := [.int .i64 (q.group), .int .i64 (q.value), .int .i64 (q.count + 1)]) (c' := [.int .i64 (q.group), .int .i64 (arg), .int .i64 (q.count + 1)]) Try.sizeOf3 rfl rfl hp11.at_ rfl rfl rfl (fun w5 hp23 => ?_))
            have hs24 := hp23.size
            have ok25 : Row.Ok (⟨q.group, arg, q.count + 1⟩ : Row) := ⟨oq.group, harg, hr10⟩
            refine st_nil ?_
            refine WP_seq ?_
            refine WP_region0 (by kernel_rfl) (fun _ => ?_)
            refine st (ov_loadk (k := 3) Try.isAgg31 Try.sizeOf31 rfl rfl (CellsAt.all hp23.at_) ?_)
            have h26 := (hp23.chg.keep (hp11.chg.keep hb7 (fun e => by have e : b6 = b2 := e; omega)) (fun e => by have e : b6 = b2 := e; omega))
            refine stn (ov_store (v := .agg ((⟨q.group, arg, q.count + 1⟩ : Row).cells).toArray) (c' := ((⟨q.group, arg, q.count + 1⟩ : Row).cells).toArray) Try.sizeOf31 rfl rfl h26 (all1 ⟨rfl, rfl, rfl, trivial⟩) (Nat.le_of_ble_eq_true rfl) rfl (fun w6 hp27 => ?_))
            have hs28 := hp27.size
            refine st_nil ?_
            refine WP_ret ?_
            refine finc (b := b6) Try.results29 Try.isAgg31 Try.sizeOf31 rfl rfl (CellsAt.all hp27.at_) ?_
            refine ⟨?_, (Chg.new (Chg.new (Chg.new (Chg.trans hn1.ext hn5.ext) hp11.chg (fun i hi hO => by subst hO; omega)) hp23.chg (fun i hi hO => by subst hO; omega)) hp27.chg (fun i hi hO => by subst hO; omega))⟩
            have hone : oneR p q arg = ⟨q.group, (⟨q.group, arg, q.count + 1⟩ : Row).value, q.count + 1⟩ := by
              unfold oneR madeI
              refine Row.eq_iff.2 ⟨rfl, ?_, rfl⟩
              dsimp only
              first | omega | ((repeat' split) <;> first | rfl | omega)
            rw [hone]
            try rfl
        · skip
          have hc18 := of_decide_eq_true hc18
          refine WP_cond_t rfl ?_
          refine WP_seq ?_
          refine WP_region (by kernel_rfl) ?_
          refine st (fa31_2 rfl ?_)
          refine st (ov_load1 (v := .int .i64 (q.count + 1)) Try.isAgg3 rfl (blk_cellL hp11.at_ rfl) ?_)
          refine st (ov_eql (k := .i64) (a := q.count + 1) (b := 1) rfl rfl ?_)
          refine st (ov_move (v := .bool (decide ((q.count + 1) = 1))) rfl ?_)
          refine stc (V := .int .i64 (arg)) rfl rfl (fun hb29 => ?_) ?_
          · have hl30 : (decide ((q.count + 1) = 1)) = false := hb29
            have hl30 := of_decide_eq_false hl30
            exact ov_move (v := .int .i64 (arg)) rfl ⟨rfl, rfl⟩
          refine stc (V := .pointer (some ⟨b2, 1, none⟩)) rfl rfl (fun hb31 => ?_) ?_
          · have hl32 : (decide ((q.count + 1) = 1)) = false := hb31
            have hl32 := of_decide_eq_false hl32
            exact fa31_1 rfl ⟨rfl, rfl⟩
          refine stc (V := .int .i64 (q.value)) rfl rfl (fun hb33 => ?_) ?_
          · have hl34 : (decide ((q.count + 1) = 1)) = false := hb33
            have hl34 := of_decide_eq_false hl34
            exact ov_load1 (v := .int .i64 (q.value)) Try.isAgg3 (show _ = (.pointer (some ⟨b2, 1, none⟩) : Value) from (if_pos hb33)) (blk_cellL hp11.at_ rfl) ⟨rfl, rfl⟩
          refine stc (V := .bool (decide (q.value < arg))) rfl rfl (fun hb35 => ?_) ?_
          · have hl36 : (decide ((q.count + 1) = 1)) = false := hb35
            have hl36 := of_decide_eq_false hl36
            exact ov_gtr (k := .i64) (a := arg) (b := q.value) (show _ = (.int .i64 (arg) : Value) from (if_pos hb35)) (show _ = (.int .i64 (q.value) : Value) from (if_pos hb35)) ⟨rfl, rfl⟩
          refine st (ov_pick_or (b := decide ((q.count + 1) = 1)) (b' := decide (q.value < arg)) rfl (fun hbp => (show _ = (.bool (decide (q.value < arg)) : Value) from (if_pos hbp))) ?_)
          refine st_nil ?_
          cases hc37 : (decide ((q.count + 1) = 1)) || (decide (q.value < arg))
          · skip
            simp only [Bool.and_eq_true, Bool.or_eq_true, Bool.and_eq_false_iff, Bool.or_eq_false_iff, decide_eq_true_eq, decide_eq_false_iff_not, Bool.not_eq_true', Bool.not_eq_false', Int.not_lt, Int.not_le] at hc37
            refine WP_cond_f rfl ?_
            refine WP_skip ?_
            refine WP_seq ?_
            refine WP_region0 (by kernel_rfl) (fun _ => ?_)
            refine st (ov_loadk (k := 3) Try.isAgg31 Try.sizeOf31 rfl rfl (CellsAt.all hp11.at_) ?_)
            have h38 := (hp11.chg.keep hb7 (fun e => by have e : b6 = b2 := e; omega))
            refine stn (ov_store (v := .agg ((⟨q.group, q.value, q.count + 1⟩ : Row).cells).toArray) (c' := ((⟨q.group, q.value, q.count + 1⟩ : Row).cells).toArray) Try.sizeOf31 rfl rfl h38 (all1 ⟨rfl, rfl, rfl, trivial⟩) (Nat.le_of_ble_eq_true rfl) rfl (fun w7 hp39 => ?_))
            have hs40 := hp39.size
            refine st_nil ?_
            refine WP_ret ?_
            refine finc (b := b6) Try.results29 Try.isAgg31 Try.sizeOf31 rfl rfl (CellsAt.all hp39.at_) ?_
            refine ⟨?_, (Chg.new (Chg.new (Chg.trans hn1.ext hn5.ext) hp11.chg (fun i hi hO => by subst hO; omega)) hp39.chg (fun i hi hO => by subst hO; omega))⟩
            have hone : oneR p q arg = ⟨q.group, (⟨q.group, q.value, q.count + 1⟩ : Row).value, q.count + 1⟩ := by
              unfold oneR madeI
              refine Row.eq_iff.2 ⟨rfl, ?_, rfl⟩
              dsimp only
              first | omega | ((repeat' split) <;> first | rfl | omega)
            rw [hone]
            try rfl
          · skip
            simp only [Bool.and_eq_true, Bool.or_eq_true, Bool.and_eq_false_iff, Bool.or_eq_false_iff, decide_eq_true_eq, decide_eq_false_iff_not, Bool.not_eq_true', Bool.not_eq_false', Int.not_lt, Int.not_le] at hc37
            refine WP_cond_t rfl ?_
            refine WP_region0 (by kernel_rfl) (fun _ => ?_)
            refine st (ov_move (v := .int .i64 (arg)) rfl ?_)
            refine st (fa31_1 rfl ?_)
            refine stn (ov_store1 (v := .int .i64 (arg)) (c := [.int .i64 (q.group), .int .i64 (q.value), .int .i64 (q.count + 1)]) (c' := [.int .i64 (q.group), .int .i64 (arg), .int .i64 (q.count + 1)]) Try.sizeOf3 rfl rfl hp11.at_ rfl rfl rfl (fun w8 hp41 => ?_))
            have hs42 := hp41.size
            have ok43 : Row.Ok (⟨q.group, arg, q.count + 1⟩ : Row) := ⟨oq.group, harg, hr10⟩
            refine st_nil ?_
            refine WP_seq ?_
            refine WP_region0 (by kernel_rfl) (fun _ => ?_)
            refine st (ov_loadk (k := 3) Try.isAgg31 Try.sizeOf31 rfl rfl (CellsAt.all hp41.at_) ?_)
            have h44 := (hp41.chg.keep (hp11.chg.keep hb7 (fun e => by have e : b6 = b2 := e; omega)) (fun e => by have e : b6 = b2 := e; omega))
            refine stn (ov_store (v := .agg ((⟨q.group, arg, q.count + 1⟩ : Row).cells).toArray) (c' := ((⟨q.group, arg, q.count + 1⟩ : Row).cells).toArray) Try.sizeOf31 rfl rfl h44 (all1 ⟨rfl, rfl, rfl, trivial⟩) (Nat.le_of_ble_eq_true rfl) rfl (fun w9 hp45 => ?_))
            have hs46 := hp45.size
            refine st_nil ?_
            refine WP_ret ?_
            refine finc (b := b6) Try.results29 Try.isAgg31 Try.sizeOf31 rfl rfl (CellsAt.all hp45.at_) ?_
            refine ⟨?_, (Chg.new (Chg.new (Chg.new (Chg.trans hn1.ext hn5.ext) hp11.chg (fun i hi hO => by subst hO; omega)) hp41.chg (fun i hi hO => by subst hO; omega)) hp45.chg (fun i hi hO => by subst hO; omega))⟩
            have hone : oneR p q arg = ⟨q.group, (⟨q.group, arg, q.count + 1⟩ : Row).value, q.count + 1⟩ := by
              unfold oneR madeI
              refine Row.eq_iff.2 ⟨rfl, ?_, rfl⟩
              dsimp only
              first | omega | ((repeat' split) <;> first | rfl | omega)
            rw [hone]
            try rfl
      · skip
        have hc17 := of_decide_eq_true hc17
        refine WP_cond_t rfl ?_
        refine WP_seq ?_
        refine WP_region (by kernel_rfl) ?_
        refine st (fa31_2 rfl ?_)
        refine st (ov_load1 (v := .int .i64 (q.count + 1)) Try.isAgg3 rfl (blk_cellL hp11.at_ rfl) ?_)
        refine st (ov_eql (k := .i64) (a := q.count + 1) (b := 1) rfl rfl ?_)
        refine st (ov_move (v := .bool (decide ((q.count + 1) = 1))) rfl ?_)
        refine stc (V := .int .i64 (arg)) rfl rfl (fun hb47 => ?_) ?_
        · have hl48 : (decide ((q.count + 1) = 1)) = false := hb47
          have hl48 := of_decide_eq_false hl48
          exact ov_move (v := .int .i64 (arg)) rfl ⟨rfl, rfl⟩
        refine stc (V := .pointer (some ⟨b2, 1, none⟩)) rfl rfl (fun hb49 => ?_) ?_
        · have hl50 : (decide ((q.count + 1) = 1)) = false := hb49
          have hl50 := of_decide_eq_false hl50
          exact fa31_1 rfl ⟨rfl, rfl⟩
        refine stc (V := .int .i64 (q.value)) rfl rfl (fun hb51 => ?_) ?_
        · have hl52 : (decide ((q.count + 1) = 1)) = false := hb51
          have hl52 := of_decide_eq_false hl52
          exact ov_load1 (v := .int .i64 (q.value)) Try.isAgg3 (show _ = (.pointer (some ⟨b2, 1, none⟩) : Value) from (if_pos hb51)) (blk_cellL hp11.at_ rfl) ⟨rfl, rfl⟩
        refine stc (V := .bool (decide (arg < q.value))) rfl rfl (fun hb53 => ?_) ?_
        · have hl54 : (decide ((q.count + 1) = 1)) = false := hb53
          have hl54 := of_decide_eq_false hl54
          exact ov_lss (k := .i64) (a := arg) (b := q.value) (show _ = (.int .i64 (arg) : Value) from (if_pos hb53)) (show _ = (.int .i64 (q.value) : Value) from (if_pos hb53)) ⟨rfl, rfl⟩
        refine st (ov_pick_or (b := decide ((q.count + 1) = 1)) (b' := decide (arg < q.value)) rfl (fun hbp => (show _ = (.bool (decide (arg < q.value)) : Value) from (if_pos hbp))) ?_)
        refine st_nil ?_
        cases hc55 : (decide ((q.count + 1) = 1)) || (decide (arg < q.value))
        · skip
          simp only [Bool.and_eq_true, Bool.or_eq_true, Bool.and_eq_false_iff, Bool.or_eq_false_iff, decide_eq_true_eq, decide_eq_false_iff_not, Bool.not_eq_true', Bool.not_eq_false', Int.not_lt, Int.not_le] at hc55
          refine WP_cond_f rfl ?_
          refine WP_skip ?_
          refine WP_seq ?_
          refine WP_region0 (by kernel_rfl) (fun _ => ?_)
          refine st (ov_loadk (k := 3) Try.isAgg31 Try.sizeOf31 rfl rfl (CellsAt.all hp11.at_) ?_)
          have h56 := (hp11.chg.keep hb7 (fun e => by have e : b6 = b2 := e; omega))
          refine stn (ov_store (v := .agg ((⟨q.group, q.value, q.count + 1⟩ : Row).cells).toArray) (c' := ((⟨q.group, q.value, q.count + 1⟩ : Row).cells).toArray) Try.sizeOf31 rfl rfl h56 (all1 ⟨rfl, rfl, rfl, trivial⟩) (Nat.le_of_ble_eq_true rfl) rfl (fun w10 hp57 => ?_))
          have hs58 := hp57.size
          refine st_nil ?_
          refine WP_ret ?_
          refine finc (b := b6) Try.results29 Try.isAgg31 Try.sizeOf31 rfl rfl (CellsAt.all hp57.at_) ?_
          refine ⟨?_, (Chg.new (Chg.new (Chg.trans hn1.ext hn5.ext) hp11.chg (fun i hi hO => by subst hO; omega)) hp57.chg (fun i hi hO => by subst hO; omega))⟩
          have hone : oneR p q arg = ⟨q.group, (⟨q.group, q.value, q.count + 1⟩ : Row).value, q.count + 1⟩ := by
            unfold oneR madeI
            refine Row.eq_iff.2 ⟨rfl, ?_, rfl⟩
            dsimp only
            first | omega | ((repeat' split) <;> first | rfl | omega)
          rw [hone]
          try rfl
        · skip
          simp only [Bool.and_eq_true, Bool.or_eq_true, Bool.and_eq_false_iff, Bool.or_eq_false_iff, decide_eq_true_eq, decide_eq_false_iff_not, Bool.not_eq_true', Bool.not_eq_false', Int.not_lt, Int.not_le] at hc55
          refine WP_cond_t rfl ?_
          refine WP_region0 (by kernel_rfl) (fun _ => ?_)
          refine st (ov_move (v := .int .i64 (arg)) rfl ?_)
          refine st (fa31_1 rfl ?_)
          refine stn (ov_store1 (v := .int .i64 (arg)) (c := [.int .i64 (q.group), .int .i64 (q.value), .int .i64 (q.count + 1)]) (c' := [.int .i64 (q.group), .int .i64 (arg), .int .i64 (q.count + 1)]) Try.sizeOf3 rfl rfl hp11.at_ rfl rfl rfl (fun w11 hp59 => ?_))
          have hs60 := hp59.size
          have ok61 : Row.Ok (⟨q.group, arg, q.count + 1⟩ : Row) := ⟨oq.group, harg, hr10⟩
          refine st_nil ?_
          refine WP_seq ?_
          refine WP_region0 (by kernel_rfl) (fun _ => ?_)
          refine st (ov_loadk (k := 3) Try.isAgg31 Try.sizeOf31 rfl rfl (CellsAt.all hp59.at_) ?_)
          have h62 := (hp59.chg.keep (hp11.chg.keep hb7 (fun e => by have e : b6 = b2 := e; omega)) (fun e => by have e : b6 = b2 := e; omega))
          refine stn (ov_store (v := .agg ((⟨q.group, arg, q.count + 1⟩ : Row).cells).toArray) (c' := ((⟨q.group, arg, q.count + 1⟩ : Row).cells).toArray) Try.sizeOf31 rfl rfl h62 (all1 ⟨rfl, rfl, rfl, trivial⟩) (Nat.le_of_ble_eq_true rfl) rfl (fun w12 hp63 => ?_))
          have hs64 := hp63.size
          refine st_nil ?_
          refine WP_ret ?_
          refine finc (b := b6) Try.results29 Try.isAgg31 Try.sizeOf31 rfl rfl (CellsAt.all hp63.at_) ?_
          refine ⟨?_, (Chg.new (Chg.new (Chg.new (Chg.trans hn1.ext hn5.ext) hp11.chg (fun i hi hO => by subst hO; omega)) hp59.chg (fun i hi hO => by subst hO; omega)) hp63.chg (fun i hi hO => by subst hO; omega))⟩
          have hone : oneR p q arg = ⟨q.group, (⟨q.group, arg, q.count + 1⟩ : Row).value, q.count + 1⟩ := by
            unfold oneR madeI
            refine Row.eq_iff.2 ⟨rfl, ?_, rfl⟩
            dsimp only
            first | omega | ((repeat' split) <;> first | rfl | omega)
          rw [hone]
          try rfl
    · skip
      have hc16 := of_decide_eq_true hc16
      refine WP_cond_t rfl ?_
      refine WP_region0 (by kernel_rfl) (fun _ => ?_)
      refine st (fa31_1 rfl ?_)
      refine st (ov_load1 (v := .int .i64 (q.value)) Try.isAgg3 rfl (blk_cellL hp11.at_ rfl) ?_)
      refine st (ov_move (v := .int .i64 (arg)) rfl ?_)
      refine st (ov_add (r := IntKind.i64.wrap (q.value + arg)) (k := .i64) (a := q.value) (b := arg) rfl rfl rfl ?_)
      refine st (fa31_1 rfl ?_)
      refine stn (ov_store1 (v := .int .i64 (IntKind.i64.wrap (q.value + arg))) (c := [.int .i64 (q.group), .int .i64 (q.value), .int .i64 (q.count + 1)]) (c' := [.int .i64 (q.group), .int .i64 (IntKind.i64.wrap (q.value + arg)), .int .i64 (q.count + 1)]) Try.sizeOf3 rfl rfl hp11.at_ rfl rfl rfl (fun w13 hp65 => ?_))
      have hs66 := hp65.size
      have ok67 : Row.Ok (⟨q.group, IntKind.i64.wrap (q.value + arg), q.count + 1⟩ : Row) := ⟨oq.group, (wrap_range _), hr10⟩
      refine st_nil ?_
      refine WP_seq ?_
      refine WP_region0 (by kernel_rfl) (fun _ => ?_)
      refine st (ov_loadk (k := 3) Try.isAgg31 Try.sizeOf31 rfl rfl (CellsAt.all hp65.at_) ?_)
      have h68 := (hp65.chg.keep (hp11.chg.keep hb7 (fun e => by have e : b6 = b2 := e; omega)) (fun e => by have e : b6 = b2 := e; omega))
      refine stn (ov_store (v := .agg ((⟨q.group, IntKind.i64.wrap (q.value + arg), q.count + 1⟩ : Row).cells).toArray) (c' := ((⟨q.group, IntKind.i64.wrap (q.value + arg), q.count + 1⟩ : Row).cells).toArray) Try.sizeOf31 rfl rfl h68 (all1 ⟨rfl, rfl, rfl, trivial⟩) (Nat.le_of_ble_eq_true rfl) rfl (fun w14 hp69 => ?_))
      have hs70 := hp69.size
      refine st_nil ?_
      refine WP_ret ?_
      refine finc (b := b6) Try.results29 Try.isAgg31 Try.sizeOf31 rfl rfl (CellsAt.all hp69.at_) ?_
      refine ⟨?_, (Chg.new (Chg.new (Chg.new (Chg.trans hn1.ext hn5.ext) hp11.chg (fun i hi hO => by subst hO; omega)) hp65.chg (fun i hi hO => by subst hO; omega)) hp69.chg (fun i hi hO => by subst hO; omega))⟩
      have hone : oneR p q arg = ⟨q.group, (⟨q.group, IntKind.i64.wrap (q.value + arg), q.count + 1⟩ : Row).value, q.count + 1⟩ := by
        unfold oneR madeI
        refine Row.eq_iff.2 ⟨rfl, ?_, rfl⟩
        dsimp only
        first | omega | ((repeat' split) <;> first | rfl | omega)
      rw [hone]
      try rfl
  · skip
    have hc15 := of_decide_eq_true hc15
    refine WP_cond_t rfl ?_
    refine WP_region0 (by kernel_rfl) (fun _ => ?_)
    refine st (fa31_2 rfl ?_)
    refine st (ov_load1 (v := .int .i64 (q.count + 1)) Try.isAgg3 rfl (blk_cellL hp11.at_ rfl) ?_)
    refine st (fa31_1 rfl ?_)
    refine stn (ov_store1 (v := .int .i64 (q.count + 1)) (c := [.int .i64 (q.group), .int .i64 (q.value), .int .i64 (q.count + 1)]) (c' := [.int .i64 (q.group), .int .i64 (q.count + 1), .int .i64 (q.count + 1)]) Try.sizeOf3 rfl rfl hp11.at_ rfl rfl rfl (fun w15 hp71 => ?_))
    have hs72 := hp71.size
    have ok73 : Row.Ok (⟨q.group, q.count + 1, q.count + 1⟩ : Row) := ⟨oq.group, hr10, hr10⟩
    refine st_nil ?_
    refine WP_seq ?_
    refine WP_region0 (by kernel_rfl) (fun _ => ?_)
    refine st (ov_loadk (k := 3) Try.isAgg31 Try.sizeOf31 rfl rfl (CellsAt.all hp71.at_) ?_)
    have h74 := (hp71.chg.keep (hp11.chg.keep hb7 (fun e => by have e : b6 = b2 := e; omega)) (fun e => by have e : b6 = b2 := e; omega))
    refine stn (ov_store (v := .agg ((⟨q.group, q.count + 1, q.count + 1⟩ : Row).cells).toArray) (c' := ((⟨q.group, q.count + 1, q.count + 1⟩ : Row).cells).toArray) Try.sizeOf31 rfl rfl h74 (all1 ⟨rfl, rfl, rfl, trivial⟩) (Nat.le_of_ble_eq_true rfl) rfl (fun w16 hp75 => ?_))
    have hs76 := hp75.size
    refine st_nil ?_
    refine WP_ret ?_
    refine finc (b := b6) Try.results29 Try.isAgg31 Try.sizeOf31 rfl rfl (CellsAt.all hp75.at_) ?_
    refine ⟨?_, (Chg.new (Chg.new (Chg.new (Chg.trans hn1.ext hn5.ext) hp11.chg (fun i hi hO => by subst hO; omega)) hp71.chg (fun i hi hO => by subst hO; omega)) hp75.chg (fun i hi hO => by subst hO; omega))⟩
    have hone : oneR p q arg = ⟨q.group, (⟨q.group, q.count + 1, q.count + 1⟩ : Row).value, q.count + 1⟩ := by
      unfold oneR madeI
      refine Row.eq_iff.2 ⟨rfl, ?_, rfl⟩
      dsimp only
      first | omega | ((repeat' split) <;> first | rfl | omega)
    rw [hone]
    try rfl

end Go.Proofs.Ytbbpmhfcgoljdaa
