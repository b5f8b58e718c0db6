/- Steps of the proofs of this seat: part S1. -/
import Derived.Test.YtbbpmhfcgoljdaaS0
import Derived.Test.YtbbpmhfcgoljdaaR4
set_option linter.unusedSimpArgs false
set_option linter.unusedVariables false
namespace Go.Proofs.Ytbbpmhfcgoljdaa
open Go.Proofs Go.RowKit

theorem fd31_2 {d : Option Tmp} {ty : TypeId} {pos : String} {af : Array Edge} {g : Option (Nat × Bool)} {σ : Env} {w : World} {K : Value → World → Prop} {x : Operand} {b o : Nat} (hx : ev σ x = .pointer (some ⟨b, o, none⟩)) (h : K (.pointer (some ⟨b, o + 2, none⟩)) w) : opV Try.prog ⟨d, .fieldAddr 31 x 2, ty, pos, af, g⟩ σ w K := ov_fieldAddr Try.underlying31 rfl rfl (fun w => ⟨0, Try.sizeOf3 w⟩) hx h
theorem fd23_4 {d : Option Tmp} {ty : TypeId} {pos : String} {af : Array Edge} {g : Option (Nat × Bool)} {σ : Env} {w : World} {K : Value → World → Prop} {x : Operand} {b o : Nat} (hx : ev σ x = .pointer (some ⟨b, o, none⟩)) (h : K (.pointer (some ⟨b, o + 4, none⟩)) w) : opV Try.prog ⟨d, .fieldAddr 23 x 4, ty, pos, af, g⟩ σ w K := ov_fieldAddr Try.underlying23 rfl rfl (fun w => ⟨0, Try.sizeOf3 w⟩) hx h
theorem fd31_1 {d : Option Tmp} {ty : TypeId} {pos : String} {af : Array Edge} {g : Option (Nat × Bool)} {σ : Env} {w : World} {K : Value → World → Prop} {x : Operand} {b o : Nat} (hx : ev σ x = .pointer (some ⟨b, o, none⟩)) (h : K (.pointer (some ⟨b, o + 1, none⟩)) w) : opV Try.prog ⟨d, .fieldAddr 31 x 1, ty, pos, af, g⟩ σ w K := ov_fieldAddr Try.underlying31 rfl rfl (fun w => ⟨0, Try.sizeOf3 w⟩) hx h
theorem D_one {G : Nat → Prop} {W w : World} {Rs : List HP} {a : Nat} {p : Prj} {vx : Value} {q : Row} (oq : q.Ok) {arg : Int} (harg : InR arg) (hS0 : Sep G W ((Blk a #[.int .i64 (p.ptyp), .int .i64 (p.pfield), .int .i64 (p.pgroup), .int .i64 (p.pby), .int .i64 (p.pmake), vx] 60) :: Rs) w) (hqc : 0 ≤ q.count ∧ q.count < 4611686018427387904) (op : p.Ok) : Ret Try.prog 29 [.pointer (some ⟨a, 0, none⟩), .agg (q.cells).toArray, .int .i64 (arg)] w (fun r w' => r = (.agg ((oneR p q arg).cells).toArray : Value) ∧ ((oneR p q arg).Ok) ∧ Sep G W ((Blk a #[.int .i64 (p.ptyp), .int .i64 (p.pfield), .int .i64 (p.pgroup), .int .i64 (p.pby), .int .i64 (p.pmake), vx] 60) :: Rs) w') := by
  refine Calls_of_WP (args := [.pointer (some ⟨a, 0, none⟩), .agg (q.cells).toArray, .int .i64 (arg)]) Try.func29 rfl rfl ?_
  refine WP_seq ?_
  refine WP_region0 (by kernel_rfl) (fun _ => ?_)
  refine st (ov_box (v := .agg (q.cells).toArray) rfl ?_)
  intro w3 b2 hn1
  have hS4 : Sep G W ((Blk b2 (q.cells).toArray 31) :: (Blk a #[.int .i64 (p.ptyp), .int .i64 (p.pfield), .int .i64 (p.pgroup), .int .i64 (p.pby), .int .i64 (p.pmake), vx] 60) :: Rs) w3 := hS0.new hn1
  refine st (ov_alloc Try.zeroValue31 ?_)
  intro w7 b6 hn5
  have hS8 : Sep G W ((Blk b6 #[.int .i64 (0), .int .i64 (0), .int .i64 (0)] 31) :: (Blk b2 (q.cells).toArray 31) :: (Blk a #[.int .i64 (p.ptyp), .int .i64 (p.pfield), .int .i64 (p.pgroup), .int .i64 (p.pby), .int .i64 (p.pmake), vx] 60) :: Rs) w7 := hS4.new hn5
  refine st_nil ?_
  refine WP_seq ?_
  refine WP_region0 (by kernel_rfl) (fun _ => ?_)
  refine st (fd31_2 rfl ?_)
  refine st (ov_load1 (v := .int .i64 (q.count)) Try.isAgg3 rfl (blk_cellL (hS8.blk (i := 1) rfl) rfl) ?_)
  have hr9 : InR (q.count + 1) := by omega
  refine st (ov_add (r := q.count + 1) (k := .i64) (a := q.count) (b := 1) rfl rfl (wrap_in hr9) ?_)
  refine st (fd31_2 rfl ?_)
  refine stn (ov_store1 (v := .int .i64 (q.count + 1)) (c := [.int .i64 (q.group), .int .i64 (q.value), .int .i64 (q.count)]) (c' := [.int .i64 (q.group), .int .i64 (q.value), .int .i64 (q.count + 1)]) Try.sizeOf3 rfl rfl (hS8.blk (i := 1) rfl) rfl rfl rfl ?_)
  intro w10 hp11
  have ok12 : Row.Ok (⟨q.group, q.value, q.count + 1⟩ : Row) := ⟨(show InR (q.group) from oq.group), (show InR (q.value) from oq.value), (show InR (q.count + 1) from hr9)⟩
  have hS13 : Sep G W ((Blk b6 #[.int .i64 (0), .int .i64 (0), .int .i64 (0)] 31) :: (Blk b2 ((⟨q.group, q.value, q.count + 1⟩ : Row).cells).toArray 31) :: (Blk a #[.int .i64 (p.ptyp), .int .i64 (p.pfield), .int .i64 (p.pgroup), .int .i64 (p.pby), .int .i64 (p.pmake), vx] 60) :: Rs) w10 := hS8.put (i := 1) rfl hp11
  refine st_nil ?_
  refine WP_seq ?_
  refine WP_seq ?_
  refine WP_region0 (by kernel_rfl) (fun _ => ?_)
  refine st (ov_move (v := .pointer (some ⟨a, 0, none⟩)) rfl ?_)
  refine st (ov_nilCheck (b := a) (o := 0) rfl ?_)
  refine st (fd60_0 rfl ?_)
  refine st (fd23_4 rfl ?_)
  refine st (ov_load1 (v := .int .i64 (p.pmake)) Try.isAgg3 rfl (blk_cellL (hS13.blk (i := 2) rfl) rfl) ?_)
  refine st_nil ?_
  refine WP_block ?_
  refine WP_seq ?_
  refine WP_region0 (by kernel_rfl) (fun _ => ?_)
  refine st (ov_eql (k := .i64) (a := p.pmake) (b := 1) rfl rfl ?_)
  refine st (ov_assign (v := .bool (decide (p.pmake = 1))) rfl ?_)
  refine st_nil ?_
  cases hc14 : decide (p.pmake = 1)
  · skip
    have hc14 := of_decide_eq_false hc14
    refine WP_cond_f rfl ?_
    refine WP_seq ?_
    refine WP_region0 (by kernel_rfl) (fun _ => ?_)
    refine st (ov_eql (k := .i64) (a := p.pmake) (b := 2) rfl rfl ?_)
    refine st (ov_assign (v := .bool (decide (p.pmake = 2))) rfl ?_)
    refine st_nil ?_
    cases hc15 : decide (p.pmake = 2)
    · skip
      have hc15 := of_decide_eq_false hc15
      refine WP_cond_f rfl ?_
      refine WP_seq ?_
      refine WP_region0 (by kernel_rfl) (fun _ => ?_)
      refine st (ov_eql (k := .i64) (a := p.pmake) (b := 3) rfl rfl ?_)
      refine st (ov_assign (v := .bool (decide (p.pmake = 3))) rfl ?_)
      refine st_nil ?_
      cases hc16 : decide (p.pmake = 3)
      · skip
        have hc16 := of_decide_eq_false hc16
        refine WP_cond_f rfl ?_
        refine WP_seq ?_
        refine WP_region0 (by kernel_rfl) (fun _ => ?_)
        refine st (ov_eql (k := .i64) (a := p.pmake) (b := 4) rfl rfl ?_)
        refine st (ov_assign (v := .bool (decide (p.pmake = 4))) rfl ?_)
        refine st_nil ?_
        cases hc17 : decide (p.pmake = 4)
        · skip
          have hc17 := of_decide_eq_false hc17
          refine WP_cond_f rfl ?_
          refine WP_seq ?_
          refine WP_region0 (by kernel_rfl) (fun _ => ?_)
          refine st (ov_eql (k := .i64) (a := p.pmake) (b := 5) rfl rfl ?_)
          refine st (ov_assign (v := .bool (decide (p.pmake = 5))) rfl ?_)
          refine st_nil ?_
          cases hc18 : decide (p.pmake = 5)
          · skip
            have hc18 := of_decide_eq_false hc18
            refine WP_cond_f rfl ?_
            refine WP_skip ?_
            refine WP_seq ?_
            refine WP_region0 (by kernel_rfl) (fun _ => ?_)
            refine st (ov_loadk (k := 3) Try.isAgg31 Try.sizeOf31 rfl rfl (CellsAt.all (hS13.blk (i := 1) rfl)) ?_)
            refine stn (ov_store (v := .agg ((⟨q.group, q.value, q.count + 1⟩ : Row).cells).toArray) (c' := ((⟨q.group, q.value, q.count + 1⟩ : Row).cells).toArray) Try.sizeOf31 rfl rfl (hS13.blk (i := 0) rfl) (all1 ⟨rfl, rfl, rfl, trivial⟩) (Nat.le_of_ble_eq_true rfl) rfl ?_)
            intro w19 hp20
            have hS21 : Sep G W ((Blk b6 ((⟨q.group, q.value, q.count + 1⟩ : Row).cells).toArray 31) :: (Blk b2 ((⟨q.group, q.value, q.count + 1⟩ : Row).cells).toArray 31) :: (Blk a #[.int .i64 (p.ptyp), .int .i64 (p.pfield), .int .i64 (p.pgroup), .int .i64 (p.pby), .int .i64 (p.pmake), vx] 60) :: Rs) w19 := hS13.put (i := 0) rfl hp20
            refine st_nil ?_
            refine WP_ret ?_
            refine finc (b := b6) Try.results29 Try.isAgg31 Try.sizeOf31 rfl rfl (CellsAt.all (hS21.blk (i := 0) rfl)) ?_
            have hS22 : Sep G W ((Blk a #[.int .i64 (p.ptyp), .int .i64 (p.pfield), .int .i64 (p.pgroup), .int .i64 (p.pby), .int .i64 (p.pmake), vx] 60) :: Rs) w19 := hS21.sel 3 [2] (Nat.le_add_left _ _) rfl rfl
            refine ⟨?_, ?_, hS22⟩
            · have hone : oneR p q arg = ⟨q.group, q.value, q.count + 1⟩ := by
                unfold oneR madeI
                refine Row.eq_iff.2 ⟨rfl, ?_, rfl⟩
                dsimp only
                first | omega | ((repeat' split) <;> first | rfl | omega)
              rw [hone]
              try rfl
            · exact oneR_ok oq harg hqc
          · skip
            have hc18 := of_decide_eq_true hc18
            refine WP_cond_t rfl ?_
            refine WP_region0 (by kernel_rfl) (fun _ => ?_)
            refine st (ov_move (v := .int .i64 (arg)) rfl ?_)
            refine st (fd31_1 rfl ?_)
            refine stn (ov_store1 (v := .int .i64 (arg)) (c := [.int .i64 (q.group), .int .i64 (q.value), .int .i64 (q.count + 1)]) (c' := [.int .i64 (q.group), .int .i64 (arg), .int .i64 (q.count + 1)]) Try.sizeOf3 rfl rfl (hS13.blk (i := 1) rfl) rfl rfl rfl ?_)
            intro w23 hp24
            have ok25 : Row.Ok (⟨q.group, arg, q.count + 1⟩ : Row) := ⟨(show InR (q.group) from oq.group), (show InR (arg) from harg), (show InR (q.count + 1) from hr9)⟩
            have hS26 : Sep G W ((Blk b6 #[.int .i64 (0), .int .i64 (0), .int .i64 (0)] 31) :: (Blk b2 ((⟨q.group, arg, q.count + 1⟩ : Row).cells).toArray 31) :: (Blk a #[.int .i64 (p.ptyp), .int .i64 (p.pfield), .int .i64 (p.pgroup), .int .i64 (p.pby), .int .i64 (p.pmake), vx] 60) :: Rs) w23 := hS13.put (i := 1) rfl hp24
            refine st_nil ?_
            refine WP_seq ?_
            refine WP_region0 (by kernel_rfl) (fun _ => ?_)
            refine st (ov_loadk (k := 3) Try.isAgg31 Try.sizeOf31 rfl rfl (CellsAt.all (hS26.blk (i := 1) rfl)) ?_)
            refine stn (ov_store (v := .agg ((⟨q.group, arg, q.count + 1⟩ : Row).cells).toArray) (c' := ((⟨q.group, arg, q.count + 1⟩ : Row).cells).toArray) Try.sizeOf31 rfl rfl (hS26.blk (i := 0) rfl) (all1 ⟨rfl, rfl, rfl, trivial⟩) (Nat.le_of_ble_eq_true rfl) rfl ?_)
            intro w27 hp28
            have hS29 : Sep G W ((Blk b6 ((⟨q.group, arg, q.count + 1⟩ : Row).cells).toArray 31) :: (Blk b2 ((⟨q.group, arg, q.count + 1⟩ : Row).cells).toArray 31) :: (Blk a #[.int .i64 (p.ptyp), .int .i64 (p.pfield), .int .i64 (p.pgroup), .int .i64 (p.pby), .int .i64 (p.pmake), vx] 60) :: Rs) w27 := hS26.put (i := 0) rfl hp28
            refine st_nil ?_
            refine WP_ret ?_
            refine finc (b := b6) Try.results29 Try.isAgg31 Try.sizeOf31 rfl rfl (CellsAt.all (hS29.blk (i := 0) rfl)) ?_
            have hS30 : Sep G W ((Blk a #[.int .i64 (p.ptyp), .int .i64 (p.pfield), .int .i64 (p.pgroup), .int .i64 (p.pby), .int .i64 (p.pmake), vx] 60) :: Rs) w27 := hS29.sel 3 [2] (Nat.le_add_left _ _) rfl rfl
            refine ⟨?_, ?_, hS30⟩
            · have hone : oneR p q arg = ⟨q.group, arg, q.count + 1⟩ := by
                unfold oneR madeI
                refine Row.eq_iff.2 ⟨rfl, ?_, rfl⟩
                dsimp only
                first | omega | ((repeat' split) <;> first | rfl | omega)
              rw [hone]
              try rfl
            · exact oneR_ok oq harg hqc
        · skip
          have hc17 := of_decide_eq_true hc17
          refine WP_cond_t rfl ?_
          refine WP_seq ?_
          refine WP_region (by kernel_rfl) ?_
          refine st (fd31_2 rfl ?_)
          refine st (ov_load1 (v := .int .i64 (q.count + 1)) Try.isAgg3 rfl (blk_cellL (hS13.blk (i := 1) rfl) rfl) ?_)
          refine st (ov_eql (k := .i64) (a := q.count + 1) (b := 1) rfl rfl ?_)
          refine st (ov_move (v := .bool (decide ((q.count + 1) = 1))) rfl ?_)
          refine stc (V := .int .i64 (arg)) rfl rfl (fun hb31 => ?_) ?_
          · have hl32 : (decide ((q.count + 1) = 1)) = false := hb31
            have hl32 := of_decide_eq_false hl32
            exact ov_move (v := .int .i64 (arg)) rfl ⟨rfl, rfl⟩
          refine stc (V := .pointer (some ⟨b2, 1, none⟩)) rfl rfl (fun hb33 => ?_) ?_
          · have hl34 : (decide ((q.count + 1) = 1)) = false := hb33
            have hl34 := of_decide_eq_false hl34
            exact fd31_1 rfl ⟨rfl, rfl⟩
          refine stc (V := .int .i64 (q.value)) rfl rfl (fun hb35 => ?_) ?_
          · have hl36 : (decide ((q.count + 1) = 1)) = false := hb35
            have hl36 := of_decide_eq_false hl36
            exact ov_load1 (v := .int .i64 (q.value)) Try.isAgg3 (show _ = (.pointer (some ⟨b2, 1, none⟩) : Value) from (if_pos hb35)) (blk_cellL (hS13.blk (i := 1) rfl) rfl) ⟨rfl, rfl⟩
          refine stc (V := .bool (decide (q.value < arg))) rfl rfl (fun hb37 => ?_) ?_
          · have hl38 : (decide ((q.count + 1) = 1)) = false := hb37
            have hl38 := of_decide_eq_false hl38
            exact ov_gtr (k := .i64) (a := arg) (b := q.value) (show _ = (.int .i64 (arg) : Value) from (if_pos hb37)) (show _ = (.int .i64 (q.value) : Value) from (if_pos hb37)) ⟨rfl, rfl⟩
          refine st (ov_pick_or (b := decide ((q.count + 1) = 1)) (b' := decide (q.value < arg)) rfl (fun hbp => (show _ = (.bool (decide (q.value < arg)) : Value) from (if_pos hbp))) ?_)
          refine st_nil ?_
          cases hc39 : (decide ((q.count + 1) = 1)) || (decide (q.value < arg))
          · skip
            simp only [Bool.and_eq_true, Bool.or_eq_true, Bool.and_eq_false_iff, Bool.or_eq_false_iff, decide_eq_true_eq, decide_eq_false_iff_not, Bool.not_eq_true', Bool.not_eq_false', Int.not_lt, Int.not_le] at hc39
            refine WP_cond_f rfl ?_
            refine WP_skip ?_
            refine WP_seq ?_
            refine WP_region0 (by kernel_rfl) (fun _ => ?_)
            refine st (ov_loadk (k := 3) Try.isAgg31 Try.sizeOf31 rfl rfl (CellsAt.all (hS13.blk (i := 1) rfl)) ?_)
            refine stn (ov_store (v := .agg ((⟨q.group, q.value, q.count + 1⟩ : Row).cells).toArray) (c' := ((⟨q.group, q.value, q.count + 1⟩ : Row).cells).toArray) Try.sizeOf31 rfl rfl (hS13.blk (i := 0) rfl) (all1 ⟨rfl, rfl, rfl, trivial⟩) (Nat.le_of_ble_eq_true rfl) rfl ?_)
            intro w40 hp41
            have hS42 : Sep G W ((Blk b6 ((⟨q.group, q.value, q.count + 1⟩ : Row).cells).toArray 31) :: (Blk b2 ((⟨q.group, q.value, q.count + 1⟩ : Row).cells).toArray 31) :: (Blk a #[.int .i64 (p.ptyp), .int .i64 (p.pfield), .int .i64 (p.pgroup), .int .i64 (p.pby), .int .i64 (p.pmake), vx] 60) :: Rs) w40 := hS13.put (i := 0) rfl hp41
            refine st_nil ?_
            refine WP_ret ?_
            refine finc (b := b6) Try.results29 Try.isAgg31 Try.sizeOf31 rfl rfl (CellsAt.all (hS42.blk (i := 0) rfl)) ?_
            have hS43 : Sep G W ((Blk a #[.int .i64 (p.ptyp), .int .i64 (p.pfield), .int .i64 (p.pgroup), .int .i64 (p.pby), .int .i64 (p.pmake), vx] 60) :: Rs) w40 := hS42.sel 3 [2] (Nat.le_add_left _ _) rfl rfl
            refine ⟨?_, ?_, hS43⟩
            · have hone : oneR p q arg = ⟨q.group, q.value, q.count + 1⟩ := by
                unfold oneR madeI
                refine Row.eq_iff.2 ⟨rfl, ?_, rfl⟩
                dsimp only
                first | omega | ((repeat' split) <;> first | rfl | omega)
              rw [hone]
              try rfl
            · exact oneR_ok oq harg hqc
          · skip
            simp only [Bool.and_eq_true, Bool.or_eq_true, Bool.and_eq_false_iff, Bool.or_eq_false_iff, decide_eq_true_eq, decide_eq_false_iff_not, Bool.not_eq_true', Bool.not_eq_false', Int.not_lt, Int.not_le] at hc39
            refine WP_cond_t rfl ?_
            refine WP_region0 (by kernel_rfl) (fun _ => ?_)
            refine st (ov_move (v := .int .i64 (arg)) rfl ?_)
            refine st (fd31_1 rfl ?_)
            refine stn (ov_store1 (v := .int .i64 (arg)) (c := [.int .i64 (q.group), .int .i64 (q.value), .int .i64 (q.count + 1)]) (c' := [.int .i64 (q.group), .int .i64 (arg), .int .i64 (q.count + 1)]) Try.sizeOf3 rfl rfl (hS13.blk (i := 1) rfl) rfl rfl rfl ?_)
            intro w44 hp45
            have ok46 : Row.Ok (⟨q.group, arg, q.count + 1⟩ : Row) := ⟨(show InR (q.group) from oq.group), (show InR (arg) from harg), (show InR (q.count + 1) from hr9)⟩
            have hS47 : Sep G W ((Blk b6 #[.int .i64 (0), .int .i64 (0), .int .i64 (0)] 31) :: (Blk b2 ((⟨q.group, arg, q.count + 1⟩ : Row).cells).toArray 31) :: (Blk a #[.int .i64 (p.ptyp), .int .i64 (p.pfield), .int .i64 (p.pgroup), .int .i64 (p.pby), .int .i64 (p.pmake), vx] 60) :: Rs) w44 := hS13.put (i := 1) rfl hp45
            refine st_nil ?_
            refine WP_seq ?_
            refine WP_region0 (by kernel_rfl) (fun _ => ?_)
            refine st (ov_loadk (k := 3) Try.isAgg31 Try.sizeOf31 rfl rfl (CellsAt.all (hS47.blk (i := 1) rfl)) ?_)
            refine stn (ov_store (v := .agg ((⟨q.group, arg, q.count + 1⟩ : Row).cells).toArray) (c' := ((⟨q.group, arg, q.count + 1⟩ : Row).cells).toArray) Try.sizeOf31 rfl rfl (hS47.blk (i := 0) rfl) (all1 ⟨rfl, rfl, rfl, trivial⟩) (Nat.le_of_ble_eq_true rfl) rfl ?_)
            intro w48 hp49
            have hS50 : Sep G W ((Blk b6 ((⟨q.group, arg, q.count + 1⟩ : Row).cells).toArray 31) :: (Blk b2 ((⟨q.group, arg, q.count + 1⟩ : Row).cells).toArray 31) :: (Blk a #[.int .i64 (p.ptyp), .int .i64 (p.pfield), .int .i64 (p.pgroup), .int .i64 (p.pby), .int .i64 (p.pmake), vx] 60) :: Rs) w48 := hS47.put (i := 0) rfl hp49
            refine st_nil ?_
            refine WP_ret ?_
            refine finc (b := b6) Try.results29 Try.isAgg31 Try.sizeOf31 rfl rfl (CellsAt.all (hS50.blk (i := 0) rfl)) ?_
            have hS51 : Sep G W ((Blk a #[.int .i64 (p.ptyp), .int .i64 (p.pfield), .int .i64 (p.pgroup), .int .i64 (p.pby), .int .i64 (p.pmake), vx] 60) :: Rs) w48 := hS50.sel 3 [2] (Nat.le_add_left _ _) rfl rfl
            refine ⟨?_, ?_, hS51⟩
            · have hone : oneR p q arg = ⟨q.group, arg, q.count + 1⟩ := by
                unfold oneR madeI
                refine Row.eq_iff.2 ⟨rfl, ?_, rfl⟩
                dsimp only
                first | omega | ((repeat' split) <;> first | rfl | omega)
              rw [hone]
              try rfl
            · exact oneR_ok oq harg hqc
      · skip
        have hc16 := of_decide_eq_true hc16
        refine WP_cond_t rfl ?_
        refine WP_seq ?_
        refine WP_region (by kernel_rfl) ?_
        refine st (fd31_2 rfl ?_)
        refine st (ov_load1 (v := .int .i64 (q.count + 1)) Try.isAgg3 rfl (blk_cellL (hS13.blk (i := 1) rfl) rfl) ?_)
        refine st (ov_eql (k := .i64) (a := q.count + 1) (b := 1) rfl rfl ?_)
        refine st (ov_move (v := .bool (decide ((q.count + 1) = 1))) rfl ?_)
        refine stc (V := .int .i64 (arg)) rfl rfl (fun hb52 => ?_) ?_
        · have hl53 : (decide ((q.count + 1) = 1)) = false := hb52
          have hl53 := of_decide_eq_false hl53
          exact ov_move (v := .int .i64 (arg)) rfl ⟨rfl, rfl⟩
        refine stc (V := .pointer (some ⟨b2, 1, none⟩)) rfl rfl (fun hb54 => ?_) ?_
        · have hl55 : (decide ((q.count + 1) = 1)) = false := hb54
          have hl55 := of_decide_eq_false hl55
          exact fd31_1 rfl ⟨rfl, rfl⟩
        refine stc (V := .int .i64 (q.value)) rfl rfl (fun hb56 => ?_) ?_
        · have hl57 : (decide ((q.count + 1) = 1)) = false := hb56
          have hl57 := of_decide_eq_false hl57
          exact ov_load1 (v := .int .i64 (q.value)) Try.isAgg3 (show _ = (.pointer (some ⟨b2, 1, none⟩) : Value) from (if_pos hb56)) (blk_cellL (hS13.blk (i := 1) rfl) rfl) ⟨rfl, rfl⟩
        refine stc (V := .bool (decide (arg < q.value))) rfl rfl (fun hb58 => ?_) ?_
        · have hl59 : (decide ((q.count + 1) = 1)) = false := hb58
          have hl59 := of_decide_eq_false hl59
          exact ov_lss (k := .i64) (a := arg) (b := q.value) (show _ = (.int .i64 (arg) : Value) from (if_pos hb58)) (show _ = (.int .i64 (q.value) : Value) from (if_pos hb58)) ⟨rfl, rfl⟩
        refine st (ov_pick_or (b := decide ((q.count + 1) = 1)) (b' := decide (arg < q.value)) rfl (fun hbp => (show _ = (.bool (decide (arg < q.value)) : Value) from (if_pos hbp))) ?_)
        refine st_nil ?_
        cases hc60 : (decide ((q.count + 1) = 1)) || (decide (arg < q.value))
        · skip
          simp only [Bool.and_eq_true, Bool.or_eq_true, Bool.and_eq_false_iff, Bool.or_eq_false_iff, decide_eq_true_eq, decide_eq_false_iff_not, Bool.not_eq_true', Bool.not_eq_false', Int.not_lt, Int.not_le] at hc60
          refine WP_cond_f rfl ?_
          refine WP_skip ?_
          refine WP_seq ?_
          refine WP_region0 (by kernel_rfl) (fun _ => ?_)
          refine st (ov_loadk (k := 3) Try.isAgg31 Try.sizeOf31 rfl rfl (CellsAt.all (hS13.blk (i := 1) rfl)) ?_)
          refine stn (ov_store (v := .agg ((⟨q.group, q.value, q.count + 1⟩ : Row).cells).toArray) (c' := ((⟨q.group, q.value, q.count + 1⟩ : Row).cells).toArray) Try.sizeOf31 rfl rfl (hS13.blk (i := 0) rfl) (all1 ⟨rfl, rfl, rfl, trivial⟩) (Nat.le_of_ble_eq_true rfl) rfl ?_)
          intro w61 hp62
          have hS63 : Sep G W ((Blk b6 ((⟨q.group, q.value, q.count + 1⟩ : Row).cells).toArray 31) :: (Blk b2 ((⟨q.group, q.value, q.count + 1⟩ : Row).cells).toArray 31) :: (Blk a #[.int .i64 (p.ptyp), .int .i64 (p.pfield), .int .i64 (p.pgroup), .int .i64 (p.pby), .int .i64 (p.pmake), vx] 60) :: Rs) w61 := hS13.put (i := 0) rfl hp62
          refine st_nil ?_
          refine WP_ret ?_
          refine finc (b := b6) Try.results29 Try.isAgg31 Try.sizeOf31 rfl rfl (CellsAt.all (hS63.blk (i := 0) rfl)) ?_
          have hS64 : Sep G W ((Blk a #[.int .i64 (p.ptyp), .int .i64 (p.pfield), .int .i64 (p.pgroup), .int .i64 (p.pby), .int .i64 (p.pmake), vx] 60) :: Rs) w61 := hS63.sel 3 [2] (Nat.le_add_left _ _) rfl rfl
          refine ⟨?_, ?_, hS64⟩
          · have hone : oneR p q arg = ⟨q.group, q.value, q.count + 1⟩ := by
              unfold oneR madeI
              refine Row.eq_iff.2 ⟨rfl, ?_, rfl⟩
              dsimp only
              first | omega | ((repeat' split) <;> first | rfl | omega)
            rw [hone]
            try rfl
          · exact oneR_ok oq harg hqc
        · skip
          simp only [Bool.and_eq_true, Bool.or_eq_true, Bool.and_eq_false_iff, Bool.or_eq_false_iff, decide_eq_true_eq, decide_eq_false_iff_not, Bool.not_eq_true', Bool.not_eq_false', Int.not_lt, Int.not_le] at hc60
          refine WP_cond_t rfl ?_
          refine WP_region0 (by kernel_rfl) (fun _ => ?_)
          refine st (ov_move (v := .int .i64 (arg)) rfl ?_)
          refine st (fd31_1 rfl ?_)
          refine stn (ov_store1 (v := .int .i64 (arg)) (c := [.int .i64 (q.group), .int .i64 (q.value), .int .i64 (q.count + 1)]) (c' := [.int .i64 (q.group), .int .i64 (arg), .int .i64 (q.count + 1)]) Try.sizeOf3 rfl rfl (hS13.blk (i := 1) rfl) rfl rfl rfl ?_)
          intro w65 hp66
          have ok67 : Row.Ok (⟨q.group, arg, q.count + 1⟩ : Row) := ⟨(show InR (q.group) from oq.group), (show InR (arg) from harg), (show InR (q.count + 1) from hr9)⟩
          have hS68 : Sep G W ((Blk b6 #[.int .i64 (0), .int .i64 (0), .int .i64 (0)] 31) :: (Blk b2 ((⟨q.group, arg, q.count + 1⟩ : Row).cells).toArray 31) :: (Blk a #[.int .i64 (p.ptyp), .int .i64 (p.pfield), .int .i64 (p.pgroup), .int .i64 (p.pby), .int .i64 (p.pmake), vx] 60) :: Rs) w65 := hS13.put (i := 1) rfl hp66
          refine st_nil ?_
          refine WP_seq ?_
          refine WP_region0 (by kernel_rfl) (fun _ => ?_)
          refine st (ov_loadk (k := 3) Try.isAgg31 Try.sizeOf31 rfl rfl (CellsAt.all (hS68.blk (i := 1) rfl)) ?_)
          refine stn (ov_store (v := .agg ((⟨q.group, arg, q.count + 1⟩ : Row).cells).toArray) (c' := ((⟨q.group, arg, q.count + 1⟩ : Row).cells).toArray) Try.sizeOf31 rfl rfl (hS68.blk (i := 0) rfl) (all1 ⟨rfl, rfl, rfl, trivial⟩) (Nat.le_of_ble_eq_true rfl) rfl ?_)
          intro w69 hp70
          have hS71 : Sep G W ((Blk b6 ((⟨q.group, arg, q.count + 1⟩ : Row).cells).toArray 31) :: (Blk b2 ((⟨q.group, arg, q.count + 1⟩ : Row).cells).toArray 31) :: (Blk a #[.int .i64 (p.ptyp), .int .i64 (p.pfield), .int .i64 (p.pgroup), .int .i64 (p.pby), .int .i64 (p.pmake), vx] 60) :: Rs) w69 := hS68.put (i := 0) rfl hp70
          refine st_nil ?_
          refine WP_ret ?_
          refine finc (b := b6) Try.results29 Try.isAgg31 Try.sizeOf31 rfl rfl (CellsAt.all (hS71.blk (i := 0) rfl)) ?_
          have hS72 : Sep G W ((Blk a #[.int .i64 (p.ptyp), .int .i64 (p.pfield), .int .i64 (p.pgroup), .int .i64 (p.pby), .int .i64 (p.pmake), vx] 60) :: Rs) w69 := hS71.sel 3 [2] (Nat.le_add_left _ _) rfl rfl
          refine ⟨?_, ?_, hS72⟩
          · have hone : oneR p q arg = ⟨q.group, arg, q.count + 1⟩ := by
              unfold oneR madeI
              refine Row.eq_iff.2 ⟨rfl, ?_, rfl⟩
              dsimp only
              first | omega | ((repeat' split) <;> first | rfl | omega)
            rw [hone]
            try rfl
          · exact oneR_ok oq harg hqc
    · skip
      have hc15 := of_decide_eq_true hc15
      refine WP_cond_t rfl ?_
      refine WP_region0 (by kernel_rfl) (fun _ => ?_)
      refine st (fd31_1 rfl ?_)
      refine st (ov_load1 (v := .int .i64 (q.value)) Try.isAgg3 rfl (blk_cellL (hS13.blk (i := 1) rfl) rfl) ?_)
      refine st (ov_move (v := .int .i64 (arg)) rfl ?_)
      refine st (ov_add (r := IntKind.i64.wrap (q.value + arg)) (k := .i64) (a := q.value) (b := arg) rfl rfl rfl ?_)
      refine st (fd31_1 rfl ?_)
      refine stn (ov_store1 (v := .int .i64 (IntKind.i64.wrap (q.value + arg))) (c := [.int .i64 (q.group), .int .i64 (q.value), .int .i64 (q.count + 1)]) (c' := [.int .i64 (q.group), .int .i64 (IntKind.i64.wrap (q.value + arg)), .int .i64 (q.count + 1)]) Try.sizeOf3 rfl rfl (hS13.blk (i := 1) rfl) rfl rfl rfl ?_)
      intro w73 hp74
      have ok75 : Row.Ok (⟨q.group, IntKind.i64.wrap (q.value + arg), q.count + 1⟩ : Row) := ⟨(show InR (q.group) from oq.group), (show InR (IntKind.i64.wrap (q.value + arg)) from (wrap_range _)), (show InR (q.count + 1) from hr9)⟩
      have hS76 : Sep G W ((Blk b6 #[.int .i64 (0), .int .i64 (0), .int .i64 (0)] 31) :: (Blk b2 ((⟨q.group, IntKind.i64.wrap (q.value + arg), q.count + 1⟩ : Row).cells).toArray 31) :: (Blk a #[.int .i64 (p.ptyp), .int .i64 (p.pfield), .int .i64 (p.pgroup), .int .i64 (p.pby), .int .i64 (p.pmake), vx] 60) :: Rs) w73 := hS13.put (i := 1) rfl hp74
      refine st_nil ?_
      refine WP_seq ?_
      refine WP_region0 (by kernel_rfl) (fun _ => ?_)
      refine st (ov_loadk (k := 3) Try.isAgg31 Try.sizeOf31 rfl rfl (CellsAt.all (hS76.blk (i := 1) rfl)) ?_)
      refine stn (ov_store (v := .agg ((⟨q.group, IntKind.i64.wrap (q.value + arg), q.count + 1⟩ : Row).cells).toArray) (c' := ((⟨q.group, IntKind.i64.wrap (q.value + arg), q.count + 1⟩ : Row).cells).toArray) Try.sizeOf31 rfl rfl (hS76.blk (i := 0) rfl) (all1 ⟨rfl, rfl, rfl, trivial⟩) (Nat.le_of_ble_eq_true rfl) rfl ?_)
      intro w77 hp78
      have hS79 : Sep G W ((Blk b6 ((⟨q.group, IntKind.i64.wrap (q.value + arg), q.count + 1⟩ : Row).cells).toArray 31) :: (Blk b2 ((⟨q.group, IntKind.i64.wrap (q.value + arg), q.count + 1⟩ : Row).cells).toArray 31) :: (Blk a #[.int .i64 (p.ptyp), .int .i64 (p.pfield), .int .i64 (p.pgroup), .int .i64 (p.pby), .int .i64 (p.pmake), vx] 60) :: Rs) w77 := hS76.put (i := 0) rfl hp78
      refine st_nil ?_
      refine WP_ret ?_
      refine finc (b := b6) Try.results29 Try.isAgg31 Try.sizeOf31 rfl rfl (CellsAt.all (hS79.blk (i := 0) rfl)) ?_
      have hS80 : Sep G W ((Blk a #[.int .i64 (p.ptyp), .int .i64 (p.pfield), .int .i64 (p.pgroup), .int .i64 (p.pby), .int .i64 (p.pmake), vx] 60) :: Rs) w77 := hS79.sel 3 [2] (Nat.le_add_left _ _) rfl rfl
      refine ⟨?_, ?_, hS80⟩
      · have hone : oneR p q arg = ⟨q.group, IntKind.i64.wrap (q.value + arg), q.count + 1⟩ := by
          unfold oneR madeI
          refine Row.eq_iff.2 ⟨rfl, ?_, rfl⟩
          dsimp only
          first | omega | ((repeat' split) <;> first | rfl | omega)
        rw [hone]
        try rfl
      · exact oneR_ok oq harg hqc
  · skip
    have hc14 := of_decide_eq_true hc14
    refine WP_cond_t rfl ?_
    refine WP_region0 (by kernel_rfl) (fun _ => ?_)
    refine st (fd31_2 rfl ?_)
    refine st (ov_load1 (v := .int .i64 (q.count + 1)) Try.isAgg3 rfl (blk_cellL (hS13.blk (i := 1) rfl) rfl) ?_)
    refine st (fd31_1 rfl ?_)
    refine stn (ov_store1 (v := .int .i64 (q.count + 1)) (c := [.int .i64 (q.group), .int .i64 (q.value), .int .i64 (q.count + 1)]) (c' := [.int .i64 (q.group), .int .i64 (q.count + 1), .int .i64 (q.count + 1)]) Try.sizeOf3 rfl rfl (hS13.blk (i := 1) rfl) rfl rfl rfl ?_)
    intro w81 hp82
    have ok83 : Row.Ok (⟨q.group, q.count + 1, q.count + 1⟩ : Row) := ⟨(show InR (q.group) from oq.group), (show InR (q.count + 1) from hr9), (show InR (q.count + 1) from hr9)⟩
    have hS84 : Sep G W ((Blk b6 #[.int .i64 (0), .int .i64 (0), .int .i64 (0)] 31) :: (Blk b2 ((⟨q.group, q.count + 1, q.count + 1⟩ : Row).cells).toArray 31) :: (Blk a #[.int .i64 (p.ptyp), .int .i64 (p.pfield), .int .i64 (p.pgroup), .int .i64 (p.pby), .int .i64 (p.pmake), vx] 60) :: Rs) w81 := hS13.put (i := 1) rfl hp82
    refine st_nil ?_
    refine WP_seq ?_
    refine WP_region0 (by kernel_rfl) (fun _ => ?_)
    refine st (ov_loadk (k := 3) Try.isAgg31 Try.sizeOf31 rfl rfl (CellsAt.all (hS84.blk (i := 1) rfl)) ?_)
    refine stn (ov_store (v := .agg ((⟨q.group, q.count + 1, q.count + 1⟩ : Row).cells).toArray) (c' := ((⟨q.group, q.count + 1, q.count + 1⟩ : Row).cells).toArray) Try.sizeOf31 rfl rfl (hS84.blk (i := 0) rfl) (all1 ⟨rfl, rfl, rfl, trivial⟩) (Nat.le_of_ble_eq_true rfl) rfl ?_)
    intro w85 hp86
    have hS87 : Sep G W ((Blk b6 ((⟨q.group, q.count + 1, q.count + 1⟩ : Row).cells).toArray 31) :: (Blk b2 ((⟨q.group, q.count + 1, q.count + 1⟩ : Row).cells).toArray 31) :: (Blk a #[.int .i64 (p.ptyp), .int .i64 (p.pfield), .int .i64 (p.pgroup), .int .i64 (p.pby), .int .i64 (p.pmake), vx] 60) :: Rs) w85 := hS84.put (i := 0) rfl hp86
    refine st_nil ?_
    refine WP_ret ?_
    refine finc (b := b6) Try.results29 Try.isAgg31 Try.sizeOf31 rfl rfl (CellsAt.all (hS87.blk (i := 0) rfl)) ?_
    have hS88 : Sep G W ((Blk a #[.int .i64 (p.ptyp), .int .i64 (p.pfield), .int .i64 (p.pgroup), .int .i64 (p.pby), .int .i64 (p.pmake), vx] 60) :: Rs) w85 := hS87.sel 3 [2] (Nat.le_add_left _ _) rfl rfl
    refine ⟨?_, ?_, hS88⟩
    · have hone : oneR p q arg = ⟨q.group, q.count + 1, q.count + 1⟩ := by
        unfold oneR madeI
        refine Row.eq_iff.2 ⟨rfl, ?_, rfl⟩
        dsimp only
        first | omega | ((repeat' split) <;> first | rfl | omega)
      rw [hone]
      try rfl
    · exact oneR_ok oq harg hqc

theorem fd38_1 {d : Option Tmp} {ty : TypeId} {pos : String} {af : Array Edge} {g : Option (Nat × Bool)} {σ : Env} {w : World} {K : Value → World → Prop} {x : Operand} {b o : Nat} (hx : ev σ x = .pointer (some ⟨b, o, none⟩)) (h : K (.pointer (some ⟨b, o + 10, none⟩)) w) : opV Try.prog ⟨d, .fieldAddr 38 x 1, ty, pos, af, g⟩ σ w K := ov_fieldAddr Try.underlying38 rfl rfl (fun w => ⟨0, Try.sizeOf4 w⟩) hx h
theorem fd38_0 {d : Option Tmp} {ty : TypeId} {pos : String} {af : Array Edge} {g : Option (Nat × Bool)} {σ : Env} {w : World} {K : Value → World → Prop} {x : Operand} {b o : Nat} (hx : ev σ x = .pointer (some ⟨b, o, none⟩)) (h : K (.pointer (some ⟨b, o + 0, none⟩)) w) : opV Try.prog ⟨d, .fieldAddr 38 x 0, ty, pos, af, g⟩ σ w K := ov_fieldAddr Try.underlying38 rfl rfl (fun w => ⟨9, Try.sizeOf36 w⟩) hx h
theorem fd36_3 {d : Option Tmp} {ty : TypeId} {pos : String} {af : Array Edge} {g : Option (Nat × Bool)} {σ : Env} {w : World} {K : Value → World → Prop} {x : Operand} {b o : Nat} (hx : ev σ x = .pointer (some ⟨b, o, none⟩)) (h : K (.pointer (some ⟨b, o + 4, none⟩)) w) : opV Try.prog ⟨d, .fieldAddr 36 x 3, ty, pos, af, g⟩ σ w K := ov_fieldAddr Try.underlying36 rfl rfl (fun w => ⟨0, Try.sizeOf3 w⟩) hx h
theorem fd23_0 {d : Option Tmp} {ty : TypeId} {pos : String} {af : Array Edge} {g : Option (Nat × Bool)} {σ : Env} {w : World} {K : Value → World → Prop} {x : Operand} {b o : Nat} (hx : ev σ x = .pointer (some ⟨b, o, none⟩)) (h : K (.pointer (some ⟨b, o + 0, none⟩)) w) : opV Try.prog ⟨d, .fieldAddr 23 x 0, ty, pos, af, g⟩ σ w K := ov_fieldAddr Try.underlying23 rfl rfl (fun w => ⟨0, Try.sizeOf3 w⟩) hx h
theorem fd36_5 {d : Option Tmp} {ty : TypeId} {pos : String} {af : Array Edge} {g : Option (Nat × Bool)} {σ : Env} {w : World} {K : Value → World → Prop} {x : Operand} {b o : Nat} (hx : ev σ x = .pointer (some ⟨b, o, none⟩)) (h : K (.pointer (some ⟨b, o + 6, none⟩)) w) : opV Try.prog ⟨d, .fieldAddr 36 x 5, ty, pos, af, g⟩ σ w K := ov_fieldAddr Try.underlying36 rfl rfl (fun w => ⟨0, Try.sizeOf3 w⟩) hx h
theorem fd23_1 {d : Option Tmp} {ty : TypeId} {pos : String} {af : Array Edge} {g : Option (Nat × Bool)} {σ : Env} {w : World} {K : Value → World → Prop} {x : Operand} {b o : Nat} (hx : ev σ x = .pointer (some ⟨b, o, none⟩)) (h : K (.pointer (some ⟨b, o + 1, none⟩)) w) : opV Try.prog ⟨d, .fieldAddr 23 x 1, ty, pos, af, g⟩ σ w K := ov_fieldAddr Try.underlying23 rfl rfl (fun w => ⟨0, Try.sizeOf3 w⟩) hx h
theorem fd23_2 {d : Option Tmp} {ty : TypeId} {pos : String} {af : Array Edge} {g : Option (Nat × Bool)} {σ : Env} {w : World} {K : Value → World → Prop} {x : Operand} {b o : Nat} (hx : ev σ x = .pointer (some ⟨b, o, none⟩)) (h : K (.pointer (some ⟨b, o + 2, none⟩)) w) : opV Try.prog ⟨d, .fieldAddr 23 x 2, ty, pos, af, g⟩ σ w K := ov_fieldAddr Try.underlying23 rfl rfl (fun w => ⟨0, Try.sizeOf3 w⟩) hx h
theorem fd36_4 {d : Option Tmp} {ty : TypeId} {pos : String} {af : Array Edge} {g : Option (Nat × Bool)} {σ : Env} {w : World} {K : Value → World → Prop} {x : Operand} {b o : Nat} (hx : ev σ x = .pointer (some ⟨b, o, none⟩)) (h : K (.pointer (some ⟨b, o + 5, none⟩)) w) : opV Try.prog ⟨d, .fieldAddr 36 x 4, ty, pos, af, g⟩ σ w K := ov_fieldAddr Try.underlying36 rfl rfl (fun w => ⟨0, Try.sizeOf3 w⟩) hx h
theorem fd36_7 {d : Option Tmp} {ty : TypeId} {pos : String} {af : Array Edge} {g : Option (Nat × Bool)} {σ : Env} {w : World} {K : Value → World → Prop} {x : Operand} {b o : Nat} (hx : ev σ x = .pointer (some ⟨b, o, none⟩)) (h : K (.pointer (some ⟨b, o + 8, none⟩)) w) : opV Try.prog ⟨d, .fieldAddr 36 x 7, ty, pos, af, g⟩ σ w K := ov_fieldAddr Try.underlying36 rfl rfl (fun w => ⟨0, Try.sizeOf3 w⟩) hx h
theorem fd31_0 {d : Option Tmp} {ty : TypeId} {pos : String} {af : Array Edge} {g : Option (Nat × Bool)} {σ : Env} {w : World} {K : Value → World → Prop} {x : Operand} {b o : Nat} (hx : ev σ x = .pointer (some ⟨b, o, none⟩)) (h : K (.pointer (some ⟨b, o + 0, none⟩)) w) : opV Try.prog ⟨d, .fieldAddr 31 x 0, ty, pos, af, g⟩ σ w K := ov_fieldAddr Try.underlying31 rfl rfl (fun w => ⟨0, Try.sizeOf3 w⟩) hx h
set_option maxHeartbeats 4000000 in
theorem D_refAdd {G : Nat → Prop} {W w : World} {Rs : List HP} {a : Nat} {p : Prj} {l : List Row} {e : Ent} {de0 : Value} (hde0 : RdS W G de0 e.ev.deps) (oe : e.Ok) {reg : Int} (hreg : InR reg) (hS0 : Sep G W ((RefO a p l) :: Rs) w) (hcnt : ∀ j, j < l.length → 0 ≤ (l.getD j default).count ∧ (l.getD j default).count < 4611686018427387904) (hll : l.length ≤ 100000) : Ret Try.prog 20 [.pointer (some ⟨a, 0, none⟩), .agg (e.cells de0).toArray, .int .i64 (reg)] w (fun r w' => ∃ (l2 : List Row), r = (.tuple #[] : Value) ∧ (AddRel p l e reg l2) ∧ Sep G W ((RefO a p l2) :: Rs) w') := by
  have hde0s : e.ev.deps.length * 8 ≤ 140737488355328 := hde0.small
  refine Calls_of_WP (args := [.pointer (some ⟨a, 0, none⟩), .agg (e.cells de0).toArray, .int .i64 (reg)]) Try.func20 rfl rfl ?_
  obtain ⟨op1, v2, hS3⟩ := RefO.open hS0
  have hr4 := hS3.row (i := 1) rfl
  have hr4s : l.length * 24 ≤ 140737488355328 := hr4.2
  have hS3t : Sep G W ((Blk a #[.int .i64 (p.ptyp), .int .i64 (p.pfield), .int .i64 (p.pgroup), .int .i64 (p.pby), .int .i64 (p.pmake), v2] 60) :: (RowE (α := Row) own 31 v2 l) :: Rs) w := hS3
  refine WP_seq ?_
  refine WP_region0 (by kernel_rfl) (fun _ => ?_)
  refine st (ov_box (v := .agg (e.cells de0).toArray) rfl ?_)
  intro w7 b6 hn5
  have hS8 : Sep G W ((Blk b6 (e.cells de0).toArray 38) :: (Blk a #[.int .i64 (p.ptyp), .int .i64 (p.pfield), .int .i64 (p.pgroup), .int .i64 (p.pby), .int .i64 (p.pmake), v2] 60) :: (RowE (α := Row) own 31 v2 l) :: Rs) w7 := hS3t.new hn5
  refine st_nil ?_
  refine WP_seq ?_
  refine WP_seq ?_
  refine WP_draw4 (WF [fun vals wq => Sep G W ((Blk b6 (e.cells de0).toArray 38) :: (Blk a #[.int .i64 (p.ptyp), .int .i64 (p.pfield), .int .i64 (p.pgroup), .int .i64 (p.pby), .int .i64 (p.pmake), v2] 60) :: (RowE (α := Row) own 31 v2 l) :: Rs) wq]) (AF [fun vals => vals 0 = (.pointer (some ⟨b6, 10, none⟩) : Value), fun vals => vals 1 = (.bool (e.void) : Value), fun vals => vals 2 = (.bool (e.void) : Value), fun vals => vals 3 = (if e.void = false then (.pointer (some ⟨b6, 0, none⟩) : Value) else undef), fun vals => vals 4 = (if e.void = false then (.pointer (some ⟨b6, 4, none⟩) : Value) else undef), fun vals => vals 5 = (if e.void = false then (.int .i64 (e.ev.typ) : Value) else undef), fun vals => vals 6 = (if e.void = false then (.pointer (some ⟨a, 0, none⟩) : Value) else undef), fun vals => vals 7 = (if e.void = false then (.pointer (some ⟨a, 0, none⟩) : Value) else undef), fun vals => vals 8 = (if e.void = false then (.pointer (some ⟨a, 0, none⟩) : Value) else undef), fun vals => vals 9 = (if e.void = false then (.pointer (some ⟨a, 0, none⟩) : Value) else undef), fun vals => vals 10 = (if e.void = false then (.int .i64 (p.ptyp) : Value) else undef), fun vals => vals 11 = (if e.void = false then (.bool (!decide (e.ev.typ = p.ptyp)) : Value) else undef), fun vals => vals 12 = (.bool (e.void || (!decide (e.ev.typ = p.ptyp))) : Value), fun vals => vals 13 = (.bool (e.void || (!decide (e.ev.typ = p.ptyp))) : Value), fun vals => vals 14 = (if (e.void || (!decide (e.ev.typ = p.ptyp))) = false then (.pointer (some ⟨b6, 0, none⟩) : Value) else undef), fun vals => vals 15 = (if (e.void || (!decide (e.ev.typ = p.ptyp))) = false then (.pointer (some ⟨b6, 6, none⟩) : Value) else undef), fun vals => vals 16 = (if (e.void || (!decide (e.ev.typ = p.ptyp))) = false then (.int .i64 (e.ev.field) : Value) else undef), fun vals => vals 17 = (if (e.void || (!decide (e.ev.typ = p.ptyp))) = false then (.pointer (some ⟨a, 0, none⟩) : Value) else undef), fun vals => vals 18 = (if (e.void || (!decide (e.ev.typ = p.ptyp))) = false then (.pointer (some ⟨a, 0, none⟩) : Value) else undef), fun vals => vals 19 = (if (e.void || (!decide (e.ev.typ = p.ptyp))) = false then (.pointer (some ⟨a, 0, none⟩) : Value) else undef), fun vals => vals 20 = (if (e.void || (!decide (e.ev.typ = p.ptyp))) = false then (.pointer (some ⟨a, 1, none⟩) : Value) else undef), fun vals => vals 21 = (if (e.void || (!decide (e.ev.typ = p.ptyp))) = false then (.int .i64 (p.pfield) : Value) else undef), fun vals => vals 22 = (if (e.void || (!decide (e.ev.typ = p.ptyp))) = false then (.bool (!decide (e.ev.field = p.pfield)) : Value) else undef), fun vals => vals 23 = (.bool ((e.void || (!decide (e.ev.typ = p.ptyp))) || (!decide (e.ev.field = p.pfield))) : Value), fun vals => vals 24 = (.bool ((e.void || (!decide (e.ev.typ = p.ptyp))) || (!decide (e.ev.field = p.pfield))) : Value), fun vals => vals 25 = (if ((e.void || (!decide (e.ev.typ = p.ptyp))) || (!decide (e.ev.field = p.pfield))) = false then (.pointer (some ⟨a, 0, none⟩) : Value) else undef), fun vals => vals 26 = (if ((e.void || (!decide (e.ev.typ = p.ptyp))) || (!decide (e.ev.field = p.pfield))) = false then (.pointer (some ⟨a, 0, none⟩) : Value) else undef), fun vals => vals 27 = (if ((e.void || (!decide (e.ev.typ = p.ptyp))) || (!decide (e.ev.field = p.pfield))) = false then (.pointer (some ⟨a, 0, none⟩) : Value) else undef), fun vals => vals 28 = (if ((e.void || (!decide (e.ev.typ = p.ptyp))) || (!decide (e.ev.field = p.pfield))) = false then (.pointer (some ⟨a, 2, none⟩) : Value) else undef), fun vals => vals 29 = (if ((e.void || (!decide (e.ev.typ = p.ptyp))) || (!decide (e.ev.field = p.pfield))) = false then (.int .i64 (p.pgroup) : Value) else undef), fun vals => vals 30 = (if ((e.void || (!decide (e.ev.typ = p.ptyp))) || (!decide (e.ev.field = p.pfield))) = false then (.bool (decide (p.pgroup < 1)) : Value) else undef), fun vals => vals 31 = (.bool (((e.void || (!decide (e.ev.typ = p.ptyp))) || (!decide (e.ev.field = p.pfield))) || (decide (p.pgroup < 1))) : Value), fun vals => vals 32 = (.bool (((e.void || (!decide (e.ev.typ = p.ptyp))) || (!decide (e.ev.field = p.pfield))) || (decide (p.pgroup < 1))) : Value), fun vals => vals 33 = (if (((e.void || (!decide (e.ev.typ = p.ptyp))) || (!decide (e.ev.field = p.pfield))) || (decide (p.pgroup < 1))) = false then (.pointer (some ⟨a, 0, none⟩) : Value) else undef), fun vals => vals 34 = (if (((e.void || (!decide (e.ev.typ = p.ptyp))) || (!decide (e.ev.field = p.pfield))) || (decide (p.pgroup < 1))) = false then (.pointer (some ⟨a, 0, none⟩) : Value) else undef), fun vals => vals 35 = (if (((e.void || (!decide (e.ev.typ = p.ptyp))) || (!decide (e.ev.field = p.pfield))) || (decide (p.pgroup < 1))) = false then (.pointer (some ⟨a, 0, none⟩) : Value) else undef), fun vals => vals 36 = (if (((e.void || (!decide (e.ev.typ = p.ptyp))) || (!decide (e.ev.field = p.pfield))) || (decide (p.pgroup < 1))) = false then (.pointer (some ⟨a, 2, none⟩) : Value) else undef), fun vals => vals 37 = (if (((e.void || (!decide (e.ev.typ = p.ptyp))) || (!decide (e.ev.field = p.pfield))) || (decide (p.pgroup < 1))) = false then (.int .i64 (p.pgroup) : Value) else undef), fun vals => vals 38 = (if (((e.void || (!decide (e.ev.typ = p.ptyp))) || (!decide (e.ev.field = p.pfield))) || (decide (p.pgroup < 1))) = false then (.bool (decide (3 < p.pgroup)) : Value) else undef), fun vals => vals 39 = (.bool ((((e.void || (!decide (e.ev.typ = p.ptyp))) || (!decide (e.ev.field = p.pfield))) || (decide (p.pgroup < 1))) || (decide (3 < p.pgroup))) : Value)]) [[], [0], [0, 1], [0, 1, 2], [0, 1, 2, 3], [0, 1, 2, 3, 4], [0, 1, 2], [0, 1, 2, 6], [0, 1, 2, 6, 7], [0, 1, 2, 6, 7, 8], [0, 1, 2, 6, 7, 8, 9], [0, 1, 2, 3, 4, 5, 6, 7, 8, 9, 10], [0, 1, 2, 3, 4, 5, 6, 7, 8, 9, 10, 11], [0, 1, 2, 3, 4, 5, 6, 7, 8, 9, 10, 11, 12], [0, 1, 2, 3, 4, 5, 6, 7, 8, 9, 10, 11, 12, 13], [0, 1, 2, 3, 4, 5, 6, 7, 8, 9, 10, 11, 12, 13, 14], [0, 1, 2, 3, 4, 5, 6, 7, 8, 9, 10, 11, 12, 13, 14, 15], [0, 1, 2, 3, 4, 5, 6, 7, 8, 9, 10, 11, 12, 13], [0, 1, 2, 3, 4, 5, 6, 7, 8, 9, 10, 11, 12, 13, 17], [0, 1, 2, 3, 4, 5, 6, 7, 8, 9, 10, 11, 12, 13, 17, 18], [0, 1, 2, 3, 4, 5, 6, 7, 8, 9, 10, 11, 12, 13, 17, 18, 19], [0, 1, 2, 3, 4, 5, 6, 7, 8, 9, 10, 11, 12, 13, 17, 18, 19, 20], [0, 1, 2, 3, 4, 5, 6, 7, 8, 9, 10, 11, 12, 13, 14, 15, 16, 17, 18, 19, 20, 21], [0, 1, 2, 3, 4, 5, 6, 7, 8, 9, 10, 11, 12, 13, 14, 15, 16, 17, 18, 19, 20, 21, 22], [0, 1, 2, 3, 4, 5, 6, 7, 8, 9, 10, 11, 12, 13, 14, 15, 16, 17, 18, 19, 20, 21, 22, 23], [0, 1, 2, 3, 4, 5, 6, 7, 8, 9, 10, 11, 12, 13, 14, 15, 16, 17, 18, 19, 20, 21, 22, 23, 24], [0, 1, 2, 3, 4, 5, 6, 7, 8, 9, 10, 11, 12, 13, 14, 15, 16, 17, 18, 19, 20, 21, 22, 23, 24, 25], [0, 1, 2, 3, 4, 5, 6, 7, 8, 9, 10, 11, 12, 13, 14, 15, 16, 17, 18, 19, 20, 21, 22, 23, 24, 25, 26], [0, 1, 2, 3, 4, 5, 6, 7, 8, 9, 10, 11, 12, 13, 14, 15, 16, 17, 18, 19, 20, 21, 22, 23, 24, 25, 26, 27], [0, 1, 2, 3, 4, 5, 6, 7, 8, 9, 10, 11, 12, 13, 14, 15, 16, 17, 18, 19, 20, 21, 22, 23, 24, 25, 26, 27, 28], [0, 1, 2, 3, 4, 5, 6, 7, 8, 9, 10, 11, 12, 13, 14, 15, 16, 17, 18, 19, 20, 21, 22, 23, 24, 25, 26, 27, 28, 29], [0, 1, 2, 3, 4, 5, 6, 7, 8, 9, 10, 11, 12, 13, 14, 15, 16, 17, 18, 19, 20, 21, 22, 23, 24, 25, 26, 27, 28, 29, 30], [0, 1, 2, 3, 4, 5, 6, 7, 8, 9, 10, 11, 12, 13, 14, 15, 16, 17, 18, 19, 20, 21, 22, 23, 24, 25, 26, 27, 28, 29, 30, 31], [0, 1, 2, 3, 4, 5, 6, 7, 8, 9, 10, 11, 12, 13, 14, 15, 16, 17, 18, 19, 20, 21, 22, 23, 24, 25, 26, 27, 28, 29, 30, 31, 32], [0, 1, 2, 3, 4, 5, 6, 7, 8, 9, 10, 11, 12, 13, 14, 15, 16, 17, 18, 19, 20, 21, 22, 23, 24, 25, 26, 27, 28, 29, 30, 31, 32, 33], [0, 1, 2, 3, 4, 5, 6, 7, 8, 9, 10, 11, 12, 13, 14, 15, 16, 17, 18, 19, 20, 21, 22, 23, 24, 25, 26, 27, 28, 29, 30, 31, 32, 33, 34], [0, 1, 2, 3, 4, 5, 6, 7, 8, 9, 10, 11, 12, 13, 14, 15, 16, 17, 18, 19, 20, 21, 22, 23, 24, 25, 26, 27, 28, 29, 30, 31, 32, 33, 34, 35], [0, 1, 2, 3, 4, 5, 6, 7, 8, 9, 10, 11, 12, 13, 14, 15, 16, 17, 18, 19, 20, 21, 22, 23, 24, 25, 26, 27, 28, 29, 30, 31, 32, 33, 34, 35, 36], [0, 1, 2, 3, 4, 5, 6, 7, 8, 9, 10, 11, 12, 13, 14, 15, 16, 17, 18, 19, 20, 21, 22, 23, 24, 25, 26, 27, 28, 29, 30, 31, 32, 33, 34, 35, 36, 37], [0, 1, 2, 3, 4, 5, 6, 7, 8, 9, 10, 11, 12, 13, 14, 15, 16, 17, 18, 19, 20, 21, 22, 23, 24, 25, 26, 27, 28, 29, 30, 31, 32, 33, 34, 35, 36, 37, 38]] [] [(0, 0), (0, 0), (0, 0), (0, 0), (0, 0), (0, 0), (0, 0), (0, 0), (0, 0), (0, 0), (0, 0), (0, 0), (0, 0), (0, 0), (0, 0), (0, 0), (0, 0), (0, 0), (0, 0), (0, 0), (0, 0), (0, 0), (0, 0), (0, 0), (0, 0), (0, 0), (0, 0), (0, 0), (0, 0), (0, 0), (0, 0), (0, 0), (0, 0), (0, 0), (0, 0), (0, 0), (0, 0), (0, 0), (0, 0), (0, 0)] (by kernel_rfl) (by kernel_rfl) (by kernel_rfl) rfl (by kernel_rfl) (by kernel_rfl) (fun _ h1 h2 h3 h4 _ => hS8.same h1 h2 h3 h4) ?_ ?_ ⟨?_, ?_, ?_, ?_, ?_, ?_, ?_, ?_, ?_, ?_, ?_, ?_, ?_, ?_, ?_, ?_, ?_, ?_, ?_, ?_, ?_, ?_, ?_, ?_, ?_, ?_, ?_, ?_, ?_, ?_, ?_, ?_, ?_, ?_, ?_, ?_, ?_, ?_, ?_, ?_, trivial⟩ ?_
  · intro k vals vals' w hv h
    match k, h with
    | 0, h => exact h
    | _ + 1, _ => trivial
  · intro i vals vals' hv h
    match i, hv, h with
    | 0, hv, h => exact (hv 0 (.inl rfl)).trans h
    | 1, hv, h => exact (hv 1 (.inl rfl)).trans h
    | 2, hv, h => exact (hv 2 (.inl rfl)).trans h
    | 3, hv, h => exact (hv 3 (.inl rfl)).trans h
    | 4, hv, h => exact (hv 4 (.inl rfl)).trans h
    | 5, hv, h => exact (hv 5 (.inl rfl)).trans h
    | 6, hv, h => exact (hv 6 (.inl rfl)).trans h
    | 7, hv, h => exact (hv 7 (.inl rfl)).trans h
    | 8, hv, h => exact (hv 8 (.inl rfl)).trans h
    | 9, hv, h => exact (hv 9 (.inl rfl)).trans h
    | 10, hv, h => exact (hv 10 (.inl rfl)).trans h
    | 11, hv, h => exact (hv 11 (.inl rfl)).trans h
    | 12, hv, h => exact (hv 12 (.inl rfl)).trans h
    | 13, hv, h => exact (hv 13 (.inl rfl)).trans h
    | 14, hv, h => exact (hv 14 (.inl rfl)).trans h
    | 15, hv, h => exact (hv 15 (.inl rfl)).trans h
    | 16, hv, h => exact (hv 16 (.inl rfl)).trans h
    | 17, hv, h => exact (hv 17 (.inl rfl)).trans h
    | 18, hv, h => exact (hv 18 (.inl rfl)).trans h
    | 19, hv, h => exact (hv 19 (.inl rfl)).trans h
    | 20, hv, h => exact (hv 20 (.inl rfl)).trans h
    | 21, hv, h => exact (hv 21 (.inl rfl)).trans h
    | 22, hv, h => exact (hv 22 (.inl rfl)).trans h
    | 23, hv, h => exact (hv 23 (.inl rfl)).trans h
    | 24, hv, h => exact (hv 24 (.inl rfl)).trans h
    | 25, hv, h => exact (hv 25 (.inl rfl)).trans h
    | 26, hv, h => exact (hv 26 (.inl rfl)).trans h
    | 27, hv, h => exact (hv 27 (.inl rfl)).trans h
    | 28, hv, h => exact (hv 28 (.inl rfl)).trans h
    | 29, hv, h => exact (hv 29 (.inl rfl)).trans h
    | 30, hv, h => exact (hv 30 (.inl rfl)).trans h
    | 31, hv, h => exact (hv 31 (.inl rfl)).trans h
    | 32, hv, h => exact (hv 32 (.inl rfl)).trans h
    | 33, hv, h => exact (hv 33 (.inl rfl)).trans h
    | 34, hv, h => exact (hv 34 (.inl rfl)).trans h
    | 35, hv, h => exact (hv 35 (.inl rfl)).trans h
    | 36, hv, h => exact (hv 36 (.inl rfl)).trans h
    | 37, hv, h => exact (hv 37 (.inl rfl)).trans h
    | 38, hv, h => exact (hv 38 (.inl rfl)).trans h
    | 39, hv, h => exact (hv 39 (.inl rfl)).trans h
    | _ + 40, _, _ => trivial
  · intro k389 vals w390 h393 h394 hW392 hA391
    refine obl rfl ?_
    exact fd38_1 rfl (fun vals' hv _ => ⟨rfl, hv⟩)
  · intro k395 vals w396 h399 h400 hW398 hA397
    obtain rfl : k395 = 0 := Nat.le_antisymm h400 h399
    have hS401 : Sep G W ((Blk b6 (e.cells de0).toArray 38) :: (Blk a #[.int .i64 (p.ptyp), .int .i64 (p.pfield), .int .i64 (p.pgroup), .int .i64 (p.pby), .int .i64 (p.pmake), v2] 60) :: (RowE (α := Row) own 31 v2 l) :: Rs) w396 := hW398
    have e402 : vals 0 = (.pointer (some ⟨b6, 10, none⟩) : Value) := hA397 0 (by decide)
    refine obl rfl ?_
    exact ov_load1 (v := .bool (e.void)) Try.isAgg4 (show _ = (.pointer (some ⟨b6, 10, none⟩) : Value) from e402) (blk_cellL (hS401.blk (i := 0) rfl) rfl) (fun vals' hv _ => ⟨rfl, hv⟩)
  · intro k403 vals w404 h407 h408 hW406 hA405
    have e409 : vals 1 = (.bool (e.void) : Value) := hA405 1 (by decide)
    refine obl rfl ?_
    exact ov_move (v := .bool (e.void)) (show _ = (.bool (e.void) : Value) from e409) (fun vals' hv _ => ⟨rfl, hv⟩)
  · intro k410 vals w411 h414 h415 hW413 hA412
    have e416 : vals 2 = (.bool (e.void) : Value) := hA412 2 (by decide)
    refine oblc rfl rfl (show _ = (.bool (e.void) : Value) from e416) (fun hb417 => ?_) (fun hb417 => fun vals' hv _ => ⟨trivial, hv.trans (if_neg hb417).symm⟩)
    have hl418 : e.void = false := hb417
    exact fd38_0 rfl (fun vals' hv _ => ⟨rfl, hv.trans (if_pos hb417).symm⟩)
  · intro k419 vals w420 h423 h424 hW422 hA421
    have e425 : vals 2 = (.bool (e.void) : Value) := hA421 2 (by decide)
    have e426 : vals 3 = (if e.void = false then (.pointer (some ⟨b6, 0, none⟩) : Value) else undef) := hA421 3 (by decide)
    refine oblc rfl rfl (show _ = (.bool (e.void) : Value) from e425) (fun hb427 => ?_) (fun hb427 => fun vals' hv _ => ⟨trivial, hv.trans (if_neg hb427).symm⟩)
    have hl428 : e.void = false := hb427
    exact fd36_3 (show _ = (.pointer (some ⟨b6, 0, none⟩) : Value) from (Eq.trans e426 (if_pos hb427))) (fun vals' hv _ => ⟨rfl, hv.trans (if_pos hb427).symm⟩)
  · intro k429 vals w430 h433 h434 hW432 hA431
    obtain rfl : k429 = 0 := Nat.le_antisymm h434 h433
    have hS435 : Sep G W ((Blk b6 (e.cells de0).toArray 38) :: (Blk a #[.int .i64 (p.ptyp), .int .i64 (p.pfield), .int .i64 (p.pgroup), .int .i64 (p.pby), .int .i64 (p.pmake), v2] 60) :: (RowE (α := Row) own 31 v2 l) :: Rs) w430 := hW432
    have e436 : vals 2 = (.bool (e.void) : Value) := hA431 2 (by decide)
    have e437 : vals 4 = (if e.void = false then (.pointer (some ⟨b6, 4, none⟩) : Value) else undef) := hA431 4 (by decide)
    refine oblc rfl rfl (show _ = (.bool (e.void) : Value) from e436) (fun hb438 => ?_) (fun hb438 => fun vals' hv _ => ⟨trivial, hv.trans (if_neg hb438).symm⟩)
    have hl439 : e.void = false := hb438
    exact ov_load1 (v := .int .i64 (e.ev.typ)) Try.isAgg3 (show _ = (.pointer (some ⟨b6, 4, none⟩) : Value) from (Eq.trans e437 (if_pos hb438))) (blk_cellL (hS435.blk (i := 0) rfl) rfl) (fun vals' hv _ => ⟨rfl, hv.trans (if_pos hb438).symm⟩)
  · intro k440 vals w441 h444 h445 hW443 hA442
    have e446 : vals 2 = (.bool (e.void) : Value) := hA442 2 (by decide)
    refine oblc rfl rfl (show _ = (.bool (e.void) : Value) from e446) (fun hb447 => ?_) (fun hb447 => fun vals' hv _ => ⟨trivial, hv.trans (if_neg hb447).symm⟩)
    have hl448 : e.void = false := hb447
    exact ov_move (v := .pointer (some ⟨a, 0, none⟩)) rfl (fun vals' hv _ => ⟨rfl, hv.trans (if_pos hb447).symm⟩)
  · intro k449 vals w450 h453 h454 hW452 hA451
    have e455 : vals 2 = (.bool (e.void) : Value) := hA451 2 (by decide)
    have e456 : vals 6 = (if e.void = false then (.pointer (some ⟨a, 0, none⟩) : Value) else undef) := hA451 6 (by decide)
    refine oblc rfl rfl (show _ = (.bool (e.void) : Value) from e455) (fun hb457 => ?_) (fun hb457 => fun vals' hv _ => ⟨trivial, hv.trans (if_neg hb457).symm⟩)
    have hl458 : e.void = false := hb457
    exact ov_nilCheck (b := a) (o := 0) (show _ = (.pointer (some ⟨a, 0, none⟩) : Value) from (Eq.trans e456 (if_pos hb457))) (fun vals' hv _ => ⟨rfl, hv.trans (if_pos hb457).symm⟩)
  · intro k459 vals w460 h463 h464 hW462 hA461
    have e465 : vals 2 = (.bool (e.void) : Value) := hA461 2 (by decide)
    have e466 : vals 7 = (if e.void = false then (.pointer (some ⟨a, 0, none⟩) : Value) else undef) := hA461 7 (by decide)
    refine oblc rfl rfl (show _ = (.bool (e.void) : Value) from e465) (fun hb467 => ?_) (fun hb467 => fun vals' hv _ => ⟨trivial, hv.trans (if_neg hb467).symm⟩)
    have hl468 : e.void = false := hb467
    exact fd60_0 (show _ = (.pointer (some ⟨a, 0, none⟩) : Value) from (Eq.trans e466 (if_pos hb467))) (fun vals' hv _ => ⟨rfl, hv.trans (if_pos hb467).symm⟩)
  · intro k469 vals w470 h473 h474 hW472 hA471
    have e475 : vals 2 = (.bool (e.void) : Value) := hA471 2 (by decide)
    have e476 : vals 8 = (if e.void = false then (.pointer (some ⟨a, 0, none⟩) : Value) else undef) := hA471 8 (by decide)
    refine oblc rfl rfl (show _ = (.bool (e.void) : Value) from e475) (fun hb477 => ?_) (fun hb477 => fun vals' hv _ => ⟨trivial, hv.trans (if_neg hb477).symm⟩)
    have hl478 : e.void = false := hb477
    exact fd23_0 (show _ = (.pointer (some ⟨a, 0, none⟩) : Value) from (Eq.trans e476 (if_pos hb477))) (fun vals' hv _ => ⟨rfl, hv.trans (if_pos hb477).symm⟩)
  · intro k479 vals w480 h483 h484 hW482 hA481
    obtain rfl : k479 = 0 := Nat.le_antisymm h484 h483
    have hS485 : Sep G W ((Blk b6 (e.cells de0).toArray 38) :: (Blk a #[.int .i64 (p.ptyp), .int .i64 (p.pfield), .int .i64 (p.pgroup), .int .i64 (p.pby), .int .i64 (p.pmake), v2] 60) :: (RowE (α := Row) own 31 v2 l) :: Rs) w480 := hW482
    have e486 : vals 2 = (.bool (e.void) : Value) := hA481 2 (by decide)
    have e487 : vals 9 = (if e.void = false then (.pointer (some ⟨a, 0, none⟩) : Value) else undef) := hA481 9 (by decide)
    refine oblc rfl rfl (show _ = (.bool (e.void) : Value) from e486) (fun hb488 => ?_) (fun hb488 => fun vals' hv _ => ⟨trivial, hv.trans (if_neg hb488).symm⟩)
    have hl489 : e.void = false := hb488
    exact ov_load1 (v := .int .i64 (p.ptyp)) Try.isAgg3 (show _ = (.pointer (some ⟨a, 0, none⟩) : Value) from (Eq.trans e487 (if_pos hb488))) (blk_cellL (hS485.blk (i := 1) rfl) rfl) (fun vals' hv _ => ⟨rfl, hv.trans (if_pos hb488).symm⟩)
  · intro k490 vals w491 h494 h495 hW493 hA492
    obtain rfl : k490 = 0 := Nat.le_antisymm h495 h494
    have hS496 : Sep G W ((Blk b6 (e.cells de0).toArray 38) :: (Blk a #[.int .i64 (p.ptyp), .int .i64 (p.pfield), .int .i64 (p.pgroup), .int .i64 (p.pby), .int .i64 (p.pmake), v2] 60) :: (RowE (α := Row) own 31 v2 l) :: Rs) w491 := hW493
    have e497 : vals 2 = (.bool (e.void) : Value) := hA492 2 (by decide)
    have e498 : vals 5 = (if e.void = false then (.int .i64 (e.ev.typ) : Value) else undef) := hA492 5 (by decide)
    have e499 : vals 10 = (if e.void = false then (.int .i64 (p.ptyp) : Value) else undef) := hA492 10 (by decide)
    refine oblc rfl rfl (show _ = (.bool (e.void) : Value) from e497) (fun hb500 => ?_) (fun hb500 => fun vals' hv _ => ⟨trivial, hv.trans (if_neg hb500).symm⟩)
    have hl501 : e.void = false := hb500
    exact ov_neq (k := .i64) (a := e.ev.typ) (b := p.ptyp) (show _ = (.int .i64 (e.ev.typ) : Value) from (Eq.trans e498 (if_pos hb500))) (show _ = (.int .i64 (p.ptyp) : Value) from (Eq.trans e499 (if_pos hb500))) (fun vals' hv _ => ⟨rfl, hv.trans (if_pos hb500).symm⟩)
  · intro k502 vals w503 h506 h507 hW505 hA504
    have e508 : vals 2 = (.bool (e.void) : Value) := hA504 2 (by decide)
    have e509 : vals 11 = (if e.void = false then (.bool (!decide (e.ev.typ = p.ptyp)) : Value) else undef) := hA504 11 (by decide)
    refine obl rfl ?_
    exact ov_pick_or (b := e.void) (b' := !decide (e.ev.typ = p.ptyp)) (show _ = (.bool (e.void) : Value) from e508) (fun hbp => (show _ = (.bool (!decide (e.ev.typ = p.ptyp)) : Value) from (Eq.trans e509 (if_pos hbp)))) (fun vals' hv _ => ⟨rfl, hv⟩)
  · intro k510 vals w511 h514 h515 hW513 hA512
    have e516 : vals 12 = (.bool (e.void || (!decide (e.ev.typ = p.ptyp))) : Value) := hA512 12 (by decide)
    refine obl rfl ?_
    exact ov_move (v := .bool (e.void || (!decide (e.ev.typ = p.ptyp)))) (show _ = (.bool (e.void || (!decide (e.ev.typ = p.ptyp))) : Value) from e516) (fun vals' hv _ => ⟨rfl, hv⟩)
  · intro k517 vals w518 h521 h522 hW520 hA519
    have e523 : vals 13 = (.bool (e.void || (!decide (e.ev.typ = p.ptyp))) : Value) := hA519 13 (by decide)
    refine oblc rfl rfl (show _ = (.bool (e.void || (!decide (e.ev.typ = p.ptyp))) : Value) from e523) (fun hb524 => ?_) (fun hb524 => fun vals' hv _ => ⟨trivial, hv.trans (if_neg hb524).symm⟩)
    have hl525 : (e.void || (!decide (e.ev.typ = p.ptyp))) = false := hb524
    simp only [Bool.and_eq_true, Bool.or_eq_true, Bool.and_eq_false_iff, Bool.or_eq_false_iff, decide_eq_true_eq, decide_eq_false_iff_not, Bool.not_eq_true', Bool.not_eq_false', Int.not_lt, Int.not_le] at hl525
    exact fd38_0 rfl (fun vals' hv _ => ⟨rfl, hv.trans (if_pos hb524).symm⟩)
  · intro k526 vals w527 h530 h531 hW529 hA528
    have e532 : vals 13 = (.bool (e.void || (!decide (e.ev.typ = p.ptyp))) : Value) := hA528 13 (by decide)
    have e533 : vals 14 = (if (e.void || (!decide (e.ev.typ = p.ptyp))) = false then (.pointer (some ⟨b6, 0, none⟩) : Value) else undef) := hA528 14 (by decide)
    refine oblc rfl rfl (show _ = (.bool (e.void || (!decide (e.ev.typ = p.ptyp))) : Value) from e532) (fun hb534 => ?_) (fun hb534 => fun vals' hv _ => ⟨trivial, hv.trans (if_neg hb534).symm⟩)
    have hl535 : (e.void || (!decide (e.ev.typ = p.ptyp))) = false := hb534
    simp only [Bool.and_eq_true, Bool.or_eq_true, Bool.and_eq_false_iff, Bool.or_eq_false_iff, decide_eq_true_eq, decide_eq_false_iff_not, Bool.not_eq_true', Bool.not_eq_false', Int.not_lt, Int.not_le] at hl535
    exact fd36_5 (show _ = (.pointer (some ⟨b6, 0, none⟩) : Value) from (Eq.trans e533 (if_pos hb534))) (fun vals' hv _ => ⟨rfl, hv.trans (if_pos hb534).symm⟩)
  · intro k536 vals w537 h540 h541 hW539 hA538
    obtain rfl : k536 = 0 := Nat.le_antisymm h541 h540
    have hS542 : Sep G W ((Blk b6 (e.cells de0).toArray 38) :: (Blk a #[.int .i64 (p.ptyp), .int .i64 (p.pfield), .int .i64 (p.pgroup), .int .i64 (p.pby), .int .i64 (p.pmake), v2] 60) :: (RowE (α := Row) own 31 v2 l) :: Rs) w537 := hW539
    have e543 : vals 13 = (.bool (e.void || (!decide (e.ev.typ = p.ptyp))) : Value) := hA538 13 (by decide)
    have e544 : vals 15 = (if (e.void || (!decide (e.ev.typ = p.ptyp))) = false then (.pointer (some ⟨b6, 6, none⟩) : Value) else undef) := hA538 15 (by decide)
    refine oblc rfl rfl (show _ = (.bool (e.void || (!decide (e.ev.typ = p.ptyp))) : Value) from e543) (fun hb545 => ?_) (fun hb545 => fun vals' hv _ => ⟨trivial, hv.trans (if_neg hb545).symm⟩)
    have hl546 : (e.void || (!decide (e.ev.typ = p.ptyp))) = false := hb545
    simp only [Bool.and_eq_true, Bool.or_eq_true, Bool.and_eq_false_iff, Bool.or_eq_false_iff, decide_eq_true_eq, decide_eq_false_iff_not, Bool.not_eq_true', Bool.not_eq_false', Int.not_lt, Int.not_le] at hl546
    exact ov_load1 (v := .int .i64 (e.ev.field)) Try.isAgg3 (show _ = (.pointer (some ⟨b6, 6, none⟩) : Value) from (Eq.trans e544 (if_pos hb545))) (blk_cellL (hS542.blk (i := 0) rfl) rfl) (fun vals' hv _ => ⟨rfl, hv.trans (if_pos hb545).symm⟩)
  · intro k547 vals w548 h551 h552 hW550 hA549
    have e553 : vals 13 = (.bool (e.void || (!decide (e.ev.typ = p.ptyp))) : Value) := hA549 13 (by decide)
    refine oblc rfl rfl (show _ = (.bool (e.void || (!decide (e.ev.typ = p.ptyp))) : Value) from e553) (fun hb554 => ?_) (fun hb554 => fun vals' hv _ => ⟨trivial, hv.trans (if_neg hb554).symm⟩)
    have hl555 : (e.void || (!decide (e.ev.typ = p.ptyp))) = false := hb554
    simp only [Bool.and_eq_true, Bool.or_eq_true, Bool.and_eq_false_iff, Bool.or_eq_false_iff, decide_eq_true_eq, decide_eq_false_iff_not, Bool.not_eq_true', Bool.not_eq_false', Int.not_lt, Int.not_le] at hl555
    exact ov_move (v := .pointer (some ⟨a, 0, none⟩)) rfl (fun vals' hv _ => ⟨rfl, hv.trans (if_pos hb554).symm⟩)
  · intro k556 vals w557 h560 h561 hW559 hA558
    have e562 : vals 13 = (.bool (e.void || (!decide (e.ev.typ = p.ptyp))) : Value) := hA558 13 (by decide)
    have e563 : vals 17 = (if (e.void || (!decide (e.ev.typ = p.ptyp))) = false then (.pointer (some ⟨a, 0, none⟩) : Value) else undef) := hA558 17 (by decide)
    refine oblc rfl rfl (show _ = (.bool (e.void || (!decide (e.ev.typ = p.ptyp))) : Value) from e562) (fun hb564 => ?_) (fun hb564 => fun vals' hv _ => ⟨trivial, hv.trans (if_neg hb564).symm⟩)
    have hl565 : (e.void || (!decide (e.ev.typ = p.ptyp))) = false := hb564
    simp only [Bool.and_eq_true, Bool.or_eq_true, Bool.and_eq_false_iff, Bool.or_eq_false_iff, decide_eq_true_eq, decide_eq_false_iff_not, Bool.not_eq_true', Bool.not_eq_false', Int.not_lt, Int.not_le] at hl565
    exact ov_nilCheck (b := a) (o := 0) (show _ = (.pointer (some ⟨a, 0, none⟩) : Value) from (Eq.trans e563 (if_pos hb564))) (fun vals' hv _ => ⟨rfl, hv.trans (if_pos hb564).symm⟩)
  · intro k566 vals w567 h570 h571 hW569 hA568
    have e572 : vals 13 = (.bool (e.void || (!decide (e.ev.typ = p.ptyp))) : Value) := hA568 13 (by decide)
    have e573 : vals 18 = (if (e.void || (!decide (e.ev.typ = p.ptyp))) = false then (.pointer (some ⟨a, 0, none⟩) : Value) else undef) := hA568 18 (by decide)
    refine oblc rfl rfl (show _ = (.bool (e.void || (!decide (e.ev.typ = p.ptyp))) : Value) from e572) (fun hb574 => ?_) (fun hb574 => fun vals' hv _ => ⟨trivial, hv.trans (if_neg hb574).symm⟩)
    have hl575 : (e.void || (!decide (e.ev.typ = p.ptyp))) = false := hb574
    simp only [Bool.and_eq_true, Bool.or_eq_true, Bool.and_eq_false_iff, Bool.or_eq_false_iff, decide_eq_true_eq, decide_eq_false_iff_not, Bool.not_eq_true', Bool.not_eq_false', Int.not_lt, Int.not_le] at hl575
    exact fd60_0 (show _ = (.pointer (some ⟨a, 0, none⟩) : Value) from (Eq.trans e573 (if_pos hb574))) (fun vals' hv _ => ⟨rfl, hv.trans (if_pos hb574).symm⟩)
  · intro k576 vals w577 h580 h581 hW579 hA578
    have e582 : vals 13 = (.bool (e.void || (!decide (e.ev.typ = p.ptyp))) : Value) := hA578 13 (by decide)
    have e583 : vals 19 = (if (e.void || (!decide (e.ev.typ = p.ptyp))) = false then (.pointer (some ⟨a, 0, none⟩) : Value) else undef) := hA578 19 (by decide)
    refine oblc rfl rfl (show _ = (.bool (e.void || (!decide (e.ev.typ = p.ptyp))) : Value) from e582) (fun hb584 => ?_) (fun hb584 => fun vals' hv _ => ⟨trivial, hv.trans (if_neg hb584).symm⟩)
    have hl585 : (e.void || (!decide (e.ev.typ = p.ptyp))) = false := hb584
    simp only [Bool.and_eq_true, Bool.or_eq_true, Bool.and_eq_false_iff, Bool.or_eq_false_iff, decide_eq_true_eq, decide_eq_false_iff_not, Bool.not_eq_true', Bool.not_eq_false', Int.not_lt, Int.not_le] at hl585
    exact fd23_1 (show _ = (.pointer (some ⟨a, 0, none⟩) : Value) from (Eq.trans e583 (if_pos hb584))) (fun vals' hv _ => ⟨rfl, hv.trans (if_pos hb584).symm⟩)
  · intro k586 vals w587 h590 h591 hW589 hA588
    obtain rfl : k586 = 0 := Nat.le_antisymm h591 h590
    have hS592 : Sep G W ((Blk b6 (e.cells de0).toArray 38) :: (Blk a #[.int .i64 (p.ptyp), .int .i64 (p.pfield), .int .i64 (p.pgroup), .int .i64 (p.pby), .int .i64 (p.pmake), v2] 60) :: (RowE (α := Row) own 31 v2 l) :: Rs) w587 := hW589
    have e593 : vals 13 = (.bool (e.void || (!decide (e.ev.typ = p.ptyp))) : Value) := hA588 13 (by decide)
    have e594 : vals 20 = (if (e.void || (!decide (e.ev.typ = p.ptyp))) = false then (.pointer (some ⟨a, 1, none⟩) : Value) else undef) := hA588 20 (by decide)
    refine oblc rfl rfl (show _ = (.bool (e.void || (!decide (e.ev.typ = p.ptyp))) : Value) from e593) (fun hb595 => ?_) (fun hb595 => fun vals' hv _ => ⟨trivial, hv.trans (if_neg hb595).symm⟩)
    have hl596 : (e.void || (!decide (e.ev.typ = p.ptyp))) = false := hb595
    simp only [Bool.and_eq_true, Bool.or_eq_true, Bool.and_eq_false_iff, Bool.or_eq_false_iff, decide_eq_true_eq, decide_eq_false_iff_not, Bool.not_eq_true', Bool.not_eq_false', Int.not_lt, Int.not_le] at hl596
    exact ov_load1 (v := .int .i64 (p.pfield)) Try.isAgg3 (show _ = (.pointer (some ⟨a, 1, none⟩) : Value) from (Eq.trans e594 (if_pos hb595))) (blk_cellL (hS592.blk (i := 1) rfl) rfl) (fun vals' hv _ => ⟨rfl, hv.trans (if_pos hb595).symm⟩)
  · intro k597 vals w598 h601 h602 hW600 hA599
    obtain rfl : k597 = 0 := Nat.le_antisymm h602 h601
    have hS603 : Sep G W ((Blk b6 (e.cells de0).toArray 38) :: (Blk a #[.int .i64 (p.ptyp), .int .i64 (p.pfield), .int .i64 (p.pgroup), .int .i64 (p.pby), .int .i64 (p.pmake), v2] 60) :: (RowE (α := Row) own 31 v2 l) :: Rs) w598 := hW600
    have e604 : vals 13 = (.bool (e.void || (!decide (e.ev.typ = p.ptyp))) : Value) := hA599 13 (by decide)
    have e605 : vals 16 = (if (e.void || (!decide (e.ev.typ = p.ptyp))) = false then (.int .i64 (e.ev.field) : Value) else undef) := hA599 16 (by decide)
    have e606 : vals 21 = (if (e.void || (!decide (e.ev.typ = p.ptyp))) = false then (.int .i64 (p.pfield) : Value) else undef) := hA599 21 (by decide)
    refine oblc rfl rfl (show _ = (.bool (e.void || (!decide (e.ev.typ = p.ptyp))) : Value) from e604) (fun hb607 => ?_) (fun hb607 => fun vals' hv _ => ⟨trivial, hv.trans (if_neg hb607).symm⟩)
    have hl608 : (e.void || (!decide (e.ev.typ = p.ptyp))) = false := hb607
    simp only [Bool.and_eq_true, Bool.or_eq_true, Bool.and_eq_false_iff, Bool.or_eq_false_iff, decide_eq_true_eq, decide_eq_false_iff_not, Bool.not_eq_true', Bool.not_eq_false', Int.not_lt, Int.not_le] at hl608
    exact ov_neq (k := .i64) (a := e.ev.field) (b := p.pfield) (show _ = (.int .i64 (e.ev.field) : Value) from (Eq.trans e605 (if_pos hb607))) (show _ = (.int .i64 (p.pfield) : Value) from (Eq.trans e606 (if_pos hb607))) (fun vals' hv _ => ⟨rfl, hv.trans (if_pos hb607).symm⟩)
  · intro k609 vals w610 h613 h614 hW612 hA611
    have e615 : vals 13 = (.bool (e.void || (!decide (e.ev.typ = p.ptyp))) : Value) := hA611 13 (by decide)
    have e616 : vals 22 = (if (e.void || (!decide (e.ev.typ = p.ptyp))) = false then (.bool (!decide (e.ev.field = p.pfield)) : Value) else undef) := hA611 22 (by decide)
    refine obl rfl ?_
    exact ov_pick_or (b := e.void || (!decide (e.ev.typ = p.ptyp))) (b' := !decide (e.ev.field = p.pfield)) (show _ = (.bool (e.void || (!decide (e.ev.typ = p.ptyp))) : Value) from e615) (fun hbp => (show _ = (.bool (!decide (e.ev.field = p.pfield)) : Value) from (Eq.trans e616 (if_pos hbp)))) (fun vals' hv _ => ⟨rfl, hv⟩)
  · intro k617 vals w618 h621 h622 hW620 hA619
    have e623 : vals 23 = (.bool ((e.void || (!decide (e.ev.typ = p.ptyp))) || (!decide (e.ev.field = p.pfield))) : Value) := hA619 23 (by decide)
    refine obl rfl ?_
    exact ov_move (v := .bool ((e.void || (!decide (e.ev.typ = p.ptyp))) || (!decide (e.ev.field = p.pfield)))) (show _ = (.bool ((e.void || (!decide (e.ev.typ = p.ptyp))) || (!decide (e.ev.field = p.pfield))) : Value) from e623) (fun vals' hv _ => ⟨rfl, hv⟩)
  · intro k624 vals w625 h628 h629 hW627 hA626
    have e630 : vals 24 = (.bool ((e.void || (!decide (e.ev.typ = p.ptyp))) || (!decide (e.ev.field = p.pfield))) : Value) := hA626 24 (by decide)
    refine oblc rfl rfl (show _ = (.bool ((e.void || (!decide (e.ev.typ = p.ptyp))) || (!decide (e.ev.field = p.pfield))) : Value) from e630) (fun hb631 => ?_) (fun hb631 => fun vals' hv _ => ⟨trivial, hv.trans (if_neg hb631).symm⟩)
    have hl632 : ((e.void || (!decide (e.ev.typ = p.ptyp))) || (!decide (e.ev.field = p.pfield))) = false := hb631
    simp only [Bool.and_eq_true, Bool.or_eq_true, Bool.and_eq_false_iff, Bool.or_eq_false_iff, decide_eq_true_eq, decide_eq_false_iff_not, Bool.not_eq_true', Bool.not_eq_false', Int.not_lt, Int.not_le] at hl632
    exact ov_move (v := .pointer (some ⟨a, 0, none⟩)) rfl (fun vals' hv _ => ⟨rfl, hv.trans (if_pos hb631).symm⟩)
  · intro k633 vals w634 h637 h638 hW636 hA635
    have e639 : vals 24 = (.bool ((e.void || (!decide (e.ev.typ = p.ptyp))) || (!decide (e.ev.field = p.pfield))) : Value) := hA635 24 (by decide)
    have e640 : vals 25 = (if ((e.void || (!decide (e.ev.typ = p.ptyp))) || (!decide (e.ev.field = p.pfield))) = false then (.pointer (some ⟨a, 0, none⟩) : Value) else undef) := hA635 25 (by decide)
    refine oblc rfl rfl (show _ = (.bool ((e.void || (!decide (e.ev.typ = p.ptyp))) || (!decide (e.ev.field = p.pfield))) : Value) from e639) (fun hb641 => ?_) (fun hb641 => fun vals' hv _ => ⟨trivial, hv.trans (if_neg hb641).symm⟩)
    have hl642 : ((e.void || (!decide (e.ev.typ = p.ptyp))) || (!decide (e.ev.field = p.pfield))) = false := hb641
    simp only [Bool.and_eq_true, Bool.or_eq_true, Bool.and_eq_false_iff, Bool.or_eq_false_iff, decide_eq_true_eq, decide_eq_false_iff_not, Bool.not_eq_true', Bool.not_eq_false', Int.not_lt, Int.not_le] at hl642
    exact ov_nilCheck (b := a) (o := 0) (show _ = (.pointer (some ⟨a, 0, none⟩) : Value) from (Eq.trans e640 (if_pos hb641))) (fun vals' hv _ => ⟨rfl, hv.trans (if_pos hb641).symm⟩)
  · intro k643 vals w644 h647 h648 hW646 hA645
    have e649 : vals 24 = (.bool ((e.void || (!decide (e.ev.typ = p.ptyp))) || (!decide (e.ev.field = p.pfield))) : Value) := hA645 24 (by decide)
    have e650 : vals 26 = (if ((e.void || (!decide (e.ev.typ = p.ptyp))) || (!decide (e.ev.field = p.pfield))) = false then (.pointer (some ⟨a, 0, none⟩) : Value) else undef) := hA645 26 (by decide)
    refine oblc rfl rfl (show _ = (.bool ((e.void || (!decide (e.ev.typ = p.ptyp))) || (!decide (e.ev.field = p.pfield))) : Value) from e649) (fun hb651 => ?_) (fun hb651 => fun vals' hv _ => ⟨trivial, hv.trans (if_neg hb651).symm⟩)
    have hl652 : ((e.void || (!decide (e.ev.typ = p.ptyp))) || (!decide (e.ev.field = p.pfield))) = false := hb651
    simp only [Bool.and_eq_true, Bool.or_eq_true, Bool.and_eq_false_iff, Bool.or_eq_false_iff, decide_eq_true_eq, decide_eq_false_iff_not, Bool.not_eq_true', Bool.not_eq_false', Int.not_lt, Int.not_le] at hl652
    exact fd60_0 (show _ = (.pointer (some ⟨a, 0, none⟩) : Value) from (Eq.trans e650 (if_pos hb651))) (fun vals' hv _ => ⟨rfl, hv.trans (if_pos hb651).symm⟩)
  · intro k653 vals w654 h657 h658 hW656 hA655
    have e659 : vals 24 = (.bool ((e.void || (!decide (e.ev.typ = p.ptyp))) || (!decide (e.ev.field = p.pfield))) : Value) := hA655 24 (by decide)
    have e660 : vals 27 = (if ((e.void || (!decide (e.ev.typ = p.ptyp))) || (!decide (e.ev.field = p.pfield))) = false then (.pointer (some ⟨a, 0, none⟩) : Value) else undef) := hA655 27 (by decide)
    refine oblc rfl rfl (show _ = (.bool ((e.void || (!decide (e.ev.typ = p.ptyp))) || (!decide (e.ev.field = p.pfield))) : Value) from e659) (fun hb661 => ?_) (fun hb661 => fun vals' hv _ => ⟨trivial, hv.trans (if_neg hb661).symm⟩)
    have hl662 : ((e.void || (!decide (e.ev.typ = p.ptyp))) || (!decide (e.ev.field = p.pfield))) = false := hb661
    simp only [Bool.and_eq_true, Bool.or_eq_true, Bool.and_eq_false_iff, Bool.or_eq_false_iff, decide_eq_true_eq, decide_eq_false_iff_not, Bool.not_eq_true', Bool.not_eq_false', Int.not_lt, Int.not_le] at hl662
    exact fd23_2 (show _ = (.pointer (some ⟨a, 0, none⟩) : Value) from (Eq.trans e660 (if_pos hb661))) (fun vals' hv _ => ⟨rfl, hv.trans (if_pos hb661).symm⟩)
  · intro k663 vals w664 h667 h668 hW666 hA665
    obtain rfl : k663 = 0 := Nat.le_antisymm h668 h667
    have hS669 : Sep G W ((Blk b6 (e.cells de0).toArray 38) :: (Blk a #[.int .i64 (p.ptyp), .int .i64 (p.pfield), .int .i64 (p.pgroup), .int .i64 (p.pby), .int .i64 (p.pmake), v2] 60) :: (RowE (α := Row) own 31 v2 l) :: Rs) w664 := hW666
    have e670 : vals 24 = (.bool ((e.void || (!decide (e.ev.typ = p.ptyp))) || (!decide (e.ev.field = p.pfield))) : Value) := hA665 24 (by decide)
    have e671 : vals 28 = (if ((e.void || (!decide (e.ev.typ = p.ptyp))) || (!decide (e.ev.field = p.pfield))) = false then (.pointer (some ⟨a, 2, none⟩) : Value) else undef) := hA665 28 (by decide)
    refine oblc rfl rfl (show _ = (.bool ((e.void || (!decide (e.ev.typ = p.ptyp))) || (!decide (e.ev.field = p.pfield))) : Value) from e670) (fun hb672 => ?_) (fun hb672 => fun vals' hv _ => ⟨trivial, hv.trans (if_neg hb672).symm⟩)
    have hl673 : ((e.void || (!decide (e.ev.typ = p.ptyp))) || (!decide (e.ev.field = p.pfield))) = false := hb672
    simp only [Bool.and_eq_true, Bool.or_eq_true, Bool.and_eq_false_iff, Bool.or_eq_false_iff, decide_eq_true_eq, decide_eq_false_iff_not, Bool.not_eq_true', Bool.not_eq_false', Int.not_lt, Int.not_le] at hl673
    exact ov_load1 (v := .int .i64 (p.pgroup)) Try.isAgg3 (show _ = (.pointer (some ⟨a, 2, none⟩) : Value) from (Eq.trans e671 (if_pos hb672))) (blk_cellL (hS669.blk (i := 1) rfl) rfl) (fun vals' hv _ => ⟨rfl, hv.trans (if_pos hb672).symm⟩)
  · intro k674 vals w675 h678 h679 hW677 hA676
    obtain rfl : k674 = 0 := Nat.le_antisymm h679 h678
    have hS680 : Sep G W ((Blk b6 (e.cells de0).toArray 38) :: (Blk a #[.int .i64 (p.ptyp), .int .i64 (p.pfield), .int .i64 (p.pgroup), .int .i64 (p.pby), .int .i64 (p.pmake), v2] 60) :: (RowE (α := Row) own 31 v2 l) :: Rs) w675 := hW677
    have e681 : vals 24 = (.bool ((e.void || (!decide (e.ev.typ = p.ptyp))) || (!decide (e.ev.field = p.pfield))) : Value) := hA676 24 (by decide)
    have e682 : vals 29 = (if ((e.void || (!decide (e.ev.typ = p.ptyp))) || (!decide (e.ev.field = p.pfield))) = false then (.int .i64 (p.pgroup) : Value) else undef) := hA676 29 (by decide)
    refine oblc rfl rfl (show _ = (.bool ((e.void || (!decide (e.ev.typ = p.ptyp))) || (!decide (e.ev.field = p.pfield))) : Value) from e681) (fun hb683 => ?_) (fun hb683 => fun vals' hv _ => ⟨trivial, hv.trans (if_neg hb683).symm⟩)
    have hl684 : ((e.void || (!decide (e.ev.typ = p.ptyp))) || (!decide (e.ev.field = p.pfield))) = false := hb683
    simp only [Bool.and_eq_true, Bool.or_eq_true, Bool.and_eq_false_iff, Bool.or_eq_false_iff, decide_eq_true_eq, decide_eq_false_iff_not, Bool.not_eq_true', Bool.not_eq_false', Int.not_lt, Int.not_le] at hl684
    exact ov_lss (k := .i64) (a := p.pgroup) (b := 1) (show _ = (.int .i64 (p.pgroup) : Value) from (Eq.trans e682 (if_pos hb683))) rfl (fun vals' hv _ => ⟨rfl, hv.trans (if_pos hb683).symm⟩)
  · intro k685 vals w686 h689 h690 hW688 hA687
    have e691 : vals 24 = (.bool ((e.void || (!decide (e.ev.typ = p.ptyp))) || (!decide (e.ev.field = p.pfield))) : Value) := hA687 24 (by decide)
    have e692 : vals 30 = (if ((e.void || (!decide (e.ev.typ = p.ptyp))) || (!decide (e.ev.field = p.pfield))) = false then (.bool (decide (p.pgroup < 1)) : Value) else undef) := hA687 30 (by decide)
    refine obl rfl ?_
    exact ov_pick_or (b := (e.void || (!decide (e.ev.typ = p.ptyp))) || (!decide (e.ev.field = p.pfield))) (b' := decide (p.pgroup < 1)) (show _ = (.bool ((e.void || (!decide (e.ev.typ = p.ptyp))) || (!decide (e.ev.field = p.pfield))) : Value) from e691) (fun hbp => (show _ = (.bool (decide (p.pgroup < 1)) : Value) from (Eq.trans e692 (if_pos hbp)))) (fun vals' hv _ => ⟨rfl, hv⟩)
  · intro k693 vals w694 h697 h698 hW696 hA695
    have e699 : vals 31 = (.bool (((e.void || (!decide (e.ev.typ = p.ptyp))) || (!decide (e.ev.field = p.pfield))) || (decide (p.pgroup < 1))) : Value) := hA695 31 (by decide)
    refine obl rfl ?_
    exact ov_move (v := .bool (((e.void || (!decide (e.ev.typ = p.ptyp))) || (!decide (e.ev.field = p.pfield))) || (decide (p.pgroup < 1)))) (show _ = (.bool (((e.void || (!decide (e.ev.typ = p.ptyp))) || (!decide (e.ev.field = p.pfield))) || (decide (p.pgroup < 1))) : Value) from e699) (fun vals' hv _ => ⟨rfl, hv⟩)
  · intro k700 vals w701 h704 h705 hW703 hA702
    have e706 : vals 32 = (.bool (((e.void || (!decide (e.ev.typ = p.ptyp))) || (!decide (e.ev.field = p.pfield))) || (decide (p.pgroup < 1))) : Value) := hA702 32 (by decide)
    refine oblc rfl rfl (show _ = (.bool (((e.void || (!decide (e.ev.typ = p.ptyp))) || (!decide (e.ev.field = p.pfield))) || (decide (p.pgroup < 1))) : Value) from e706) (fun hb707 => ?_) (fun hb707 => fun vals' hv _ => ⟨trivial, hv.trans (if_neg hb707).symm⟩)
    have hl708 : (((e.void || (!decide (e.ev.typ = p.ptyp))) || (!decide (e.ev.field = p.pfield))) || (decide (p.pgroup < 1))) = false := hb707
    simp only [Bool.and_eq_true, Bool.or_eq_true, Bool.and_eq_false_iff, Bool.or_eq_false_iff, decide_eq_true_eq, decide_eq_false_iff_not, Bool.not_eq_true', Bool.not_eq_false', Int.not_lt, Int.not_le] at hl708
    exact ov_move (v := .pointer (some ⟨a, 0, none⟩)) rfl (fun vals' hv _ => ⟨rfl, hv.trans (if_pos hb707).symm⟩)
  · intro k709 vals w710 h713 h714 hW712 hA711
    have e715 : vals 32 = (.bool (((e.void || (!decide (e.ev.typ = p.ptyp))) || (!decide (e.ev.field = p.pfield))) || (decide (p.pgroup < 1))) : Value) := hA711 32 (by decide)
    have e716 : vals 33 = (if (((e.void || (!decide (e.ev.typ = p.ptyp))) || (!decide (e.ev.field = p.pfield))) || (decide (p.pgroup < 1))) = false then (.pointer (some ⟨a, 0, none⟩) : Value) else undef) := hA711 33 (by decide)
    refine oblc rfl rfl (show _ = (.bool (((e.void || (!decide (e.ev.typ = p.ptyp))) || (!decide (e.ev.field = p.pfield))) || (decide (p.pgroup < 1))) : Value) from e715) (fun hb717 => ?_) (fun hb717 => fun vals' hv _ => ⟨trivial, hv.trans (if_neg hb717).symm⟩)
    have hl718 : (((e.void || (!decide (e.ev.typ = p.ptyp))) || (!decide (e.ev.field = p.pfield))) || (decide (p.pgroup < 1))) = false := hb717
    simp only [Bool.and_eq_true, Bool.or_eq_true, Bool.and_eq_false_iff, Bool.or_eq_false_iff, decide_eq_true_eq, decide_eq_false_iff_not, Bool.not_eq_true', Bool.not_eq_false', Int.not_lt, Int.not_le] at hl718
    exact ov_nilCheck (b := a) (o := 0) (show _ = (.pointer (some ⟨a, 0, none⟩) : Value) from (Eq.trans e716 (if_pos hb717))) (fun vals' hv _ => ⟨rfl, hv.trans (if_pos hb717).symm⟩)
  · intro k719 vals w720 h723 h724 hW722 hA721
    have e725 : vals 32 = (.bool (((e.void || (!decide (e.ev.typ = p.ptyp))) || (!decide (e.ev.field = p.pfield))) || (decide (p.pgroup < 1))) : Value) := hA721 32 (by decide)
    have e726 : vals 34 = (if (((e.void || (!decide (e.ev.typ = p.ptyp))) || (!decide (e.ev.field = p.pfield))) || (decide (p.pgroup < 1))) = false then (.pointer (some ⟨a, 0, none⟩) : Value) else undef) := hA721 34 (by decide)
    refine oblc rfl rfl (show _ = (.bool (((e.void || (!decide (e.ev.typ = p.ptyp))) || (!decide (e.ev.field = p.pfield))) || (decide (p.pgroup < 1))) : Value) from e725) (fun hb727 => ?_) (fun hb727 => fun vals' hv _ => ⟨trivial, hv.trans (if_neg hb727).symm⟩)
    have hl728 : (((e.void || (!decide (e.ev.typ = p.ptyp))) || (!decide (e.ev.field = p.pfield))) || (decide (p.pgroup < 1))) = false := hb727
    simp only [Bool.and_eq_true, Bool.or_eq_true, Bool.and_eq_false_iff, Bool.or_eq_false_iff, decide_eq_true_eq, decide_eq_false_iff_not, Bool.not_eq_true', Bool.not_eq_false', Int.not_lt, Int.not_le] at hl728
    exact fd60_0 (show _ = (.pointer (some ⟨a, 0, none⟩) : Value) from (Eq.trans e726 (if_pos hb727))) (fun vals' hv _ => ⟨rfl, hv.trans (if_pos hb727).symm⟩)
  · intro k729 vals w730 h733 h734 hW732 hA731
    have e735 : vals 32 = (.bool (((e.void || (!decide (e.ev.typ = p.ptyp))) || (!decide (e.ev.field = p.pfield))) || (decide (p.pgroup < 1))) : Value) := hA731 32 (by decide)
    have e736 : vals 35 = (if (((e.void || (!decide (e.ev.typ = p.ptyp))) || (!decide (e.ev.field = p.pfield))) || (decide (p.pgroup < 1))) = false then (.pointer (some ⟨a, 0, none⟩) : Value) else undef) := hA731 35 (by decide)
    refine oblc rfl rfl (show _ = (.bool (((e.void || (!decide (e.ev.typ = p.ptyp))) || (!decide (e.ev.field = p.pfield))) || (decide (p.pgroup < 1))) : Value) from e735) (fun hb737 => ?_) (fun hb737 => fun vals' hv _ => ⟨trivial, hv.trans (if_neg hb737).symm⟩)
    have hl738 : (((e.void || (!decide (e.ev.typ = p.ptyp))) || (!decide (e.ev.field = p.pfield))) || (decide (p.pgroup < 1))) = false := hb737
    simp only [Bool.and_eq_true, Bool.or_eq_true, Bool.and_eq_false_iff, Bool.or_eq_false_iff, decide_eq_true_eq, decide_eq_false_iff_not, Bool.not_eq_true', Bool.not_eq_false', Int.not_lt, Int.not_le] at hl738
    exact fd23_2 (show _ = (.pointer (some ⟨a, 0, none⟩) : Value) from (Eq.trans e736 (if_pos hb737))) (fun vals' hv _ => ⟨rfl, hv.trans (if_pos hb737).symm⟩)
  · intro k739 vals w740 h743 h744 hW742 hA741
    obtain rfl : k739 = 0 := Nat.le_antisymm h744 h743
    have hS745 : Sep G W ((Blk b6 (e.cells de0).toArray 38) :: (Blk a #[.int .i64 (p.ptyp), .int .i64 (p.pfield), .int .i64 (p.pgroup), .int .i64 (p.pby), .int .i64 (p.pmake), v2] 60) :: (RowE (α := Row) own 31 v2 l) :: Rs) w740 := hW742
    have e746 : vals 32 = (.bool (((e.void || (!decide (e.ev.typ = p.ptyp))) || (!decide (e.ev.field = p.pfield))) || (decide (p.pgroup < 1))) : Value) := hA741 32 (by decide)
    have e747 : vals 36 = (if (((e.void || (!decide (e.ev.typ = p.ptyp))) || (!decide (e.ev.field = p.pfield))) || (decide (p.pgroup < 1))) = false then (.pointer (some ⟨a, 2, none⟩) : Value) else undef) := hA741 36 (by decide)
    refine oblc rfl rfl (show _ = (.bool (((e.void || (!decide (e.ev.typ = p.ptyp))) || (!decide (e.ev.field = p.pfield))) || (decide (p.pgroup < 1))) : Value) from e746) (fun hb748 => ?_) (fun hb748 => fun vals' hv _ => ⟨trivial, hv.trans (if_neg hb748).symm⟩)
    have hl749 : (((e.void || (!decide (e.ev.typ = p.ptyp))) || (!decide (e.ev.field = p.pfield))) || (decide (p.pgroup < 1))) = false := hb748
    simp only [Bool.and_eq_true, Bool.or_eq_true, Bool.and_eq_false_iff, Bool.or_eq_false_iff, decide_eq_true_eq, decide_eq_false_iff_not, Bool.not_eq_true', Bool.not_eq_false', Int.not_lt, Int.not_le] at hl749
    exact ov_load1 (v := .int .i64 (p.pgroup)) Try.isAgg3 (show _ = (.pointer (some ⟨a, 2, none⟩) : Value) from (Eq.trans e747 (if_pos hb748))) (blk_cellL (hS745.blk (i := 1) rfl) rfl) (fun vals' hv _ => ⟨rfl, hv.trans (if_pos hb748).symm⟩)
  · intro k750 vals w751 h754 h755 hW753 hA752
    obtain rfl : k750 = 0 := Nat.le_antisymm h755 h754
    have hS756 : Sep G W ((Blk b6 (e.cells de0).toArray 38) :: (Blk a #[.int .i64 (p.ptyp), .int .i64 (p.pfield), .int .i64 (p.pgroup), .int .i64 (p.pby), .int .i64 (p.pmake), v2] 60) :: (RowE (α := Row) own 31 v2 l) :: Rs) w751 := hW753
    have e757 : vals 32 = (.bool (((e.void || (!decide (e.ev.typ = p.ptyp))) || (!decide (e.ev.field = p.pfield))) || (decide (p.pgroup < 1))) : Value) := hA752 32 (by decide)
    have e758 : vals 37 = (if (((e.void || (!decide (e.ev.typ = p.ptyp))) || (!decide (e.ev.field = p.pfield))) || (decide (p.pgroup < 1))) = false then (.int .i64 (p.pgroup) : Value) else undef) := hA752 37 (by decide)
    refine oblc rfl rfl (show _ = (.bool (((e.void || (!decide (e.ev.typ = p.ptyp))) || (!decide (e.ev.field = p.pfield))) || (decide (p.pgroup < 1))) : Value) from e757) (fun hb759 => ?_) (fun hb759 => fun vals' hv _ => ⟨trivial, hv.trans (if_neg hb759).symm⟩)
    have hl760 : (((e.void || (!decide (e.ev.typ = p.ptyp))) || (!decide (e.ev.field = p.pfield))) || (decide (p.pgroup < 1))) = false := hb759
    simp only [Bool.and_eq_true, Bool.or_eq_true, Bool.and_eq_false_iff, Bool.or_eq_false_iff, decide_eq_true_eq, decide_eq_false_iff_not, Bool.not_eq_true', Bool.not_eq_false', Int.not_lt, Int.not_le] at hl760
    exact ov_gtr (k := .i64) (a := p.pgroup) (b := 3) (show _ = (.int .i64 (p.pgroup) : Value) from (Eq.trans e758 (if_pos hb759))) rfl (fun vals' hv _ => ⟨rfl, hv.trans (if_pos hb759).symm⟩)
  · intro k761 vals w762 h765 h766 hW764 hA763
    have e767 : vals 32 = (.bool (((e.void || (!decide (e.ev.typ = p.ptyp))) || (!decide (e.ev.field = p.pfield))) || (decide (p.pgroup < 1))) : Value) := hA763 32 (by decide)
    have e768 : vals 38 = (if (((e.void || (!decide (e.ev.typ = p.ptyp))) || (!decide (e.ev.field = p.pfield))) || (decide (p.pgroup < 1))) = false then (.bool (decide (3 < p.pgroup)) : Value) else undef) := hA763 38 (by decide)
    refine obl rfl ?_
    exact ov_pick_or (b := ((e.void || (!decide (e.ev.typ = p.ptyp))) || (!decide (e.ev.field = p.pfield))) || (decide (p.pgroup < 1))) (b' := decide (3 < p.pgroup)) (show _ = (.bool (((e.void || (!decide (e.ev.typ = p.ptyp))) || (!decide (e.ev.field = p.pfield))) || (decide (p.pgroup < 1))) : Value) from e767) (fun hbp => (show _ = (.bool (decide (3 < p.pgroup)) : Value) from (Eq.trans e768 (if_pos hbp)))) (fun vals' hv _ => ⟨rfl, hv⟩)
  intro vals w769 hW770 hA771
  have hS772 : Sep G W ((Blk b6 (e.cells de0).toArray 38) :: (Blk a #[.int .i64 (p.ptyp), .int .i64 (p.pfield), .int .i64 (p.pgroup), .int .i64 (p.pby), .int .i64 (p.pmake), v2] 60) :: (RowE (α := Row) own 31 v2 l) :: Rs) w769 := hW770
  have e773 : vals 39 = (.bool ((((e.void || (!decide (e.ev.typ = p.ptyp))) || (!decide (e.ev.field = p.pfield))) || (decide (p.pgroup < 1))) || (decide (3 < p.pgroup))) : Value) := hA771 39 (by decide)
  refine st_env (kv := [(0, .pointer (some ⟨a, 0, none⟩)), (1, .agg (e.cells de0).toArray), (2, .int .i64 (reg)), (4, .pointer (some ⟨b6, 0, none⟩)), (48, .bool ((((e.void || (!decide (e.ev.typ = p.ptyp))) || (!decide (e.ev.field = p.pfield))) || (decide (p.pgroup < 1))) || (decide (3 < p.pgroup))))]) ⟨rfl, rfl, rfl, rfl, (by exact e773), trivial⟩ (fun ρw769 => ?_)
  refine st_nil ?_
  cases hc774 : (((e.void || (!decide (e.ev.typ = p.ptyp))) || (!decide (e.ev.field = p.pfield))) || (decide (p.pgroup < 1))) || (decide (3 < p.pgroup))
  · skip
    simp only [Bool.and_eq_true, Bool.or_eq_true, Bool.and_eq_false_iff, Bool.or_eq_false_iff, decide_eq_true_eq, decide_eq_false_iff_not, Bool.not_eq_true', Bool.not_eq_false', Int.not_lt, Int.not_le] at hc774
    refine WP_cond_f rfl ?_
    refine WP_skip ?_
    refine WP_seq ?_
    refine WP_region0 (by kernel_rfl) (fun _ => ?_)
    refine st (ov_move (v := .int .i64 (reg)) rfl ?_)
    refine st (ov_assign (v := .int .i64 (reg)) rfl ?_)
    refine st_nil ?_
    refine WP_seq ?_
    refine WP_seq ?_
    refine WP_region0 (by kernel_rfl) (fun _ => ?_)
    refine st (ov_move (v := .pointer (some ⟨a, 0, none⟩)) rfl ?_)
    refine st (ov_nilCheck (b := a) (o := 0) rfl ?_)
    refine st (fd60_0 rfl ?_)
    refine st (fd23_2 rfl ?_)
    refine st (ov_load1 (v := .int .i64 (p.pgroup)) Try.isAgg3 rfl (blk_cellL (hS772.blk (i := 1) rfl) rfl) ?_)
    refine st (ov_eql (k := .i64) (a := p.pgroup) (b := 1) rfl rfl ?_)
    refine st_nil ?_
    refine WP_join (fun σ wq => ∃ (g1 : Int) (ρ : Env), σ = setAll ρ [(0, .pointer (some ⟨a, 0, none⟩)), (1, .agg (e.cells de0).toArray), (2, .int .i64 (reg)), (4, .pointer (some ⟨b6, 0, none⟩)), (6, .int .i64 (g1))] ∧ (g1 = (if p.pgroup = 1 then e.ev.agg else reg) ∧ InR g1) ∧ Sep G W ((Blk b6 (e.cells de0).toArray 38) :: (Blk a #[.int .i64 (p.ptyp), .int .i64 (p.pfield), .int .i64 (p.pgroup), .int .i64 (p.pby), .int .i64 (p.pmake), v2] 60) :: (RowE (α := Row) own 31 v2 l) :: Rs) wq) ?_ ?_
    · skip
      cases hc776 : decide (p.pgroup = 1)
      · skip
        have hc776 := of_decide_eq_false hc776
        refine WP_cond_f rfl ?_
        refine WP_skip ?_
        exact ⟨rfl, reg, _, setAll_self ⟨(show _ = (.pointer (some ⟨a, 0, none⟩) : Value) from rfl), (show _ = (.agg (e.cells de0).toArray : Value) from rfl), (show _ = (.int .i64 (reg) : Value) from rfl), (show _ = (.pointer (some ⟨b6, 0, none⟩) : Value) from rfl), (show _ = (.int .i64 (reg) : Value) from rfl), trivial⟩, ⟨(if_neg hc776).symm, hreg⟩, hS772⟩
      · skip
        have hc776 := of_decide_eq_true hc776
        refine WP_cond_t rfl ?_
        refine WP_region0 (by kernel_rfl) (fun _ => ?_)
        refine st (fd38_0 rfl ?_)
        refine st (fd36_4 rfl ?_)
        refine st (ov_load1 (v := .int .i64 (e.ev.agg)) Try.isAgg3 rfl (blk_cellL (hS772.blk (i := 0) rfl) rfl) ?_)
        refine st (ov_assign (v := .int .i64 (e.ev.agg)) rfl ?_)
        refine st_nil ?_
        exact ⟨rfl, e.ev.agg, _, setAll_self ⟨(show _ = (.pointer (some ⟨a, 0, none⟩) : Value) from rfl), (show _ = (.agg (e.cells de0).toArray : Value) from rfl), (show _ = (.int .i64 (reg) : Value) from rfl), (show _ = (.pointer (some ⟨b6, 0, none⟩) : Value) from rfl), (show _ = (.int .i64 (e.ev.agg) : Value) from rfl), trivial⟩, ⟨(if_pos hc776).symm, oe.ev.agg⟩, hS772⟩
    rintro _ w777 ⟨g1, ρj1, rfl, hj775, hS778⟩
    refine WP_seq ?_
    refine WP_seq ?_
    refine WP_region0 (by kernel_rfl) (fun _ => ?_)
    refine st (ov_move (v := .pointer (some ⟨a, 0, none⟩)) rfl ?_)
    refine st (ov_nilCheck (b := a) (o := 0) rfl ?_)
    refine st (fd60_0 rfl ?_)
    refine st (fd23_2 rfl ?_)
    refine st (ov_load1 (v := .int .i64 (p.pgroup)) Try.isAgg3 rfl (blk_cellL (hS778.blk (i := 1) rfl) rfl) ?_)
    refine st (ov_eql (k := .i64) (a := p.pgroup) (b := 2) rfl rfl ?_)
    refine st_nil ?_
    refine WP_join (fun σ wq => ∃ (g2 : Int) (ρ : Env), σ = setAll ρ [(0, .pointer (some ⟨a, 0, none⟩)), (1, .agg (e.cells de0).toArray), (2, .int .i64 (reg)), (4, .pointer (some ⟨b6, 0, none⟩)), (6, .int .i64 (g2))] ∧ (g2 = (if p.pgroup = 2 then e.ev.arg else g1) ∧ InR g2) ∧ Sep G W ((Blk b6 (e.cells de0).toArray 38) :: (Blk a #[.int .i64 (p.ptyp), .int .i64 (p.pfield), .int .i64 (p.pgroup), .int .i64 (p.pby), .int .i64 (p.pmake), v2] 60) :: (RowE (α := Row) own 31 v2 l) :: Rs) wq) ?_ ?_
    · skip
      cases hc780 : decide (p.pgroup = 2)
      · skip
        have hc780 := of_decide_eq_false hc780
        refine WP_cond_f rfl ?_
        refine WP_skip ?_
        exact ⟨rfl, g1, _, setAll_self ⟨(show _ = (.pointer (some ⟨a, 0, none⟩) : Value) from rfl), (show _ = (.agg (e.cells de0).toArray : Value) from rfl), (show _ = (.int .i64 (reg) : Value) from rfl), (show _ = (.pointer (some ⟨b6, 0, none⟩) : Value) from rfl), (show _ = (.int .i64 (g1) : Value) from rfl), trivial⟩, ⟨(if_neg hc780).symm, hj775.2⟩, hS778⟩
      · skip
        have hc780 := of_decide_eq_true hc780
        refine WP_cond_t rfl ?_
        refine WP_region0 (by kernel_rfl) (fun _ => ?_)
        refine st (fd38_0 rfl ?_)
        refine st (fd36_7 rfl ?_)
        refine st (ov_load1 (v := .int .i64 (e.ev.arg)) Try.isAgg3 rfl (blk_cellL (hS778.blk (i := 0) rfl) rfl) ?_)
        refine st (ov_assign (v := .int .i64 (e.ev.arg)) rfl ?_)
        refine st_nil ?_
        exact ⟨rfl, e.ev.arg, _, setAll_self ⟨(show _ = (.pointer (some ⟨a, 0, none⟩) : Value) from rfl), (show _ = (.agg (e.cells de0).toArray : Value) from rfl), (show _ = (.int .i64 (reg) : Value) from rfl), (show _ = (.pointer (some ⟨b6, 0, none⟩) : Value) from rfl), (show _ = (.int .i64 (e.ev.arg) : Value) from rfl), trivial⟩, ⟨(if_pos hc780).symm, oe.ev.arg⟩, hS778⟩
    rintro _ w781 ⟨g2, ρj2, rfl, hj779, hS782⟩
    refine WP_seq ?_
    refine WP_region0 (by kernel_rfl) (fun _ => ?_)
    refine st (ov_assign (v := .int .i64 (0)) rfl ?_)
    refine st_nil ?_
    refine WP_seq ?_
    refine WP_block ?_
    refine WP_loop (fun mq σ wq => ∃ (k : Nat) (ρ : Env), mq = l.length - k ∧ σ = setAll ρ [(0, .pointer (some ⟨a, 0, none⟩)), (4, .pointer (some ⟨b6, 0, none⟩)), (6, .int .i64 (g2)), (7, .int .i64 ((k : Nat) : Int))] ∧ (k ≤ l.length) ∧ (∀ j, j < k → (l.getD j default).group < g2) ∧ Sep G W ((Blk b6 (e.cells de0).toArray 38) :: (Blk a #[.int .i64 (p.ptyp), .int .i64 (p.pfield), .int .i64 (p.pgroup), .int .i64 (p.pby), .int .i64 (p.pmake), v2] 60) :: (RowE (α := Row) own 31 v2 l) :: Rs) wq) ⟨0, _, rfl, setAll_self ⟨rfl, rfl, rfl, rfl, trivial⟩, Nat.zero_le _, (fun j h => absurd h (Nat.not_lt_zero j)), hS782⟩ ?_
    rintro m784 σ785 w783 ⟨k, ρl1, rfl, rfl, hkk, hlt, hS786⟩
    refine WP_seq ?_
    refine WP_seq ?_
    refine WP_region (by kernel_rfl) ?_
    refine st (ov_move (v := .int .i64 ((k : Nat) : Int)) rfl ?_)
    refine st (ov_move (v := .pointer (some ⟨a, 0, none⟩)) rfl ?_)
    refine st (ov_nilCheck (b := a) (o := 0) rfl ?_)
    refine st (fd60_1 rfl ?_)
    refine st (ov_load1 (v := v2) Try.isAgg28 rfl (blk_cellL (hS786.blk (i := 1) rfl) rfl) ?_)
    refine st (ov_len (n := l.length) Try.underlying28 rfl hr4.1 ?_)
    refine st (ov_lss (k := .i64) (a := ((k : Nat) : Int)) (b := ((l.length : Nat) : Int)) rfl rfl ?_)
    refine st (ov_move (v := .bool (decide (((k : Nat) : Int) < ((l.length : Nat) : Int)))) rfl ?_)
    refine stc (V := .pointer (some ⟨a, 0, none⟩)) rfl rfl (fun hb787 => ?_) ?_
    · have hl788 : (decide (((k : Nat) : Int) < ((l.length : Nat) : Int))) = true := hb787
      have hl788 := of_decide_eq_true hl788
      exact ov_move (v := .pointer (some ⟨a, 0, none⟩)) rfl ⟨rfl, rfl⟩
    refine stc (V := .pointer (some ⟨a, 0, none⟩)) rfl rfl (fun hb789 => ?_) ?_
    · have hl790 : (decide (((k : Nat) : Int) < ((l.length : Nat) : Int))) = true := hb789
      have hl790 := of_decide_eq_true hl790
      exact ov_nilCheck (b := a) (o := 0) (show _ = (.pointer (some ⟨a, 0, none⟩) : Value) from (if_pos hb789)) ⟨rfl, rfl⟩
    refine stc (V := .pointer (some ⟨a, 5, none⟩)) rfl rfl (fun hb791 => ?_) ?_
    · have hl792 : (decide (((k : Nat) : Int) < ((l.length : Nat) : Int))) = true := hb791
      have hl792 := of_decide_eq_true hl792
      exact fd60_1 (show _ = (.pointer (some ⟨a, 0, none⟩) : Value) from (if_pos hb791)) ⟨rfl, rfl⟩
    refine stc (V := v2) rfl rfl (fun hb793 => ?_) ?_
    · have hl794 : (decide (((k : Nat) : Int) < ((l.length : Nat) : Int))) = true := hb793
      have hl794 := of_decide_eq_true hl794
      exact ov_load1 (v := v2) Try.isAgg28 (show _ = (.pointer (some ⟨a, 5, none⟩) : Value) from (if_pos hb793)) (blk_cellL (hS786.blk (i := 1) rfl) rfl) ⟨rfl, rfl⟩
    refine stc (V := .int .i64 ((k : Nat) : Int)) rfl rfl (fun hb795 => ?_) ?_
    · have hl796 : (decide (((k : Nat) : Int) < ((l.length : Nat) : Int))) = true := hb795
      have hl796 := of_decide_eq_true hl796
      exact ov_move (v := .int .i64 ((k : Nat) : Int)) rfl ⟨rfl, rfl⟩
    refine stc (V := .pointer (some ⟨sb v2, so v2 + k * 3, none⟩)) rfl rfl (fun hb797 => ?_) ?_
    · have hl798 : (decide (((k : Nat) : Int) < ((l.length : Nat) : Int))) = true := hb797
      have hl798 := of_decide_eq_true hl798
      have hi799 : k < l.length := (by first | omega | (simp only [List.length_append, List.length_cons, List.length_nil, List.length_take, List.length_drop, List.length_set, List.length_replicate]; omega))
      exact ov_indexAddrN (k := 3) (i := k) Try.underlying28 Try.sizeOf31 (show _ = (v2 : Value) from (if_pos hb797)) hr4.1 (show _ = (.int .i64 ((k : Nat) : Int) : Value) from (if_pos hb797)) hi799 ⟨rfl, rfl⟩
    refine stc (V := .pointer (some ⟨sb v2, so v2 + k * 3, none⟩)) rfl rfl (fun hb800 => ?_) ?_
    · have hl801 : (decide (((k : Nat) : Int) < ((l.length : Nat) : Int))) = true := hb800
      have hl801 := of_decide_eq_true hl801
      exact fd31_0 (show _ = (.pointer (some ⟨sb v2, so v2 + k * 3, none⟩) : Value) from (if_pos hb800)) ⟨rfl, rfl⟩
    refine stc (V := .int .i64 ((l.getD k default).group)) rfl rfl (fun hb802 => ?_) ?_
    · have hl803 : (decide (((k : Nat) : Int) < ((l.length : Nat) : Int))) = true := hb802
      have hl803 := of_decide_eq_true hl803
      have hi805 : k < l.length := (by first | omega | (simp only [List.length_append, List.length_cons, List.length_nil, List.length_take, List.length_drop, List.length_set, List.length_replicate]; omega))
      obtain ⟨_, _, hce804, rfl, hoke804⟩ := hS786.rowAt (i := 2) (j := k) rfl hi805
      rw [← getD_at default hi805] at hce804 hoke804
      exact ov_load1 (v := .int .i64 ((l.getD k default).group)) Try.isAgg3 (show _ = (.pointer (some ⟨sb v2, so v2 + k * 3, none⟩) : Value) from (if_pos hb802)) (hce804.get (j := 0) rfl) ⟨rfl, rfl⟩
    refine stc (V := .int .i64 (g2)) rfl rfl (fun hb806 => ?_) ?_
    · have hl807 : (decide (((k : Nat) : Int) < ((l.length : Nat) : Int))) = true := hb806
      have hl807 := of_decide_eq_true hl807
      exact ov_move (v := .int .i64 (g2)) rfl ⟨rfl, rfl⟩
    refine stc (V := .bool (decide (((l.getD k default).group) < g2))) rfl rfl (fun hb808 => ?_) ?_
    · have hl809 : (decide (((k : Nat) : Int) < ((l.length : Nat) : Int))) = true := hb808
      have hl809 := of_decide_eq_true hl809
      exact ov_lss (k := .i64) (a := (l.getD k default).group) (b := g2) (show _ = (.int .i64 ((l.getD k default).group) : Value) from (if_pos hb808)) (show _ = (.int .i64 (g2) : Value) from (if_pos hb808)) ⟨rfl, rfl⟩
    refine st (ov_pick_and (b := decide (((k : Nat) : Int) < ((l.length : Nat) : Int))) (b' := decide (((l.getD k default).group) < g2)) rfl (fun hbp => (show _ = (.bool (decide (((l.getD k default).group) < g2)) : Value) from (if_pos hbp))) ?_)
    refine st_nil ?_
    cases hc810 : (decide (((k : Nat) : Int) < ((l.length : Nat) : Int))) && (decide (((l.getD k default).group) < g2))
    · skip
      simp only [Bool.and_eq_true, Bool.or_eq_true, Bool.and_eq_false_iff, Bool.or_eq_false_iff, decide_eq_true_eq, decide_eq_false_iff_not, Bool.not_eq_true', Bool.not_eq_false', Int.not_lt, Int.not_le] at hc810
      refine WP_cond_f rfl ?_
      refine WP_exit ?_
      refine blk_exit ?_
      refine WP_seq ?_
      refine WP_seq ?_
      refine WP_region (by kernel_rfl) ?_
      refine st (ov_move (v := .int .i64 ((k : Nat) : Int)) rfl ?_)
      refine st (ov_move (v := .pointer (some ⟨a, 0, none⟩)) rfl ?_)
      refine st (ov_nilCheck (b := a) (o := 0) rfl ?_)
      refine st (fd60_1 rfl ?_)
      refine st (ov_load1 (v := v2) Try.isAgg28 rfl (blk_cellL (hS786.blk (i := 1) rfl) rfl) ?_)
      refine st (ov_len (n := l.length) Try.underlying28 rfl hr4.1 ?_)
      refine st (ov_lss (k := .i64) (a := ((k : Nat) : Int)) (b := ((l.length : Nat) : Int)) rfl rfl ?_)
      refine st (ov_move (v := .bool (decide (((k : Nat) : Int) < ((l.length : Nat) : Int)))) rfl ?_)
      refine stc (V := .pointer (some ⟨a, 0, none⟩)) rfl rfl (fun hb811 => ?_) ?_
      · have hl812 : (decide (((k : Nat) : Int) < ((l.length : Nat) : Int))) = true := hb811
        have hl812 := of_decide_eq_true hl812
        exact ov_move (v := .pointer (some ⟨a, 0, none⟩)) rfl ⟨rfl, rfl⟩
      refine stc (V := .pointer (some ⟨a, 0, none⟩)) rfl rfl (fun hb813 => ?_) ?_
      · have hl814 : (decide (((k : Nat) : Int) < ((l.length : Nat) : Int))) = true := hb813
        have hl814 := of_decide_eq_true hl814
        exact ov_nilCheck (b := a) (o := 0) (show _ = (.pointer (some ⟨a, 0, none⟩) : Value) from (if_pos hb813)) ⟨rfl, rfl⟩
      refine stc (V := .pointer (some ⟨a, 5, none⟩)) rfl rfl (fun hb815 => ?_) ?_
      · have hl816 : (decide (((k : Nat) : Int) < ((l.length : Nat) : Int))) = true := hb815
        have hl816 := of_decide_eq_true hl816
        exact fd60_1 (show _ = (.pointer (some ⟨a, 0, none⟩) : Value) from (if_pos hb815)) ⟨rfl, rfl⟩
      refine stc (V := v2) rfl rfl (fun hb817 => ?_) ?_
      · have hl818 : (decide (((k : Nat) : Int) < ((l.length : Nat) : Int))) = true := hb817
        have hl818 := of_decide_eq_true hl818
        exact ov_load1 (v := v2) Try.isAgg28 (show _ = (.pointer (some ⟨a, 5, none⟩) : Value) from (if_pos hb817)) (blk_cellL (hS786.blk (i := 1) rfl) rfl) ⟨rfl, rfl⟩
      refine stc (V := .int .i64 ((k : Nat) : Int)) rfl rfl (fun hb819 => ?_) ?_
      · have hl820 : (decide (((k : Nat) : Int) < ((l.length : Nat) : Int))) = true := hb819
        have hl820 := of_decide_eq_true hl820
        exact ov_move (v := .int .i64 ((k : Nat) : Int)) rfl ⟨rfl, rfl⟩
      refine stc (V := .pointer (some ⟨sb v2, so v2 + k * 3, none⟩)) rfl rfl (fun hb821 => ?_) ?_
      · have hl822 : (decide (((k : Nat) : Int) < ((l.length : Nat) : Int))) = true := hb821
        have hl822 := of_decide_eq_true hl822
        have hi823 : k < l.length := (by first | omega | (simp only [List.length_append, List.length_cons, List.length_nil, List.length_take, List.length_drop, List.length_set, List.length_replicate]; omega))
        exact ov_indexAddrN (k := 3) (i := k) Try.underlying28 Try.sizeOf31 (show _ = (v2 : Value) from (if_pos hb821)) hr4.1 (show _ = (.int .i64 ((k : Nat) : Int) : Value) from (if_pos hb821)) hi823 ⟨rfl, rfl⟩
      refine stc (V := .pointer (some ⟨sb v2, so v2 + k * 3, none⟩)) rfl rfl (fun hb824 => ?_) ?_
      · have hl825 : (decide (((k : Nat) : Int) < ((l.length : Nat) : Int))) = true := hb824
        have hl825 := of_decide_eq_true hl825
        exact fd31_0 (show _ = (.pointer (some ⟨sb v2, so v2 + k * 3, none⟩) : Value) from (if_pos hb824)) ⟨rfl, rfl⟩
      refine stc (V := .int .i64 ((l.getD k default).group)) rfl rfl (fun hb826 => ?_) ?_
      · have hl827 : (decide (((k : Nat) : Int) < ((l.length : Nat) : Int))) = true := hb826
        have hl827 := of_decide_eq_true hl827
        have hi829 : k < l.length := (by first | omega | (simp only [List.length_append, List.length_cons, List.length_nil, List.length_take, List.length_drop, List.length_set, List.length_replicate]; omega))
        obtain ⟨_, _, hce828, rfl, hoke828⟩ := hS786.rowAt (i := 2) (j := k) rfl hi829
        rw [← getD_at default hi829] at hce828 hoke828
        exact ov_load1 (v := .int .i64 ((l.getD k default).group)) Try.isAgg3 (show _ = (.pointer (some ⟨sb v2, so v2 + k * 3, none⟩) : Value) from (if_pos hb826)) (hce828.get (j := 0) rfl) ⟨rfl, rfl⟩
      refine stc (V := .int .i64 (g2)) rfl rfl (fun hb830 => ?_) ?_
      · have hl831 : (decide (((k : Nat) : Int) < ((l.length : Nat) : Int))) = true := hb830
        have hl831 := of_decide_eq_true hl831
        exact ov_move (v := .int .i64 (g2)) rfl ⟨rfl, rfl⟩
      refine stc (V := .bool (decide (((l.getD k default).group) = g2))) rfl rfl (fun hb832 => ?_) ?_
      · have hl833 : (decide (((k : Nat) : Int) < ((l.length : Nat) : Int))) = true := hb832
        have hl833 := of_decide_eq_true hl833
        exact ov_eql (k := .i64) (a := (l.getD k default).group) (b := g2) (show _ = (.int .i64 ((l.getD k default).group) : Value) from (if_pos hb832)) (show _ = (.int .i64 (g2) : Value) from (if_pos hb832)) ⟨rfl, rfl⟩
      refine st (ov_pick_and (b := decide (((k : Nat) : Int) < ((l.length : Nat) : Int))) (b' := decide (((l.getD k default).group) = g2)) rfl (fun hbp => (show _ = (.bool (decide (((l.getD k default).group) = g2)) : Value) from (if_pos hbp))) ?_)
      refine st_nil ?_
      cases hc834 : (decide (((k : Nat) : Int) < ((l.length : Nat) : Int))) && (decide (((l.getD k default).group) = g2))
      · skip
        simp only [Bool.and_eq_true, Bool.or_eq_true, Bool.and_eq_false_iff, Bool.or_eq_false_iff, decide_eq_true_eq, decide_eq_false_iff_not, Bool.not_eq_true', Bool.not_eq_false', Int.not_lt, Int.not_le] at hc834
        refine WP_cond_f rfl ?_
        refine WP_skip ?_
        refine WP_seq ?_
        refine WP_region0 (by kernel_rfl) (fun _ => ?_)
        refine st (ov_move (v := .pointer (some ⟨a, 0, none⟩)) rfl ?_)
        refine st (ov_move (v := .pointer (some ⟨a, 0, none⟩)) rfl ?_)
        refine st (ov_nilCheck (b := a) (o := 0) rfl ?_)
        refine st (fd60_1 rfl ?_)
        refine st (ov_load1 (v := v2) Try.isAgg28 rfl (blk_cellL (hS786.blk (i := 1) rfl) rfl) ?_)
        have ok835 : Row.Ok (⟨0, 0, 0⟩ : Row) := ⟨(show InR (0) from (by decide)), (show InR (0) from (by decide)), (show InR (0) from (by decide))⟩
        refine st (ov_build (parts' := []) (v := .agg ((⟨0, 0, 0⟩ : Row).cells).toArray) rfl (by simp [Instr.build, Instr.fill, Ev.cells, go_sem, Ev.cells, Ent.cells, Row.cells, Prj.cells]) ?_)
        refine st (ov_buildSlice (k := 3) (parts' := [(0, .agg ((⟨0, 0, 0⟩ : Row).cells).toArray)]) (c := ((⟨0, 0, 0⟩ : Row).cells).toArray) Try.underlying28 Try.sizeOf31 Try.zeroValue31 (by decide) rfl (by kernel_rfl) ?_)
        intro w838 b837 hn836
        have hS839 : Sep G W ((Blk b837 ((⟨0, 0, 0⟩ : Row).cells).toArray 31) :: (Blk b6 (e.cells de0).toArray 38) :: (Blk a #[.int .i64 (p.ptyp), .int .i64 (p.pfield), .int .i64 (p.pgroup), .int .i64 (p.pby), .int .i64 (p.pmake), v2] 60) :: (RowE (α := Row) own 31 v2 l) :: Rs) w838 := hS786.new hn836
        have hbk843 := hS839.blk (i := 0) rfl
        have hS844 : Sep G W ((RowE (α := Row) own 31 v2 l) :: (Blk b6 (e.cells de0).toArray 38) :: (Blk a #[.int .i64 (p.ptyp), .int .i64 (p.pfield), .int .i64 (p.pgroup), .int .i64 (p.pby), .int .i64 (p.pmake), v2] 60) :: Rs) w838 := hS839.sel 4 [3, 1, 2] (Nat.le_add_left _ _) rfl rfl
        have hS845 : Sep G W ((RowE (α := Row) own 31 v2 l) :: Emp :: (Blk b6 (e.cells de0).toArray 38) :: (Blk a #[.int .i64 (p.ptyp), .int .i64 (p.pfield), .int .i64 (p.pgroup), .int .i64 (p.pby), .int .i64 (p.pmake), v2] 60) :: Rs) w838 := hS844.emp1
        refine st (ov_append1S (src := own) (bytes := 24) (x1 := (⟨0, 0, 0⟩ : Row)) hS845 el28 rfl rfl hbk843 (fun _ _ _ => (show _ from ⟨rfl, ok835⟩)) (by first | omega | (simp only [List.length_append, List.length_cons, List.length_nil, List.length_take, List.length_drop]; omega)) rfl ?_)
        intro v841 w840 hS842
        have hr846 := hS842.row (i := 0) rfl
        have hr846s : (l ++ [(⟨0, 0, 0⟩ : Row)]).length * 24 ≤ 140737488355328 := hr846.2
        refine st (ov_nilCheck (b := a) (o := 0) rfl ?_)
        refine st (fd60_1 rfl ?_)
        refine stn (ov_store1 (v := v841) (c := [.int .i64 (p.ptyp), .int .i64 (p.pfield), .int .i64 (p.pgroup), .int .i64 (p.pby), .int .i64 (p.pmake), v2]) (c' := [.int .i64 (p.ptyp), .int .i64 (p.pfield), .int .i64 (p.pgroup), .int .i64 (p.pby), .int .i64 (p.pmake), v841]) Try.sizeOf28 rfl rfl (hS842.blk (i := 2) rfl) hr846.1.one rfl rfl ?_)
        intro w847 hp848
        have hS849 : Sep G W ((RowE (α := Row) own 31 v841 (l ++ [(⟨0, 0, 0⟩ : Row)])) :: (Blk b6 (e.cells de0).toArray 38) :: (Blk a #[.int .i64 (p.ptyp), .int .i64 (p.pfield), .int .i64 (p.pgroup), .int .i64 (p.pby), .int .i64 (p.pmake), v841] 60) :: Rs) w847 := hS842.put (i := 2) rfl hp848
        refine st_nil ?_
        refine WP_seq ?_
        refine WP_seq ?_
        refine WP_region0 (by kernel_rfl) (fun _ => ?_)
        refine st (ov_move (v := .pointer (some ⟨a, 0, none⟩)) rfl ?_)
        refine st (ov_nilCheck (b := a) (o := 0) rfl ?_)
        refine st (fd60_1 rfl ?_)
        refine st (ov_load1 (v := v841) Try.isAgg28 rfl (blk_cellL (hS849.blk (i := 2) rfl) rfl) ?_)
        refine st (ov_len (n := (l ++ [(⟨0, 0, 0⟩ : Row)]).length) Try.underlying28 rfl hr846.1 ?_)
        have hr850 : InR ((((l ++ [(⟨0, 0, 0⟩ : Row)]).length) - 1 : Nat) : Int) := by first | omega | (simp only [List.length_append, List.length_cons, List.length_nil, List.length_take, List.length_drop, List.length_set, List.length_replicate]; omega)
        refine st (ov_sub (r := ((((l ++ [(⟨0, 0, 0⟩ : Row)]).length) - 1 : Nat) : Int)) (k := .i64) (a := (((l ++ [(⟨0, 0, 0⟩ : Row)]).length : Nat) : Int)) (b := 1) rfl rfl (by rw [show ((((l ++ [(⟨0, 0, 0⟩ : Row)]).length : Nat) : Int) - 1 : Int) = ((((l ++ [(⟨0, 0, 0⟩ : Row)]).length) - 1 : Nat) : Int) by first | omega | (simp only [List.length_append, List.length_cons, List.length_nil, List.length_take, List.length_drop, List.length_set, List.length_replicate]; omega)]; exact wrap_in hr850) ?_)
        refine st (ov_assign (v := .int .i64 ((((l ++ [(⟨0, 0, 0⟩ : Row)]).length) - 1 : Nat) : Int)) rfl ?_)
        refine st_nil ?_
        refine WP_block ?_
        have hN8 : ((l ++ [(⟨0, 0, 0⟩ : Row)]).length) - 1 = l.length := by first | omega | (simp only [List.length_append, List.length_cons, List.length_nil]; omega)
        rw [← shl_top] at hS849
        refine WP_loop (fun mq σ wq => ∃ (q : Nat) (ρ : Env), mq = q - k ∧ σ = setAll ρ [(0, .pointer (some ⟨a, 0, none⟩)), (4, .pointer (some ⟨b6, 0, none⟩)), (6, .int .i64 (g2)), (7, .int .i64 ((k : Nat) : Int)), (8, .int .i64 ((q : Nat) : Int))] ∧ (k ≤ q ∧ q ≤ l.length) ∧ Sep G W ((RowE (α := Row) own 31 v841 (shl l q)) :: (Blk b6 (e.cells de0).toArray 38) :: (Blk a #[.int .i64 (p.ptyp), .int .i64 (p.pfield), .int .i64 (p.pgroup), .int .i64 (p.pby), .int .i64 (p.pmake), v841] 60) :: Rs) wq) ⟨(((l ++ [(⟨0, 0, 0⟩ : Row)]).length) - 1), _, rfl, setAll_self ⟨rfl, rfl, rfl, rfl, rfl, trivial⟩, ⟨by omega, by omega⟩, (by rw [hN8]; exact hS849)⟩ ?_
        rintro m852 σ853 w851 ⟨q, ρl2, rfl, rfl, hq3, hS854⟩
        have hr855 := hS854.row (i := 0) rfl
        have hr855s : (shl l q).length * 24 ≤ 140737488355328 := hr855.2
        have hsl3 := shl_len hq3.2
        refine WP_seq ?_
        refine WP_seq ?_
        refine WP_region0 (by kernel_rfl) (fun _ => ?_)
        refine st (ov_move (v := .int .i64 ((q : Nat) : Int)) rfl ?_)
        refine st (ov_move (v := .int .i64 ((k : Nat) : Int)) rfl ?_)
        refine st (ov_gtr (k := .i64) (a := ((q : Nat) : Int)) (b := ((k : Nat) : Int)) rfl rfl ?_)
        refine st_nil ?_
        cases hc856 : decide (((k : Nat) : Int) < ((q : Nat) : Int))
        · skip
          have hc856 := of_decide_eq_false hc856
          refine WP_cond_f rfl ?_
          refine WP_exit ?_
          refine blk_exit ?_
          refine WP_draw4 (WF [fun vals wq => Sep G W ((RowE (α := Row) own 31 v841 (shl l q)) :: (Blk b6 (e.cells de0).toArray 38) :: (Blk a #[.int .i64 (p.ptyp), .int .i64 (p.pfield), .int .i64 (p.pgroup), .int .i64 (p.pby), .int .i64 (p.pmake), v841] 60) :: Rs) wq, fun vals wq => (vals 11 = (.agg ((oneR p (⟨g2, 0, 0⟩ : Row) e.ev.arg).cells).toArray : Value)) ∧ ((oneR p (⟨g2, 0, 0⟩ : Row) e.ev.arg).Ok) ∧ Sep G W ((Blk a #[.int .i64 (p.ptyp), .int .i64 (p.pfield), .int .i64 (p.pgroup), .int .i64 (p.pby), .int .i64 (p.pmake), v841] 60) :: (RowE (α := Row) own 31 v841 (shl l q)) :: (Blk b6 (e.cells de0).toArray 38) :: Rs) wq, fun vals wq => (vals 11 = (.agg ((oneR p (⟨g2, 0, 0⟩ : Row) e.ev.arg).cells).toArray : Value)) ∧ ((oneR p (⟨g2, 0, 0⟩ : Row) e.ev.arg).Ok) ∧ Sep G W ((RowE (α := Row) own 31 v841 ((shl l q).set k (oneR p (⟨g2, 0, 0⟩ : Row) e.ev.arg))) :: (Blk a #[.int .i64 (p.ptyp), .int .i64 (p.pfield), .int .i64 (p.pgroup), .int .i64 (p.pby), .int .i64 (p.pmake), v841] 60) :: (Blk b6 (e.cells de0).toArray 38) :: Rs) wq]) (AF [fun vals => vals 0 = (.pointer (some ⟨a, 0, none⟩) : Value), fun vals => vals 1 = (.pointer (some ⟨a, 0, none⟩) : Value), fun vals => vals 2 = (.pointer (some ⟨a, 5, none⟩) : Value), fun vals => vals 3 = (v841 : Value), fun vals => vals 4 = (.int .i64 ((k : Nat) : Int) : Value), fun vals => vals 5 = (.pointer (some ⟨a, 0, none⟩) : Value), fun vals => vals 6 = (.int .i64 (g2) : Value), fun vals => vals 7 = (.agg ((⟨g2, 0, 0⟩ : Row).cells).toArray : Value), fun vals => vals 8 = (.pointer (some ⟨b6, 0, none⟩) : Value), fun vals => vals 9 = (.pointer (some ⟨b6, 8, none⟩) : Value), fun vals => vals 10 = (.int .i64 (e.ev.arg) : Value), fun _ => True, fun vals => vals 12 = (.pointer (some ⟨sb v841, so v841 + k * 3, none⟩) : Value), fun _ => True]) [[], [0], [0, 1], [0, 1, 2], [], [], [], [6], [], [8], [8, 9], [5, 6, 7, 8, 9, 10], [0, 1, 2, 3, 4, 5, 6, 7, 8, 9, 10, 11], [0, 1, 2, 3, 4, 5, 6, 7, 8, 9, 10, 11, 12]] [11, 13] [(0, 1), (0, 1), (0, 1), (0, 1), (0, 1), (0, 0), (0, 0), (0, 0), (0, 0), (0, 0), (0, 0), (0, 0), (1, 1), (1, 1)] (by kernel_rfl) (by kernel_rfl) (by kernel_rfl) rfl (by kernel_rfl) (by kernel_rfl) (fun _ h1 h2 h3 h4 _ => hS854.same h1 h2 h3 h4) ?_ ?_ ⟨?_, ?_, ?_, ?_, ?_, ?_, ?_, ?_, ?_, ?_, ?_, ?_, ?_, ?_, trivial⟩ ?_
          · intro k vals vals' w hv h
            have e : ∀ j ∈ ([11, 13] : List Nat), vals' j = vals j := hv
            match k, h with
            | 0, h => exact h
            | 1, h => exact (by simpa only [WF, List.getElem?_cons_zero, List.getElem?_cons_succ, e 11 (by decide)] using h)
            | 2, h => exact (by simpa only [WF, List.getElem?_cons_zero, List.getElem?_cons_succ, e 11 (by decide)] using h)
            | _ + 3, _ => trivial
          · intro i vals vals' hv h
            match i, hv, h with
            | 0, hv, h => exact (hv 0 (.inl rfl)).trans h
            | 1, hv, h => exact (hv 1 (.inl rfl)).trans h
            | 2, hv, h => exact (hv 2 (.inl rfl)).trans h
            | 3, hv, h => exact (hv 3 (.inl rfl)).trans h
            | 4, hv, h => exact (hv 4 (.inl rfl)).trans h
            | 5, hv, h => exact (hv 5 (.inl rfl)).trans h
            | 6, hv, h => exact (hv 6 (.inl rfl)).trans h
            | 7, hv, h => exact (hv 7 (.inl rfl)).trans h
            | 8, hv, h => exact (hv 8 (.inl rfl)).trans h
            | 9, hv, h => exact (hv 9 (.inl rfl)).trans h
            | 10, hv, h => exact (hv 10 (.inl rfl)).trans h
            | 11, _, _ => trivial
            | 12, hv, h => exact (hv 12 (.inl rfl)).trans h
            | 13, _, _ => trivial
            | _ + 14, _, _ => trivial
          · intro k971 vals w972 h975 h976 hW974 hA973
            refine obl rfl ?_
            exact ov_move (v := .pointer (some ⟨a, 0, none⟩)) rfl (fun vals' hv _ => ⟨rfl, hv⟩)
          · intro k977 vals w978 h981 h982 hW980 hA979
            have e983 : vals 0 = (.pointer (some ⟨a, 0, none⟩) : Value) := hA979 0 (by decide)
            refine obl rfl ?_
            exact ov_nilCheck (b := a) (o := 0) (show _ = (.pointer (some ⟨a, 0, none⟩) : Value) from e983) (fun vals' hv _ => ⟨rfl, hv⟩)
          · intro k984 vals w985 h988 h989 hW987 hA986
            have e990 : vals 1 = (.pointer (some ⟨a, 0, none⟩) : Value) := hA986 1 (by decide)
            refine obl rfl ?_
            exact fd60_1 (show _ = (.pointer (some ⟨a, 0, none⟩) : Value) from e990) (fun vals' hv _ => ⟨rfl, hv⟩)
          · intro k991 vals w992 h995 h996 hW994 hA993
            have hkk : k991 = 0 ∨ k991 = 1 := by have h1 : 0 ≤ k991 := h995; have h2 : k991 ≤ 1 := h996; omega
            rcases hkk with rfl | rfl
            · skip
              have hS997 : Sep G W ((RowE (α := Row) own 31 v841 (shl l q)) :: (Blk b6 (e.cells de0).toArray 38) :: (Blk a #[.int .i64 (p.ptyp), .int .i64 (p.pfield), .int .i64 (p.pgroup), .int .i64 (p.pby), .int .i64 (p.pmake), v841] 60) :: Rs) w992 := hW994
              have e998 : vals 2 = (.pointer (some ⟨a, 5, none⟩) : Value) := hA993 2 (by decide)
              refine obl rfl ?_
              exact ov_load1 (v := v841) Try.isAgg28 (show _ = (.pointer (some ⟨a, 5, none⟩) : Value) from e998) (blk_cellL (hS997.blk (i := 2) rfl) rfl) (fun vals' hv _ => ⟨rfl, hv⟩)
            · skip
              obtain ⟨he947, hok944, hS999⟩ : (vals 11 = (.agg ((oneR p (⟨g2, 0, 0⟩ : Row) e.ev.arg).cells).toArray : Value)) ∧ ((oneR p (⟨g2, 0, 0⟩ : Row) e.ev.arg).Ok) ∧ Sep G W ((Blk a #[.int .i64 (p.ptyp), .int .i64 (p.pfield), .int .i64 (p.pgroup), .int .i64 (p.pby), .int .i64 (p.pmake), v841] 60) :: (RowE (α := Row) own 31 v841 (shl l q)) :: (Blk b6 (e.cells de0).toArray 38) :: Rs) w992 := hW994
              have e1000 : vals 2 = (.pointer (some ⟨a, 5, none⟩) : Value) := hA993 2 (by decide)
              refine obl rfl ?_
              exact ov_load1 (v := v841) Try.isAgg28 (show _ = (.pointer (some ⟨a, 5, none⟩) : Value) from e1000) (blk_cellL (hS999.blk (i := 0) rfl) rfl) (fun vals' hv _ => ⟨rfl, hv⟩)
          · intro k1001 vals w1002 h1005 h1006 hW1004 hA1003
            refine obl rfl ?_
            exact ov_move (v := .int .i64 ((k : Nat) : Int)) rfl (fun vals' hv _ => ⟨rfl, hv⟩)
          · intro k1007 vals w1008 h1011 h1012 hW1010 hA1009
            refine obl rfl ?_
            exact ov_move (v := .pointer (some ⟨a, 0, none⟩)) rfl (fun vals' hv _ => ⟨rfl, hv⟩)
          · intro k1013 vals w1014 h1017 h1018 hW1016 hA1015
            refine obl rfl ?_
            exact ov_move (v := .int .i64 (g2)) rfl (fun vals' hv _ => ⟨rfl, hv⟩)
          · intro k1019 vals w1020 h1023 h1024 hW1022 hA1021
            have e1025 : vals 6 = (.int .i64 (g2) : Value) := hA1021 6 (by decide)
            refine obl rfl ?_
            have ok1026 : Row.Ok (⟨g2, 0, 0⟩ : Row) := ⟨(show InR (g2) from hj779.2), (show InR (0) from (by decide)), (show InR (0) from (by decide))⟩
            exact ov_build (parts' := [(0, .int .i64 (g2))]) (v := .agg ((⟨g2, 0, 0⟩ : Row).cells).toArray) (mapP ⟨rfl, (show _ = (.int .i64 (g2) : Value) from e1025), trivial⟩) (by simp [Instr.build, Instr.fill, Ev.cells, go_sem, Ev.cells, Ent.cells, Row.cells, Prj.cells]) (fun vals' hv _ => ⟨rfl, hv⟩)
          · intro k1027 vals w1028 h1031 h1032 hW1030 hA1029
            refine obl rfl ?_
            exact fd38_0 rfl (fun vals' hv _ => ⟨rfl, hv⟩)
          · intro k1033 vals w1034 h1037 h1038 hW1036 hA1035
            have e1039 : vals 8 = (.pointer (some ⟨b6, 0, none⟩) : Value) := hA1035 8 (by decide)
            refine obl rfl ?_
            exact fd36_7 (show _ = (.pointer (some ⟨b6, 0, none⟩) : Value) from e1039) (fun vals' hv _ => ⟨rfl, hv⟩)
          · intro k1040 vals w1041 h1044 h1045 hW1043 hA1042
            obtain rfl : k1040 = 0 := Nat.le_antisymm h1045 h1044
            have hS1046 : Sep G W ((RowE (α := Row) own 31 v841 (shl l q)) :: (Blk b6 (e.cells de0).toArray 38) :: (Blk a #[.int .i64 (p.ptyp), .int .i64 (p.pfield), .int .i64 (p.pgroup), .int .i64 (p.pby), .int .i64 (p.pmake), v841] 60) :: Rs) w1041 := hW1043
            have e1047 : vals 9 = (.pointer (some ⟨b6, 8, none⟩) : Value) := hA1042 9 (by decide)
            refine obl rfl ?_
            exact ov_load1 (v := .int .i64 (e.ev.arg)) Try.isAgg3 (show _ = (.pointer (some ⟨b6, 8, none⟩) : Value) from e1047) (blk_cellL (hS1046.blk (i := 1) rfl) rfl) (fun vals' hv _ => ⟨rfl, hv⟩)
          · intro k932 vals w933 h936 h937 hW935 hA934
            obtain rfl : k932 = 0 := Nat.le_antisymm h937 h936
            have hS938 : Sep G W ((RowE (α := Row) own 31 v841 (shl l q)) :: (Blk b6 (e.cells de0).toArray 38) :: (Blk a #[.int .i64 (p.ptyp), .int .i64 (p.pfield), .int .i64 (p.pgroup), .int .i64 (p.pby), .int .i64 (p.pmake), v841] 60) :: Rs) w933 := hW935
            have e939 : vals 5 = (.pointer (some ⟨a, 0, none⟩) : Value) := hA934 5 (by decide)
            have e940 : vals 7 = (.agg ((⟨g2, 0, 0⟩ : Row).cells).toArray : Value) := hA934 7 (by decide)
            have e941 : vals 10 = (.int .i64 (e.ev.arg) : Value) := hA934 10 (by decide)
            refine obl rfl ?_
            have ok942 : Row.Ok (⟨g2, 0, 0⟩ : Row) := ⟨(show InR (g2) from hj779.2), (show InR (0) from (by decide)), (show InR (0) from (by decide))⟩
            have hS943 : Sep G W ((Blk a #[.int .i64 (p.ptyp), .int .i64 (p.pfield), .int .i64 (p.pgroup), .int .i64 (p.pby), .int .i64 (p.pmake), v841] 60) :: (RowE (α := Row) own 31 v841 (shl l q)) :: (Blk b6 (e.cells de0).toArray 38) :: Rs) w933 := hS938.sel 3 [2, 0, 1] (Nat.le_add_left _ _) rfl rfl
            refine (ov_call (f := 29) (vals := [.pointer (some ⟨a, 0, none⟩), .agg ((⟨g2, 0, 0⟩ : Row).cells).toArray, .int .i64 (e.ev.arg)]) (cap := []) (show _ = (.func (.func 29) #[] #[] : Value) from rfl) (mapL ⟨(show _ = (.pointer (some ⟨a, 0, none⟩) : Value) from e939), (show _ = (.agg ((⟨g2, 0, 0⟩ : Row).cells).toArray : Value) from e940), (show _ = (.int .i64 (e.ev.arg) : Value) from e941), trivial⟩) Try.call29 (D_one (q := (⟨g2, 0, 0⟩ : Row)) (arg := e.ev.arg) ok942 oe.ev.arg hS943 ((by first | exact hcnt _ (by omega) | exact (by decide : (0 : Int) ≤ 0 ∧ (0 : Int) < 4611686018427387904))) op1) ?_)
            rintro _ w945 ⟨rfl, hok944, hS946⟩
            intro vals' hv hv'
            refine ⟨?_, trivial⟩
            show (vals' 11 = (.agg ((oneR p (⟨g2, 0, 0⟩ : Row) e.ev.arg).cells).toArray : Value)) ∧ ((oneR p (⟨g2, 0, 0⟩ : Row) e.ev.arg).Ok) ∧ Sep G W ((Blk a #[.int .i64 (p.ptyp), .int .i64 (p.pfield), .int .i64 (p.pgroup), .int .i64 (p.pby), .int .i64 (p.pmake), v841] 60) :: (RowE (α := Row) own 31 v841 (shl l q)) :: (Blk b6 (e.cells de0).toArray 38) :: Rs) w945
            exact ⟨hv, hok944, hS946⟩
          · intro k1048 vals w1049 h1052 h1053 hW1051 hA1050
            obtain rfl : k1048 = 1 := Nat.le_antisymm h1053 h1052
            obtain ⟨he947, hok944, hS1054⟩ : (vals 11 = (.agg ((oneR p (⟨g2, 0, 0⟩ : Row) e.ev.arg).cells).toArray : Value)) ∧ ((oneR p (⟨g2, 0, 0⟩ : Row) e.ev.arg).Ok) ∧ Sep G W ((Blk a #[.int .i64 (p.ptyp), .int .i64 (p.pfield), .int .i64 (p.pgroup), .int .i64 (p.pby), .int .i64 (p.pmake), v841] 60) :: (RowE (α := Row) own 31 v841 (shl l q)) :: (Blk b6 (e.cells de0).toArray 38) :: Rs) w1049 := hW1051
            have e1055 : vals 3 = (v841 : Value) := hA1050 3 (by decide)
            have e1056 : vals 4 = (.int .i64 ((k : Nat) : Int) : Value) := hA1050 4 (by decide)
            refine obl rfl ?_
            have hi1057 : k < (shl l q).length := (by first | omega | (simp only [List.length_append, List.length_cons, List.length_nil, List.length_take, List.length_drop, List.length_set, List.length_replicate]; omega))
            exact ov_indexAddrN (k := 3) (i := k) Try.underlying28 Try.sizeOf31 (show _ = (v841 : Value) from e1055) hr855.1 (show _ = (.int .i64 ((k : Nat) : Int) : Value) from e1056) hi1057 (fun vals' hv _ => ⟨rfl, hv⟩)
          · intro k958 vals w959 h962 h963 hW961 hA960
            obtain rfl : k958 = 1 := Nat.le_antisymm h963 h962
            obtain ⟨he947, hok944, hS964⟩ : (vals 11 = (.agg ((oneR p (⟨g2, 0, 0⟩ : Row) e.ev.arg).cells).toArray : Value)) ∧ ((oneR p (⟨g2, 0, 0⟩ : Row) e.ev.arg).Ok) ∧ Sep G W ((Blk a #[.int .i64 (p.ptyp), .int .i64 (p.pfield), .int .i64 (p.pgroup), .int .i64 (p.pby), .int .i64 (p.pmake), v841] 60) :: (RowE (α := Row) own 31 v841 (shl l q)) :: (Blk b6 (e.cells de0).toArray 38) :: Rs) w959 := hW961
            have e965 : vals 12 = (.pointer (some ⟨sb v841, so v841 + k * 3, none⟩) : Value) := hA960 12 (by decide)
            refine obl rfl ?_
            have hS967 : Sep G W ((RowE (α := Row) own 31 v841 (shl l q)) :: (Blk a #[.int .i64 (p.ptyp), .int .i64 (p.pfield), .int .i64 (p.pgroup), .int .i64 (p.pby), .int .i64 (p.pmake), v841] 60) :: (Blk b6 (e.cells de0).toArray 38) :: Rs) w959 := hS964.sel 3 [1, 0, 2] (Nat.le_add_left _ _) rfl rfl
            have hS968 : Sep G W ((RowE (α := Row) own 31 v841 (shl l q)) :: Emp :: (Blk a #[.int .i64 (p.ptyp), .int .i64 (p.pfield), .int .i64 (p.pgroup), .int .i64 (p.pby), .int .i64 (p.pmake), v841] 60) :: (Blk b6 (e.cells de0).toArray 38) :: Rs) w959 := hS967.emp1
            refine (ov_storeS (α := Row) (j := k) (o := 0) (u := .agg ((oneR p (⟨g2, 0, 0⟩ : Row) e.ev.arg).cells).toArray) (us := (oneR p (⟨g2, 0, 0⟩ : Row) e.ev.arg).cells) (x1 := (oneR p (⟨g2, 0, 0⟩ : Row) e.ev.arg)) hS968 Try.sizeOf31 (by first | omega | (simp only [List.length_append, List.length_cons, List.length_nil, List.length_take, List.length_drop, List.length_set, List.length_replicate]; omega)) (show _ = (.pointer (some ⟨sb v841, so v841 + k * 3, none⟩) : Value) from e965) (show _ = (.agg ((oneR p (⟨g2, 0, 0⟩ : Row) e.ev.arg).cells).toArray : Value) from he947) rfl (Nat.le_of_ble_eq_true rfl) (all1 ⟨rfl, rfl, rfl, trivial⟩) (fun _ _ cs0 hel _ => (by have hl0 := Src.len _ hel; have e0 : cs0.take 0 ++ ((oneR p (⟨g2, 0, 0⟩ : Row) e.ev.arg).cells) ++ cs0.drop (0 + ((oneR p (⟨g2, 0, 0⟩ : Row) e.ev.arg).cells).length) = ((oneR p (⟨g2, 0, 0⟩ : Row) e.ev.arg).cells) := (by rw [List.drop_eq_nil_of_le (by rw [hl0]; exact Nat.le_of_ble_eq_true rfl)]; simp); rw [e0]; exact (show _ from ⟨rfl, hok944⟩))) ?_)
            intro w966 hS969
            have hr970 := hS969.row (i := 0) rfl
            have hr970s : ((shl l q).set k (oneR p (⟨g2, 0, 0⟩ : Row) e.ev.arg)).length * 24 ≤ 140737488355328 := hr970.2
            intro vals' hv hv'
            refine ⟨?_, trivial⟩
            show (vals' 11 = (.agg ((oneR p (⟨g2, 0, 0⟩ : Row) e.ev.arg).cells).toArray : Value)) ∧ ((oneR p (⟨g2, 0, 0⟩ : Row) e.ev.arg).Ok) ∧ Sep G W ((RowE (α := Row) own 31 v841 ((shl l q).set k (oneR p (⟨g2, 0, 0⟩ : Row) e.ev.arg))) :: (Blk a #[.int .i64 (p.ptyp), .int .i64 (p.pfield), .int .i64 (p.pgroup), .int .i64 (p.pby), .int .i64 (p.pmake), v841] 60) :: (Blk b6 (e.cells de0).toArray 38) :: Rs) w966
            exact ⟨(by rw [hv' 11 (by decide)]; exact he947), hok944, hS969⟩
          intro vals w1058 hW1059 hA1060
          obtain ⟨he947, hok944, hS1061⟩ : (vals 11 = (.agg ((oneR p (⟨g2, 0, 0⟩ : Row) e.ev.arg).cells).toArray : Value)) ∧ ((oneR p (⟨g2, 0, 0⟩ : Row) e.ev.arg).Ok) ∧ Sep G W ((RowE (α := Row) own 31 v841 ((shl l q).set k (oneR p (⟨g2, 0, 0⟩ : Row) e.ev.arg))) :: (Blk a #[.int .i64 (p.ptyp), .int .i64 (p.pfield), .int .i64 (p.pgroup), .int .i64 (p.pby), .int .i64 (p.pmake), v841] 60) :: (Blk b6 (e.cells de0).toArray 38) :: Rs) w1058 := hW1059
          refine st_env (kv := [(0, .pointer (some ⟨a, 0, none⟩)), (4, .pointer (some ⟨b6, 0, none⟩)), (6, .int .i64 (g2)), (7, .int .i64 ((k : Nat) : Int)), (8, .int .i64 ((q : Nat) : Int)), (142, .int .i64 ((q : Nat) : Int)), (143, .int .i64 ((k : Nat) : Int)), (144, .bool false)]) ⟨rfl, rfl, rfl, rfl, rfl, rfl, rfl, rfl, trivial⟩ (fun ρw1058 => ?_)
          refine st_nil ?_
          refine fin0 Try.results20 ?_
          have hS1062 : Sep G W ((Blk a #[.int .i64 (p.ptyp), .int .i64 (p.pfield), .int .i64 (p.pgroup), .int .i64 (p.pby), .int .i64 (p.pmake), v841] 60) :: (RowE (α := Row) own 31 v841 ((shl l q).set k (oneR p (⟨g2, 0, 0⟩ : Row) e.ev.arg))) :: (Blk b6 (e.cells de0).toArray 38) :: Rs) w1058 := hS1061.sel 3 [1, 0, 2] (Nat.le_add_left _ _) rfl rfl
          have hS1063 : Sep G W ((RefO a p ((shl l q).set k (oneR p (⟨g2, 0, 0⟩ : Row) e.ev.arg))) :: (Blk b6 (e.cells de0).toArray 38) :: Rs) w1058 := RefO.close (v := v841) op1 hS1062
          have hS1064 : Sep G W ((RefO a p ((shl l q).set k (oneR p (⟨g2, 0, 0⟩ : Row) e.ev.arg))) :: Rs) w1058 := hS1063.sel 2 [0] (Nat.le_add_left _ _) rfl rfl
          refine ⟨(shl l q).set k (oneR p (⟨g2, 0, 0⟩ : Row) e.ev.arg), rfl, ?_, hS1064⟩
          obtain ⟨⟨⟨⟨hv1, hv2⟩, hv3⟩, hv4⟩, hv5⟩ := hc774
          have hg : grpI p e.ev reg = some g2 := by
            rw [hj779.1, hj775.1]
            unfold grpI
            (repeat' split) <;> first | rfl | (congr 1; omega)
          have hqk : q = k := by omega
          subst hqk
          exact .inr ⟨⟨hv1, hv2, hv3, hv4, hv5⟩, g2, q, hg, by omega, hlt, .inr ⟨(by first | omega | (rcases hc834 with h | h; exact .inl (by omega); have := hc810; first | omega | skip)), rfl⟩⟩
        · skip
          have hc856 := of_decide_eq_true hc856
          refine WP_cond_t rfl ?_
          refine WP_skip ?_
          refine WP_seq ?_
          refine WP_block ?_
          refine WP_draw4 (WF [fun vals wq => Sep G W ((RowE (α := Row) own 31 v841 (shl l q)) :: (Blk b6 (e.cells de0).toArray 38) :: (Blk a #[.int .i64 (p.ptyp), .int .i64 (p.pfield), .int .i64 (p.pgroup), .int .i64 (p.pby), .int .i64 (p.pmake), v841] 60) :: Rs) wq, fun vals wq => Sep G W ((RowE (α := Row) own 31 v841 ((shl l q).set q ((shl l q).getD (q - 1) default))) :: (Blk b6 (e.cells de0).toArray 38) :: (Blk a #[.int .i64 (p.ptyp), .int .i64 (p.pfield), .int .i64 (p.pgroup), .int .i64 (p.pby), .int .i64 (p.pmake), v841] 60) :: Rs) wq]) (AF [fun vals => vals 0 = (.pointer (some ⟨a, 0, none⟩) : Value), fun vals => vals 1 = (.pointer (some ⟨a, 0, none⟩) : Value), fun vals => vals 2 = (.pointer (some ⟨a, 5, none⟩) : Value), fun vals => vals 3 = (v841 : Value), fun vals => vals 4 = (.int .i64 ((q : Nat) : Int) : Value), fun vals => vals 5 = (.pointer (some ⟨a, 0, none⟩) : Value), fun vals => vals 6 = (.pointer (some ⟨a, 0, none⟩) : Value), fun vals => vals 7 = (.pointer (some ⟨a, 5, none⟩) : Value), fun vals => vals 8 = (v841 : Value), fun vals => vals 9 = (.int .i64 ((q : Nat) : Int) : Value), fun vals => vals 10 = (.int .i64 ((q - 1 : Nat) : Int) : Value), fun vals => vals 11 = (.pointer (some ⟨sb v841, so v841 + (q - 1) * 3, none⟩) : Value), fun vals => vals 12 = (.agg (((shl l q).getD (q - 1) default).cells).toArray : Value), fun vals => vals 13 = (.pointer (some ⟨sb v841, so v841 + q * 3, none⟩) : Value), fun _ => True]) [[], [0], [0, 1], [0, 1, 2], [], [], [5], [5, 6], [5, 6, 7], [], [9], [5, 6, 7, 8, 9, 10], [5, 6, 7, 8, 9, 10, 11], [0, 1, 2, 3, 4, 5, 6, 7, 8, 9, 10, 11, 12], [0, 1, 2, 3, 4, 5, 6, 7, 8, 9, 10, 11, 12, 13]] [14] [(0, 0), (0, 0), (0, 0), (0, 0), (0, 0), (0, 0), (0, 0), (0, 0), (0, 0), (0, 0), (0, 0), (0, 0), (0, 0), (0, 0), (0, 0)] (by kernel_rfl) (by kernel_rfl) (by kernel_rfl) rfl (by kernel_rfl) (by kernel_rfl) (fun _ h1 h2 h3 h4 _ => hS854.same h1 h2 h3 h4) ?_ ?_ ⟨?_, ?_, ?_, ?_, ?_, ?_, ?_, ?_, ?_, ?_, ?_, ?_, ?_, ?_, ?_, trivial⟩ ?_
          · intro k vals vals' w hv h
            have e : ∀ j ∈ ([14] : List Nat), vals' j = vals j := hv
            match k, h with
            | 0, h => exact h
            | 1, h => exact h
            | _ + 2, _ => trivial
          · intro i vals vals' hv h
            match i, hv, h with
            | 0, hv, h => exact (hv 0 (.inl rfl)).trans h
            | 1, hv, h => exact (hv 1 (.inl rfl)).trans h
            | 2, hv, h => exact (hv 2 (.inl rfl)).trans h
            | 3, hv, h => exact (hv 3 (.inl rfl)).trans h
            | 4, hv, h => exact (hv 4 (.inl rfl)).trans h
            | 5, hv, h => exact (hv 5 (.inl rfl)).trans h
            | 6, hv, h => exact (hv 6 (.inl rfl)).trans h
            | 7, hv, h => exact (hv 7 (.inl rfl)).trans h
            | 8, hv, h => exact (hv 8 (.inl rfl)).trans h
            | 9, hv, h => exact (hv 9 (.inl rfl)).trans h
            | 10, hv, h => exact (hv 10 (.inl rfl)).trans h
            | 11, hv, h => exact (hv 11 (.inl rfl)).trans h
            | 12, hv, h => exact (hv 12 (.inl rfl)).trans h
            | 13, hv, h => exact (hv 13 (.inl rfl)).trans h
            | 14, _, _ => trivial
            | _ + 15, _, _ => trivial
          · intro k1187 vals w1188 h1191 h1192 hW1190 hA1189
            refine obl rfl ?_
            exact ov_move (v := .pointer (some ⟨a, 0, none⟩)) rfl (fun vals' hv _ => ⟨rfl, hv⟩)
          · intro k1193 vals w1194 h1197 h1198 hW1196 hA1195
            have e1199 : vals 0 = (.pointer (some ⟨a, 0, none⟩) : Value) := hA1195 0 (by decide)
            refine obl rfl ?_
            exact ov_nilCheck (b := a) (o := 0) (show _ = (.pointer (some ⟨a, 0, none⟩) : Value) from e1199) (fun vals' hv _ => ⟨rfl, hv⟩)
          · intro k1200 vals w1201 h1204 h1205 hW1203 hA1202
            have e1206 : vals 1 = (.pointer (some ⟨a, 0, none⟩) : Value) := hA1202 1 (by decide)
            refine obl rfl ?_
            exact fd60_1 (show _ = (.pointer (some ⟨a, 0, none⟩) : Value) from e1206) (fun vals' hv _ => ⟨rfl, hv⟩)
          · intro k1207 vals w1208 h1211 h1212 hW1210 hA1209
            obtain rfl : k1207 = 0 := Nat.le_antisymm h1212 h1211
            have hS1213 : Sep G W ((RowE (α := Row) own 31 v841 (shl l q)) :: (Blk b6 (e.cells de0).toArray 38) :: (Blk a #[.int .i64 (p.ptyp), .int .i64 (p.pfield), .int .i64 (p.pgroup), .int .i64 (p.pby), .int .i64 (p.pmake), v841] 60) :: Rs) w1208 := hW1210
            have e1214 : vals 2 = (.pointer (some ⟨a, 5, none⟩) : Value) := hA1209 2 (by decide)
            refine obl rfl ?_
            exact ov_load1 (v := v841) Try.isAgg28 (show _ = (.pointer (some ⟨a, 5, none⟩) : Value) from e1214) (blk_cellL (hS1213.blk (i := 2) rfl) rfl) (fun vals' hv _ => ⟨rfl, hv⟩)
          · intro k1215 vals w1216 h1219 h1220 hW1218 hA1217
            refine obl rfl ?_
            exact ov_move (v := .int .i64 ((q : Nat) : Int)) rfl (fun vals' hv _ => ⟨rfl, hv⟩)
          · intro k1221 vals w1222 h1225 h1226 hW1224 hA1223
            refine obl rfl ?_
            exact ov_move (v := .pointer (some ⟨a, 0, none⟩)) rfl (fun vals' hv _ => ⟨rfl, hv⟩)
          · intro k1227 vals w1228 h1231 h1232 hW1230 hA1229
            have e1233 : vals 5 = (.pointer (some ⟨a, 0, none⟩) : Value) := hA1229 5 (by decide)
            refine obl rfl ?_
            exact ov_nilCheck (b := a) (o := 0) (show _ = (.pointer (some ⟨a, 0, none⟩) : Value) from e1233) (fun vals' hv _ => ⟨rfl, hv⟩)
          · intro k1234 vals w1235 h1238 h1239 hW1237 hA1236
            have e1240 : vals 6 = (.pointer (some ⟨a, 0, none⟩) : Value) := hA1236 6 (by decide)
            refine obl rfl ?_
            exact fd60_1 (show _ = (.pointer (some ⟨a, 0, none⟩) : Value) from e1240) (fun vals' hv _ => ⟨rfl, hv⟩)
          · intro k1241 vals w1242 h1245 h1246 hW1244 hA1243
            obtain rfl : k1241 = 0 := Nat.le_antisymm h1246 h1245
            have hS1247 : Sep G W ((RowE (α := Row) own 31 v841 (shl l q)) :: (Blk b6 (e.cells de0).toArray 38) :: (Blk a #[.int .i64 (p.ptyp), .int .i64 (p.pfield), .int .i64 (p.pgroup), .int .i64 (p.pby), .int .i64 (p.pmake), v841] 60) :: Rs) w1242 := hW1244
            have e1248 : vals 7 = (.pointer (some ⟨a, 5, none⟩) : Value) := hA1243 7 (by decide)
            refine obl rfl ?_
            exact ov_load1 (v := v841) Try.isAgg28 (show _ = (.pointer (some ⟨a, 5, none⟩) : Value) from e1248) (blk_cellL (hS1247.blk (i := 2) rfl) rfl) (fun vals' hv _ => ⟨rfl, hv⟩)
          · intro k1249 vals w1250 h1253 h1254 hW1252 hA1251
            refine obl rfl ?_
            exact ov_move (v := .int .i64 ((q : Nat) : Int)) rfl (fun vals' hv _ => ⟨rfl, hv⟩)
          · intro k1255 vals w1256 h1259 h1260 hW1258 hA1257
            obtain rfl : k1255 = 0 := Nat.le_antisymm h1260 h1259
            have hS1261 : Sep G W ((RowE (α := Row) own 31 v841 (shl l q)) :: (Blk b6 (e.cells de0).toArray 38) :: (Blk a #[.int .i64 (p.ptyp), .int .i64 (p.pfield), .int .i64 (p.pgroup), .int .i64 (p.pby), .int .i64 (p.pmake), v841] 60) :: Rs) w1256 := hW1258
            have e1262 : vals 9 = (.int .i64 ((q : Nat) : Int) : Value) := hA1257 9 (by decide)
            refine obl rfl ?_
            have hr1263 : InR ((q - 1 : Nat) : Int) := by first | omega | (simp only [List.length_append, List.length_cons, List.length_nil, List.length_take, List.length_drop, List.length_set, List.length_replicate]; omega)
            exact ov_sub (r := ((q - 1 : Nat) : Int)) (k := .i64) (a := ((q : Nat) : Int)) (b := 1) (show _ = (.int .i64 ((q : Nat) : Int) : Value) from e1262) rfl (by rw [show (((q : Nat) : Int) - 1 : Int) = ((q - 1 : Nat) : Int) by first | omega | (simp only [List.length_append, List.length_cons, List.length_nil, List.length_take, List.length_drop, List.length_set, List.length_replicate]; omega)]; exact wrap_in hr1263) (fun vals' hv _ => ⟨rfl, hv⟩)
          · intro k1264 vals w1265 h1268 h1269 hW1267 hA1266
            obtain rfl : k1264 = 0 := Nat.le_antisymm h1269 h1268
            have hS1270 : Sep G W ((RowE (α := Row) own 31 v841 (shl l q)) :: (Blk b6 (e.cells de0).toArray 38) :: (Blk a #[.int .i64 (p.ptyp), .int .i64 (p.pfield), .int .i64 (p.pgroup), .int .i64 (p.pby), .int .i64 (p.pmake), v841] 60) :: Rs) w1265 := hW1267
            have e1271 : vals 8 = (v841 : Value) := hA1266 8 (by decide)
            have e1272 : vals 10 = (.int .i64 ((q - 1 : Nat) : Int) : Value) := hA1266 10 (by decide)
            refine obl rfl ?_
            have hi1273 : q - 1 < (shl l q).length := (by first | omega | (simp only [List.length_append, List.length_cons, List.length_nil, List.length_take, List.length_drop, List.length_set, List.length_replicate]; omega))
            exact ov_indexAddrN (k := 3) (i := q - 1) Try.underlying28 Try.sizeOf31 (show _ = (v841 : Value) from e1271) hr855.1 (show _ = (.int .i64 ((q - 1 : Nat) : Int) : Value) from e1272) hi1273 (fun vals' hv _ => ⟨rfl, hv⟩)
          · intro k1274 vals w1275 h1278 h1279 hW1277 hA1276
            obtain rfl : k1274 = 0 := Nat.le_antisymm h1279 h1278
            have hS1280 : Sep G W ((RowE (α := Row) own 31 v841 (shl l q)) :: (Blk b6 (e.cells de0).toArray 38) :: (Blk a #[.int .i64 (p.ptyp), .int .i64 (p.pfield), .int .i64 (p.pgroup), .int .i64 (p.pby), .int .i64 (p.pmake), v841] 60) :: Rs) w1275 := hW1277
            have e1281 : vals 11 = (.pointer (some ⟨sb v841, so v841 + (q - 1) * 3, none⟩) : Value) := hA1276 11 (by decide)
            refine obl rfl ?_
            have hi1283 : q - 1 < (shl l q).length := (by first | omega | (simp only [List.length_append, List.length_cons, List.length_nil, List.length_take, List.length_drop, List.length_set, List.length_replicate]; omega))
            obtain ⟨_, _, hce1282, rfl, hoke1282⟩ := hS1280.rowAt (i := 0) (j := q - 1) rfl hi1283
            rw [← getD_at default hi1283] at hce1282 hoke1282
            exact ov_loadk (k := 3) Try.isAgg31 Try.sizeOf31 rfl (show _ = (.pointer (some ⟨sb v841, so v841 + (q - 1) * 3, none⟩) : Value) from e1281) hce1282 (fun vals' hv _ => ⟨rfl, hv⟩)
          · intro k1284 vals w1285 h1288 h1289 hW1287 hA1286
            obtain rfl : k1284 = 0 := Nat.le_antisymm h1289 h1288
            have hS1290 : Sep G W ((RowE (α := Row) own 31 v841 (shl l q)) :: (Blk b6 (e.cells de0).toArray 38) :: (Blk a #[.int .i64 (p.ptyp), .int .i64 (p.pfield), .int .i64 (p.pgroup), .int .i64 (p.pby), .int .i64 (p.pmake), v841] 60) :: Rs) w1285 := hW1287
            have e1291 : vals 3 = (v841 : Value) := hA1286 3 (by decide)
            have e1292 : vals 4 = (.int .i64 ((q : Nat) : Int) : Value) := hA1286 4 (by decide)
            refine obl rfl ?_
            have hi1293 : q < (shl l q).length := (by first | omega | (simp only [List.length_append, List.length_cons, List.length_nil, List.length_take, List.length_drop, List.length_set, List.length_replicate]; omega))
            exact ov_indexAddrN (k := 3) (i := q) Try.underlying28 Try.sizeOf31 (show _ = (v841 : Value) from e1291) hr855.1 (show _ = (.int .i64 ((q : Nat) : Int) : Value) from e1292) hi1293 (fun vals' hv _ => ⟨rfl, hv⟩)
          · intro k1172 vals w1173 h1176 h1177 hW1175 hA1174
            obtain rfl : k1172 = 0 := Nat.le_antisymm h1177 h1176
            have hS1178 : Sep G W ((RowE (α := Row) own 31 v841 (shl l q)) :: (Blk b6 (e.cells de0).toArray 38) :: (Blk a #[.int .i64 (p.ptyp), .int .i64 (p.pfield), .int .i64 (p.pgroup), .int .i64 (p.pby), .int .i64 (p.pmake), v841] 60) :: Rs) w1173 := hW1175
            have e1179 : vals 12 = (.agg (((shl l q).getD (q - 1) default).cells).toArray : Value) := hA1174 12 (by decide)
            have e1180 : vals 13 = (.pointer (some ⟨sb v841, so v841 + q * 3, none⟩) : Value) := hA1174 13 (by decide)
            refine obl rfl ?_
            have hS1182 : Sep G W ((RowE (α := Row) own 31 v841 (shl l q)) :: Emp :: (Blk b6 (e.cells de0).toArray 38) :: (Blk a #[.int .i64 (p.ptyp), .int .i64 (p.pfield), .int .i64 (p.pgroup), .int .i64 (p.pby), .int .i64 (p.pmake), v841] 60) :: Rs) w1173 := hS1178.emp1
            have hi1184 : q - 1 < (shl l q).length := (by first | omega | (simp only [List.length_append, List.length_cons, List.length_nil, List.length_take, List.length_drop, List.length_set, List.length_replicate]; omega))
            obtain ⟨_, _, hce1183, rfl, hoke1183⟩ := hS1182.rowAt (i := 0) (j := q - 1) rfl hi1184
            rw [← getD_at default hi1184] at hce1183 hoke1183
            refine (ov_storeS (α := Row) (j := q) (o := 0) (u := .agg (((shl l q).getD (q - 1) default).cells).toArray) (us := ((shl l q).getD (q - 1) default).cells) (x1 := ((shl l q).getD (q - 1) default)) hS1182 Try.sizeOf31 (by first | omega | (simp only [List.length_append, List.length_cons, List.length_nil, List.length_take, List.length_drop, List.length_set, List.length_replicate]; omega)) (show _ = (.pointer (some ⟨sb v841, so v841 + q * 3, none⟩) : Value) from e1180) (show _ = (.agg (((shl l q).getD (q - 1) default).cells).toArray : Value) from e1179) rfl (Nat.le_of_ble_eq_true rfl) (all1 ⟨rfl, rfl, rfl, trivial⟩) (fun _ _ cs0 hel _ => (by have hl0 := Src.len _ hel; have e0 : cs0.take 0 ++ (((shl l q).getD (q - 1) default).cells) ++ cs0.drop (0 + (((shl l q).getD (q - 1) default).cells).length) = (((shl l q).getD (q - 1) default).cells) := (by rw [List.drop_eq_nil_of_le (by rw [hl0]; exact Nat.le_of_ble_eq_true rfl)]; simp); rw [e0]; exact (show _ from ⟨rfl, hoke1183⟩))) ?_)
            intro w1181 hS1185
            have hr1186 := hS1185.row (i := 0) rfl
            have hr1186s : ((shl l q).set q ((shl l q).getD (q - 1) default)).length * 24 ≤ 140737488355328 := hr1186.2
            intro vals' hv hv'
            refine ⟨?_, trivial⟩
            show Sep G W ((RowE (α := Row) own 31 v841 ((shl l q).set q ((shl l q).getD (q - 1) default))) :: (Blk b6 (e.cells de0).toArray 38) :: (Blk a #[.int .i64 (p.ptyp), .int .i64 (p.pfield), .int .i64 (p.pgroup), .int .i64 (p.pby), .int .i64 (p.pmake), v841] 60) :: Rs) w1181
            exact hS1185
          intro vals w1294 hW1295 hA1296
          have hS1297 : Sep G W ((RowE (α := Row) own 31 v841 ((shl l q).set q ((shl l q).getD (q - 1) default))) :: (Blk b6 (e.cells de0).toArray 38) :: (Blk a #[.int .i64 (p.ptyp), .int .i64 (p.pfield), .int .i64 (p.pgroup), .int .i64 (p.pby), .int .i64 (p.pmake), v841] 60) :: Rs) w1294 := hW1295
          refine st_env (kv := [(0, .pointer (some ⟨a, 0, none⟩)), (4, .pointer (some ⟨b6, 0, none⟩)), (6, .int .i64 (g2)), (7, .int .i64 ((k : Nat) : Int)), (8, .int .i64 ((q : Nat) : Int)), (142, .int .i64 ((q : Nat) : Int)), (143, .int .i64 ((k : Nat) : Int)), (144, .bool true)]) ⟨rfl, rfl, rfl, rfl, rfl, rfl, rfl, rfl, trivial⟩ (fun ρw1294 => ?_)
          refine st_nil ?_
          refine WP_region0 (by kernel_rfl) (fun _ => ?_)
          refine st (ov_move (v := .int .i64 ((q : Nat) : Int)) rfl ?_)
          have hr1298 : InR ((q - 1 : Nat) : Int) := by first | omega | (simp only [List.length_append, List.length_cons, List.length_nil, List.length_take, List.length_drop, List.length_set, List.length_replicate]; omega)
          refine st (ov_sub (r := ((q - 1 : Nat) : Int)) (k := .i64) (a := ((q : Nat) : Int)) (b := 1) rfl rfl (by rw [show (((q : Nat) : Int) - 1 : Int) = ((q - 1 : Nat) : Int) by first | omega | (simp only [List.length_append, List.length_cons, List.length_nil, List.length_take, List.length_drop, List.length_set, List.length_replicate]; omega)]; exact wrap_in hr1298) ?_)
          refine st (ov_assign (v := .int .i64 ((q - 1 : Nat) : Int)) rfl ?_)
          refine st_nil ?_
          rw [shl_step (by omega) (by omega)] at hS1297
          exact ⟨_, by omega, q - 1, _, rfl, setAll_self ⟨rfl, rfl, rfl, rfl, rfl, trivial⟩, by omega, hS1297⟩
      · skip
        simp only [Bool.and_eq_true, Bool.or_eq_true, Bool.and_eq_false_iff, Bool.or_eq_false_iff, decide_eq_true_eq, decide_eq_false_iff_not, Bool.not_eq_true', Bool.not_eq_false', Int.not_lt, Int.not_le] at hc834
        refine WP_cond_t rfl ?_
        refine WP_seq ?_
        refine WP_draw4 (WF [fun vals wq => Sep G W ((Blk b6 (e.cells de0).toArray 38) :: (Blk a #[.int .i64 (p.ptyp), .int .i64 (p.pfield), .int .i64 (p.pgroup), .int .i64 (p.pby), .int .i64 (p.pmake), v2] 60) :: (RowE (α := Row) own 31 v2 l) :: Rs) wq, fun vals wq => (vals 16 = (.agg ((oneR p (l.getD k default) e.ev.arg).cells).toArray : Value)) ∧ ((oneR p (l.getD k default) e.ev.arg).Ok) ∧ Sep G W ((Blk a #[.int .i64 (p.ptyp), .int .i64 (p.pfield), .int .i64 (p.pgroup), .int .i64 (p.pby), .int .i64 (p.pmake), v2] 60) :: (Blk b6 (e.cells de0).toArray 38) :: (RowE (α := Row) own 31 v2 l) :: Rs) wq, fun vals wq => (vals 16 = (.agg ((oneR p (l.getD k default) e.ev.arg).cells).toArray : Value)) ∧ ((oneR p (l.getD k default) e.ev.arg).Ok) ∧ Sep G W ((RowE (α := Row) own 31 v2 (l.set k (oneR p (l.getD k default) e.ev.arg))) :: (Blk a #[.int .i64 (p.ptyp), .int .i64 (p.pfield), .int .i64 (p.pgroup), .int .i64 (p.pby), .int .i64 (p.pmake), v2] 60) :: (Blk b6 (e.cells de0).toArray 38) :: Rs) wq]) (AF [fun vals => vals 0 = (.pointer (some ⟨a, 0, none⟩) : Value), fun vals => vals 1 = (.pointer (some ⟨a, 0, none⟩) : Value), fun vals => vals 2 = (.pointer (some ⟨a, 5, none⟩) : Value), fun vals => vals 3 = (v2 : Value), fun vals => vals 4 = (.int .i64 ((k : Nat) : Int) : Value), fun vals => vals 5 = (.pointer (some ⟨a, 0, none⟩) : Value), fun vals => vals 6 = (.pointer (some ⟨a, 0, none⟩) : Value), fun vals => vals 7 = (.pointer (some ⟨a, 0, none⟩) : Value), fun vals => vals 8 = (.pointer (some ⟨a, 5, none⟩) : Value), fun vals => vals 9 = (v2 : Value), fun vals => vals 10 = (.int .i64 ((k : Nat) : Int) : Value), fun vals => vals 11 = (.pointer (some ⟨sb v2, so v2 + k * 3, none⟩) : Value), fun vals => vals 12 = (.agg ((l.getD k default).cells).toArray : Value), fun vals => vals 13 = (.pointer (some ⟨b6, 0, none⟩) : Value), fun vals => vals 14 = (.pointer (some ⟨b6, 8, none⟩) : Value), fun vals => vals 15 = (.int .i64 (e.ev.arg) : Value), fun _ => True, fun vals => vals 17 = (.pointer (some ⟨sb v2, so v2 + k * 3, none⟩) : Value), fun _ => True]) [[], [0], [0, 1], [0, 1, 2], [], [], [], [6], [6, 7], [6, 7, 8], [], [6, 7, 8, 9, 10], [6, 7, 8, 9, 10, 11], [], [13], [13, 14], [5, 6, 7, 8, 9, 10, 11, 12, 13, 14, 15], [0, 1, 2, 3, 4, 5, 6, 7, 8, 9, 10, 11, 12, 13, 14, 15, 16], [0, 1, 2, 3, 4, 5, 6, 7, 8, 9, 10, 11, 12, 13, 14, 15, 16, 17]] [16, 18] [(0, 1), (0, 1), (0, 1), (0, 1), (0, 1), (0, 0), (0, 0), (0, 0), (0, 0), (0, 0), (0, 0), (0, 0), (0, 0), (0, 0), (0, 0), (0, 0), (0, 0), (1, 1), (1, 1)] (by kernel_rfl) (by kernel_rfl) (by kernel_rfl) rfl (by kernel_rfl) (by kernel_rfl) (fun _ h1 h2 h3 h4 _ => hS786.same h1 h2 h3 h4) ?_ ?_ ⟨?_, ?_, ?_, ?_, ?_, ?_, ?_, ?_, ?_, ?_, ?_, ?_, ?_, ?_, ?_, ?_, ?_, ?_, ?_, trivial⟩ ?_
        · intro k vals vals' w hv h
          have e : ∀ j ∈ ([16, 18] : List Nat), vals' j = vals j := hv
          match k, h with
          | 0, h => exact h
          | 1, h => exact (by simpa only [WF, List.getElem?_cons_zero, List.getElem?_cons_succ, e 16 (by decide)] using h)
          | 2, h => exact (by simpa only [WF, List.getElem?_cons_zero, List.getElem?_cons_succ, e 16 (by decide)] using h)
          | _ + 3, _ => trivial
        · intro i vals vals' hv h
          match i, hv, h with
          | 0, hv, h => exact (hv 0 (.inl rfl)).trans h
          | 1, hv, h => exact (hv 1 (.inl rfl)).trans h
          | 2, hv, h => exact (hv 2 (.inl rfl)).trans h
          | 3, hv, h => exact (hv 3 (.inl rfl)).trans h
          | 4, hv, h => exact (hv 4 (.inl rfl)).trans h
          | 5, hv, h => exact (hv 5 (.inl rfl)).trans h
          | 6, hv, h => exact (hv 6 (.inl rfl)).trans h
          | 7, hv, h => exact (hv 7 (.inl rfl)).trans h
          | 8, hv, h => exact (hv 8 (.inl rfl)).trans h
          | 9, hv, h => exact (hv 9 (.inl rfl)).trans h
          | 10, hv, h => exact (hv 10 (.inl rfl)).trans h
          | 11, hv, h => exact (hv 11 (.inl rfl)).trans h
          | 12, hv, h => exact (hv 12 (.inl rfl)).trans h
          | 13, hv, h => exact (hv 13 (.inl rfl)).trans h
          | 14, hv, h => exact (hv 14 (.inl rfl)).trans h
          | 15, hv, h => exact (hv 15 (.inl rfl)).trans h
          | 16, _, _ => trivial
          | 17, hv, h => exact (hv 17 (.inl rfl)).trans h
          | 18, _, _ => trivial
          | _ + 19, _, _ => trivial
        · intro k1454 vals w1455 h1458 h1459 hW1457 hA1456
          refine obl rfl ?_
          exact ov_move (v := .pointer (some ⟨a, 0, none⟩)) rfl (fun vals' hv _ => ⟨rfl, hv⟩)
        · intro k1460 vals w1461 h1464 h1465 hW1463 hA1462
          have e1466 : vals 0 = (.pointer (some ⟨a, 0, none⟩) : Value) := hA1462 0 (by decide)
          refine obl rfl ?_
          exact ov_nilCheck (b := a) (o := 0) (show _ = (.pointer (some ⟨a, 0, none⟩) : Value) from e1466) (fun vals' hv _ => ⟨rfl, hv⟩)
        · intro k1467 vals w1468 h1471 h1472 hW1470 hA1469
          have e1473 : vals 1 = (.pointer (some ⟨a, 0, none⟩) : Value) := hA1469 1 (by decide)
          refine obl rfl ?_
          exact fd60_1 (show _ = (.pointer (some ⟨a, 0, none⟩) : Value) from e1473) (fun vals' hv _ => ⟨rfl, hv⟩)
        · intro k1474 vals w1475 h1478 h1479 hW1477 hA1476
          have hkk : k1474 = 0 ∨ k1474 = 1 := by have h1 : 0 ≤ k1474 := h1478; have h2 : k1474 ≤ 1 := h1479; omega
          rcases hkk with rfl | rfl
          · skip
            have hS1480 : Sep G W ((Blk b6 (e.cells de0).toArray 38) :: (Blk a #[.int .i64 (p.ptyp), .int .i64 (p.pfield), .int .i64 (p.pgroup), .int .i64 (p.pby), .int .i64 (p.pmake), v2] 60) :: (RowE (α := Row) own 31 v2 l) :: Rs) w1475 := hW1477
            have e1481 : vals 2 = (.pointer (some ⟨a, 5, none⟩) : Value) := hA1476 2 (by decide)
            refine obl rfl ?_
            exact ov_load1 (v := v2) Try.isAgg28 (show _ = (.pointer (some ⟨a, 5, none⟩) : Value) from e1481) (blk_cellL (hS1480.blk (i := 1) rfl) rfl) (fun vals' hv _ => ⟨rfl, hv⟩)
          · skip
            obtain ⟨he1430, hok1427, hS1482⟩ : (vals 16 = (.agg ((oneR p (l.getD k default) e.ev.arg).cells).toArray : Value)) ∧ ((oneR p (l.getD k default) e.ev.arg).Ok) ∧ Sep G W ((Blk a #[.int .i64 (p.ptyp), .int .i64 (p.pfield), .int .i64 (p.pgroup), .int .i64 (p.pby), .int .i64 (p.pmake), v2] 60) :: (Blk b6 (e.cells de0).toArray 38) :: (RowE (α := Row) own 31 v2 l) :: Rs) w1475 := hW1477
            have e1483 : vals 2 = (.pointer (some ⟨a, 5, none⟩) : Value) := hA1476 2 (by decide)
            refine obl rfl ?_
            exact ov_load1 (v := v2) Try.isAgg28 (show _ = (.pointer (some ⟨a, 5, none⟩) : Value) from e1483) (blk_cellL (hS1482.blk (i := 0) rfl) rfl) (fun vals' hv _ => ⟨rfl, hv⟩)
        · intro k1484 vals w1485 h1488 h1489 hW1487 hA1486
          refine obl rfl ?_
          exact ov_move (v := .int .i64 ((k : Nat) : Int)) rfl (fun vals' hv _ => ⟨rfl, hv⟩)
        · intro k1490 vals w1491 h1494 h1495 hW1493 hA1492
          refine obl rfl ?_
          exact ov_move (v := .pointer (some ⟨a, 0, none⟩)) rfl (fun vals' hv _ => ⟨rfl, hv⟩)
        · intro k1496 vals w1497 h1500 h1501 hW1499 hA1498
          refine obl rfl ?_
          exact ov_move (v := .pointer (some ⟨a, 0, none⟩)) rfl (fun vals' hv _ => ⟨rfl, hv⟩)
        · intro k1502 vals w1503 h1506 h1507 hW1505 hA1504
          have e1508 : vals 6 = (.pointer (some ⟨a, 0, none⟩) : Value) := hA1504 6 (by decide)
          refine obl rfl ?_
          exact ov_nilCheck (b := a) (o := 0) (show _ = (.pointer (some ⟨a, 0, none⟩) : Value) from e1508) (fun vals' hv _ => ⟨rfl, hv⟩)
        · intro k1509 vals w1510 h1513 h1514 hW1512 hA1511
          have e1515 : vals 7 = (.pointer (some ⟨a, 0, none⟩) : Value) := hA1511 7 (by decide)
          refine obl rfl ?_
          exact fd60_1 (show _ = (.pointer (some ⟨a, 0, none⟩) : Value) from e1515) (fun vals' hv _ => ⟨rfl, hv⟩)
        · intro k1516 vals w1517 h1520 h1521 hW1519 hA1518
          obtain rfl : k1516 = 0 := Nat.le_antisymm h1521 h1520
          have hS1522 : Sep G W ((Blk b6 (e.cells de0).toArray 38) :: (Blk a #[.int .i64 (p.ptyp), .int .i64 (p.pfield), .int .i64 (p.pgroup), .int .i64 (p.pby), .int .i64 (p.pmake), v2] 60) :: (RowE (α := Row) own 31 v2 l) :: Rs) w1517 := hW1519
          have e1523 : vals 8 = (.pointer (some ⟨a, 5, none⟩) : Value) := hA1518 8 (by decide)
          refine obl rfl ?_
          exact ov_load1 (v := v2) Try.isAgg28 (show _ = (.pointer (some ⟨a, 5, none⟩) : Value) from e1523) (blk_cellL (hS1522.blk (i := 1) rfl) rfl) (fun vals' hv _ => ⟨rfl, hv⟩)
        · intro k1524 vals w1525 h1528 h1529 hW1527 hA1526
          refine obl rfl ?_
          exact ov_move (v := .int .i64 ((k : Nat) : Int)) rfl (fun vals' hv _ => ⟨rfl, hv⟩)
        · intro k1530 vals w1531 h1534 h1535 hW1533 hA1532
          obtain rfl : k1530 = 0 := Nat.le_antisymm h1535 h1534
          have hS1536 : Sep G W ((Blk b6 (e.cells de0).toArray 38) :: (Blk a #[.int .i64 (p.ptyp), .int .i64 (p.pfield), .int .i64 (p.pgroup), .int .i64 (p.pby), .int .i64 (p.pmake), v2] 60) :: (RowE (α := Row) own 31 v2 l) :: Rs) w1531 := hW1533
          have e1537 : vals 9 = (v2 : Value) := hA1532 9 (by decide)
          have e1538 : vals 10 = (.int .i64 ((k : Nat) : Int) : Value) := hA1532 10 (by decide)
          refine obl rfl ?_
          have hi1539 : k < l.length := (by first | omega | (simp only [List.length_append, List.length_cons, List.length_nil, List.length_take, List.length_drop, List.length_set, List.length_replicate]; omega))
          exact ov_indexAddrN (k := 3) (i := k) Try.underlying28 Try.sizeOf31 (show _ = (v2 : Value) from e1537) hr4.1 (show _ = (.int .i64 ((k : Nat) : Int) : Value) from e1538) hi1539 (fun vals' hv _ => ⟨rfl, hv⟩)
        · intro k1540 vals w1541 h1544 h1545 hW1543 hA1542
          obtain rfl : k1540 = 0 := Nat.le_antisymm h1545 h1544
          have hS1546 : Sep G W ((Blk b6 (e.cells de0).toArray 38) :: (Blk a #[.int .i64 (p.ptyp), .int .i64 (p.pfield), .int .i64 (p.pgroup), .int .i64 (p.pby), .int .i64 (p.pmake), v2] 60) :: (RowE (α := Row) own 31 v2 l) :: Rs) w1541 := hW1543
          have e1547 : vals 11 = (.pointer (some ⟨sb v2, so v2 + k * 3, none⟩) : Value) := hA1542 11 (by decide)
          refine obl rfl ?_
          have hi1549 : k < l.length := (by first | omega | (simp only [List.length_append, List.length_cons, List.length_nil, List.length_take, List.length_drop, List.length_set, List.length_replicate]; omega))
          obtain ⟨_, _, hce1548, rfl, hoke1548⟩ := hS1546.rowAt (i := 2) (j := k) rfl hi1549
          rw [← getD_at default hi1549] at hce1548 hoke1548
          exact ov_loadk (k := 3) Try.isAgg31 Try.sizeOf31 rfl (show _ = (.pointer (some ⟨sb v2, so v2 + k * 3, none⟩) : Value) from e1547) hce1548 (fun vals' hv _ => ⟨rfl, hv⟩)
        · intro k1550 vals w1551 h1554 h1555 hW1553 hA1552
          refine obl rfl ?_
          exact fd38_0 rfl (fun vals' hv _ => ⟨rfl, hv⟩)
        · intro k1556 vals w1557 h1560 h1561 hW1559 hA1558
          have e1562 : vals 13 = (.pointer (some ⟨b6, 0, none⟩) : Value) := hA1558 13 (by decide)
          refine obl rfl ?_
          exact fd36_7 (show _ = (.pointer (some ⟨b6, 0, none⟩) : Value) from e1562) (fun vals' hv _ => ⟨rfl, hv⟩)
        · intro k1563 vals w1564 h1567 h1568 hW1566 hA1565
          obtain rfl : k1563 = 0 := Nat.le_antisymm h1568 h1567
          have hS1569 : Sep G W ((Blk b6 (e.cells de0).toArray 38) :: (Blk a #[.int .i64 (p.ptyp), .int .i64 (p.pfield), .int .i64 (p.pgroup), .int .i64 (p.pby), .int .i64 (p.pmake), v2] 60) :: (RowE (α := Row) own 31 v2 l) :: Rs) w1564 := hW1566
          have e1570 : vals 14 = (.pointer (some ⟨b6, 8, none⟩) : Value) := hA1565 14 (by decide)
          refine obl rfl ?_
          exact ov_load1 (v := .int .i64 (e.ev.arg)) Try.isAgg3 (show _ = (.pointer (some ⟨b6, 8, none⟩) : Value) from e1570) (blk_cellL (hS1569.blk (i := 0) rfl) rfl) (fun vals' hv _ => ⟨rfl, hv⟩)
        · intro k1414 vals w1415 h1418 h1419 hW1417 hA1416
          obtain rfl : k1414 = 0 := Nat.le_antisymm h1419 h1418
          have hS1420 : Sep G W ((Blk b6 (e.cells de0).toArray 38) :: (Blk a #[.int .i64 (p.ptyp), .int .i64 (p.pfield), .int .i64 (p.pgroup), .int .i64 (p.pby), .int .i64 (p.pmake), v2] 60) :: (RowE (α := Row) own 31 v2 l) :: Rs) w1415 := hW1417
          have e1421 : vals 5 = (.pointer (some ⟨a, 0, none⟩) : Value) := hA1416 5 (by decide)
          have e1422 : vals 12 = (.agg ((l.getD k default).cells).toArray : Value) := hA1416 12 (by decide)
          have e1423 : vals 15 = (.int .i64 (e.ev.arg) : Value) := hA1416 15 (by decide)
          refine obl rfl ?_
          have hi1425 : k < l.length := (by first | omega | (simp only [List.length_append, List.length_cons, List.length_nil, List.length_take, List.length_drop, List.length_set, List.length_replicate]; omega))
          obtain ⟨_, _, hce1424, rfl, hoke1424⟩ := hS1420.rowAt (i := 2) (j := k) rfl hi1425
          rw [← getD_at default hi1425] at hce1424 hoke1424
          have hS1426 : Sep G W ((Blk a #[.int .i64 (p.ptyp), .int .i64 (p.pfield), .int .i64 (p.pgroup), .int .i64 (p.pby), .int .i64 (p.pmake), v2] 60) :: (Blk b6 (e.cells de0).toArray 38) :: (RowE (α := Row) own 31 v2 l) :: Rs) w1415 := hS1420.sel 3 [1, 0, 2] (Nat.le_add_left _ _) rfl rfl
          refine (ov_call (f := 29) (vals := [.pointer (some ⟨a, 0, none⟩), .agg ((l.getD k default).cells).toArray, .int .i64 (e.ev.arg)]) (cap := []) (show _ = (.func (.func 29) #[] #[] : Value) from rfl) (mapL ⟨(show _ = (.pointer (some ⟨a, 0, none⟩) : Value) from e1421), (show _ = (.agg ((l.getD k default).cells).toArray : Value) from e1422), (show _ = (.int .i64 (e.ev.arg) : Value) from e1423), trivial⟩) Try.call29 (D_one (q := (l.getD k default)) (arg := e.ev.arg) hoke1424 oe.ev.arg hS1426 ((by first | exact hcnt _ (by omega) | exact (by decide : (0 : Int) ≤ 0 ∧ (0 : Int) < 4611686018427387904))) op1) ?_)
          rintro _ w1428 ⟨rfl, hok1427, hS1429⟩
          intro vals' hv hv'
          refine ⟨?_, trivial⟩
          show (vals' 16 = (.agg ((oneR p (l.getD k default) e.ev.arg).cells).toArray : Value)) ∧ ((oneR p (l.getD k default) e.ev.arg).Ok) ∧ Sep G W ((Blk a #[.int .i64 (p.ptyp), .int .i64 (p.pfield), .int .i64 (p.pgroup), .int .i64 (p.pby), .int .i64 (p.pmake), v2] 60) :: (Blk b6 (e.cells de0).toArray 38) :: (RowE (α := Row) own 31 v2 l) :: Rs) w1428
          exact ⟨hv, hok1427, hS1429⟩
        · intro k1571 vals w1572 h1575 h1576 hW1574 hA1573
          obtain rfl : k1571 = 1 := Nat.le_antisymm h1576 h1575
          obtain ⟨he1430, hok1427, hS1577⟩ : (vals 16 = (.agg ((oneR p (l.getD k default) e.ev.arg).cells).toArray : Value)) ∧ ((oneR p (l.getD k default) e.ev.arg).Ok) ∧ Sep G W ((Blk a #[.int .i64 (p.ptyp), .int .i64 (p.pfield), .int .i64 (p.pgroup), .int .i64 (p.pby), .int .i64 (p.pmake), v2] 60) :: (Blk b6 (e.cells de0).toArray 38) :: (RowE (α := Row) own 31 v2 l) :: Rs) w1572 := hW1574
          have e1578 : vals 3 = (v2 : Value) := hA1573 3 (by decide)
          have e1579 : vals 4 = (.int .i64 ((k : Nat) : Int) : Value) := hA1573 4 (by decide)
          refine obl rfl ?_
          have hi1580 : k < l.length := (by first | omega | (simp only [List.length_append, List.length_cons, List.length_nil, List.length_take, List.length_drop, List.length_set, List.length_replicate]; omega))
          exact ov_indexAddrN (k := 3) (i := k) Try.underlying28 Try.sizeOf31 (show _ = (v2 : Value) from e1578) hr4.1 (show _ = (.int .i64 ((k : Nat) : Int) : Value) from e1579) hi1580 (fun vals' hv _ => ⟨rfl, hv⟩)
        · intro k1441 vals w1442 h1445 h1446 hW1444 hA1443
          obtain rfl : k1441 = 1 := Nat.le_antisymm h1446 h1445
          obtain ⟨he1430, hok1427, hS1447⟩ : (vals 16 = (.agg ((oneR p (l.getD k default) e.ev.arg).cells).toArray : Value)) ∧ ((oneR p (l.getD k default) e.ev.arg).Ok) ∧ Sep G W ((Blk a #[.int .i64 (p.ptyp), .int .i64 (p.pfield), .int .i64 (p.pgroup), .int .i64 (p.pby), .int .i64 (p.pmake), v2] 60) :: (Blk b6 (e.cells de0).toArray 38) :: (RowE (α := Row) own 31 v2 l) :: Rs) w1442 := hW1444
          have e1448 : vals 17 = (.pointer (some ⟨sb v2, so v2 + k * 3, none⟩) : Value) := hA1443 17 (by decide)
          refine obl rfl ?_
          have hS1450 : Sep G W ((RowE (α := Row) own 31 v2 l) :: (Blk a #[.int .i64 (p.ptyp), .int .i64 (p.pfield), .int .i64 (p.pgroup), .int .i64 (p.pby), .int .i64 (p.pmake), v2] 60) :: (Blk b6 (e.cells de0).toArray 38) :: Rs) w1442 := hS1447.sel 3 [2, 0, 1] (Nat.le_add_left _ _) rfl rfl
          have hS1451 : Sep G W ((RowE (α := Row) own 31 v2 l) :: Emp :: (Blk a #[.int .i64 (p.ptyp), .int .i64 (p.pfield), .int .i64 (p.pgroup), .int .i64 (p.pby), .int .i64 (p.pmake), v2] 60) :: (Blk b6 (e.cells de0).toArray 38) :: Rs) w1442 := hS1450.emp1
          refine (ov_storeS (α := Row) (j := k) (o := 0) (u := .agg ((oneR p (l.getD k default) e.ev.arg).cells).toArray) (us := (oneR p (l.getD k default) e.ev.arg).cells) (x1 := (oneR p (l.getD k default) e.ev.arg)) hS1451 Try.sizeOf31 (by first | omega | (simp only [List.length_append, List.length_cons, List.length_nil, List.length_take, List.length_drop, List.length_set, List.length_replicate]; omega)) (show _ = (.pointer (some ⟨sb v2, so v2 + k * 3, none⟩) : Value) from e1448) (show _ = (.agg ((oneR p (l.getD k default) e.ev.arg).cells).toArray : Value) from he1430) rfl (Nat.le_of_ble_eq_true rfl) (all1 ⟨rfl, rfl, rfl, trivial⟩) (fun _ _ cs0 hel _ => (by have hl0 := Src.len _ hel; have e0 : cs0.take 0 ++ ((oneR p (l.getD k default) e.ev.arg).cells) ++ cs0.drop (0 + ((oneR p (l.getD k default) e.ev.arg).cells).length) = ((oneR p (l.getD k default) e.ev.arg).cells) := (by rw [List.drop_eq_nil_of_le (by rw [hl0]; exact Nat.le_of_ble_eq_true rfl)]; simp); rw [e0]; exact (show _ from ⟨rfl, hok1427⟩))) ?_)
          intro w1449 hS1452
          have hr1453 := hS1452.row (i := 0) rfl
          have hr1453s : (l.set k (oneR p (l.getD k default) e.ev.arg)).length * 24 ≤ 140737488355328 := hr1453.2
          intro vals' hv hv'
          refine ⟨?_, trivial⟩
          show (vals' 16 = (.agg ((oneR p (l.getD k default) e.ev.arg).cells).toArray : Value)) ∧ ((oneR p (l.getD k default) e.ev.arg).Ok) ∧ Sep G W ((RowE (α := Row) own 31 v2 (l.set k (oneR p (l.getD k default) e.ev.arg))) :: (Blk a #[.int .i64 (p.ptyp), .int .i64 (p.pfield), .int .i64 (p.pgroup), .int .i64 (p.pby), .int .i64 (p.pmake), v2] 60) :: (Blk b6 (e.cells de0).toArray 38) :: Rs) w1449
          exact ⟨(by rw [hv' 16 (by decide)]; exact he1430), hok1427, hS1452⟩
        intro vals w1581 hW1582 hA1583
        obtain ⟨he1430, hok1427, hS1584⟩ : (vals 16 = (.agg ((oneR p (l.getD k default) e.ev.arg).cells).toArray : Value)) ∧ ((oneR p (l.getD k default) e.ev.arg).Ok) ∧ Sep G W ((RowE (α := Row) own 31 v2 (l.set k (oneR p (l.getD k default) e.ev.arg))) :: (Blk a #[.int .i64 (p.ptyp), .int .i64 (p.pfield), .int .i64 (p.pgroup), .int .i64 (p.pby), .int .i64 (p.pmake), v2] 60) :: (Blk b6 (e.cells de0).toArray 38) :: Rs) w1581 := hW1582
        refine st_env (kv := [(0, .pointer (some ⟨a, 0, none⟩)), (4, .pointer (some ⟨b6, 0, none⟩)), (6, .int .i64 (g2)), (7, .int .i64 ((k : Nat) : Int)), (68, .int .i64 ((k : Nat) : Int)), (69, .pointer (some ⟨a, 0, none⟩)), (70, .pointer (some ⟨a, 0, none⟩)), (71, .pointer (some ⟨a, 5, none⟩)), (72, v2), (73, .int .i64 ((l.length : Nat) : Int)), (74, .bool (decide (((k : Nat) : Int) < ((l.length : Nat) : Int)))), (75, .bool (decide (((k : Nat) : Int) < ((l.length : Nat) : Int)))), (86, .bool false), (89, .int .i64 ((k : Nat) : Int)), (90, .pointer (some ⟨a, 0, none⟩)), (91, .pointer (some ⟨a, 0, none⟩)), (92, .pointer (some ⟨a, 5, none⟩)), (93, v2), (94, .int .i64 ((l.length : Nat) : Int)), (95, .bool (decide (((k : Nat) : Int) < ((l.length : Nat) : Int)))), (96, .bool (decide (((k : Nat) : Int) < ((l.length : Nat) : Int)))), (107, .bool true)]) ⟨rfl, rfl, rfl, rfl, rfl, rfl, rfl, rfl, rfl, rfl, rfl, rfl, rfl, rfl, rfl, rfl, rfl, rfl, rfl, rfl, rfl, rfl, trivial⟩ (fun ρw1581 => ?_)
        refine st_nil ?_
        refine WP_ret ?_
        refine fin0r Try.results20 ?_
        have hS1585 : Sep G W ((Blk a #[.int .i64 (p.ptyp), .int .i64 (p.pfield), .int .i64 (p.pgroup), .int .i64 (p.pby), .int .i64 (p.pmake), v2] 60) :: (RowE (α := Row) own 31 v2 (l.set k (oneR p (l.getD k default) e.ev.arg))) :: (Blk b6 (e.cells de0).toArray 38) :: Rs) w1581 := hS1584.sel 3 [1, 0, 2] (Nat.le_add_left _ _) rfl rfl
        have hS1586 : Sep G W ((RefO a p (l.set k (oneR p (l.getD k default) e.ev.arg))) :: (Blk b6 (e.cells de0).toArray 38) :: Rs) w1581 := RefO.close (v := v2) op1 hS1585
        have hS1587 : Sep G W ((RefO a p (l.set k (oneR p (l.getD k default) e.ev.arg))) :: Rs) w1581 := hS1586.sel 2 [0] (Nat.le_add_left _ _) rfl rfl
        refine ⟨l.set k (oneR p (l.getD k default) e.ev.arg), rfl, ?_, hS1587⟩
        obtain ⟨⟨⟨⟨hv1, hv2⟩, hv3⟩, hv4⟩, hv5⟩ := hc774
        have hg : grpI p e.ev reg = some g2 := by
          rw [hj779.1, hj775.1]
          unfold grpI
          (repeat' split) <;> first | rfl | (congr 1; omega)
        exact .inr ⟨⟨hv1, hv2, hv3, hv4, hv5⟩, g2, k, hg, by omega, hlt, .inl ⟨by omega, hc834.2, rfl⟩⟩
    · skip
      simp only [Bool.and_eq_true, Bool.or_eq_true, Bool.and_eq_false_iff, Bool.or_eq_false_iff, decide_eq_true_eq, decide_eq_false_iff_not, Bool.not_eq_true', Bool.not_eq_false', Int.not_lt, Int.not_le] at hc810
      refine WP_cond_t rfl ?_
      refine WP_skip ?_
      refine WP_block ?_
      refine WP_region0 (by kernel_rfl) (fun _ => ?_)
      refine st (ov_move (v := .int .i64 ((k : Nat) : Int)) rfl ?_)
      have hr1588 : InR ((k + 1 : Nat) : Int) := by first | omega | (simp only [List.length_append, List.length_cons, List.length_nil, List.length_take, List.length_drop, List.length_set, List.length_replicate]; omega)
      refine st (ov_add (r := ((k + 1 : Nat) : Int)) (k := .i64) (a := ((k : Nat) : Int)) (b := 1) rfl rfl (by rw [show (((k : Nat) : Int) + 1 : Int) = ((k + 1 : Nat) : Int) by first | omega | (simp only [List.length_append, List.length_cons, List.length_nil, List.length_take, List.length_drop, List.length_set, List.length_replicate]; omega)]; exact wrap_in hr1588) ?_)
      refine st (ov_assign (v := .int .i64 ((k + 1 : Nat) : Int)) rfl ?_)
      refine st_nil ?_
      exact ⟨_, by omega, k + 1, _, rfl, setAll_self ⟨rfl, rfl, rfl, rfl, trivial⟩, by omega, (fun j hj => by rcases Nat.lt_or_eq_of_le (Nat.le_of_lt_succ hj) with h | h; exact hlt j h; subst h; exact hc810.2), hS786⟩
  · skip
    simp only [Bool.and_eq_true, Bool.or_eq_true, Bool.and_eq_false_iff, Bool.or_eq_false_iff, decide_eq_true_eq, decide_eq_false_iff_not, Bool.not_eq_true', Bool.not_eq_false', Int.not_lt, Int.not_le] at hc774
    refine WP_cond_t rfl ?_
    refine WP_ret ?_
    refine fin0r Try.results20 ?_
    have hS1589 : Sep G W ((Blk a #[.int .i64 (p.ptyp), .int .i64 (p.pfield), .int .i64 (p.pgroup), .int .i64 (p.pby), .int .i64 (p.pmake), v2] 60) :: (RowE (α := Row) own 31 v2 l) :: (Blk b6 (e.cells de0).toArray 38) :: Rs) w769 := hS772.sel 3 [1, 2, 0] (Nat.le_add_left _ _) rfl rfl
    have hS1590 : Sep G W ((RefO a p l) :: (Blk b6 (e.cells de0).toArray 38) :: Rs) w769 := RefO.close (v := v2) op1 hS1589
    have hS1591 : Sep G W ((RefO a p l) :: Rs) w769 := hS1590.sel 2 [0] (Nat.le_add_left _ _) rfl rfl
    refine ⟨l, rfl, ?_, hS1591⟩
    exact .inl ⟨(by rcases hc774 with (((h | h) | h) | h) | h; exact .inl h; exact .inr (.inl h); exact .inr (.inr (.inl h)); exact .inr (.inr (.inr (.inl h))); exact .inr (.inr (.inr (.inr h)))), rfl⟩

theorem D_mark {G : Nat → Prop} {W w : World} {Rs : List HP} {i : Int} (hi : InR i) (hS0 : Sep G W Rs w) (hi2 : 0 ≤ i ∧ i ≤ 1000000) : Ret Try.prog 33 [.int .i64 (i)] w (fun r w' => r = (.agg ((⟨77 + i, -9, 3⟩ : Row).cells).toArray : Value) ∧ ((⟨77 + i, -9, 3⟩ : Row).Ok) ∧ Sep G W Rs w') := by
  refine Calls_of_WP (args := [.int .i64 (i)]) Try.func33 rfl rfl ?_
  refine WP_seq ?_
  refine WP_region0 (by kernel_rfl) (fun _ => ?_)
  refine st (ov_alloc Try.zeroValue31 ?_)
  intro w3 b2 hn1
  have hS4 : Sep G W ((Blk b2 #[.int .i64 (0), .int .i64 (0), .int .i64 (0)] 31) :: Rs) w3 := hS0.new hn1
  refine st_nil ?_
  refine WP_seq ?_
  refine WP_region0 (by kernel_rfl) (fun _ => ?_)
  refine st (ov_move (v := .int .i64 (i)) rfl ?_)
  have hr5 : InR (77 + i) := by omega
  refine st (ov_add (r := 77 + i) (k := .i64) (a := 77) (b := i) rfl rfl (wrap_in hr5) ?_)
  have ok6 : Row.Ok (⟨77 + i, -9, 3⟩ : Row) := ⟨(show InR (77 + i) from hr5), (show InR (-9) from (by decide)), (show InR (3) from (by decide))⟩
  refine st (ov_build (parts' := [(0, .int .i64 (77 + i)), (1, .int .i64 (-9)), (2, .int .i64 (3))]) (v := .agg ((⟨77 + i, -9, 3⟩ : Row).cells).toArray) rfl (by simp [Instr.build, Instr.fill, Ev.cells, go_sem, Ev.cells, Ent.cells, Row.cells, Prj.cells]) ?_)
  refine stn (ov_store (v := .agg ((⟨77 + i, -9, 3⟩ : Row).cells).toArray) (c' := ((⟨77 + i, -9, 3⟩ : Row).cells).toArray) Try.sizeOf31 rfl rfl (hS4.blk (i := 0) rfl) (all1 ⟨rfl, rfl, rfl, trivial⟩) (Nat.le_of_ble_eq_true rfl) rfl ?_)
  intro w7 hp8
  have hS9 : Sep G W ((Blk b2 ((⟨77 + i, -9, 3⟩ : Row).cells).toArray 31) :: Rs) w7 := hS4.put (i := 0) rfl hp8
  refine st_nil ?_
  refine WP_ret ?_
  refine finc (b := b2) Try.results33 Try.isAgg31 Try.sizeOf31 rfl rfl (CellsAt.all (hS9.blk (i := 0) rfl)) ?_
  have hS10 : Sep G W Rs w7 := hS9.sel 1 [] (Nat.le_add_left _ _) rfl rfl
  refine ⟨rfl, ?_, hS10⟩
  exact ⟨(show InR (77 + i) by omega), (show InR (-9) by decide), (show InR 3 by decide)⟩

theorem D_spoil {G : Nat → Prop} {W w : World} {Rs : List HP} {vx : Value} {x : List Row} (hS0 : Sep G W ((RowE (α := Row) own 31 vx x) :: Rs) w) (hxl : x.length ≤ 100000) : Ret Try.prog 25 [vx] w (fun r w' => r = (.tuple #[] : Value) ∧ Sep G W Rs w') := by
  refine Calls_of_WP (args := [vx]) Try.func25 rfl rfl ?_
  have hr1 := hS0.row (i := 0) rfl
  have hr1s : x.length * 24 ≤ 140737488355328 := hr1.2
  refine WP_seq ?_
  refine WP_region0 (by kernel_rfl) (fun _ => ?_)
  refine st (ov_assign (v := .int .i64 (0)) rfl ?_)
  refine st_nil ?_
  refine WP_block ?_
  refine WP_loop (fun mq σ wq => ∃ (k : Nat) (l2 : List Row) (ρ : Env), mq = x.length - k ∧ σ = setAll ρ [(0, vx), (2, .int .i64 ((k : Nat) : Int))] ∧ (k ≤ x.length) ∧ (l2.length = x.length) ∧ Sep G W ((RowE (α := Row) own 31 vx l2) :: Rs) wq) ⟨0, x, _, rfl, setAll_self ⟨rfl, rfl, trivial⟩, Nat.zero_le _, rfl, hS0⟩ ?_
  rintro m3 σ4 w2 ⟨k, l2, ρl1, rfl, rfl, hk, hl2, hS5⟩
  have hr6 := hS5.row (i := 0) rfl
  have hr6s : l2.length * 24 ≤ 140737488355328 := hr6.2
  refine WP_seq ?_
  refine WP_seq ?_
  refine WP_region0 (by kernel_rfl) (fun _ => ?_)
  refine st (ov_move (v := .int .i64 ((k : Nat) : Int)) rfl ?_)
  refine st (ov_move (v := vx) rfl ?_)
  refine st (ov_len (n := l2.length) Try.underlying28 rfl hr6.1 ?_)
  refine st (ov_lss (k := .i64) (a := ((k : Nat) : Int)) (b := ((l2.length : Nat) : Int)) rfl rfl ?_)
  refine st_nil ?_
  cases hc7 : decide (((k : Nat) : Int) < ((l2.length : Nat) : Int))
  · skip
    have hc7 := of_decide_eq_false hc7
    refine WP_cond_f rfl ?_
    refine WP_exit ?_
    refine blk_exit ?_
    refine fin0 Try.results25 ?_
    have hS8 : Sep G W Rs w2 := hS5.sel 1 [] (Nat.le_add_left _ _) rfl rfl
    refine ⟨rfl, hS8⟩
  · skip
    have hc7 := of_decide_eq_true hc7
    refine WP_cond_t rfl ?_
    refine WP_skip ?_
    refine WP_seq ?_
    refine WP_block ?_
    refine WP_region0 (by kernel_rfl) (fun _ => ?_)
    refine st (ov_move (v := vx) rfl ?_)
    refine st (ov_move (v := .int .i64 ((k : Nat) : Int)) rfl ?_)
    refine st (ov_move (v := .int .i64 ((k : Nat) : Int)) rfl ?_)
    have hr9 : InR ((k + 7 : Nat) : Int) := by first | omega | (simp only [List.length_append, List.length_cons, List.length_nil, List.length_take, List.length_drop, List.length_set, List.length_replicate]; omega)
    refine st (ov_add (r := ((k + 7 : Nat) : Int)) (k := .i64) (a := ((k : Nat) : Int)) (b := 7) rfl rfl (by rw [show (((k : Nat) : Int) + 7 : Int) = ((k + 7 : Nat) : Int) by first | omega | (simp only [List.length_append, List.length_cons, List.length_nil, List.length_take, List.length_drop, List.length_set, List.length_replicate]; omega)]; exact wrap_in hr9) ?_)
    refine st (ov_call (f := 33) (vals := [.int .i64 ((k + 7 : Nat) : Int)]) (cap := []) (show _ = (.func (.func 33) #[] #[] : Value) from rfl) rfl Try.call33 (D_mark (i := ((k + 7 : Nat) : Int)) hr9 hS5 (by first | omega | (simp only [List.length_append, List.length_cons, List.length_nil, List.length_take, List.length_drop, List.length_set, List.length_replicate]; omega))) ?_)
    rintro _ w11 ⟨rfl, hok10, hS12⟩
    have hi13 : k < l2.length := (by first | omega | (simp only [List.length_append, List.length_cons, List.length_nil, List.length_take, List.length_drop, List.length_set, List.length_replicate]; omega))
    refine st (ov_indexAddrN (k := 3) (i := k) Try.underlying28 Try.sizeOf31 rfl hr6.1 rfl hi13 ?_)
    have hS15 : Sep G W ((RowE (α := Row) own 31 vx l2) :: Emp :: Rs) w11 := hS12.emp1
    refine stn (ov_storeS (α := Row) (j := k) (o := 0) (u := .agg ((⟨77 + ((k + 7 : Nat) : Int), -9, 3⟩ : Row).cells).toArray) (us := (⟨77 + ((k + 7 : Nat) : Int), -9, 3⟩ : Row).cells) (x1 := (⟨77 + ((k + 7 : Nat) : Int), -9, 3⟩ : Row)) hS15 Try.sizeOf31 (by first | omega | (simp only [List.length_append, List.length_cons, List.length_nil, List.length_take, List.length_drop, List.length_set, List.length_replicate]; omega)) rfl rfl rfl (Nat.le_of_ble_eq_true rfl) (all1 ⟨rfl, rfl, rfl, trivial⟩) (fun _ _ cs0 hel _ => (by have hl0 := Src.len _ hel; have e0 : cs0.take 0 ++ ((⟨77 + ((k + 7 : Nat) : Int), -9, 3⟩ : Row).cells) ++ cs0.drop (0 + ((⟨77 + ((k + 7 : Nat) : Int), -9, 3⟩ : Row).cells).length) = ((⟨77 + ((k + 7 : Nat) : Int), -9, 3⟩ : Row).cells) := (by rw [List.drop_eq_nil_of_le (by rw [hl0]; exact Nat.le_of_ble_eq_true rfl)]; simp); rw [e0]; exact (show _ from ⟨rfl, hok10⟩))) ?_)
    intro w14 hS16
    have hr17 := hS16.row (i := 0) rfl
    have hr17s : (l2.set k (⟨77 + ((k + 7 : Nat) : Int), -9, 3⟩ : Row)).length * 24 ≤ 140737488355328 := hr17.2
    refine st_nil ?_
    refine WP_region0 (by kernel_rfl) (fun _ => ?_)
    refine st (ov_move (v := .int .i64 ((k : Nat) : Int)) rfl ?_)
    have hr18 : InR ((k + 1 : Nat) : Int) := by first | omega | (simp only [List.length_append, List.length_cons, List.length_nil, List.length_take, List.length_drop, List.length_set, List.length_replicate]; omega)
    refine st (ov_add (r := ((k + 1 : Nat) : Int)) (k := .i64) (a := ((k : Nat) : Int)) (b := 1) rfl rfl (by rw [show (((k : Nat) : Int) + 1 : Int) = ((k + 1 : Nat) : Int) by first | omega | (simp only [List.length_append, List.length_cons, List.length_nil, List.length_take, List.length_drop, List.length_set, List.length_replicate]; omega)]; exact wrap_in hr18) ?_)
    refine st (ov_assign (v := .int .i64 ((k + 1 : Nat) : Int)) rfl ?_)
    refine st_nil ?_
    exact ⟨_, by omega, k + 1, l2.set k (⟨77 + ((k + 7 : Nat) : Int), -9, 3⟩ : Row), _, rfl, setAll_self ⟨rfl, rfl, trivial⟩, by omega, (by simp only [List.length_set]; exact hl2), hS16⟩

end Go.Proofs.Ytbbpmhfcgoljdaa
