/- Steps of the proofs of this seat: part C8. -/
import Derived.Test.YtlblilbmpdejgaaDoorC7
set_option linter.unusedSimpArgs false
set_option linter.unusedVariables false
set_option maxRecDepth 8000
namespace Go.Proofs.YtlblilbmpdejgaaDoor
open Go.Proofs Go.RowKit

theorem fd107_0 {d : Option Tmp} {ty : TypeId} {pos : String} {af : Array Edge} {g : Option (Nat × Bool)} {σ : Env} {w : World} {K : Value → World → Prop} {x : Operand} {b o : Nat} (hx : ev σ x = .pointer (some ⟨b, o, none⟩)) (h : K (.pointer (some ⟨b, o + 0, none⟩)) w) : opV Tryd.prog ⟨d, .fieldAddr 107 x 0, ty, pos, af, g⟩ σ w K := ov_fieldAddr Tryd.underlying107 rfl rfl (fun w => ⟨0, Tryd.sizeOf3 w⟩) hx h
theorem fd107_1 {d : Option Tmp} {ty : TypeId} {pos : String} {af : Array Edge} {g : Option (Nat × Bool)} {σ : Env} {w : World} {K : Value → World → Prop} {x : Operand} {b o : Nat} (hx : ev σ x = .pointer (some ⟨b, o, none⟩)) (h : K (.pointer (some ⟨b, o + 1, none⟩)) w) : opV Tryd.prog ⟨d, .fieldAddr 107 x 1, ty, pos, af, g⟩ σ w K := ov_fieldAddr Tryd.underlying107 rfl rfl (fun w => ⟨0, Tryd.sizeOf3 w⟩) hx h
theorem fd107_2 {d : Option Tmp} {ty : TypeId} {pos : String} {af : Array Edge} {g : Option (Nat × Bool)} {σ : Env} {w : World} {K : Value → World → Prop} {x : Operand} {b o : Nat} (hx : ev σ x = .pointer (some ⟨b, o, none⟩)) (h : K (.pointer (some ⟨b, o + 2, none⟩)) w) : opV Tryd.prog ⟨d, .fieldAddr 107 x 2, ty, pos, af, g⟩ σ w K := ov_fieldAddr Tryd.underlying107 rfl rfl (fun w => ⟨0, Tryd.sizeOf3 w⟩) hx h
theorem fd107_3 {d : Option Tmp} {ty : TypeId} {pos : String} {af : Array Edge} {g : Option (Nat × Bool)} {σ : Env} {w : World} {K : Value → World → Prop} {x : Operand} {b o : Nat} (hx : ev σ x = .pointer (some ⟨b, o, none⟩)) (h : K (.pointer (some ⟨b, o + 3, none⟩)) w) : opV Tryd.prog ⟨d, .fieldAddr 107 x 3, ty, pos, af, g⟩ σ w K := ov_fieldAddr Tryd.underlying107 rfl rfl (fun w => ⟨0, Tryd.sizeOf3 w⟩) hx h
theorem fd107_4 {d : Option Tmp} {ty : TypeId} {pos : String} {af : Array Edge} {g : Option (Nat × Bool)} {σ : Env} {w : World} {K : Value → World → Prop} {x : Operand} {b o : Nat} (hx : ev σ x = .pointer (some ⟨b, o, none⟩)) (h : K (.pointer (some ⟨b, o + 4, none⟩)) w) : opV Tryd.prog ⟨d, .fieldAddr 107 x 4, ty, pos, af, g⟩ σ w K := ov_fieldAddr Tryd.underlying107 rfl rfl (fun w => ⟨0, Tryd.sizeOf3 w⟩) hx h
theorem D_check {G : Nat → Prop} {W w : World} {Rs : List HP} {d : Dcl} {dd0 : Value} (hdd0 : RdS W G dd0 d.types) {dd1 : Value} (hdd1 : RdS W G dd1 d.projs) (od : d.Ok) (hS0 : Sep G W Rs w) : Ret Tryd.prog 46 [.agg (d.cells dd0 dd1).toArray] w (fun r w' => ∃ (e : Int), r = (.int .i64 (e) : Value) ∧ (InR e) ∧ (e = 0 → DclOk d) ∧ Sep G W Rs w') := by
 have hdd0s : d.types.length * 24 ≤ 140737488355328 := hdd0.small
 have hdd1s : d.projs.length * 40 ≤ 140737488355328 := hdd1.small
 refine Calls_of_WP (args := [.agg (d.cells dd0 dd1).toArray]) Tryd.func46 rfl rfl ?_
 refine WP_seq ?_
 refine WP_region0 (by kernel_rfl) (fun _ => ?_)
 refine st (ov_box (v := .agg (d.cells dd0 dd1).toArray) rfl ?_)
 intro w3 b2 hn1
 have hS4 : Sep G W ((Blk b2 (d.cells dd0 dd1).toArray 25) :: Rs) w3 := hS0.new hn1
 refine st (ov_assign (v := .int .i64 (0)) rfl ?_)
 refine st_nil ?_
 refine WP_seq ?_
 refine WP_seq ?_
 refine WP_region0 (by kernel_rfl) (fun _ => ?_)
 refine st (ov_loadk (k := 2) Tryd.isAgg25 Tryd.sizeOf25 rfl rfl (CellsAt.all (hS4.blk (i := 0) rfl)) ?_)
 refine st (ov_call (f := 70) (vals := [.agg (d.cells dd0 dd1).toArray]) (cap := []) (show _ = (.func (.func 70) #[] #[] : Value) from rfl) rfl Tryd.call70 (D_many (d := d) hdd0 hdd1 od hS4) ?_)
 rintro _ w7 ⟨b5, rfl, hb6, hS8⟩
 refine st_nil ?_
 cases hc9 : b5
 ·skip
  have hfew := hb6 hc9
  refine WP_cond_f rfl ?_
  refine WP_skip ?_
  refine WP_seq ?_
  refine WP_seq ?_
  refine WP_region0 (by kernel_rfl) (fun _ => ?_)
  refine st (ov_assign (v := .int .i64 (0)) rfl ?_)
  refine st_nil ?_
  refine WP_block ?_
  refine WP_loop (fun mq σ wq => ∃ (k : Nat) (ρ : Env), mq = d.types.length - k ∧ σ = setAll ρ [(1, .pointer (some ⟨b2, 0, none⟩)), (3, .int .i64 ((k : Nat) : Int))] ∧ (k ≤ d.types.length) ∧ (∀ i, i < k → ∀ j, j < (d.types.getD i default).fields.length → OneOk (d.types.getD i default) ((d.types.getD i default).fields.getD j default)) ∧ Sep G W ((Blk b2 (d.cells dd0 dd1).toArray 25) :: Rs) wq) ⟨0, _, rfl, setAll_self ⟨rfl, rfl, trivial⟩, Nat.zero_le _, (fun i h => absurd h (Nat.not_lt_zero i)), hS8⟩ ?_
  rintro m11 σ12 w10 ⟨k, ρl1, rfl, rfl, hkk, hm, hS13⟩
  refine WP_seq ?_
  refine WP_seq ?_
  refine WP_region0 (by kernel_rfl) (fun _ => ?_)
  refine st (ov_move (v := .int .i64 ((k : Nat) : Int)) rfl ?_)
  refine st (fd25_0 rfl ?_)
  refine st (ov_load1 (v := dd0) Tryd.isAgg22 rfl (blk_cellL (hS13.blk (i := 0) rfl) rfl) ?_)
  refine st (ov_len (n := d.types.length) Tryd.underlying22 rfl hdd0.sl ?_)
  refine st (ov_lss (k := .i64) (a := ((k : Nat) : Int)) (b := ((d.types.length : Nat) : Int)) rfl rfl ?_)
  refine st_nil ?_
  cases hc14 : decide (((k : Nat) : Int) < ((d.types.length : Nat) : Int))
  ·skip
   have hc14 := of_decide_eq_false hc14
   refine WP_cond_f rfl ?_
   refine WP_exit ?_
   refine blk_exit ?_
   refine WP_seq ?_
   refine WP_seq ?_
   refine WP_region0 (by kernel_rfl) (fun _ => ?_)
   refine st (ov_assign (v := .int .i64 (0)) rfl ?_)
   refine st_nil ?_
   refine WP_block ?_
   refine WP_loop (fun mq σ wq => ∃ (z : Nat) (ρ : Env), mq = d.projs.length - z ∧ σ = setAll ρ [(1, .pointer (some ⟨b2, 0, none⟩)), (6, .int .i64 ((z : Nat) : Int))] ∧ (z ≤ d.projs.length) ∧ Sep G W ((Blk b2 (d.cells dd0 dd1).toArray 25) :: Rs) wq) ⟨0, _, rfl, setAll_self ⟨rfl, rfl, trivial⟩, Nat.zero_le _, hS13⟩ ?_
   rintro m16 σ17 w15 ⟨z, ρl2, rfl, rfl, hkz, hS18⟩
   refine WP_seq ?_
   refine WP_seq ?_
   refine WP_region0 (by kernel_rfl) (fun _ => ?_)
   refine st (ov_move (v := .int .i64 ((z : Nat) : Int)) rfl ?_)
   refine st (fd25_1 rfl ?_)
   refine st (ov_load1 (v := dd1) Tryd.isAgg23 rfl (blk_cellL (hS18.blk (i := 0) rfl) rfl) ?_)
   refine st (ov_len (n := d.projs.length) Tryd.underlying23 rfl hdd1.sl ?_)
   refine st (ov_lss (k := .i64) (a := ((z : Nat) : Int)) (b := ((d.projs.length : Nat) : Int)) rfl rfl ?_)
   refine st_nil ?_
   cases hc19 : decide (((z : Nat) : Int) < ((d.projs.length : Nat) : Int))
   ·skip
    have hc19 := of_decide_eq_false hc19
    refine WP_cond_f rfl ?_
    refine WP_exit ?_
    refine blk_exit ?_
    refine WP_seq ?_
    refine WP_region0 (by kernel_rfl) (fun _ => ?_)
    refine st (ov_assign (v := .int .i64 (0)) rfl ?_)
    refine st_nil ?_
    refine WP_ret ?_
    refine fin1 Tryd.results46 (show _ = (.int .i64 (0) : Value) from rfl) ?_
    have hS20 : Sep G W Rs w15 := hS18.sel 1 [] (Nat.le_add_left _ _) rfl rfl
    refine ⟨0, rfl, ?_, ?_, hS20⟩
    · first | decide | assumption
    · intro h9
      exact dcl_ok hfew (fun i hi => hm i (by omega))
   ·skip
    have hc19 := of_decide_eq_true hc19
    refine WP_cond_t rfl ?_
    refine WP_skip ?_
    refine WP_seq ?_
    refine WP_block ?_
    refine WP_seq ?_
    refine WP_region0 (by kernel_rfl) (fun _ => ?_)
    refine st (fd25_1 rfl ?_)
    refine st (ov_load1 (v := dd1) Tryd.isAgg23 rfl (blk_cellL (hS18.blk (i := 0) rfl) rfl) ?_)
    refine st (ov_move (v := .int .i64 ((z : Nat) : Int)) rfl ?_)
    have hi21 : z < d.projs.length := (by first | omega | (simp only [lens]; omega))
    refine st (ov_indexAddrN (k := 5) (i := z) Tryd.underlying23 Tryd.sizeOf107 rfl hdd1.sl rfl hi21 ?_)
    have hi23 : z < d.projs.length := (by first | omega | (simp only [lens]; omega))
    obtain ⟨hce22, hoke22⟩ := hdd1.prj hi23
    rw [← getD_at default hi23] at hce22 hoke22
    have hcw24 := hS18.cells hce22 (hdd1.foot (ne_of_lt hi23))
    refine st (ov_loadk (k := 5) Tryd.isAgg107 Tryd.sizeOf107 rfl rfl hcw24 ?_)
    refine st (ov_alloc Tryd.zeroValue107 ?_)
    intro w27 b26 hn25
    have hS28 : Sep G W ((Blk b26 #[.int .i64 (0), .int .i64 (0), .int .i64 (0), .int .i64 (0), .int .i64 (0)] 107) :: (Blk b2 (d.cells dd0 dd1).toArray 25) :: Rs) w27 := hS18.new hn25
    refine stn (ov_store (v := .agg ((d.projs.getD z default).cells).toArray) (c' := ((d.projs.getD z default).cells).toArray) Tryd.sizeOf107 rfl rfl (hS28.blk (i := 0) rfl) (all1 ⟨rfl, rfl, rfl, rfl, rfl, trivial⟩) (Nat.le_of_ble_eq_true rfl) rfl ?_)
    intro w29 hp30
    have hS31 : Sep G W ((Blk b26 ((d.projs.getD z default).cells).toArray 107) :: (Blk b2 (d.cells dd0 dd1).toArray 25) :: Rs) w29 := hS28.put (i := 0) rfl hp30
    refine st_nil ?_
    refine WP_seq ?_
    refine WP_region0 (by kernel_rfl) (fun _ => ?_)
    refine st (ov_loadk (k := 2) Tryd.isAgg25 Tryd.sizeOf25 rfl rfl (CellsAt.all (hS31.blk (i := 1) rfl)) ?_)
    refine st (fd107_0 rfl ?_)
    refine st (ov_load1 (v := .int .i64 ((d.projs.getD z default).ptyp)) Tryd.isAgg3 rfl (blk_cellL (hS31.blk (i := 0) rfl) rfl) ?_)
    refine st (fd107_1 rfl ?_)
    refine st (ov_load1 (v := .int .i64 ((d.projs.getD z default).pfield)) Tryd.isAgg3 rfl (blk_cellL (hS31.blk (i := 0) rfl) rfl) ?_)
    refine st (ov_call (f := 72) (vals := [.agg (d.cells dd0 dd1).toArray, .int .i64 ((d.projs.getD z default).ptyp), .int .i64 ((d.projs.getD z default).pfield)]) (cap := []) (show _ = (.func (.func 72) #[] #[] : Value) from rfl) rfl Tryd.call72 (D_field (d := d) (ty := (d.projs.getD z default).ptyp) (fi := (d.projs.getD z default).pfield) hdd0 hdd1 od hoke22.ptyp hoke22.pfield hS31) ?_)
    rintro _ w39 ⟨c132, c233, c334, dx35, b36, rfl, hdx37, hrng38, hS40⟩
    refine st (ov_move (v := .tuple #[.agg #[.int .i64 (c132), .int .i64 (c233), .bool c334, dx35], .bool b36]) rfl ?_)
    refine st (ov_extract (vs := [.agg #[.int .i64 (c132), .int .i64 (c233), .bool c334, dx35], .bool b36]) (i := 0) (v := .agg #[.int .i64 (c132), .int .i64 (c233), .bool c334, dx35]) rfl rfl ?_)
    refine st (ov_extract (vs := [.agg #[.int .i64 (c132), .int .i64 (c233), .bool c334, dx35], .bool b36]) (i := 1) (v := .bool b36) rfl rfl ?_)
    refine st (ov_alloc Tryd.zeroValue79 ?_)
    intro w43 b42 hn41
    have hS44 : Sep G W ((Blk b42 #[.int .i64 (0), .int .i64 (0), .bool false, (.slice none 0 0)] 79) :: (Blk b26 ((d.projs.getD z default).cells).toArray 107) :: (Blk b2 (d.cells dd0 dd1).toArray 25) :: Rs) w43 := hS40.new hn41
    refine stn (ov_store (v := .agg #[.int .i64 (c132), .int .i64 (c233), .bool c334, dx35]) (c' := #[.int .i64 (c132), .int .i64 (c233), .bool c334, dx35]) Tryd.sizeOf79 rfl rfl (hS44.blk (i := 0) rfl) (all1 ⟨rfl, rfl, rfl, (by assumption), trivial⟩) (Nat.le_of_ble_eq_true rfl) rfl ?_)
    intro w45 hp46
    have hS47 : Sep G W ((Blk b42 #[.int .i64 (c132), .int .i64 (c233), .bool c334, dx35] 79) :: (Blk b26 ((d.projs.getD z default).cells).toArray 107) :: (Blk b2 (d.cells dd0 dd1).toArray 25) :: Rs) w45 := hS44.put (i := 0) rfl hp46
    refine st (ov_assign (v := .bool b36) rfl ?_)
    refine st_nil ?_
    refine WP_seq ?_
    refine WP_seq ?_
    refine WP_region0 (by kernel_rfl) (fun _ => ?_)
    refine st (ov_move (v := .bool b36) rfl ?_)
    refine st (ov_not (a := b36) rfl ?_)
    refine st_nil ?_
    cases hc48 : !b36
    ·skip
     try simp only [bools] at hc48
     have hpt := hrng38 (by have h9 := hc48; simpa using h9)
     refine WP_cond_f rfl ?_
     refine WP_skip ?_
     refine WP_seq ?_
     refine WP_seq ?_
     refine WP_draw4 (WF [fun vals wq => Sep G W ((Blk b42 #[.int .i64 (c132), .int .i64 (c233), .bool c334, dx35] 79) :: (Blk b26 ((d.projs.getD z default).cells).toArray 107) :: (Blk b2 (d.cells dd0 dd1).toArray 25) :: Rs) wq, fun vals wq => (vals 12 = (if (decide (((d.projs.getD z default).pgroup) = 3)) = true then (.int .i64 ((kindL (d.types.getD (((d.projs.getD z default).ptyp).toNat) default) ((d.projs.getD z default).pby))) : Value) else undef)) ∧ Sep G W ((Blk b42 #[.int .i64 (c132), .int .i64 (c233), .bool c334, dx35] 79) :: (Blk b26 ((d.projs.getD z default).cells).toArray 107) :: (Blk b2 (d.cells dd0 dd1).toArray 25) :: Rs) wq]) (AF [Vl 0 (.pointer (some ⟨b26, 2, none⟩)), Vl 1 (.int .i64 ((d.projs.getD z default).pgroup)), Vl 2 (.bool (decide (((d.projs.getD z default).pgroup) = 3))), Vl 3 (.bool (decide (((d.projs.getD z default).pgroup) = 3))), Vl 4 (if (decide (((d.projs.getD z default).pgroup) = 3)) = true then .pointer (some ⟨b2, 0, none⟩) else undef), Vl 5 (if (decide (((d.projs.getD z default).pgroup) = 3)) = true then dd0 else undef), Vl 6 (if (decide (((d.projs.getD z default).pgroup) = 3)) = true then .pointer (some ⟨b26, 0, none⟩) else undef), Vl 7 (if (decide (((d.projs.getD z default).pgroup) = 3)) = true then .int .i64 ((d.projs.getD z default).ptyp) else undef), Vl 8 (if (decide (((d.projs.getD z default).pgroup) = 3)) = true then .pointer (some ⟨sb dd0, so dd0 + (((d.projs.getD z default).ptyp).toNat) * 1, none⟩) else undef), Vl 9 (if (decide (((d.projs.getD z default).pgroup) = 3)) = true then .agg ((d.types.getD (((d.projs.getD z default).ptyp).toNat) default).cells (cellV W (sb dd0) (so dd0 + (((d.projs.getD z default).ptyp).toNat) * 1 + 0))).toArray else undef), Vl 10 (if (decide (((d.projs.getD z default).pgroup) = 3)) = true then .pointer (some ⟨b26, 3, none⟩) else undef), Vl 11 (if (decide (((d.projs.getD z default).pgroup) = 3)) = true then .int .i64 ((d.projs.getD z default).pby) else undef), fun _ => True, Vl 13 (if (decide (((d.projs.getD z default).pgroup) = 3)) = true then .bool (!decide ((kindL (d.types.getD (((d.projs.getD z default).ptyp).toNat) default) ((d.projs.getD z default).pby)) = 2)) else undef), Vl 14 (.bool ((decide (((d.projs.getD z default).pgroup) = 3)) && (!decide ((kindL (d.types.getD (((d.projs.getD z default).ptyp).toNat) default) ((d.projs.getD z default).pby)) = 2)))), Vl 15 (.bool ((decide (((d.projs.getD z default).pgroup) = 3)) && (!decide ((kindL (d.types.getD (((d.projs.getD z default).ptyp).toNat) default) ((d.projs.getD z default).pby)) = 2)))), Vl 16 (if ((decide (((d.projs.getD z default).pgroup) = 3)) && (!decide ((kindL (d.types.getD (((d.projs.getD z default).ptyp).toNat) default) ((d.projs.getD z default).pby)) = 2))) = false then .pointer (some ⟨b26, 2, none⟩) else undef), Vl 17 (if ((decide (((d.projs.getD z default).pgroup) = 3)) && (!decide ((kindL (d.types.getD (((d.projs.getD z default).ptyp).toNat) default) ((d.projs.getD z default).pby)) = 2))) = false then .int .i64 ((d.projs.getD z default).pgroup) else undef), Vl 18 (if ((decide (((d.projs.getD z default).pgroup) = 3)) && (!decide ((kindL (d.types.getD (((d.projs.getD z default).ptyp).toNat) default) ((d.projs.getD z default).pby)) = 2))) = false then .bool (!decide (((d.projs.getD z default).pgroup) = 3)) else undef), Vl 19 (if ((decide (((d.projs.getD z default).pgroup) = 3)) && (!decide ((kindL (d.types.getD (((d.projs.getD z default).ptyp).toNat) default) ((d.projs.getD z default).pby)) = 2))) = false then .bool (!decide (((d.projs.getD z default).pgroup) = 3)) else undef), Vl 20 (if (((decide (((d.projs.getD z default).pgroup) = 3)) && (!decide ((kindL (d.types.getD (((d.projs.getD z default).ptyp).toNat) default) ((d.projs.getD z default).pby)) = 2))) = false) ∧ (!decide (((d.projs.getD z default).pgroup) = 3)) = true then .pointer (some ⟨b26, 3, none⟩) else undef), Vl 21 (if (((decide (((d.projs.getD z default).pgroup) = 3)) && (!decide ((kindL (d.types.getD (((d.projs.getD z default).ptyp).toNat) default) ((d.projs.getD z default).pby)) = 2))) = false) ∧ (!decide (((d.projs.getD z default).pgroup) = 3)) = true then .int .i64 ((d.projs.getD z default).pby) else undef), Vl 22 (if (((decide (((d.projs.getD z default).pgroup) = 3)) && (!decide ((kindL (d.types.getD (((d.projs.getD z default).ptyp).toNat) default) ((d.projs.getD z default).pby)) = 2))) = false) ∧ (!decide (((d.projs.getD z default).pgroup) = 3)) = true then .bool (!decide (((d.projs.getD z default).pby) = 0)) else undef), Vl 23 (if ((decide (((d.projs.getD z default).pgroup) = 3)) && (!decide ((kindL (d.types.getD (((d.projs.getD z default).ptyp).toNat) default) ((d.projs.getD z default).pby)) = 2))) = false then .bool ((!decide (((d.projs.getD z default).pgroup) = 3)) && (!decide (((d.projs.getD z default).pby) = 0))) else undef), Vl 24 (.bool (((decide (((d.projs.getD z default).pgroup) = 3)) && (!decide ((kindL (d.types.getD (((d.projs.getD z default).ptyp).toNat) default) ((d.projs.getD z default).pby)) = 2))) || ((!decide (((d.projs.getD z default).pgroup) = 3)) && (!decide (((d.projs.getD z default).pby) = 0)))))]) [[], [0], [0, 1], [0, 1, 2], [0, 1, 2, 3], [0, 1, 2, 3, 4], [0, 1, 2, 3], [0, 1, 2, 3, 6], [0, 1, 2, 3, 4, 5, 6, 7], [0, 1, 2, 3, 4, 5, 6, 7, 8], [0, 1, 2, 3], [0, 1, 2, 3, 10], [0, 1, 2, 3, 4, 5, 6, 7, 8, 9, 10, 11], [0, 1, 2, 3, 4, 5, 6, 7, 8, 9, 10, 11, 12], [0, 1, 2, 3, 4, 5, 6, 7, 8, 9, 10, 11, 12, 13], [0, 1, 2, 3, 4, 5, 6, 7, 8, 9, 10, 11, 12, 13, 14], [0, 1, 2, 3, 4, 5, 6, 7, 8, 9, 10, 11, 12, 13, 14, 15], [0, 1, 2, 3, 4, 5, 6, 7, 8, 9, 10, 11, 12, 13, 14, 15, 16], [0, 1, 2, 3, 4, 5, 6, 7, 8, 9, 10, 11, 12, 13, 14, 15, 16, 17], [0, 1, 2, 3, 4, 5, 6, 7, 8, 9, 10, 11, 12, 13, 14, 15, 16, 17, 18], [0, 1, 2, 3, 4, 5, 6, 7, 8, 9, 10, 11, 12, 13, 14, 15, 16, 17, 18, 19], [0, 1, 2, 3, 4, 5, 6, 7, 8, 9, 10, 11, 12, 13, 14, 15, 16, 17, 18, 19, 20], [0, 1, 2, 3, 4, 5, 6, 7, 8, 9, 10, 11, 12, 13, 14, 15, 16, 17, 18, 19, 20, 21], [0, 1, 2, 3, 4, 5, 6, 7, 8, 9, 10, 11, 12, 13, 14, 15, 16, 17, 18, 19, 20, 21, 22], [0, 1, 2, 3, 4, 5, 6, 7, 8, 9, 10, 11, 12, 13, 14, 15, 16, 17, 18, 19, 20, 21, 22, 23]] [12] [(0, 0), (0, 0), (0, 0), (0, 0), (0, 0), (0, 0), (0, 0), (0, 0), (0, 0), (0, 0), (0, 0), (0, 0), (0, 0), (1, 1), (1, 1), (1, 1), (1, 1), (1, 1), (1, 1), (1, 1), (1, 1), (1, 1), (1, 1), (1, 1), (1, 1)] (by kernel_rfl) (by kernel_rfl) (by kernel_rfl) rfl (by kernel_rfl) (by kernel_rfl) (fun _ h1 h2 h3 h4 _ => hS47.same h1 h2 h3 h4) ?_ (AF_loc ⟨dA, dA, dA, dA, dA, dA, dA, dA, dA, dA, dA, dA, dT, dA, dA, dA, dA, dA, dA, dA, dA, dA, dA, dA, dA, trivial⟩) ⟨?_, ?_, ?_, ?_, ?_, ?_, ?_, ?_, ?_, ?_, ?_, ?_, ?_, ?_, ?_, ?_, ?_, ?_, ?_, ?_, ?_, ?_, ?_, ?_, ?_, trivial⟩ ?_
     ·intro k vals vals' w hv h
      have e : ∀ j ∈ ([12] : List Nat), vals' j = vals j := hv
      match k, h with
      | 0, h => exact h
      | 1, h => exact (by simpa only [WF, List.getElem?_cons_zero, List.getElem?_cons_succ, e 12 (by decide)] using h)
      | _ + 2, _ => trivial
     ·intro k304 vals w305 h308 h309 hW307 hA306
      refine obl rfl ?_
      exact fd107_2 rfl (fun vals' hv _ => ⟨rfl, hv⟩)
     ·intro k310 vals w311 h314 h315 hW313 hA312
      obtain rfl : k310 = 0 := Nat.le_antisymm h315 h314
      have hS316 : Sep G W ((Blk b42 #[.int .i64 (c132), .int .i64 (c233), .bool c334, dx35] 79) :: (Blk b26 ((d.projs.getD z default).cells).toArray 107) :: (Blk b2 (d.cells dd0 dd1).toArray 25) :: Rs) w311 := hW313
      have e317 : vals 0 = (.pointer (some ⟨b26, 2, none⟩) : Value) := hA312 0 (by decide)
      refine obl rfl ?_
      exact ov_load1 (v := .int .i64 ((d.projs.getD z default).pgroup)) Tryd.isAgg3 e317 (blk_cellL (hS316.blk (i := 1) rfl) rfl) (fun vals' hv _ => ⟨rfl, hv⟩)
     ·intro k318 vals w319 h322 h323 hW321 hA320
      obtain rfl : k318 = 0 := Nat.le_antisymm h323 h322
      have hS324 : Sep G W ((Blk b42 #[.int .i64 (c132), .int .i64 (c233), .bool c334, dx35] 79) :: (Blk b26 ((d.projs.getD z default).cells).toArray 107) :: (Blk b2 (d.cells dd0 dd1).toArray 25) :: Rs) w319 := hW321
      have e325 : vals 1 = (.int .i64 ((d.projs.getD z default).pgroup) : Value) := hA320 1 (by decide)
      refine obl rfl ?_
      exact ov_eql (k := .i64) (a := (d.projs.getD z default).pgroup) (b := 3) e325 rfl (fun vals' hv _ => ⟨rfl, hv⟩)
     ·intro k326 vals w327 h330 h331 hW329 hA328
      have e332 : vals 2 = (.bool (decide (((d.projs.getD z default).pgroup) = 3)) : Value) := hA328 2 (by decide)
      refine obl rfl ?_
      exact ov_move (v := .bool (decide (((d.projs.getD z default).pgroup) = 3))) e332 (fun vals' hv _ => ⟨rfl, hv⟩)
     ·intro k333 vals w334 h337 h338 hW336 hA335
      have e339 : vals 3 = (.bool (decide (((d.projs.getD z default).pgroup) = 3)) : Value) := hA335 3 (by decide)
      refine oblc rfl rfl e339 (fun hb340 => ?_) (fun hb340 => fun vals' hv _ => ⟨trivial, hv.trans (if_neg hb340).symm⟩)
      have hl341 := hb340
      have hl341 := of_decide_eq_true hl341
      exact fd25_0 rfl (fun vals' hv _ => ⟨rfl, hv.trans (if_pos hb340).symm⟩)
     ·intro k342 vals w343 h346 h347 hW345 hA344
      obtain rfl : k342 = 0 := Nat.le_antisymm h347 h346
      have hS348 : Sep G W ((Blk b42 #[.int .i64 (c132), .int .i64 (c233), .bool c334, dx35] 79) :: (Blk b26 ((d.projs.getD z default).cells).toArray 107) :: (Blk b2 (d.cells dd0 dd1).toArray 25) :: Rs) w343 := hW345
      have e349 : vals 3 = (.bool (decide (((d.projs.getD z default).pgroup) = 3)) : Value) := hA344 3 (by decide)
      have e350 : vals 4 = (if (decide (((d.projs.getD z default).pgroup) = 3)) = true then (.pointer (some ⟨b2, 0, none⟩) : Value) else undef) := hA344 4 (by decide)
      refine oblc rfl rfl e349 (fun hb351 => ?_) (fun hb351 => fun vals' hv _ => ⟨trivial, hv.trans (if_neg hb351).symm⟩)
      have hl352 := hb351
      have hl352 := of_decide_eq_true hl352
      exact ov_load1 (v := dd0) Tryd.isAgg22 (show _ = (.pointer (some ⟨b2, 0, none⟩) : Value) from (Eq.trans e350 (if_pos hb351))) (blk_cellL (hS348.blk (i := 2) rfl) rfl) (fun vals' hv _ => ⟨rfl, hv.trans (if_pos hb351).symm⟩)
     ·intro k353 vals w354 h357 h358 hW356 hA355
      have e359 : vals 3 = (.bool (decide (((d.projs.getD z default).pgroup) = 3)) : Value) := hA355 3 (by decide)
      refine oblc rfl rfl e359 (fun hb360 => ?_) (fun hb360 => fun vals' hv _ => ⟨trivial, hv.trans (if_neg hb360).symm⟩)
      have hl361 := hb360
      have hl361 := of_decide_eq_true hl361
      exact fd107_0 rfl (fun vals' hv _ => ⟨rfl, hv.trans (if_pos hb360).symm⟩)
     ·intro k362 vals w363 h366 h367 hW365 hA364
      obtain rfl : k362 = 0 := Nat.le_antisymm h367 h366
      have hS368 : Sep G W ((Blk b42 #[.int .i64 (c132), .int .i64 (c233), .bool c334, dx35] 79) :: (Blk b26 ((d.projs.getD z default).cells).toArray 107) :: (Blk b2 (d.cells dd0 dd1).toArray 25) :: Rs) w363 := hW365
      have e369 : vals 3 = (.bool (decide (((d.projs.getD z default).pgroup) = 3)) : Value) := hA364 3 (by decide)
      have e370 : vals 6 = (if (decide (((d.projs.getD z default).pgroup) = 3)) = true then (.pointer (some ⟨b26, 0, none⟩) : Value) else undef) := hA364 6 (by decide)
      refine oblc rfl rfl e369 (fun hb371 => ?_) (fun hb371 => fun vals' hv _ => ⟨trivial, hv.trans (if_neg hb371).symm⟩)
      have hl372 := hb371
      have hl372 := of_decide_eq_true hl372
      exact ov_load1 (v := .int .i64 ((d.projs.getD z default).ptyp)) Tryd.isAgg3 (show _ = (.pointer (some ⟨b26, 0, none⟩) : Value) from (Eq.trans e370 (if_pos hb371))) (blk_cellL (hS368.blk (i := 1) rfl) rfl) (fun vals' hv _ => ⟨rfl, hv.trans (if_pos hb371).symm⟩)
     ·intro k373 vals w374 h377 h378 hW376 hA375
      obtain rfl : k373 = 0 := Nat.le_antisymm h378 h377
      have hS379 : Sep G W ((Blk b42 #[.int .i64 (c132), .int .i64 (c233), .bool c334, dx35] 79) :: (Blk b26 ((d.projs.getD z default).cells).toArray 107) :: (Blk b2 (d.cells dd0 dd1).toArray 25) :: Rs) w374 := hW376
      have e380 : vals 3 = (.bool (decide (((d.projs.getD z default).pgroup) = 3)) : Value) := hA375 3 (by decide)
      have e381 : vals 5 = (if (decide (((d.projs.getD z default).pgroup) = 3)) = true then (dd0 : Value) else undef) := hA375 5 (by decide)
      have e382 : vals 7 = (if (decide (((d.projs.getD z default).pgroup) = 3)) = true then (.int .i64 ((d.projs.getD z default).ptyp) : Value) else undef) := hA375 7 (by decide)
      refine oblc rfl rfl e380 (fun hb383 => ?_) (fun hb383 => fun vals' hv _ => ⟨trivial, hv.trans (if_neg hb383).symm⟩)
      have hl384 := hb383
      have hl384 := of_decide_eq_true hl384
      have hi385 : ((d.projs.getD z default).ptyp).toNat < d.types.length := (by first | omega | (simp only [lens]; omega))
      exact ov_indexAddr (k := 1) (i := (d.projs.getD z default).ptyp) Tryd.underlying22 Tryd.sizeOf33 (show _ = (dd0 : Value) from (Eq.trans e381 (if_pos hb383))) hdd0.sl (show _ = (.int .i64 ((d.projs.getD z default).ptyp) : Value) from (Eq.trans e382 (if_pos hb383))) ⟨by omega, by omega⟩ (fun vals' hv _ => ⟨rfl, hv.trans (if_pos hb383).symm⟩)
     ·intro k386 vals w387 h390 h391 hW389 hA388
      obtain rfl : k386 = 0 := Nat.le_antisymm h391 h390
      have hS392 : Sep G W ((Blk b42 #[.int .i64 (c132), .int .i64 (c233), .bool c334, dx35] 79) :: (Blk b26 ((d.projs.getD z default).cells).toArray 107) :: (Blk b2 (d.cells dd0 dd1).toArray 25) :: Rs) w387 := hW389
      have e393 : vals 3 = (.bool (decide (((d.projs.getD z default).pgroup) = 3)) : Value) := hA388 3 (by decide)
      have e394 : vals 8 = (if (decide (((d.projs.getD z default).pgroup) = 3)) = true then (.pointer (some ⟨sb dd0, so dd0 + (((d.projs.getD z default).ptyp).toNat) * 1, none⟩) : Value) else undef) := hA388 8 (by decide)
      refine oblc rfl rfl e393 (fun hb395 => ?_) (fun hb395 => fun vals' hv _ => ⟨trivial, hv.trans (if_neg hb395).symm⟩)
      have hl396 := hb395
      have hl396 := of_decide_eq_true hl396
      have hi398 : ((d.projs.getD z default).ptyp).toNat < d.types.length := (by first | omega | (simp only [lens]; omega))
      obtain ⟨hce397, hde397_0, hoke397⟩ := hdd0.typ hi398
      rw [← getD_at default hi398] at hce397 hde397_0 hoke397
      have hsm399 : ((d.types.getD (((d.projs.getD z default).ptyp).toNat) default).fields).length * 48 ≤ 140737488355328 := hde397_0.small
      have hcw400 := hS392.cells hce397 (hdd0.foot (ne_of_lt hi398))
      exact ov_loadk (k := 1) Tryd.isAgg33 Tryd.sizeOf33 rfl (show _ = (.pointer (some ⟨sb dd0, so dd0 + (((d.projs.getD z default).ptyp).toNat) * 1, none⟩) : Value) from (Eq.trans e394 (if_pos hb395))) hcw400 (fun vals' hv _ => ⟨rfl, hv.trans (if_pos hb395).symm⟩)
     ·intro k401 vals w402 h405 h406 hW404 hA403
      have e407 : vals 3 = (.bool (decide (((d.projs.getD z default).pgroup) = 3)) : Value) := hA403 3 (by decide)
      refine oblc rfl rfl e407 (fun hb408 => ?_) (fun hb408 => fun vals' hv _ => ⟨trivial, hv.trans (if_neg hb408).symm⟩)
      have hl409 := hb408
      have hl409 := of_decide_eq_true hl409
      exact fd107_3 rfl (fun vals' hv _ => ⟨rfl, hv.trans (if_pos hb408).symm⟩)
     ·intro k410 vals w411 h414 h415 hW413 hA412
      obtain rfl : k410 = 0 := Nat.le_antisymm h415 h414
      have hS416 : Sep G W ((Blk b42 #[.int .i64 (c132), .int .i64 (c233), .bool c334, dx35] 79) :: (Blk b26 ((d.projs.getD z default).cells).toArray 107) :: (Blk b2 (d.cells dd0 dd1).toArray 25) :: Rs) w411 := hW413
      have e417 : vals 3 = (.bool (decide (((d.projs.getD z default).pgroup) = 3)) : Value) := hA412 3 (by decide)
      have e418 : vals 10 = (if (decide (((d.projs.getD z default).pgroup) = 3)) = true then (.pointer (some ⟨b26, 3, none⟩) : Value) else undef) := hA412 10 (by decide)
      refine oblc rfl rfl e417 (fun hb419 => ?_) (fun hb419 => fun vals' hv _ => ⟨trivial, hv.trans (if_neg hb419).symm⟩)
      have hl420 := hb419
      have hl420 := of_decide_eq_true hl420
      exact ov_load1 (v := .int .i64 ((d.projs.getD z default).pby)) Tryd.isAgg3 (show _ = (.pointer (some ⟨b26, 3, none⟩) : Value) from (Eq.trans e418 (if_pos hb419))) (blk_cellL (hS416.blk (i := 1) rfl) rfl) (fun vals' hv _ => ⟨rfl, hv.trans (if_pos hb419).symm⟩)
     ·intro k166 vals w167 h170 h171 hW169 hA168
      obtain rfl : k166 = 0 := Nat.le_antisymm h171 h170
      have hS172 : Sep G W ((Blk b42 #[.int .i64 (c132), .int .i64 (c233), .bool c334, dx35] 79) :: (Blk b26 ((d.projs.getD z default).cells).toArray 107) :: (Blk b2 (d.cells dd0 dd1).toArray 25) :: Rs) w167 := hW169
      have e173 : vals 3 = (.bool (decide (((d.projs.getD z default).pgroup) = 3)) : Value) := hA168 3 (by decide)
      have e174 : vals 9 = (if (decide (((d.projs.getD z default).pgroup) = 3)) = true then (.agg ((d.types.getD (((d.projs.getD z default).ptyp).toNat) default).cells (cellV W (sb dd0) (so dd0 + (((d.projs.getD z default).ptyp).toNat) * 1 + 0))).toArray : Value) else undef) := hA168 9 (by decide)
      have e175 : vals 11 = (if (decide (((d.projs.getD z default).pgroup) = 3)) = true then (.int .i64 ((d.projs.getD z default).pby) : Value) else undef) := hA168 11 (by decide)
      refine oblc rfl rfl e173 (fun hb176 => ?_) (fun hb176 vals' hv hv' => ?_)
      ·skip
       have hl177 := hb176
       have hl177 := of_decide_eq_true hl177
       have hi179 : ((d.projs.getD z default).ptyp).toNat < d.types.length := (by first | omega | (simp only [lens]; omega))
       obtain ⟨hce178, hde178_0, hoke178⟩ := hdd0.typ hi179
       rw [← getD_at default hi179] at hce178 hde178_0 hoke178
       have hsm180 : ((d.types.getD (((d.projs.getD z default).ptyp).toNat) default).fields).length * 48 ≤ 140737488355328 := hde178_0.small
       have hcw181 := hS172.cells hce178 (hdd0.foot (ne_of_lt hi179))
       refine (ov_call (f := 73) (vals := [.agg ((d.types.getD (((d.projs.getD z default).ptyp).toNat) default).cells (cellV W (sb dd0) (so dd0 + (((d.projs.getD z default).ptyp).toNat) * 1 + 0))).toArray, .int .i64 ((d.projs.getD z default).pby)]) (cap := []) (show _ = (.func (.func 73) #[] #[] : Value) from rfl) (mapL ⟨(show _ = (.agg ((d.types.getD (((d.projs.getD z default).ptyp).toNat) default).cells (cellV W (sb dd0) (so dd0 + (((d.projs.getD z default).ptyp).toNat) * 1 + 0))).toArray : Value) from (Eq.trans e174 (if_pos hb176))), (show _ = (.int .i64 ((d.projs.getD z default).pby) : Value) from (Eq.trans e175 (if_pos hb176))), trivial⟩) Tryd.call73 (D_kind (t := (d.types.getD (((d.projs.getD z default).ptyp).toNat) default)) (n := (d.projs.getD z default).pby) hde178_0 hoke178 hoke22.pby hS172) ?_)
       rintro _ w182 ⟨rfl, hS183⟩
       intro vals' hv hv'
       refine ⟨?_, trivial⟩
       show (vals' 12 = (if (decide (((d.projs.getD z default).pgroup) = 3)) = true then (.int .i64 ((kindL (d.types.getD (((d.projs.getD z default).ptyp).toNat) default) ((d.projs.getD z default).pby))) : Value) else undef)) ∧ Sep G W ((Blk b42 #[.int .i64 (c132), .int .i64 (c233), .bool c334, dx35] 79) :: (Blk b26 ((d.projs.getD z default).cells).toArray 107) :: (Blk b2 (d.cells dd0 dd1).toArray 25) :: Rs) w182
       exact ⟨(hv.trans (if_pos hb176).symm), hS183⟩
      ·skip
       refine ⟨?_, trivial⟩
       show (vals' 12 = (if (decide (((d.projs.getD z default).pgroup) = 3)) = true then (.int .i64 ((kindL (d.types.getD (((d.projs.getD z default).ptyp).toNat) default) ((d.projs.getD z default).pby))) : Value) else undef)) ∧ Sep G W ((Blk b42 #[.int .i64 (c132), .int .i64 (c233), .bool c334, dx35] 79) :: (Blk b26 ((d.projs.getD z default).cells).toArray 107) :: (Blk b2 (d.cells dd0 dd1).toArray 25) :: Rs) w167
       exact ⟨(hv.trans (if_neg hb176).symm), hS172⟩
     ·intro k421 vals w422 h425 h426 hW424 hA423
      obtain rfl : k421 = 1 := Nat.le_antisymm h426 h425
      obtain ⟨he184, hS427⟩ : (vals 12 = (if (decide (((d.projs.getD z default).pgroup) = 3)) = true then (.int .i64 ((kindL (d.types.getD (((d.projs.getD z default).ptyp).toNat) default) ((d.projs.getD z default).pby))) : Value) else undef)) ∧ Sep G W ((Blk b42 #[.int .i64 (c132), .int .i64 (c233), .bool c334, dx35] 79) :: (Blk b26 ((d.projs.getD z default).cells).toArray 107) :: (Blk b2 (d.cells dd0 dd1).toArray 25) :: Rs) w422 := hW424
      have e428 : vals 3 = (.bool (decide (((d.projs.getD z default).pgroup) = 3)) : Value) := hA423 3 (by decide)
      refine oblc rfl rfl e428 (fun hb429 => ?_) (fun hb429 => fun vals' hv _ => ⟨trivial, hv.trans (if_neg hb429).symm⟩)
      have hl430 := hb429
      have hl430 := of_decide_eq_true hl430
      exact ov_neq (k := .i64) (a := (kindL (d.types.getD (((d.projs.getD z default).ptyp).toNat) default) ((d.projs.getD z default).pby))) (b := 2) (show _ = (.int .i64 ((kindL (d.types.getD (((d.projs.getD z default).ptyp).toNat) default) ((d.projs.getD z default).pby))) : Value) from (Eq.trans he184 (if_pos hb429))) rfl (fun vals' hv _ => ⟨rfl, hv.trans (if_pos hb429).symm⟩)
     ·intro k431 vals w432 h435 h436 hW434 hA433
      have e437 : vals 3 = (.bool (decide (((d.projs.getD z default).pgroup) = 3)) : Value) := hA433 3 (by decide)
      have e438 : vals 13 = (if (decide (((d.projs.getD z default).pgroup) = 3)) = true then (.bool (!decide ((kindL (d.types.getD (((d.projs.getD z default).ptyp).toNat) default) ((d.projs.getD z default).pby)) = 2)) : Value) else undef) := hA433 13 (by decide)
      refine obl rfl ?_
      exact ov_pick_and (b := decide (((d.projs.getD z default).pgroup) = 3)) (b' := !decide ((kindL (d.types.getD (((d.projs.getD z default).ptyp).toNat) default) ((d.projs.getD z default).pby)) = 2)) e437 (fun hbp => (show _ = (.bool (!decide ((kindL (d.types.getD (((d.projs.getD z default).ptyp).toNat) default) ((d.projs.getD z default).pby)) = 2)) : Value) from (Eq.trans e438 (if_pos hbp)))) (fun vals' hv _ => ⟨rfl, hv⟩)
     ·intro k439 vals w440 h443 h444 hW442 hA441
      have e445 : vals 14 = (.bool ((decide (((d.projs.getD z default).pgroup) = 3)) && (!decide ((kindL (d.types.getD (((d.projs.getD z default).ptyp).toNat) default) ((d.projs.getD z default).pby)) = 2))) : Value) := hA441 14 (by decide)
      refine obl rfl ?_
      exact ov_move (v := .bool ((decide (((d.projs.getD z default).pgroup) = 3)) && (!decide ((kindL (d.types.getD (((d.projs.getD z default).ptyp).toNat) default) ((d.projs.getD z default).pby)) = 2)))) e445 (fun vals' hv _ => ⟨rfl, hv⟩)
     ·intro k446 vals w447 h450 h451 hW449 hA448
      have e452 : vals 15 = (.bool ((decide (((d.projs.getD z default).pgroup) = 3)) && (!decide ((kindL (d.types.getD (((d.projs.getD z default).ptyp).toNat) default) ((d.projs.getD z default).pby)) = 2))) : Value) := hA448 15 (by decide)
      refine oblc rfl rfl e452 (fun hb453 => ?_) (fun hb453 => fun vals' hv _ => ⟨trivial, hv.trans (if_neg hb453).symm⟩)
      have hl454 := hb453
      try simp only [bools] at hl454
      exact fd107_2 rfl (fun vals' hv _ => ⟨rfl, hv.trans (if_pos hb453).symm⟩)
     ·intro k455 vals w456 h459 h460 hW458 hA457
      obtain rfl : k455 = 1 := Nat.le_antisymm h460 h459
      obtain ⟨he184, hS461⟩ : (vals 12 = (if (decide (((d.projs.getD z default).pgroup) = 3)) = true then (.int .i64 ((kindL (d.types.getD (((d.projs.getD z default).ptyp).toNat) default) ((d.projs.getD z default).pby))) : Value) else undef)) ∧ Sep G W ((Blk b42 #[.int .i64 (c132), .int .i64 (c233), .bool c334, dx35] 79) :: (Blk b26 ((d.projs.getD z default).cells).toArray 107) :: (Blk b2 (d.cells dd0 dd1).toArray 25) :: Rs) w456 := hW458
      have e462 : vals 15 = (.bool ((decide (((d.projs.getD z default).pgroup) = 3)) && (!decide ((kindL (d.types.getD (((d.projs.getD z default).ptyp).toNat) default) ((d.projs.getD z default).pby)) = 2))) : Value) := hA457 15 (by decide)
      have e463 : vals 16 = (if ((decide (((d.projs.getD z default).pgroup) = 3)) && (!decide ((kindL (d.types.getD (((d.projs.getD z default).ptyp).toNat) default) ((d.projs.getD z default).pby)) = 2))) = false then (.pointer (some ⟨b26, 2, none⟩) : Value) else undef) := hA457 16 (by decide)
      refine oblc rfl rfl e462 (fun hb464 => ?_) (fun hb464 => fun vals' hv _ => ⟨trivial, hv.trans (if_neg hb464).symm⟩)
      have hl465 := hb464
      try simp only [bools] at hl465
      exact ov_load1 (v := .int .i64 ((d.projs.getD z default).pgroup)) Tryd.isAgg3 (show _ = (.pointer (some ⟨b26, 2, none⟩) : Value) from (Eq.trans e463 (if_pos hb464))) (blk_cellL (hS461.blk (i := 1) rfl) rfl) (fun vals' hv _ => ⟨rfl, hv.trans (if_pos hb464).symm⟩)
     ·intro k466 vals w467 h470 h471 hW469 hA468
      obtain rfl : k466 = 1 := Nat.le_antisymm h471 h470
      obtain ⟨he184, hS472⟩ : (vals 12 = (if (decide (((d.projs.getD z default).pgroup) = 3)) = true then (.int .i64 ((kindL (d.types.getD (((d.projs.getD z default).ptyp).toNat) default) ((d.projs.getD z default).pby))) : Value) else undef)) ∧ Sep G W ((Blk b42 #[.int .i64 (c132), .int .i64 (c233), .bool c334, dx35] 79) :: (Blk b26 ((d.projs.getD z default).cells).toArray 107) :: (Blk b2 (d.cells dd0 dd1).toArray 25) :: Rs) w467 := hW469
      have e473 : vals 15 = (.bool ((decide (((d.projs.getD z default).pgroup) = 3)) && (!decide ((kindL (d.types.getD (((d.projs.getD z default).ptyp).toNat) default) ((d.projs.getD z default).pby)) = 2))) : Value) := hA468 15 (by decide)
      have e474 : vals 17 = (if ((decide (((d.projs.getD z default).pgroup) = 3)) && (!decide ((kindL (d.types.getD (((d.projs.getD z default).ptyp).toNat) default) ((d.projs.getD z default).pby)) = 2))) = false then (.int .i64 ((d.projs.getD z default).pgroup) : Value) else undef) := hA468 17 (by decide)
      refine oblc rfl rfl e473 (fun hb475 => ?_) (fun hb475 => fun vals' hv _ => ⟨trivial, hv.trans (if_neg hb475).symm⟩)
      have hl476 := hb475
      try simp only [bools] at hl476
      exact ov_neq (k := .i64) (a := (d.projs.getD z default).pgroup) (b := 3) (show _ = (.int .i64 ((d.projs.getD z default).pgroup) : Value) from (Eq.trans e474 (if_pos hb475))) rfl (fun vals' hv _ => ⟨rfl, hv.trans (if_pos hb475).symm⟩)
     ·intro k477 vals w478 h481 h482 hW480 hA479
      have e483 : vals 15 = (.bool ((decide (((d.projs.getD z default).pgroup) = 3)) && (!decide ((kindL (d.types.getD (((d.projs.getD z default).ptyp).toNat) default) ((d.projs.getD z default).pby)) = 2))) : Value) := hA479 15 (by decide)
      have e484 : vals 18 = (if ((decide (((d.projs.getD z default).pgroup) = 3)) && (!decide ((kindL (d.types.getD (((d.projs.getD z default).ptyp).toNat) default) ((d.projs.getD z default).pby)) = 2))) = false then (.bool (!decide (((d.projs.getD z default).pgroup) = 3)) : Value) else undef) := hA479 18 (by decide)
      refine oblc rfl rfl e483 (fun hb485 => ?_) (fun hb485 => fun vals' hv _ => ⟨trivial, hv.trans (if_neg hb485).symm⟩)
      have hl486 := hb485
      try simp only [bools] at hl486
      exact ov_move (v := .bool (!decide (((d.projs.getD z default).pgroup) = 3))) (show _ = (.bool (!decide (((d.projs.getD z default).pgroup) = 3)) : Value) from (Eq.trans e484 (if_pos hb485))) (fun vals' hv _ => ⟨rfl, hv.trans (if_pos hb485).symm⟩)
     ·intro k487 vals w488 h491 h492 hW490 hA489
      have e493 : vals 19 = (if ((decide (((d.projs.getD z default).pgroup) = 3)) && (!decide ((kindL (d.types.getD (((d.projs.getD z default).ptyp).toNat) default) ((d.projs.getD z default).pby)) = 2))) = false then (.bool (!decide (((d.projs.getD z default).pgroup) = 3)) : Value) else undef) := hA489 19 (by decide)
      refine oblcP rfl rfl e493 (fun hb494 => ?_) (fun hb494 => fun vals' hv _ => ⟨trivial, hv.trans (if_neg hb494).symm⟩)
      have hl495 := hb494.1
      try simp only [bools] at hl495
      have hl496 := hb494.2
      have hl496 := ndec_true hl496
      exact fd107_3 rfl (fun vals' hv _ => ⟨rfl, hv.trans (if_pos hb494).symm⟩)
     ·intro k497 vals w498 h501 h502 hW500 hA499
      obtain rfl : k497 = 1 := Nat.le_antisymm h502 h501
      obtain ⟨he184, hS503⟩ : (vals 12 = (if (decide (((d.projs.getD z default).pgroup) = 3)) = true then (.int .i64 ((kindL (d.types.getD (((d.projs.getD z default).ptyp).toNat) default) ((d.projs.getD z default).pby))) : Value) else undef)) ∧ Sep G W ((Blk b42 #[.int .i64 (c132), .int .i64 (c233), .bool c334, dx35] 79) :: (Blk b26 ((d.projs.getD z default).cells).toArray 107) :: (Blk b2 (d.cells dd0 dd1).toArray 25) :: Rs) w498 := hW500
      have e504 : vals 19 = (if ((decide (((d.projs.getD z default).pgroup) = 3)) && (!decide ((kindL (d.types.getD (((d.projs.getD z default).ptyp).toNat) default) ((d.projs.getD z default).pby)) = 2))) = false then (.bool (!decide (((d.projs.getD z default).pgroup) = 3)) : Value) else undef) := hA499 19 (by decide)
      have e505 : vals 20 = (if (((decide (((d.projs.getD z default).pgroup) = 3)) && (!decide ((kindL (d.types.getD (((d.projs.getD z default).ptyp).toNat) default) ((d.projs.getD z default).pby)) = 2))) = false) ∧ (!decide (((d.projs.getD z default).pgroup) = 3)) = true then (.pointer (some ⟨b26, 3, none⟩) : Value) else undef) := hA499 20 (by decide)
      refine oblcP rfl rfl e504 (fun hb506 => ?_) (fun hb506 => fun vals' hv _ => ⟨trivial, hv.trans (if_neg hb506).symm⟩)
      have hl507 := hb506.1
      try simp only [bools] at hl507
      have hl508 := hb506.2
      have hl508 := ndec_true hl508
      exact ov_load1 (v := .int .i64 ((d.projs.getD z default).pby)) Tryd.isAgg3 (show _ = (.pointer (some ⟨b26, 3, none⟩) : Value) from (Eq.trans e505 (if_pos ⟨hb506.1, hb506.2⟩))) (blk_cellL (hS503.blk (i := 1) rfl) rfl) (fun vals' hv _ => ⟨rfl, hv.trans (if_pos hb506).symm⟩)
     ·intro k509 vals w510 h513 h514 hW512 hA511
      obtain rfl : k509 = 1 := Nat.le_antisymm h514 h513
      obtain ⟨he184, hS515⟩ : (vals 12 = (if (decide (((d.projs.getD z default).pgroup) = 3)) = true then (.int .i64 ((kindL (d.types.getD (((d.projs.getD z default).ptyp).toNat) default) ((d.projs.getD z default).pby))) : Value) else undef)) ∧ Sep G W ((Blk b42 #[.int .i64 (c132), .int .i64 (c233), .bool c334, dx35] 79) :: (Blk b26 ((d.projs.getD z default).cells).toArray 107) :: (Blk b2 (d.cells dd0 dd1).toArray 25) :: Rs) w510 := hW512
      have e516 : vals 19 = (if ((decide (((d.projs.getD z default).pgroup) = 3)) && (!decide ((kindL (d.types.getD (((d.projs.getD z default).ptyp).toNat) default) ((d.projs.getD z default).pby)) = 2))) = false then (.bool (!decide (((d.projs.getD z default).pgroup) = 3)) : Value) else undef) := hA511 19 (by decide)
      have e517 : vals 21 = (if (((decide (((d.projs.getD z default).pgroup) = 3)) && (!decide ((kindL (d.types.getD (((d.projs.getD z default).ptyp).toNat) default) ((d.projs.getD z default).pby)) = 2))) = false) ∧ (!decide (((d.projs.getD z default).pgroup) = 3)) = true then (.int .i64 ((d.projs.getD z default).pby) : Value) else undef) := hA511 21 (by decide)
      refine oblcP rfl rfl e516 (fun hb518 => ?_) (fun hb518 => fun vals' hv _ => ⟨trivial, hv.trans (if_neg hb518).symm⟩)
      have hl519 := hb518.1
      try simp only [bools] at hl519
      have hl520 := hb518.2
      have hl520 := ndec_true hl520
      exact ov_neq (k := .i64) (a := (d.projs.getD z default).pby) (b := 0) (show _ = (.int .i64 ((d.projs.getD z default).pby) : Value) from (Eq.trans e517 (if_pos ⟨hb518.1, hb518.2⟩))) rfl (fun vals' hv _ => ⟨rfl, hv.trans (if_pos hb518).symm⟩)
     ·intro k521 vals w522 h525 h526 hW524 hA523
      have e527 : vals 15 = (.bool ((decide (((d.projs.getD z default).pgroup) = 3)) && (!decide ((kindL (d.types.getD (((d.projs.getD z default).ptyp).toNat) default) ((d.projs.getD z default).pby)) = 2))) : Value) := hA523 15 (by decide)
      have e528 : vals 19 = (if ((decide (((d.projs.getD z default).pgroup) = 3)) && (!decide ((kindL (d.types.getD (((d.projs.getD z default).ptyp).toNat) default) ((d.projs.getD z default).pby)) = 2))) = false then (.bool (!decide (((d.projs.getD z default).pgroup) = 3)) : Value) else undef) := hA523 19 (by decide)
      have e529 : vals 22 = (if (((decide (((d.projs.getD z default).pgroup) = 3)) && (!decide ((kindL (d.types.getD (((d.projs.getD z default).ptyp).toNat) default) ((d.projs.getD z default).pby)) = 2))) = false) ∧ (!decide (((d.projs.getD z default).pgroup) = 3)) = true then (.bool (!decide (((d.projs.getD z default).pby) = 0)) : Value) else undef) := hA523 22 (by decide)
      refine oblc rfl rfl e527 (fun hb530 => ?_) (fun hb530 => fun vals' hv _ => ⟨trivial, hv.trans (if_neg hb530).symm⟩)
      have hl531 := hb530
      try simp only [bools] at hl531
      exact ov_pick_and (b := !decide (((d.projs.getD z default).pgroup) = 3)) (b' := !decide (((d.projs.getD z default).pby) = 0)) (show _ = (.bool (!decide (((d.projs.getD z default).pgroup) = 3)) : Value) from (Eq.trans e528 (if_pos hb530))) (fun hbp => (show _ = (.bool (!decide (((d.projs.getD z default).pby) = 0)) : Value) from (Eq.trans e529 (if_pos ⟨hb530, hbp⟩)))) (fun vals' hv _ => ⟨rfl, hv.trans (if_pos hb530).symm⟩)
     ·intro k532 vals w533 h536 h537 hW535 hA534
      have e538 : vals 15 = (.bool ((decide (((d.projs.getD z default).pgroup) = 3)) && (!decide ((kindL (d.types.getD (((d.projs.getD z default).ptyp).toNat) default) ((d.projs.getD z default).pby)) = 2))) : Value) := hA534 15 (by decide)
      have e539 : vals 23 = (if ((decide (((d.projs.getD z default).pgroup) = 3)) && (!decide ((kindL (d.types.getD (((d.projs.getD z default).ptyp).toNat) default) ((d.projs.getD z default).pby)) = 2))) = false then (.bool ((!decide (((d.projs.getD z default).pgroup) = 3)) && (!decide (((d.projs.getD z default).pby) = 0))) : Value) else undef) := hA534 23 (by decide)
      refine obl rfl ?_
      exact ov_pick_or (b := (decide (((d.projs.getD z default).pgroup) = 3)) && (!decide ((kindL (d.types.getD (((d.projs.getD z default).ptyp).toNat) default) ((d.projs.getD z default).pby)) = 2))) (b' := (!decide (((d.projs.getD z default).pgroup) = 3)) && (!decide (((d.projs.getD z default).pby) = 0))) e538 (fun hbp => (show _ = (.bool ((!decide (((d.projs.getD z default).pgroup) = 3)) && (!decide (((d.projs.getD z default).pby) = 0))) : Value) from (Eq.trans e539 (if_pos hbp)))) (fun vals' hv _ => ⟨rfl, hv⟩)
     intro vals w540 hW541 hA542
     obtain ⟨he184, hS543⟩ : (vals 12 = (if (decide (((d.projs.getD z default).pgroup) = 3)) = true then (.int .i64 ((kindL (d.types.getD (((d.projs.getD z default).ptyp).toNat) default) ((d.projs.getD z default).pby))) : Value) else undef)) ∧ Sep G W ((Blk b42 #[.int .i64 (c132), .int .i64 (c233), .bool c334, dx35] 79) :: (Blk b26 ((d.projs.getD z default).cells).toArray 107) :: (Blk b2 (d.cells dd0 dd1).toArray 25) :: Rs) w540 := hW541
     have e544 : vals 24 = (.bool (((decide (((d.projs.getD z default).pgroup) = 3)) && (!decide ((kindL (d.types.getD (((d.projs.getD z default).ptyp).toNat) default) ((d.projs.getD z default).pby)) = 2))) || ((!decide (((d.projs.getD z default).pgroup) = 3)) && (!decide (((d.projs.getD z default).pby) = 0)))) : Value) := hA542 24 (by decide)
     refine st_env (kv := [(1, .pointer (some ⟨b2, 0, none⟩)), (6, .int .i64 ((z : Nat) : Int)), (48, .int .i64 ((z : Nat) : Int)), (49, .pointer (some ⟨b2, 1, none⟩)), (50, dd1), (51, .int .i64 ((d.projs.length : Nat) : Int)), (52, .bool true), (55, .pointer (some ⟨b2, 1, none⟩)), (56, dd1), (57, .int .i64 ((z : Nat) : Int)), (58, .pointer (some ⟨sb dd1, so dd1 + z * 5, none⟩)), (59, .agg ((d.projs.getD z default).cells).toArray), (7, .pointer (some ⟨b26, 0, none⟩)), (61, .agg (d.cells dd0 dd1).toArray), (62, .pointer (some ⟨b26, 0, none⟩)), (63, .int .i64 ((d.projs.getD z default).ptyp)), (64, .pointer (some ⟨b26, 1, none⟩)), (65, .int .i64 ((d.projs.getD z default).pfield)), (66, .tuple #[.agg #[.int .i64 (c132), .int .i64 (c233), .bool c334, dx35], .bool b36]), (60, .tuple #[.agg #[.int .i64 (c132), .int .i64 (c233), .bool c334, dx35], .bool b36]), (67, .agg #[.int .i64 (c132), .int .i64 (c233), .bool c334, dx35]), (68, .bool b36), (8, .pointer (some ⟨b42, 0, none⟩)), (9, .bool b36), (69, .bool b36), (70, .bool false), (95, .bool (((decide (((d.projs.getD z default).pgroup) = 3)) && (!decide ((kindL (d.types.getD (((d.projs.getD z default).ptyp).toNat) default) ((d.projs.getD z default).pby)) = 2))) || ((!decide (((d.projs.getD z default).pgroup) = 3)) && (!decide (((d.projs.getD z default).pby) = 0)))))]) ⟨rfl, rfl, rfl, rfl, rfl, rfl, rfl, rfl, rfl, rfl, rfl, rfl, rfl, rfl, rfl, rfl, rfl, rfl, rfl, rfl, rfl, rfl, rfl, rfl, rfl, rfl, (by exact e544), trivial⟩ (fun ρw540 => ?_)
     refine st_nil ?_
     cases hc545 : ((decide (((d.projs.getD z default).pgroup) = 3)) && (!decide ((kindL (d.types.getD (((d.projs.getD z default).ptyp).toNat) default) ((d.projs.getD z default).pby)) = 2))) || ((!decide (((d.projs.getD z default).pgroup) = 3)) && (!decide (((d.projs.getD z default).pby) = 0)))
     ·skip
      try simp only [bools] at hc545
      refine WP_cond_f rfl ?_
      refine WP_skip ?_
      refine WP_seq ?_
      refine WP_region (by kernel_rfl) ?_
      refine st (fd107_2 rfl ?_)
      refine st (ov_load1 (v := .int .i64 ((d.projs.getD z default).pgroup)) Tryd.isAgg3 rfl (blk_cellL (hS543.blk (i := 1) rfl) rfl) ?_)
      refine st (ov_lss (k := .i64) (a := (d.projs.getD z default).pgroup) (b := 1) rfl rfl ?_)
      refine st (ov_move (v := .bool (decide (((d.projs.getD z default).pgroup) < 1))) rfl ?_)
      refine stc (V := .pointer (some ⟨b26, 2, none⟩)) rfl rfl (fun hb546 => ?_) ?_
      ·have hl547 := hb546
       have hl547 := of_decide_eq_false hl547
       exact fd107_2 rfl ⟨rfl, rfl⟩
      refine stc (V := .int .i64 ((d.projs.getD z default).pgroup)) rfl rfl (fun hb548 => ?_) ?_
      ·have hl549 := hb548
       have hl549 := of_decide_eq_false hl549
       exact ov_load1 (v := .int .i64 ((d.projs.getD z default).pgroup)) Tryd.isAgg3 (show _ = (.pointer (some ⟨b26, 2, none⟩) : Value) from (if_pos hb548)) (blk_cellL (hS543.blk (i := 1) rfl) rfl) ⟨rfl, rfl⟩
      refine stc (V := .bool (decide (3 < ((d.projs.getD z default).pgroup)))) rfl rfl (fun hb550 => ?_) ?_
      ·have hl551 := hb550
       have hl551 := of_decide_eq_false hl551
       exact ov_gtr (k := .i64) (a := (d.projs.getD z default).pgroup) (b := 3) (show _ = (.int .i64 ((d.projs.getD z default).pgroup) : Value) from (if_pos hb550)) rfl ⟨rfl, rfl⟩
      refine st (ov_pick_or (b := decide (((d.projs.getD z default).pgroup) < 1)) (b' := decide (3 < ((d.projs.getD z default).pgroup))) rfl (fun hbp => (show _ = (.bool (decide (3 < ((d.projs.getD z default).pgroup))) : Value) from (if_pos hbp))) ?_)
      refine st (ov_move (v := .bool ((decide (((d.projs.getD z default).pgroup) < 1)) || (decide (3 < ((d.projs.getD z default).pgroup))))) rfl ?_)
      refine stc (V := .pointer (some ⟨b26, 4, none⟩)) rfl rfl (fun hb552 => ?_) ?_
      ·have hl553 := hb552
       try simp only [bools] at hl553
       exact fd107_4 rfl ⟨rfl, rfl⟩
      refine stc (V := .int .i64 ((d.projs.getD z default).pmake)) rfl rfl (fun hb554 => ?_) ?_
      ·have hl555 := hb554
       try simp only [bools] at hl555
       exact ov_load1 (v := .int .i64 ((d.projs.getD z default).pmake)) Tryd.isAgg3 (show _ = (.pointer (some ⟨b26, 4, none⟩) : Value) from (if_pos hb554)) (blk_cellL (hS543.blk (i := 1) rfl) rfl) ⟨rfl, rfl⟩
      refine stc (V := .bool (decide (((d.projs.getD z default).pmake) < 1))) rfl rfl (fun hb556 => ?_) ?_
      ·have hl557 := hb556
       try simp only [bools] at hl557
       exact ov_lss (k := .i64) (a := (d.projs.getD z default).pmake) (b := 1) (show _ = (.int .i64 ((d.projs.getD z default).pmake) : Value) from (if_pos hb556)) rfl ⟨rfl, rfl⟩
      refine st (ov_pick_or (b := (decide (((d.projs.getD z default).pgroup) < 1)) || (decide (3 < ((d.projs.getD z default).pgroup)))) (b' := decide (((d.projs.getD z default).pmake) < 1)) rfl (fun hbp => (show _ = (.bool (decide (((d.projs.getD z default).pmake) < 1)) : Value) from (if_pos hbp))) ?_)
      refine st (ov_move (v := .bool (((decide (((d.projs.getD z default).pgroup) < 1)) || (decide (3 < ((d.projs.getD z default).pgroup)))) || (decide (((d.projs.getD z default).pmake) < 1)))) rfl ?_)
      refine stc (V := .pointer (some ⟨b26, 4, none⟩)) rfl rfl (fun hb558 => ?_) ?_
      ·have hl559 := hb558
       try simp only [bools] at hl559
       exact fd107_4 rfl ⟨rfl, rfl⟩
      refine stc (V := .int .i64 ((d.projs.getD z default).pmake)) rfl rfl (fun hb560 => ?_) ?_
      ·have hl561 := hb560
       try simp only [bools] at hl561
       exact ov_load1 (v := .int .i64 ((d.projs.getD z default).pmake)) Tryd.isAgg3 (show _ = (.pointer (some ⟨b26, 4, none⟩) : Value) from (if_pos hb560)) (blk_cellL (hS543.blk (i := 1) rfl) rfl) ⟨rfl, rfl⟩
      refine stc (V := .bool (decide (5 < ((d.projs.getD z default).pmake)))) rfl rfl (fun hb562 => ?_) ?_
      ·have hl563 := hb562
       try simp only [bools] at hl563
       exact ov_gtr (k := .i64) (a := (d.projs.getD z default).pmake) (b := 5) (show _ = (.int .i64 ((d.projs.getD z default).pmake) : Value) from (if_pos hb562)) rfl ⟨rfl, rfl⟩
      refine st (ov_pick_or (b := ((decide (((d.projs.getD z default).pgroup) < 1)) || (decide (3 < ((d.projs.getD z default).pgroup)))) || (decide (((d.projs.getD z default).pmake) < 1))) (b' := decide (5 < ((d.projs.getD z default).pmake))) rfl (fun hbp => (show _ = (.bool (decide (5 < ((d.projs.getD z default).pmake))) : Value) from (if_pos hbp))) ?_)
      refine st_nil ?_
      cases hc564 : (((decide (((d.projs.getD z default).pgroup) < 1)) || (decide (3 < ((d.projs.getD z default).pgroup)))) || (decide (((d.projs.getD z default).pmake) < 1))) || (decide (5 < ((d.projs.getD z default).pmake)))
      ·skip
       try simp only [bools] at hc564
       refine WP_cond_f rfl ?_
       refine WP_skip ?_
       refine WP_region0 (by kernel_rfl) (fun _ => ?_)
       refine st (ov_move (v := .int .i64 ((z : Nat) : Int)) rfl ?_)
       have hr565 : InR ((z + 1 : Nat) : Int) := by first | omega | (simp only [lens]; omega)
       refine st (ov_add (r := ((z + 1 : Nat) : Int)) (k := .i64) (a := ((z : Nat) : Int)) (b := 1) rfl rfl (by rw [show (((z : Nat) : Int) + 1 : Int) = ((z + 1 : Nat) : Int) by first | omega | (simp only [lens]; omega)]; exact wrap_in hr565) ?_)
       refine st (ov_assign (v := .int .i64 ((z + 1 : Nat) : Int)) rfl ?_)
       refine st_nil ?_
       have hS566 : Sep G W ((Blk b2 (d.cells dd0 dd1).toArray 25) :: Rs) w540 := hS543.sel 3 [2] (Nat.le_add_left _ _) rfl rfl
       exact ⟨_, by omega, z + 1, _, rfl, setAll_self ⟨rfl, rfl, trivial⟩, by omega, hS566⟩
      ·skip
       try simp only [bools] at hc564
       refine WP_cond_t rfl ?_
       refine WP_seq ?_
       refine WP_region0 (by kernel_rfl) (fun _ => ?_)
       refine st (ov_assign (v := .int .i64 (2)) rfl ?_)
       refine st_nil ?_
       refine WP_ret ?_
       refine fin1 Tryd.results46 (show _ = (.int .i64 (2) : Value) from rfl) ?_
       have hS567 : Sep G W Rs w540 := hS543.sel 3 [] (Nat.le_add_left _ _) rfl rfl
       refine ⟨2, rfl, ?_, ?_, hS567⟩
       · first | decide | assumption
       · intro h9
         exfalso; omega
     ·skip
      try simp only [bools] at hc545
      refine WP_cond_t rfl ?_
      refine WP_seq ?_
      refine WP_region0 (by kernel_rfl) (fun _ => ?_)
      refine st (ov_assign (v := .int .i64 (8)) rfl ?_)
      refine st_nil ?_
      refine WP_ret ?_
      refine fin1 Tryd.results46 (show _ = (.int .i64 (8) : Value) from rfl) ?_
      have hS568 : Sep G W Rs w540 := hS543.sel 3 [] (Nat.le_add_left _ _) rfl rfl
      refine ⟨8, rfl, ?_, ?_, hS568⟩
      · first | decide | assumption
      · intro h9
        exfalso; omega
    ·skip
     try simp only [bools] at hc48
     refine WP_cond_t rfl ?_
     refine WP_seq ?_
     refine WP_region0 (by kernel_rfl) (fun _ => ?_)
     refine st (ov_assign (v := .int .i64 (8)) rfl ?_)
     refine st_nil ?_
     refine WP_ret ?_
     refine fin1 Tryd.results46 (show _ = (.int .i64 (8) : Value) from rfl) ?_
     have hS569 : Sep G W Rs w45 := hS47.sel 3 [] (Nat.le_add_left _ _) rfl rfl
     refine ⟨8, rfl, ?_, ?_, hS569⟩
     · first | decide | assumption
     · intro h9
       exfalso; omega
  ·skip
   have hc14 := of_decide_eq_true hc14
   refine WP_cond_t rfl ?_
   refine WP_skip ?_
   refine WP_seq ?_
   refine WP_block ?_
   refine WP_seq ?_
   refine WP_region0 (by kernel_rfl) (fun _ => ?_)
   refine st (ov_assign (v := .int .i64 (0)) rfl ?_)
   refine st_nil ?_
   refine WP_block ?_
   refine WP_loop (fun mq σ wq => ∃ (j : Nat) (ρ : Env), mq = (d.types.getD k default).fields.length - j ∧ σ = setAll ρ [(1, .pointer (some ⟨b2, 0, none⟩)), (3, .int .i64 ((k : Nat) : Int)), (4, .int .i64 ((j : Nat) : Int))] ∧ (j ≤ (d.types.getD k default).fields.length) ∧ (∀ i, i < j → OneOk (d.types.getD k default) ((d.types.getD k default).fields.getD i default)) ∧ Sep G W ((Blk b2 (d.cells dd0 dd1).toArray 25) :: Rs) wq) ⟨0, _, rfl, setAll_self ⟨rfl, rfl, rfl, trivial⟩, Nat.zero_le _, (fun i h => absurd h (Nat.not_lt_zero i)), hS13⟩ ?_
   rintro m571 σ572 w570 ⟨j, ρl3, rfl, rfl, hkj, hm2, hS573⟩
   refine WP_seq ?_
   refine WP_seq ?_
   refine WP_region0 (by kernel_rfl) (fun _ => ?_)
   refine st (ov_move (v := .int .i64 ((j : Nat) : Int)) rfl ?_)
   refine st (fd25_0 rfl ?_)
   refine st (ov_load1 (v := dd0) Tryd.isAgg22 rfl (blk_cellL (hS573.blk (i := 0) rfl) rfl) ?_)
   refine st (ov_move (v := .int .i64 ((k : Nat) : Int)) rfl ?_)
   have hi574 : k < d.types.length := (by first | omega | (simp only [lens]; omega))
   refine st (ov_indexAddrN (k := 1) (i := k) Tryd.underlying22 Tryd.sizeOf33 rfl hdd0.sl rfl hi574 ?_)
   refine st (fd33_0 rfl ?_)
   have hi576 : k < d.types.length := (by first | omega | (simp only [lens]; omega))
   obtain ⟨hce575, hde575_0, hoke575⟩ := hdd0.typ hi576
   rw [← getD_at default hi576] at hce575 hde575_0 hoke575
   have hsm577 : ((d.types.getD k default).fields).length * 48 ≤ 140737488355328 := hde575_0.small
   have hcw578 := hS573.cells hce575 (hdd0.foot (ne_of_lt hi576))
   refine st (ov_load1 (v := (cellV W (sb dd0) (so dd0 + k * 1 + 0))) Tryd.isAgg31 rfl (hcw578.get (j := 0) rfl) ?_)
   refine st (ov_len (n := ((d.types.getD k default).fields).length) Tryd.underlying31 rfl hde575_0.sl ?_)
   refine st (ov_lss (k := .i64) (a := ((j : Nat) : Int)) (b := ((((d.types.getD k default).fields).length : Nat) : Int)) rfl rfl ?_)
   refine st_nil ?_
   cases hc579 : decide (((j : Nat) : Int) < ((((d.types.getD k default).fields).length : Nat) : Int))
   ·skip
    have hc579 := of_decide_eq_false hc579
    refine WP_cond_f rfl ?_
    refine WP_exit ?_
    refine blk_exit ?_
    refine WP_region0 (by kernel_rfl) (fun _ => ?_)
    refine st (ov_move (v := .int .i64 ((k : Nat) : Int)) rfl ?_)
    have hr580 : InR ((k + 1 : Nat) : Int) := by first | omega | (simp only [lens]; omega)
    refine st (ov_add (r := ((k + 1 : Nat) : Int)) (k := .i64) (a := ((k : Nat) : Int)) (b := 1) rfl rfl (by rw [show (((k : Nat) : Int) + 1 : Int) = ((k + 1 : Nat) : Int) by first | omega | (simp only [lens]; omega)]; exact wrap_in hr580) ?_)
    refine st (ov_assign (v := .int .i64 ((k + 1 : Nat) : Int)) rfl ?_)
    refine st_nil ?_
    exact ⟨_, by omega, k + 1, _, rfl, setAll_self ⟨rfl, rfl, trivial⟩, by omega, (all_step hm (fun j9 h9 => hm2 j9 (by omega))), hS573⟩
   ·skip
    have hc579 := of_decide_eq_true hc579
    refine WP_cond_t rfl ?_
    refine WP_skip ?_
    refine WP_seq ?_
    refine WP_block ?_
    refine WP_seq ?_
    refine WP_draw4 (WF [fun vals wq => Sep G W ((Blk b2 (d.cells dd0 dd1).toArray 25) :: Rs) wq, fun vals wq => ∃ (e709 : Int), (vals 14 = (.int .i64 (e709) : Value)) ∧ (InR e709) ∧ (e709 = 0 → OneOk (d.types.getD k default) (((d.types.getD k default).fields).getD j default)) ∧ Sep G W ((Blk b2 (d.cells dd0 dd1).toArray 25) :: Rs) wq]) (AF [Vl 0 (.pointer (some ⟨b2, 0, none⟩)), Vl 1 (dd0), Vl 2 (.int .i64 ((k : Nat) : Int)), Vl 3 (.pointer (some ⟨sb dd0, so dd0 + k * 1, none⟩)), Vl 4 (.agg ((d.types.getD k default).cells (cellV W (sb dd0) (so dd0 + k * 1 + 0))).toArray), Vl 5 (.pointer (some ⟨b2, 0, none⟩)), Vl 6 (dd0), Vl 7 (.int .i64 ((k : Nat) : Int)), Vl 8 (.pointer (some ⟨sb dd0, so dd0 + k * 1, none⟩)), Vl 9 (.pointer (some ⟨sb dd0, so dd0 + k * 1, none⟩)), Vl 10 ((cellV W (sb dd0) (so dd0 + k * 1 + 0))), Vl 11 (.int .i64 ((j : Nat) : Int)), Vl 12 (.pointer (some ⟨sb (cellV W (sb dd0) (so dd0 + k * 1 + 0)), so (cellV W (sb dd0) (so dd0 + k * 1 + 0)) + j * 4, none⟩)), Vl 13 (.agg ((((d.types.getD k default).fields).getD j default).cells (cellV W (sb (cellV W (sb dd0) (so dd0 + k * 1 + 0))) (so (cellV W (sb dd0) (so dd0 + k * 1 + 0)) + j * 4 + 3))).toArray), fun _ => True, fun vals => ∀ (e709 : Int), vals 14 = (.int .i64 (e709) : Value) → vals 15 = (.int .i64 (e709) : Value)]) [[], [0], [], [0, 1, 2], [0, 1, 2, 3], [], [5], [], [5, 6, 7], [5, 6, 7, 8], [5, 6, 7, 8, 9], [], [5, 6, 7, 8, 9, 10, 11], [5, 6, 7, 8, 9, 10, 11, 12], [0, 1, 2, 3, 4, 5, 6, 7, 8, 9, 10, 11, 12, 13], [0, 1, 2, 3, 4, 5, 6, 7, 8, 9, 10, 11, 12, 13, 14]] [14] [(0, 0), (0, 0), (0, 0), (0, 0), (0, 0), (0, 0), (0, 0), (0, 0), (0, 0), (0, 0), (0, 0), (0, 0), (0, 0), (0, 0), (0, 0), (1, 1)] (by kernel_rfl) (by kernel_rfl) (by kernel_rfl) rfl (by kernel_rfl) (by kernel_rfl) (fun _ h1 h2 h3 h4 _ => hS573.same h1 h2 h3 h4) ?_ (AF_loc ⟨dA, dA, dA, dA, dA, dA, dA, dA, dA, dA, dA, dA, dA, dA, dT, fun vals vals' hv h => fun e709 hq0 => (hv 15 (.inl rfl)).trans (h e709 ((hv 14 (.inr (by decide))).symm.trans hq0)), trivial⟩) ⟨?_, ?_, ?_, ?_, ?_, ?_, ?_, ?_, ?_, ?_, ?_, ?_, ?_, ?_, ?_, ?_, trivial⟩ ?_
    ·intro k vals vals' w hv h
     have e : ∀ j ∈ ([14] : List Nat), vals' j = vals j := hv
     match k, h with
     | 0, h => exact h
     | 1, h => exact (by simpa only [WF, List.getElem?_cons_zero, List.getElem?_cons_succ, e 14 (by decide)] using h)
     | _ + 2, _ => trivial
    ·intro k722 vals w723 h726 h727 hW725 hA724
     refine obl rfl ?_
     exact fd25_0 rfl (fun vals' hv _ => ⟨rfl, hv⟩)
    ·intro k728 vals w729 h732 h733 hW731 hA730
     obtain rfl : k728 = 0 := Nat.le_antisymm h733 h732
     have hS734 : Sep G W ((Blk b2 (d.cells dd0 dd1).toArray 25) :: Rs) w729 := hW731
     have e735 : vals 0 = (.pointer (some ⟨b2, 0, none⟩) : Value) := hA730 0 (by decide)
     refine obl rfl ?_
     exact ov_load1 (v := dd0) Tryd.isAgg22 e735 (blk_cellL (hS734.blk (i := 0) rfl) rfl) (fun vals' hv _ => ⟨rfl, hv⟩)
    ·intro k736 vals w737 h740 h741 hW739 hA738
     refine obl rfl ?_
     exact ov_move (v := .int .i64 ((k : Nat) : Int)) rfl (fun vals' hv _ => ⟨rfl, hv⟩)
    ·intro k742 vals w743 h746 h747 hW745 hA744
     obtain rfl : k742 = 0 := Nat.le_antisymm h747 h746
     have hS748 : Sep G W ((Blk b2 (d.cells dd0 dd1).toArray 25) :: Rs) w743 := hW745
     have e749 : vals 1 = (dd0 : Value) := hA744 1 (by decide)
     have e750 : vals 2 = (.int .i64 ((k : Nat) : Int) : Value) := hA744 2 (by decide)
     refine obl rfl ?_
     have hi751 : k < d.types.length := (by first | omega | (simp only [lens]; omega))
     exact ov_indexAddrN (k := 1) (i := k) Tryd.underlying22 Tryd.sizeOf33 e749 hdd0.sl e750 hi751 (fun vals' hv _ => ⟨rfl, hv⟩)
    ·intro k752 vals w753 h756 h757 hW755 hA754
     obtain rfl : k752 = 0 := Nat.le_antisymm h757 h756
     have hS758 : Sep G W ((Blk b2 (d.cells dd0 dd1).toArray 25) :: Rs) w753 := hW755
     have e759 : vals 3 = (.pointer (some ⟨sb dd0, so dd0 + k * 1, none⟩) : Value) := hA754 3 (by decide)
     refine obl rfl ?_
     have hcw761 := hS758.cells hce575 (hdd0.foot (ne_of_lt hi576))
     exact ov_loadk (k := 1) Tryd.isAgg33 Tryd.sizeOf33 rfl e759 hcw761 (fun vals' hv _ => ⟨rfl, hv⟩)
    ·intro k762 vals w763 h766 h767 hW765 hA764
     refine obl rfl ?_
     exact fd25_0 rfl (fun vals' hv _ => ⟨rfl, hv⟩)
    ·intro k768 vals w769 h772 h773 hW771 hA770
     obtain rfl : k768 = 0 := Nat.le_antisymm h773 h772
     have hS774 : Sep G W ((Blk b2 (d.cells dd0 dd1).toArray 25) :: Rs) w769 := hW771
     have e775 : vals 5 = (.pointer (some ⟨b2, 0, none⟩) : Value) := hA770 5 (by decide)
     refine obl rfl ?_
     exact ov_load1 (v := dd0) Tryd.isAgg22 e775 (blk_cellL (hS774.blk (i := 0) rfl) rfl) (fun vals' hv _ => ⟨rfl, hv⟩)
    ·intro k776 vals w777 h780 h781 hW779 hA778
     refine obl rfl ?_
     exact ov_move (v := .int .i64 ((k : Nat) : Int)) rfl (fun vals' hv _ => ⟨rfl, hv⟩)
    ·intro k782 vals w783 h786 h787 hW785 hA784
     obtain rfl : k782 = 0 := Nat.le_antisymm h787 h786
     have hS788 : Sep G W ((Blk b2 (d.cells dd0 dd1).toArray 25) :: Rs) w783 := hW785
     have e789 : vals 6 = (dd0 : Value) := hA784 6 (by decide)
     have e790 : vals 7 = (.int .i64 ((k : Nat) : Int) : Value) := hA784 7 (by decide)
     refine obl rfl ?_
     have hi791 : k < d.types.length := (by first | omega | (simp only [lens]; omega))
     exact ov_indexAddrN (k := 1) (i := k) Tryd.underlying22 Tryd.sizeOf33 e789 hdd0.sl e790 hi791 (fun vals' hv _ => ⟨rfl, hv⟩)
    ·intro k792 vals w793 h796 h797 hW795 hA794
     have e798 : vals 8 = (.pointer (some ⟨sb dd0, so dd0 + k * 1, none⟩) : Value) := hA794 8 (by decide)
     refine obl rfl ?_
     exact fd33_0 e798 (fun vals' hv _ => ⟨rfl, hv⟩)
    ·intro k799 vals w800 h803 h804 hW802 hA801
     obtain rfl : k799 = 0 := Nat.le_antisymm h804 h803
     have hS805 : Sep G W ((Blk b2 (d.cells dd0 dd1).toArray 25) :: Rs) w800 := hW802
     have e806 : vals 9 = (.pointer (some ⟨sb dd0, so dd0 + k * 1, none⟩) : Value) := hA801 9 (by decide)
     refine obl rfl ?_
     have hcw808 := hS805.cells hce575 (hdd0.foot (ne_of_lt hi576))
     exact ov_load1 (v := (cellV W (sb dd0) (so dd0 + k * 1 + 0))) Tryd.isAgg31 e806 (hcw808.get (j := 0) rfl) (fun vals' hv _ => ⟨rfl, hv⟩)
    ·intro k809 vals w810 h813 h814 hW812 hA811
     refine obl rfl ?_
     exact ov_move (v := .int .i64 ((j : Nat) : Int)) rfl (fun vals' hv _ => ⟨rfl, hv⟩)
    ·intro k815 vals w816 h819 h820 hW818 hA817
     obtain rfl : k815 = 0 := Nat.le_antisymm h820 h819
     have hS821 : Sep G W ((Blk b2 (d.cells dd0 dd1).toArray 25) :: Rs) w816 := hW818
     have e822 : vals 10 = ((cellV W (sb dd0) (so dd0 + k * 1 + 0)) : Value) := hA817 10 (by decide)
     have e823 : vals 11 = (.int .i64 ((j : Nat) : Int) : Value) := hA817 11 (by decide)
     refine obl rfl ?_
     have hi824 : j < ((d.types.getD k default).fields).length := (by first | omega | (simp only [lens]; omega))
     exact ov_indexAddrN (k := 4) (i := j) Tryd.underlying31 Tryd.sizeOf79 e822 hde575_0.sl e823 hi824 (fun vals' hv _ => ⟨rfl, hv⟩)
    ·intro k825 vals w826 h829 h830 hW828 hA827
     obtain rfl : k825 = 0 := Nat.le_antisymm h830 h829
     have hS831 : Sep G W ((Blk b2 (d.cells dd0 dd1).toArray 25) :: Rs) w826 := hW828
     have e832 : vals 12 = (.pointer (some ⟨sb (cellV W (sb dd0) (so dd0 + k * 1 + 0)), so (cellV W (sb dd0) (so dd0 + k * 1 + 0)) + j * 4, none⟩) : Value) := hA827 12 (by decide)
     refine obl rfl ?_
     have hi834 : j < ((d.types.getD k default).fields).length := (by first | omega | (simp only [lens]; omega))
     obtain ⟨hce833, hde833_0, hoke833⟩ := hde575_0.fld hi834
     rw [← getD_at default hi834] at hce833 hde833_0 hoke833
     have hsm835 : ((((d.types.getD k default).fields).getD j default).moves).length * 32 ≤ 140737488355328 := hde833_0.small
     have hcw836 := hS831.cells hce833 (hde575_0.foot (ne_of_lt hi834))
     exact ov_loadk (k := 4) Tryd.isAgg79 Tryd.sizeOf79 rfl e832 hcw836 (fun vals' hv _ => ⟨rfl, hv⟩)
    ·intro k696 vals w697 h700 h701 hW699 hA698
     obtain rfl : k696 = 0 := Nat.le_antisymm h701 h700
     have hS702 : Sep G W ((Blk b2 (d.cells dd0 dd1).toArray 25) :: Rs) w697 := hW699
     have e703 : vals 4 = (.agg ((d.types.getD k default).cells (cellV W (sb dd0) (so dd0 + k * 1 + 0))).toArray : Value) := hA698 4 (by decide)
     have e704 : vals 13 = (.agg ((((d.types.getD k default).fields).getD j default).cells (cellV W (sb (cellV W (sb dd0) (so dd0 + k * 1 + 0))) (so (cellV W (sb dd0) (so dd0 + k * 1 + 0)) + j * 4 + 3))).toArray : Value) := hA698 13 (by decide)
     refine obl rfl ?_
     have hi706 : j < ((d.types.getD k default).fields).length := (by first | omega | (simp only [lens]; omega))
     obtain ⟨hce705, hde705_0, hoke705⟩ := hde575_0.fld hi706
     rw [← getD_at default hi706] at hce705 hde705_0 hoke705
     have hsm707 : ((((d.types.getD k default).fields).getD j default).moves).length * 32 ≤ 140737488355328 := hde705_0.small
     have hcw708 := hS702.cells hce705 (hde575_0.foot (ne_of_lt hi706))
     refine (ov_call (f := 71) (vals := [.agg ((d.types.getD k default).cells (cellV W (sb dd0) (so dd0 + k * 1 + 0))).toArray, .agg ((((d.types.getD k default).fields).getD j default).cells (cellV W (sb (cellV W (sb dd0) (so dd0 + k * 1 + 0))) (so (cellV W (sb dd0) (so dd0 + k * 1 + 0)) + j * 4 + 3))).toArray]) (cap := []) (show _ = (.func (.func 71) #[] #[] : Value) from rfl) (mapL ⟨e703, e704, trivial⟩) Tryd.call71 (D_one (t := (d.types.getD k default)) (f := (((d.types.getD k default).fields).getD j default)) hde575_0 hoke575 hde705_0 hoke705 hS702) ?_)
     rintro _ w712 ⟨e709, rfl, hin710, hone711, hS713⟩
     intro vals' hv hv'
     refine ⟨?_, trivial⟩
     show ∃ (e709 : Int), (vals' 14 = (.int .i64 (e709) : Value)) ∧ (InR e709) ∧ (e709 = 0 → OneOk (d.types.getD k default) (((d.types.getD k default).fields).getD j default)) ∧ Sep G W ((Blk b2 (d.cells dd0 dd1).toArray 25) :: Rs) w712
     exact ⟨e709, hv, hin710, hone711, hS713⟩
    ·intro k837 vals w838 h841 h842 hW840 hA839
     obtain rfl : k837 = 1 := Nat.le_antisymm h842 h841
     obtain ⟨e709, he714, hin710, hone711, hS843⟩ : ∃ (e709 : Int), (vals 14 = (.int .i64 (e709) : Value)) ∧ (InR e709) ∧ (e709 = 0 → OneOk (d.types.getD k default) (((d.types.getD k default).fields).getD j default)) ∧ Sep G W ((Blk b2 (d.cells dd0 dd1).toArray 25) :: Rs) w838 := hW840
     refine obl rfl ?_
     refine ov_assign (v := .int .i64 (e709)) he714 (fun vals' hv hv' => ⟨rfl, ?_⟩)
     intro e709q hq0
     rw [hv' 14 (by decide)] at hq0; cases he714.symm.trans hq0
     exact hv
    intro vals w844 hW845 hA846
    obtain ⟨e709, he714, hin710, hone711, hS847⟩ : ∃ (e709 : Int), (vals 14 = (.int .i64 (e709) : Value)) ∧ (InR e709) ∧ (e709 = 0 → OneOk (d.types.getD k default) (((d.types.getD k default).fields).getD j default)) ∧ Sep G W ((Blk b2 (d.cells dd0 dd1).toArray 25) :: Rs) w844 := hW845
    have e848 : vals 15 = (.int .i64 (e709) : Value) := hA846 15 (by decide) e709 he714
    refine st_env (kv := [(1, .pointer (some ⟨b2, 0, none⟩)), (3, .int .i64 ((k : Nat) : Int)), (4, .int .i64 ((j : Nat) : Int)), (19, .int .i64 ((j : Nat) : Int)), (20, .pointer (some ⟨b2, 0, none⟩)), (21, dd0), (22, .int .i64 ((k : Nat) : Int)), (23, .pointer (some ⟨sb dd0, so dd0 + k * 1, none⟩)), (24, .pointer (some ⟨sb dd0, so dd0 + k * 1, none⟩)), (25, (cellV W (sb dd0) (so dd0 + k * 1 + 0))), (26, .int .i64 ((((d.types.getD k default).fields).length : Nat) : Int)), (27, .bool true), (5, .int .i64 (e709))]) ⟨rfl, rfl, rfl, rfl, rfl, rfl, rfl, rfl, rfl, rfl, rfl, rfl, (by exact e848), trivial⟩ (fun ρw844 => ?_)
    refine st_nil ?_
    refine WP_seq ?_
    refine WP_region0 (by kernel_rfl) (fun _ => ?_)
    refine st (ov_move (v := .int .i64 (e709)) rfl ?_)
    refine st (ov_neq (k := .i64) (a := e709) (b := 0) rfl rfl ?_)
    refine st_nil ?_
    cases hc849 : !decide (e709 = 0)
    ·skip
     have hc849 := ndec_false hc849
     refine WP_cond_f rfl ?_
     refine WP_skip ?_
     refine WP_region0 (by kernel_rfl) (fun _ => ?_)
     refine st (ov_move (v := .int .i64 ((j : Nat) : Int)) rfl ?_)
     have hr850 : InR ((j + 1 : Nat) : Int) := by first | omega | (simp only [lens]; omega)
     refine st (ov_add (r := ((j + 1 : Nat) : Int)) (k := .i64) (a := ((j : Nat) : Int)) (b := 1) rfl rfl (by rw [show (((j : Nat) : Int) + 1 : Int) = ((j + 1 : Nat) : Int) by first | omega | (simp only [lens]; omega)]; exact wrap_in hr850) ?_)
     refine st (ov_assign (v := .int .i64 ((j + 1 : Nat) : Int)) rfl ?_)
     refine st_nil ?_
     exact ⟨_, by omega, j + 1, _, rfl, setAll_self ⟨rfl, rfl, rfl, trivial⟩, by omega, (all_step hm2 (hone711 (by have h9 := hc849; omega))), hS847⟩
    ·skip
     have hc849 := ndec_true hc849
     refine WP_cond_t rfl ?_
     refine WP_seq ?_
     refine WP_region0 (by kernel_rfl) (fun _ => ?_)
     refine st (ov_move (v := .int .i64 (e709)) rfl ?_)
     refine st (ov_assign (v := .int .i64 (e709)) rfl ?_)
     refine st_nil ?_
     refine WP_ret ?_
     refine fin1 Tryd.results46 (show _ = (.int .i64 (e709) : Value) from rfl) ?_
     have hS851 : Sep G W Rs w844 := hS847.sel 1 [] (Nat.le_add_left _ _) rfl rfl
     refine ⟨e709, rfl, ?_, ?_, hS851⟩
     · first | decide | assumption
     · intro h9
       exfalso; omega
 ·skip
  refine WP_cond_t rfl ?_
  refine WP_seq ?_
  refine WP_region0 (by kernel_rfl) (fun _ => ?_)
  refine st (ov_assign (v := .int .i64 (3)) rfl ?_)
  refine st_nil ?_
  refine WP_ret ?_
  refine fin1 Tryd.results46 (show _ = (.int .i64 (3) : Value) from rfl) ?_
  have hS852 : Sep G W Rs w7 := hS8.sel 1 [] (Nat.le_add_left _ _) rfl rfl
  refine ⟨3, rfl, ?_, ?_, hS852⟩
  · first | decide | assumption
  · intro h9
    exfalso; omega

end Go.Proofs.YtlblilbmpdejgaaDoor
