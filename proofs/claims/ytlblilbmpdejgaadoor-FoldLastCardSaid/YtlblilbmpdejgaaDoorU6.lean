import Derived.Test.YtlblilbmpdejgaaDoorU5
import Derived.Test.YtlblilbmpdejgaaDoorU2
import Derived.Test.YtlblilbmpdejgaaDoorU1
import Derived.Lib.LaidTab
import Derived.LaidMore
import Derived.LaidLaws
import Derived.Stop.Joined
import Derived.Test.YtlblilbmpdejgaaDoorRows
import Derived.OpenShut
import Derived.MakeChecks
set_option linter.unusedSimpArgs false
set_option linter.unusedVariables false
set_option linter.unusedSectionVars false
set_option linter.deprecated false
/- Steps of the proofs of this seat: part C8. -/
set_option maxRecDepth 8000
namespace Go.Proofs.YtlblilbmpdejgaaDoor
open Go.Proofs Go.RowKit

theorem Vd {d : Option Tmp} {ty : TypeId} {pos : String} {af : Array Edge} {g : Option (Nat × Bool)} {σ : Env} {w : World} {K : Value → World → Prop} {x : Operand} {b o : Nat} (hx : ev σ x = .pointer (some ⟨b, o, none⟩)) (h : K (.pointer (some ⟨b, o + 0, none⟩)) w) : opV Tryd.prog ⟨d, .fieldAddr 107 x 0, ty, pos, af, g⟩ σ w K := zt Tryd.underlying107 rfl rfl (fun w => ⟨0, Tryd.sizeOf3 w⟩) hx h
theorem UO {d : Option Tmp} {ty : TypeId} {pos : String} {af : Array Edge} {g : Option (Nat × Bool)} {σ : Env} {w : World} {K : Value → World → Prop} {x : Operand} {b o : Nat} (hx : ev σ x = .pointer (some ⟨b, o, none⟩)) (h : K (.pointer (some ⟨b, o + 1, none⟩)) w) : opV Tryd.prog ⟨d, .fieldAddr 107 x 1, ty, pos, af, g⟩ σ w K := zt Tryd.underlying107 rfl rfl (fun w => ⟨0, Tryd.sizeOf3 w⟩) hx h
theorem Ya {d : Option Tmp} {ty : TypeId} {pos : String} {af : Array Edge} {g : Option (Nat × Bool)} {σ : Env} {w : World} {K : Value → World → Prop} {x : Operand} {b o : Nat} (hx : ev σ x = .pointer (some ⟨b, o, none⟩)) (h : K (.pointer (some ⟨b, o + 2, none⟩)) w) : opV Tryd.prog ⟨d, .fieldAddr 107 x 2, ty, pos, af, g⟩ σ w K := zt Tryd.underlying107 rfl rfl (fun w => ⟨0, Tryd.sizeOf3 w⟩) hx h
theorem WR {d : Option Tmp} {ty : TypeId} {pos : String} {af : Array Edge} {g : Option (Nat × Bool)} {σ : Env} {w : World} {K : Value → World → Prop} {x : Operand} {b o : Nat} (hx : ev σ x = .pointer (some ⟨b, o, none⟩)) (h : K (.pointer (some ⟨b, o + 3, none⟩)) w) : opV Tryd.prog ⟨d, .fieldAddr 107 x 3, ty, pos, af, g⟩ σ w K := zt Tryd.underlying107 rfl rfl (fun w => ⟨0, Tryd.sizeOf3 w⟩) hx h
theorem WS {d : Option Tmp} {ty : TypeId} {pos : String} {af : Array Edge} {g : Option (Nat × Bool)} {σ : Env} {w : World} {K : Value → World → Prop} {x : Operand} {b o : Nat} (hx : ev σ x = .pointer (some ⟨b, o, none⟩)) (h : K (.pointer (some ⟨b, o + 4, none⟩)) w) : opV Tryd.prog ⟨d, .fieldAddr 107 x 4, ty, pos, af, g⟩ σ w K := zt Tryd.underlying107 rfl rfl (fun w => ⟨0, Tryd.sizeOf3 w⟩) hx h
theorem UF {G : Nat → Prop} {W w : World} {Rs : List HP} {d : Dcl} {dd0 : Value} (hdd0 : RdS W G dd0 d.types) {dd1 : Value} (hdd1 : RdS W G dd1 d.projs) (od : d.Ok) (hS0 : Sep G W Rs w) : Ret Tryd.prog 46 [.agg (d.cells dd0 dd1).toArray] w (fun r w' => ∃ (e : Int), r = (.int .i64 (e) : Value) ∧ (InR e) ∧ (e = 0 → DclOk d) ∧ Sep G W Rs w') := by
 have hdd0s : _ * 24 ≤ _ := hdd0.small
 have hdd1s : _ * 40 ≤ _ := hdd1.small
 refine zr (args := [.agg (d.cells dd0 dd1).toArray]) Tryd.func46 rfl rfl ?_
 refine zd ?_
 refine za (by kernel_rfl) (fun _ => ?_)
 refine st (yb (v := .agg (d.cells dd0 dd1).toArray) rfl ?_)
 intro w3 b2 hn1
 have hS4 := hS0.new hn1
 refine st (ze (v := .int .i64 (0)) rfl ?_)
 refine zf ?_
 refine zd ?_
 refine zd ?_
 refine za (by kernel_rfl) (fun _ => ?_)
 refine st (zl (k := 2) Tryd.isAgg25 Tryd.sizeOf25 rfl rfl (CellsAt.all (hS4.blk (i := 0) rfl)) ?_)
 refine st (zv (f := 70) (vals := [.agg (d.cells dd0 dd1).toArray]) (cap := []) rfl rfl Tryd.call70 (QP (d := d) hdd0 hdd1 od hS4) ?_)
 rintro _ w7 ⟨b5, rfl, hb6, hS8⟩
 refine zf ?_
 cases hc9 : b5
 ·skip
  have hfew := hb6 hc9
  refine zo rfl ?_
  refine zw ?_
  refine zd ?_
  refine zd ?_
  refine za (by kernel_rfl) (fun _ => ?_)
  refine st (ze (v := .int .i64 (0)) rfl ?_)
  refine zf ?_
  refine zx ?_
  refine yn (fun mq σ wq => ∃ (k : Nat) (ρ : Env), mq = d.types.length - k ∧ σ = yp ρ [(1, .pointer (some ⟨b2, 0, none⟩)), (3, .int .i64 ((k : Nat) : Int))] ∧ (k ≤ d.types.length) ∧ (∀ i, i < k → ∀ j, j < (d.types.getD i default).fields.length → YN (d.types.getD i default) ((d.types.getD i default).fields.getD j default)) ∧ Sep G W ((Blk b2 (d.cells dd0 dd1).toArray 25) :: Rs) wq) ⟨0, _, rfl, zp ⟨rfl, rfl, trivial⟩, Nat.zero_le _, (fun i h => absurd h (Nat.not_lt_zero i)), hS8⟩ ?_
  rintro m11 σ12 w10 ⟨k, ρl1, rfl, rfl, hkk, hm, hS13⟩
  refine zd ?_
  refine zd ?_
  refine za (by kernel_rfl) (fun _ => ?_)
  refine st (zb (v := .int .i64 ((k : Nat) : Int)) rfl ?_)
  refine st (yt rfl ?_)
  refine st (zg (v := dd0) Tryd.isAgg22 rfl (zh (hS13.blk (i := 0) rfl) rfl) ?_)
  refine st (zJ (n := d.types.length) Tryd.underlying22 rfl hdd0.sl ?_)
  refine st (zN (k := .i64) (a := ((k : Nat) : Int)) (b := ((d.types.length : Nat) : Int)) rfl rfl ?_)
  refine zf ?_
  cases hc14 : decide (((k : Nat) : Int) < ((d.types.length : Nat) : Int))
  ·skip
   have hc14 := of_decide_eq_false hc14
   refine zo rfl ?_
   refine ym ?_
   refine yd ?_
   refine zd ?_
   refine zd ?_
   refine za (by kernel_rfl) (fun _ => ?_)
   refine st (ze (v := .int .i64 (0)) rfl ?_)
   refine zf ?_
   refine zx ?_
   refine yn (fun mq σ wq => ∃ (z : Nat) (ρ : Env), mq = d.projs.length - z ∧ σ = yp ρ [(1, .pointer (some ⟨b2, 0, none⟩)), (6, .int .i64 ((z : Nat) : Int))] ∧ (z ≤ d.projs.length) ∧ Sep G W ((Blk b2 (d.cells dd0 dd1).toArray 25) :: Rs) wq) ⟨0, _, rfl, zp ⟨rfl, rfl, trivial⟩, Nat.zero_le _, hS13⟩ ?_
   rintro m16 σ17 w15 ⟨z, ρl2, rfl, rfl, hkz, hS18⟩
   refine zd ?_
   refine zd ?_
   refine za (by kernel_rfl) (fun _ => ?_)
   refine st (zb (v := .int .i64 ((z : Nat) : Int)) rfl ?_)
   refine st (xK rfl ?_)
   refine st (zg (v := dd1) Tryd.isAgg23 rfl (zh (hS18.blk (i := 0) rfl) rfl) ?_)
   refine st (zJ (n := d.projs.length) Tryd.underlying23 rfl hdd1.sl ?_)
   refine st (zN (k := .i64) (a := ((z : Nat) : Int)) (b := ((d.projs.length : Nat) : Int)) rfl rfl ?_)
   refine zf ?_
   cases hc19 : decide (((z : Nat) : Int) < ((d.projs.length : Nat) : Int))
   ·skip
    have hc19 := of_decide_eq_false hc19
    refine zo rfl ?_
    refine ym ?_
    refine yd ?_
    refine zd ?_
    refine za (by kernel_rfl) (fun _ => ?_)
    refine st (ze (v := .int .i64 (0)) rfl ?_)
    refine zf ?_
    refine zu ?_
    refine ya Tryd.results46 (show _ = (.int .i64 (0) : Value) from rfl) ?_
    have hS20 : Sep G W Rs w15 := hS18.sel 1 [] (Nat.le_add_left _ _) rfl rfl
    refine ⟨0, rfl, ?_, ?_, hS20⟩
    · first | decide | assumption
    · intro h9
      exact Qw hfew (fun i hi => hm i (by omega))
   ·skip
    have hc19 := of_decide_eq_true hc19
    refine zq rfl ?_
    refine zw ?_
    refine zd ?_
    refine zx ?_
    refine zd ?_
    refine za (by kernel_rfl) (fun _ => ?_)
    refine st (xK rfl ?_)
    refine st (zg (v := dd1) Tryd.isAgg23 rfl (zh (hS18.blk (i := 0) rfl) rfl) ?_)
    refine st (zb (v := .int .i64 ((z : Nat) : Int)) rfl ?_)
    have hi21 : z < d.projs.length := (by first | omega | (simp only [lens]; omega))
    refine st (zm (k := 5) (i := z) Tryd.underlying23 Tryd.sizeOf107 rfl hdd1.sl rfl hi21 ?_)
    have hi23 : z < d.projs.length := (by first | omega | (simp only [lens]; omega))
    obtain ⟨hce22, hoke22⟩ := hdd1.prj hi23
    rw [← zk default hi23] at hce22 hoke22
    have hcw24 := hS18.cells hce22 (hdd1.foot (ne_of_lt hi23))
    refine st (zl (k := 5) Tryd.isAgg107 Tryd.sizeOf107 rfl rfl hcw24 ?_)
    refine st (zE Tryd.zeroValue107 ?_)
    intro w27 b26 hn25
    have hS28 := hS18.new hn25
    refine stn (zy (v := .agg ((d.projs.getD z default).cells).toArray) (c' := ((d.projs.getD z default).cells).toArray) Tryd.sizeOf107 rfl rfl (hS28.blk (i := 0) rfl) (yj ⟨rfl, rfl, rfl, rfl, rfl, trivial⟩) (Nat.le_of_ble_eq_true rfl) rfl ?_)
    intro w29 hp30
    have hS31 := hS28.pt0 hp30
    refine zf ?_
    refine zd ?_
    refine za (by kernel_rfl) (fun _ => ?_)
    refine st (zl (k := 2) Tryd.isAgg25 Tryd.sizeOf25 rfl rfl (CellsAt.all (hS31.blk (i := 1) rfl)) ?_)
    refine st (Vd rfl ?_)
    refine st (zg (v := .int .i64 ((d.projs.getD z default).ptyp)) Tryd.isAgg3 rfl (zh (hS31.blk (i := 0) rfl) rfl) ?_)
    refine st (UO rfl ?_)
    refine st (zg (v := .int .i64 ((d.projs.getD z default).pfield)) Tryd.isAgg3 rfl (zh (hS31.blk (i := 0) rfl) rfl) ?_)
    refine st (zv (f := 72) (vals := [.agg (d.cells dd0 dd1).toArray, .int .i64 ((d.projs.getD z default).ptyp), .int .i64 ((d.projs.getD z default).pfield)]) (cap := []) rfl rfl Tryd.call72 (UI (d := d) (ty := (d.projs.getD z default).ptyp) (fi := (d.projs.getD z default).pfield) hdd0 hdd1 od hoke22.ptyp hoke22.pfield hS31) ?_)
    rintro _ w39 ⟨c132, c233, c334, dx35, b36, rfl, hdx37, hrng38, hS40⟩
    refine st (zb (v := .tuple #[.agg #[.int .i64 (c132), .int .i64 (c233), .bool c334, dx35], .bool b36]) rfl ?_)
    refine st (zH (vs := [.agg #[.int .i64 (c132), .int .i64 (c233), .bool c334, dx35], .bool b36]) (i := 0) (v := .agg #[.int .i64 (c132), .int .i64 (c233), .bool c334, dx35]) rfl rfl ?_)
    refine st (zH (vs := [.agg #[.int .i64 (c132), .int .i64 (c233), .bool c334, dx35], .bool b36]) (i := 1) (v := .bool b36) rfl rfl ?_)
    refine st (zE Tryd.zeroValue79 ?_)
    intro w43 b42 hn41
    have hS44 := hS40.new hn41
    refine stn (zy (v := .agg #[.int .i64 (c132), .int .i64 (c233), .bool c334, dx35]) (c' := #[.int .i64 (c132), .int .i64 (c233), .bool c334, dx35]) Tryd.sizeOf79 rfl rfl (hS44.blk (i := 0) rfl) (yj ⟨rfl, rfl, rfl, (by assumption), trivial⟩) (Nat.le_of_ble_eq_true rfl) rfl ?_)
    intro w45 hp46
    have hS47 := hS44.pt0 hp46
    refine st (ze (v := .bool b36) rfl ?_)
    refine zf ?_
    refine zd ?_
    refine zd ?_
    refine za (by kernel_rfl) (fun _ => ?_)
    refine st (zb (v := .bool b36) rfl ?_)
    refine st (yJ (a := b36) rfl ?_)
    refine zf ?_
    cases hc48 : !b36
    ·skip
     try simp only [zn] at hc48
     have hpt := hrng38 (by have h9 := hc48; simpa using h9)
     refine zo rfl ?_
     refine zw ?_
     refine zd ?_
     refine zd ?_
     refine zP ((fun TT pp0 => WF [fun vals wq => Sep G W (pp0 :: TT) wq, fun vals wq => (vals 12 = (if (decide (((d.projs.getD z default).pgroup) = 3)) = true then (.int .i64 ((yf (d.types.getD (((d.projs.getD z default).ptyp).toNat) default) ((d.projs.getD z default).pby))) : Value) else undef)) ∧ Sep G W (pp0 :: TT) wq]) ((Blk b26 ((d.projs.getD z default).cells).toArray 107) :: (Blk b2 (d.cells dd0 dd1).toArray 25) :: Rs) (Blk b42 #[.int .i64 (c132), .int .i64 (c233), .bool c334, dx35] 79)) (AF [Vl 0 (.pointer (some ⟨b26, 2, none⟩)), Vl 1 (.int .i64 ((d.projs.getD z default).pgroup)), Vl 2 (.bool (decide (((d.projs.getD z default).pgroup) = 3))), Vl 3 (.bool (decide (((d.projs.getD z default).pgroup) = 3))), Vl 4 (if (decide (((d.projs.getD z default).pgroup) = 3)) = true then .pointer (some ⟨b2, 0, none⟩) else undef), Vl 5 (if (decide (((d.projs.getD z default).pgroup) = 3)) = true then dd0 else undef), Vl 6 (if (decide (((d.projs.getD z default).pgroup) = 3)) = true then .pointer (some ⟨b26, 0, none⟩) else undef), Vl 7 (if (decide (((d.projs.getD z default).pgroup) = 3)) = true then .int .i64 ((d.projs.getD z default).ptyp) else undef), Vl 8 (if (decide (((d.projs.getD z default).pgroup) = 3)) = true then .pointer (some ⟨sb dd0, so dd0 + (((d.projs.getD z default).ptyp).toNat) * 1, none⟩) else undef), Vl 9 (if (decide (((d.projs.getD z default).pgroup) = 3)) = true then .agg ((d.types.getD (((d.projs.getD z default).ptyp).toNat) default).cells (zi W (sb dd0) (so dd0 + (((d.projs.getD z default).ptyp).toNat) * 1 + 0))).toArray else undef), Vl 10 (if (decide (((d.projs.getD z default).pgroup) = 3)) = true then .pointer (some ⟨b26, 3, none⟩) else undef), Vl 11 (if (decide (((d.projs.getD z default).pgroup) = 3)) = true then .int .i64 ((d.projs.getD z default).pby) else undef), fun _ => True, Vl 13 (if (decide (((d.projs.getD z default).pgroup) = 3)) = true then .bool (!decide ((yf (d.types.getD (((d.projs.getD z default).ptyp).toNat) default) ((d.projs.getD z default).pby)) = 2)) else undef), Vl 14 (.bool ((decide (((d.projs.getD z default).pgroup) = 3)) && (!decide ((yf (d.types.getD (((d.projs.getD z default).ptyp).toNat) default) ((d.projs.getD z default).pby)) = 2)))), Vl 15 (.bool ((decide (((d.projs.getD z default).pgroup) = 3)) && (!decide ((yf (d.types.getD (((d.projs.getD z default).ptyp).toNat) default) ((d.projs.getD z default).pby)) = 2)))), Vl 16 (if ((decide (((d.projs.getD z default).pgroup) = 3)) && (!decide ((yf (d.types.getD (((d.projs.getD z default).ptyp).toNat) default) ((d.projs.getD z default).pby)) = 2))) = false then .pointer (some ⟨b26, 2, none⟩) else undef), Vl 17 (if ((decide (((d.projs.getD z default).pgroup) = 3)) && (!decide ((yf (d.types.getD (((d.projs.getD z default).ptyp).toNat) default) ((d.projs.getD z default).pby)) = 2))) = false then .int .i64 ((d.projs.getD z default).pgroup) else undef), Vl 18 (if ((decide (((d.projs.getD z default).pgroup) = 3)) && (!decide ((yf (d.types.getD (((d.projs.getD z default).ptyp).toNat) default) ((d.projs.getD z default).pby)) = 2))) = false then .bool (!decide (((d.projs.getD z default).pgroup) = 3)) else undef), Vl 19 (if ((decide (((d.projs.getD z default).pgroup) = 3)) && (!decide ((yf (d.types.getD (((d.projs.getD z default).ptyp).toNat) default) ((d.projs.getD z default).pby)) = 2))) = false then .bool (!decide (((d.projs.getD z default).pgroup) = 3)) else undef), Vl 20 (if (((decide (((d.projs.getD z default).pgroup) = 3)) && (!decide ((yf (d.types.getD (((d.projs.getD z default).ptyp).toNat) default) ((d.projs.getD z default).pby)) = 2))) = false) ∧ (!decide (((d.projs.getD z default).pgroup) = 3)) = true then .pointer (some ⟨b26, 3, none⟩) else undef), Vl 21 (if (((decide (((d.projs.getD z default).pgroup) = 3)) && (!decide ((yf (d.types.getD (((d.projs.getD z default).ptyp).toNat) default) ((d.projs.getD z default).pby)) = 2))) = false) ∧ (!decide (((d.projs.getD z default).pgroup) = 3)) = true then .int .i64 ((d.projs.getD z default).pby) else undef), Vl 22 (if (((decide (((d.projs.getD z default).pgroup) = 3)) && (!decide ((yf (d.types.getD (((d.projs.getD z default).ptyp).toNat) default) ((d.projs.getD z default).pby)) = 2))) = false) ∧ (!decide (((d.projs.getD z default).pgroup) = 3)) = true then .bool (!decide (((d.projs.getD z default).pby) = 0)) else undef), Vl 23 (if ((decide (((d.projs.getD z default).pgroup) = 3)) && (!decide ((yf (d.types.getD (((d.projs.getD z default).ptyp).toNat) default) ((d.projs.getD z default).pby)) = 2))) = false then .bool ((!decide (((d.projs.getD z default).pgroup) = 3)) && (!decide (((d.projs.getD z default).pby) = 0))) else undef), Vl 24 (.bool (((decide (((d.projs.getD z default).pgroup) = 3)) && (!decide ((yf (d.types.getD (((d.projs.getD z default).ptyp).toNat) default) ((d.projs.getD z default).pby)) = 2))) || ((!decide (((d.projs.getD z default).pgroup) = 3)) && (!decide (((d.projs.getD z default).pby) = 0)))))]) [[], [0], [0, 1], [0, 1, 2], [0, 1, 2, 3], [0, 1, 2, 3, 4], [0, 1, 2, 3], [0, 1, 2, 3, 6], [0, 1, 2, 3, 4, 5, 6, 7], [0, 1, 2, 3, 4, 5, 6, 7, 8], [0, 1, 2, 3], [0, 1, 2, 3, 10], [0, 1, 2, 3, 4, 5, 6, 7, 8, 9, 10, 11], [0, 1, 2, 3, 4, 5, 6, 7, 8, 9, 10, 11, 12], [0, 1, 2, 3, 4, 5, 6, 7, 8, 9, 10, 11, 12, 13], [0, 1, 2, 3, 4, 5, 6, 7, 8, 9, 10, 11, 12, 13, 14], [0, 1, 2, 3, 4, 5, 6, 7, 8, 9, 10, 11, 12, 13, 14, 15], [0, 1, 2, 3, 4, 5, 6, 7, 8, 9, 10, 11, 12, 13, 14, 15, 16], [0, 1, 2, 3, 4, 5, 6, 7, 8, 9, 10, 11, 12, 13, 14, 15, 16, 17], [0, 1, 2, 3, 4, 5, 6, 7, 8, 9, 10, 11, 12, 13, 14, 15, 16, 17, 18], [0, 1, 2, 3, 4, 5, 6, 7, 8, 9, 10, 11, 12, 13, 14, 15, 16, 17, 18, 19], [0, 1, 2, 3, 4, 5, 6, 7, 8, 9, 10, 11, 12, 13, 14, 15, 16, 17, 18, 19, 20], [0, 1, 2, 3, 4, 5, 6, 7, 8, 9, 10, 11, 12, 13, 14, 15, 16, 17, 18, 19, 20, 21], [0, 1, 2, 3, 4, 5, 6, 7, 8, 9, 10, 11, 12, 13, 14, 15, 16, 17, 18, 19, 20, 21, 22], [0, 1, 2, 3, 4, 5, 6, 7, 8, 9, 10, 11, 12, 13, 14, 15, 16, 17, 18, 19, 20, 21, 22, 23]] [12] [(0, 0), (0, 0), (0, 0), (0, 0), (0, 0), (0, 0), (0, 0), (0, 0), (0, 0), (0, 0), (0, 0), (0, 0), (0, 0), (1, 1), (1, 1), (1, 1), (1, 1), (1, 1), (1, 1), (1, 1), (1, 1), (1, 1), (1, 1), (1, 1), (1, 1)] (by kernel_rfl) (by kernel_rfl) (by kernel_rfl) rfl (by kernel_rfl) (by kernel_rfl) (fun _ h1 h2 h3 h4 _ => hS47.same h1 h2 h3 h4) ?_ (yg ⟨dA, dA, dA, dA, dA, dA, dA, dA, dA, dA, dA, dA, dT, dA, dA, dA, dA, dA, dA, dA, dA, dA, dA, dA, dA, trivial⟩) ⟨?_, ?_, ?_, ?_, ?_, ?_, ?_, ?_, ?_, ?_, ?_, ?_, ?_, ?_, ?_, ?_, ?_, ?_, ?_, ?_, ?_, ?_, ?_, ?_, ?_, trivial⟩ ?_
     ·intro k vals vals' w hv h
      have e : ∀ j ∈ ([12] : List Nat), vals' j = vals j := hv
      match k, h with
      | 0, h => exact h
      | 1, h => exact (by simpa only [WF, List.getElem?_cons_zero, List.getElem?_cons_succ, e 12 (by decide)] using h)
      | _ + 2, _ => trivial
     ·intro k304 vals w305 h308 h309 hW307 hA306
      refine obl rfl ?_
      exact Ya rfl (fun vals' hv _ => ⟨rfl, hv⟩)
     ·intro k310 vals w311 h314 h315 hW313 hA312
      obtain rfl : k310 = 0 := Nat.le_antisymm h315 h314
      have hS316 : Sep _ _ _ _ := hW313
      have e317 := hA312 0 (by decide)
      refine obl rfl ?_
      exact zg (v := .int .i64 ((d.projs.getD z default).pgroup)) Tryd.isAgg3 e317 (zh (hS316.blk (i := 1) rfl) rfl) (fun vals' hv _ => ⟨rfl, hv⟩)
     ·intro k318 vals w319 h322 h323 hW321 hA320
      obtain rfl : k318 = 0 := Nat.le_antisymm h323 h322
      have hS324 : Sep _ _ _ _ := hW321
      have e325 := hA320 1 (by decide)
      refine obl rfl ?_
      exact yu (k := .i64) (a := (d.projs.getD z default).pgroup) (b := 3) e325 rfl (fun vals' hv _ => ⟨rfl, hv⟩)
     ·intro k326 vals w327 h330 h331 hW329 hA328
      have e332 := hA328 2 (by decide)
      refine obl rfl ?_
      exact zb (v := .bool (decide (((d.projs.getD z default).pgroup) = 3))) e332 (fun vals' hv _ => ⟨rfl, hv⟩)
     ·intro k333 vals w334 h337 h338 hW336 hA335
      have e339 := hA335 3 (by decide)
      refine zC rfl rfl e339 (fun hb340 => ?_) (fun hb340 => fun vals' hv _ => ⟨trivial, hv.trans (if_neg hb340).symm⟩)
      have hl341 := hb340
      have hl341 := of_decide_eq_true hl341
      exact yt rfl (fun vals' hv _ => ⟨rfl, hv.trans (if_pos hb340).symm⟩)
     ·intro k342 vals w343 h346 h347 hW345 hA344
      obtain rfl : k342 = 0 := Nat.le_antisymm h347 h346
      have hS348 : Sep _ _ _ _ := hW345
      have e349 := hA344 3 (by decide)
      have e350 : vals 4 = (if (decide (((d.projs.getD z default).pgroup) = 3)) = true then (.pointer (some ⟨b2, 0, none⟩) : Value) else undef) := hA344 4 (by decide)
      refine zC rfl rfl e349 (fun hb351 => ?_) (fun hb351 => fun vals' hv _ => ⟨trivial, hv.trans (if_neg hb351).symm⟩)
      have hl352 := hb351
      have hl352 := of_decide_eq_true hl352
      exact zg (v := dd0) Tryd.isAgg22 (show _ = (.pointer (some ⟨b2, 0, none⟩) : Value) from (Eq.trans e350 (if_pos hb351))) (zh (hS348.blk (i := 2) rfl) rfl) (fun vals' hv _ => ⟨rfl, hv.trans (if_pos hb351).symm⟩)
     ·intro k353 vals w354 h357 h358 hW356 hA355
      have e359 := hA355 3 (by decide)
      refine zC rfl rfl e359 (fun hb360 => ?_) (fun hb360 => fun vals' hv _ => ⟨trivial, hv.trans (if_neg hb360).symm⟩)
      have hl361 := hb360
      have hl361 := of_decide_eq_true hl361
      exact Vd rfl (fun vals' hv _ => ⟨rfl, hv.trans (if_pos hb360).symm⟩)
     ·intro k362 vals w363 h366 h367 hW365 hA364
      obtain rfl : k362 = 0 := Nat.le_antisymm h367 h366
      have hS368 : Sep _ _ _ _ := hW365
      have e369 := hA364 3 (by decide)
      have e370 : vals 6 = (if (decide (((d.projs.getD z default).pgroup) = 3)) = true then (.pointer (some ⟨b26, 0, none⟩) : Value) else undef) := hA364 6 (by decide)
      refine zC rfl rfl e369 (fun hb371 => ?_) (fun hb371 => fun vals' hv _ => ⟨trivial, hv.trans (if_neg hb371).symm⟩)
      have hl372 := hb371
      have hl372 := of_decide_eq_true hl372
      exact zg (v := .int .i64 ((d.projs.getD z default).ptyp)) Tryd.isAgg3 (show _ = (.pointer (some ⟨b26, 0, none⟩) : Value) from (Eq.trans e370 (if_pos hb371))) (zh (hS368.blk (i := 1) rfl) rfl) (fun vals' hv _ => ⟨rfl, hv.trans (if_pos hb371).symm⟩)
     ·intro k373 vals w374 h377 h378 hW376 hA375
      obtain rfl : k373 = 0 := Nat.le_antisymm h378 h377
      have hS379 : Sep _ _ _ _ := hW376
      have e380 := hA375 3 (by decide)
      have e381 : vals 5 = (if (decide (((d.projs.getD z default).pgroup) = 3)) = true then (dd0 : Value) else undef) := hA375 5 (by decide)
      have e382 : vals 7 = (if (decide (((d.projs.getD z default).pgroup) = 3)) = true then (.int .i64 ((d.projs.getD z default).ptyp) : Value) else undef) := hA375 7 (by decide)
      refine zC rfl rfl e380 (fun hb383 => ?_) (fun hb383 => fun vals' hv _ => ⟨trivial, hv.trans (if_neg hb383).symm⟩)
      have hl384 := hb383
      have hl384 := of_decide_eq_true hl384
      have hi385 : ((d.projs.getD z default).ptyp).toNat < d.types.length := (by first | omega | (simp only [lens]; omega))
      exact zG (k := 1) (i := (d.projs.getD z default).ptyp) Tryd.underlying22 Tryd.sizeOf33 (show _ = (dd0 : Value) from (Eq.trans e381 (if_pos hb383))) hdd0.sl (show _ = (.int .i64 ((d.projs.getD z default).ptyp) : Value) from (Eq.trans e382 (if_pos hb383))) ⟨by omega, by omega⟩ (fun vals' hv _ => ⟨rfl, hv.trans (if_pos hb383).symm⟩)
     ·intro k386 vals w387 h390 h391 hW389 hA388
      obtain rfl : k386 = 0 := Nat.le_antisymm h391 h390
      have hS392 : Sep _ _ _ _ := hW389
      have e393 := hA388 3 (by decide)
      have e394 : vals 8 = (if (decide (((d.projs.getD z default).pgroup) = 3)) = true then (.pointer (some ⟨sb dd0, so dd0 + (((d.projs.getD z default).ptyp).toNat) * 1, none⟩) : Value) else undef) := hA388 8 (by decide)
      refine zC rfl rfl e393 (fun hb395 => ?_) (fun hb395 => fun vals' hv _ => ⟨trivial, hv.trans (if_neg hb395).symm⟩)
      have hl396 := hb395
      have hl396 := of_decide_eq_true hl396
      have hi398 : ((d.projs.getD z default).ptyp).toNat < d.types.length := (by first | omega | (simp only [lens]; omega))
      obtain ⟨hce397, hde397_0, hoke397⟩ := hdd0.typ hi398
      rw [← zk default hi398] at hce397 hde397_0 hoke397
      have hsm399 : ((d.types.getD (((d.projs.getD z default).ptyp).toNat) default).fields).length * 48 ≤ 140737488355328 := hde397_0.small
      have hcw400 := hS392.cells hce397 (hdd0.foot (ne_of_lt hi398))
      exact zl (k := 1) Tryd.isAgg33 Tryd.sizeOf33 rfl (show _ = (.pointer (some ⟨sb dd0, so dd0 + (((d.projs.getD z default).ptyp).toNat) * 1, none⟩) : Value) from (Eq.trans e394 (if_pos hb395))) hcw400 (fun vals' hv _ => ⟨rfl, hv.trans (if_pos hb395).symm⟩)
     ·intro k401 vals w402 h405 h406 hW404 hA403
      have e407 := hA403 3 (by decide)
      refine zC rfl rfl e407 (fun hb408 => ?_) (fun hb408 => fun vals' hv _ => ⟨trivial, hv.trans (if_neg hb408).symm⟩)
      have hl409 := hb408
      have hl409 := of_decide_eq_true hl409
      exact WR rfl (fun vals' hv _ => ⟨rfl, hv.trans (if_pos hb408).symm⟩)
     ·intro k410 vals w411 h414 h415 hW413 hA412
      obtain rfl : k410 = 0 := Nat.le_antisymm h415 h414
      have hS416 : Sep _ _ _ _ := hW413
      have e417 := hA412 3 (by decide)
      have e418 : vals 10 = (if (decide (((d.projs.getD z default).pgroup) = 3)) = true then (.pointer (some ⟨b26, 3, none⟩) : Value) else undef) := hA412 10 (by decide)
      refine zC rfl rfl e417 (fun hb419 => ?_) (fun hb419 => fun vals' hv _ => ⟨trivial, hv.trans (if_neg hb419).symm⟩)
      have hl420 := hb419
      have hl420 := of_decide_eq_true hl420
      exact zg (v := .int .i64 ((d.projs.getD z default).pby)) Tryd.isAgg3 (show _ = (.pointer (some ⟨b26, 3, none⟩) : Value) from (Eq.trans e418 (if_pos hb419))) (zh (hS416.blk (i := 1) rfl) rfl) (fun vals' hv _ => ⟨rfl, hv.trans (if_pos hb419).symm⟩)
     ·intro k166 vals w167 h170 h171 hW169 hA168
      obtain rfl : k166 = 0 := Nat.le_antisymm h171 h170
      have hS172 : Sep _ _ _ _ := hW169
      have e173 := hA168 3 (by decide)
      have e174 : vals 9 = (if (decide (((d.projs.getD z default).pgroup) = 3)) = true then (.agg ((d.types.getD (((d.projs.getD z default).ptyp).toNat) default).cells (zi W (sb dd0) (so dd0 + (((d.projs.getD z default).ptyp).toNat) * 1 + 0))).toArray : Value) else undef) := hA168 9 (by decide)
      have e175 : vals 11 = (if (decide (((d.projs.getD z default).pgroup) = 3)) = true then (.int .i64 ((d.projs.getD z default).pby) : Value) else undef) := hA168 11 (by decide)
      refine zC rfl rfl e173 (fun hb176 => ?_) (fun hb176 vals' hv hv' => ?_)
      ·skip
       have hl177 := hb176
       have hl177 := of_decide_eq_true hl177
       have hi179 : ((d.projs.getD z default).ptyp).toNat < d.types.length := (by first | omega | (simp only [lens]; omega))
       obtain ⟨hce178, hde178_0, hoke178⟩ := hdd0.typ hi179
       rw [← zk default hi179] at hce178 hde178_0 hoke178
       have hsm180 : ((d.types.getD (((d.projs.getD z default).ptyp).toNat) default).fields).length * 48 ≤ 140737488355328 := hde178_0.small
       have hcw181 := hS172.cells hce178 (hdd0.foot (ne_of_lt hi179))
       refine (zv (f := 73) (vals := [.agg ((d.types.getD (((d.projs.getD z default).ptyp).toNat) default).cells (zi W (sb dd0) (so dd0 + (((d.projs.getD z default).ptyp).toNat) * 1 + 0))).toArray, .int .i64 ((d.projs.getD z default).pby)]) (cap := []) rfl (xj ⟨(show _ = (.agg ((d.types.getD (((d.projs.getD z default).ptyp).toNat) default).cells (zi W (sb dd0) (so dd0 + (((d.projs.getD z default).ptyp).toNat) * 1 + 0))).toArray : Value) from (Eq.trans e174 (if_pos hb176))), (show _ = (.int .i64 ((d.projs.getD z default).pby) : Value) from (Eq.trans e175 (if_pos hb176))), trivial⟩) Tryd.call73 (Ul (t := (d.types.getD (((d.projs.getD z default).ptyp).toNat) default)) (n := (d.projs.getD z default).pby) hde178_0 hoke178 hoke22.pby hS172) ?_)
       rintro _ w182 ⟨rfl, hS183⟩
       intro vals' hv hv'
       refine ⟨?_, trivial⟩
       show (vals' 12 = (if (decide (((d.projs.getD z default).pgroup) = 3)) = true then (.int .i64 ((yf (d.types.getD (((d.projs.getD z default).ptyp).toNat) default) ((d.projs.getD z default).pby))) : Value) else undef)) ∧ Sep G W ((Blk b42 #[.int .i64 (c132), .int .i64 (c233), .bool c334, dx35] 79) :: (Blk b26 ((d.projs.getD z default).cells).toArray 107) :: (Blk b2 (d.cells dd0 dd1).toArray 25) :: Rs) w182
       exact ⟨(hv.trans (if_pos hb176).symm), hS183⟩
      ·skip
       refine ⟨?_, trivial⟩
       show (vals' 12 = (if (decide (((d.projs.getD z default).pgroup) = 3)) = true then (.int .i64 ((yf (d.types.getD (((d.projs.getD z default).ptyp).toNat) default) ((d.projs.getD z default).pby))) : Value) else undef)) ∧ Sep G W ((Blk b42 #[.int .i64 (c132), .int .i64 (c233), .bool c334, dx35] 79) :: (Blk b26 ((d.projs.getD z default).cells).toArray 107) :: (Blk b2 (d.cells dd0 dd1).toArray 25) :: Rs) w167
       exact ⟨(hv.trans (if_neg hb176).symm), hS172⟩
     ·intro k421 vals w422 h425 h426 hW424 hA423
      obtain rfl : k421 = 1 := Nat.le_antisymm h426 h425
      obtain ⟨he184, hS427⟩ := hW424
      have e428 := hA423 3 (by decide)
      refine zC rfl rfl e428 (fun hb429 => ?_) (fun hb429 => fun vals' hv _ => ⟨trivial, hv.trans (if_neg hb429).symm⟩)
      have hl430 := hb429
      have hl430 := of_decide_eq_true hl430
      exact yz (k := .i64) (a := (yf (d.types.getD (((d.projs.getD z default).ptyp).toNat) default) ((d.projs.getD z default).pby))) (b := 2) (show _ = (.int .i64 ((yf (d.types.getD (((d.projs.getD z default).ptyp).toNat) default) ((d.projs.getD z default).pby))) : Value) from (Eq.trans he184 (if_pos hb429))) rfl (fun vals' hv _ => ⟨rfl, hv.trans (if_pos hb429).symm⟩)
     ·intro k431 vals w432 h435 h436 hW434 hA433
      have e437 := hA433 3 (by decide)
      have e438 : vals 13 = (if (decide (((d.projs.getD z default).pgroup) = 3)) = true then (.bool (!decide ((yf (d.types.getD (((d.projs.getD z default).ptyp).toNat) default) ((d.projs.getD z default).pby)) = 2)) : Value) else undef) := hA433 13 (by decide)
      refine obl rfl ?_
      exact zK (b := decide (((d.projs.getD z default).pgroup) = 3)) (b' := !decide ((yf (d.types.getD (((d.projs.getD z default).ptyp).toNat) default) ((d.projs.getD z default).pby)) = 2)) e437 (fun hbp => (show _ = (.bool (!decide ((yf (d.types.getD (((d.projs.getD z default).ptyp).toNat) default) ((d.projs.getD z default).pby)) = 2)) : Value) from (Eq.trans e438 (if_pos hbp)))) (fun vals' hv _ => ⟨rfl, hv⟩)
     ·intro k439 vals w440 h443 h444 hW442 hA441
      have e445 := hA441 14 (by decide)
      refine obl rfl ?_
      exact zb (v := .bool ((decide (((d.projs.getD z default).pgroup) = 3)) && (!decide ((yf (d.types.getD (((d.projs.getD z default).ptyp).toNat) default) ((d.projs.getD z default).pby)) = 2)))) e445 (fun vals' hv _ => ⟨rfl, hv⟩)
     ·intro k446 vals w447 h450 h451 hW449 hA448
      have e452 := hA448 15 (by decide)
      refine zC rfl rfl e452 (fun hb453 => ?_) (fun hb453 => fun vals' hv _ => ⟨trivial, hv.trans (if_neg hb453).symm⟩)
      have hl454 := hb453
      try simp only [zn] at hl454
      exact Ya rfl (fun vals' hv _ => ⟨rfl, hv.trans (if_pos hb453).symm⟩)
     ·intro k455 vals w456 h459 h460 hW458 hA457
      obtain rfl : k455 = 1 := Nat.le_antisymm h460 h459
      obtain ⟨he184, hS461⟩ := hW458
      have e462 := hA457 15 (by decide)
      have e463 : vals 16 = (if ((decide (((d.projs.getD z default).pgroup) = 3)) && (!decide ((yf (d.types.getD (((d.projs.getD z default).ptyp).toNat) default) ((d.projs.getD z default).pby)) = 2))) = false then (.pointer (some ⟨b26, 2, none⟩) : Value) else undef) := hA457 16 (by decide)
      refine zC rfl rfl e462 (fun hb464 => ?_) (fun hb464 => fun vals' hv _ => ⟨trivial, hv.trans (if_neg hb464).symm⟩)
      have hl465 := hb464
      try simp only [zn] at hl465
      exact zg (v := .int .i64 ((d.projs.getD z default).pgroup)) Tryd.isAgg3 (show _ = (.pointer (some ⟨b26, 2, none⟩) : Value) from (Eq.trans e463 (if_pos hb464))) (zh (hS461.blk (i := 1) rfl) rfl) (fun vals' hv _ => ⟨rfl, hv.trans (if_pos hb464).symm⟩)
     ·intro k466 vals w467 h470 h471 hW469 hA468
      obtain rfl : k466 = 1 := Nat.le_antisymm h471 h470
      obtain ⟨he184, hS472⟩ := hW469
      have e473 := hA468 15 (by decide)
      have e474 : vals 17 = (if ((decide (((d.projs.getD z default).pgroup) = 3)) && (!decide ((yf (d.types.getD (((d.projs.getD z default).ptyp).toNat) default) ((d.projs.getD z default).pby)) = 2))) = false then (.int .i64 ((d.projs.getD z default).pgroup) : Value) else undef) := hA468 17 (by decide)
      refine zC rfl rfl e473 (fun hb475 => ?_) (fun hb475 => fun vals' hv _ => ⟨trivial, hv.trans (if_neg hb475).symm⟩)
      have hl476 := hb475
      try simp only [zn] at hl476
      exact yz (k := .i64) (a := (d.projs.getD z default).pgroup) (b := 3) (show _ = (.int .i64 ((d.projs.getD z default).pgroup) : Value) from (Eq.trans e474 (if_pos hb475))) rfl (fun vals' hv _ => ⟨rfl, hv.trans (if_pos hb475).symm⟩)
     ·intro k477 vals w478 h481 h482 hW480 hA479
      have e483 := hA479 15 (by decide)
      have e484 : vals 18 = (if ((decide (((d.projs.getD z default).pgroup) = 3)) && (!decide ((yf (d.types.getD (((d.projs.getD z default).ptyp).toNat) default) ((d.projs.getD z default).pby)) = 2))) = false then (.bool (!decide (((d.projs.getD z default).pgroup) = 3)) : Value) else undef) := hA479 18 (by decide)
      refine zC rfl rfl e483 (fun hb485 => ?_) (fun hb485 => fun vals' hv _ => ⟨trivial, hv.trans (if_neg hb485).symm⟩)
      have hl486 := hb485
      try simp only [zn] at hl486
      exact zb (v := .bool (!decide (((d.projs.getD z default).pgroup) = 3))) (show _ = (.bool (!decide (((d.projs.getD z default).pgroup) = 3)) : Value) from (Eq.trans e484 (if_pos hb485))) (fun vals' hv _ => ⟨rfl, hv.trans (if_pos hb485).symm⟩)
     ·intro k487 vals w488 h491 h492 hW490 hA489
      have e493 : vals 19 = (if ((decide (((d.projs.getD z default).pgroup) = 3)) && (!decide ((yf (d.types.getD (((d.projs.getD z default).ptyp).toNat) default) ((d.projs.getD z default).pby)) = 2))) = false then (.bool (!decide (((d.projs.getD z default).pgroup) = 3)) : Value) else undef) := hA489 19 (by decide)
      refine xC rfl rfl e493 (fun hb494 => ?_) (fun hb494 => fun vals' hv _ => ⟨trivial, hv.trans (if_neg hb494).symm⟩)
      have hl495 := hb494.1
      try simp only [zn] at hl495
      have hl496 := hb494.2
      have hl496 := zY hl496
      exact WR rfl (fun vals' hv _ => ⟨rfl, hv.trans (if_pos hb494).symm⟩)
     ·intro k497 vals w498 h501 h502 hW500 hA499
      obtain rfl : k497 = 1 := Nat.le_antisymm h502 h501
      obtain ⟨he184, hS503⟩ := hW500
      have e504 : vals 19 = (if ((decide (((d.projs.getD z default).pgroup) = 3)) && (!decide ((yf (d.types.getD (((d.projs.getD z default).ptyp).toNat) default) ((d.projs.getD z default).pby)) = 2))) = false then (.bool (!decide (((d.projs.getD z default).pgroup) = 3)) : Value) else undef) := hA499 19 (by decide)
      have e505 : vals 20 = (if (((decide (((d.projs.getD z default).pgroup) = 3)) && (!decide ((yf (d.types.getD (((d.projs.getD z default).ptyp).toNat) default) ((d.projs.getD z default).pby)) = 2))) = false) ∧ (!decide (((d.projs.getD z default).pgroup) = 3)) = true then (.pointer (some ⟨b26, 3, none⟩) : Value) else undef) := hA499 20 (by decide)
      refine xC rfl rfl e504 (fun hb506 => ?_) (fun hb506 => fun vals' hv _ => ⟨trivial, hv.trans (if_neg hb506).symm⟩)
      have hl507 := hb506.1
      try simp only [zn] at hl507
      have hl508 := hb506.2
      have hl508 := zY hl508
      exact zg (v := .int .i64 ((d.projs.getD z default).pby)) Tryd.isAgg3 (show _ = (.pointer (some ⟨b26, 3, none⟩) : Value) from (Eq.trans e505 (if_pos ⟨hb506.1, hb506.2⟩))) (zh (hS503.blk (i := 1) rfl) rfl) (fun vals' hv _ => ⟨rfl, hv.trans (if_pos hb506).symm⟩)
     ·intro k509 vals w510 h513 h514 hW512 hA511
      obtain rfl : k509 = 1 := Nat.le_antisymm h514 h513
      obtain ⟨he184, hS515⟩ := hW512
      have e516 : vals 19 = (if ((decide (((d.projs.getD z default).pgroup) = 3)) && (!decide ((yf (d.types.getD (((d.projs.getD z default).ptyp).toNat) default) ((d.projs.getD z default).pby)) = 2))) = false then (.bool (!decide (((d.projs.getD z default).pgroup) = 3)) : Value) else undef) := hA511 19 (by decide)
      have e517 : vals 21 = (if (((decide (((d.projs.getD z default).pgroup) = 3)) && (!decide ((yf (d.types.getD (((d.projs.getD z default).ptyp).toNat) default) ((d.projs.getD z default).pby)) = 2))) = false) ∧ (!decide (((d.projs.getD z default).pgroup) = 3)) = true then (.int .i64 ((d.projs.getD z default).pby) : Value) else undef) := hA511 21 (by decide)
      refine xC rfl rfl e516 (fun hb518 => ?_) (fun hb518 => fun vals' hv _ => ⟨trivial, hv.trans (if_neg hb518).symm⟩)
      have hl519 := hb518.1
      try simp only [zn] at hl519
      have hl520 := hb518.2
      have hl520 := zY hl520
      exact yz (k := .i64) (a := (d.projs.getD z default).pby) (b := 0) (show _ = (.int .i64 ((d.projs.getD z default).pby) : Value) from (Eq.trans e517 (if_pos ⟨hb518.1, hb518.2⟩))) rfl (fun vals' hv _ => ⟨rfl, hv.trans (if_pos hb518).symm⟩)
     ·intro k521 vals w522 h525 h526 hW524 hA523
      have e527 := hA523 15 (by decide)
      have e528 : vals 19 = (if ((decide (((d.projs.getD z default).pgroup) = 3)) && (!decide ((yf (d.types.getD (((d.projs.getD z default).ptyp).toNat) default) ((d.projs.getD z default).pby)) = 2))) = false then (.bool (!decide (((d.projs.getD z default).pgroup) = 3)) : Value) else undef) := hA523 19 (by decide)
      have e529 : vals 22 = (if (((decide (((d.projs.getD z default).pgroup) = 3)) && (!decide ((yf (d.types.getD (((d.projs.getD z default).ptyp).toNat) default) ((d.projs.getD z default).pby)) = 2))) = false) ∧ (!decide (((d.projs.getD z default).pgroup) = 3)) = true then (.bool (!decide (((d.projs.getD z default).pby) = 0)) : Value) else undef) := hA523 22 (by decide)
      refine zC rfl rfl e527 (fun hb530 => ?_) (fun hb530 => fun vals' hv _ => ⟨trivial, hv.trans (if_neg hb530).symm⟩)
      have hl531 := hb530
      try simp only [zn] at hl531
      exact zK (b := !decide (((d.projs.getD z default).pgroup) = 3)) (b' := !decide (((d.projs.getD z default).pby) = 0)) (show _ = (.bool (!decide (((d.projs.getD z default).pgroup) = 3)) : Value) from (Eq.trans e528 (if_pos hb530))) (fun hbp => (show _ = (.bool (!decide (((d.projs.getD z default).pby) = 0)) : Value) from (Eq.trans e529 (if_pos ⟨hb530, hbp⟩)))) (fun vals' hv _ => ⟨rfl, hv.trans (if_pos hb530).symm⟩)
     ·intro k532 vals w533 h536 h537 hW535 hA534
      have e538 := hA534 15 (by decide)
      have e539 : vals 23 = (if ((decide (((d.projs.getD z default).pgroup) = 3)) && (!decide ((yf (d.types.getD (((d.projs.getD z default).ptyp).toNat) default) ((d.projs.getD z default).pby)) = 2))) = false then (.bool ((!decide (((d.projs.getD z default).pgroup) = 3)) && (!decide (((d.projs.getD z default).pby) = 0))) : Value) else undef) := hA534 23 (by decide)
      refine obl rfl ?_
      exact zA (b := (decide (((d.projs.getD z default).pgroup) = 3)) && (!decide ((yf (d.types.getD (((d.projs.getD z default).ptyp).toNat) default) ((d.projs.getD z default).pby)) = 2))) (b' := (!decide (((d.projs.getD z default).pgroup) = 3)) && (!decide (((d.projs.getD z default).pby) = 0))) e538 (fun hbp => (show _ = (.bool ((!decide (((d.projs.getD z default).pgroup) = 3)) && (!decide (((d.projs.getD z default).pby) = 0))) : Value) from (Eq.trans e539 (if_pos hbp)))) (fun vals' hv _ => ⟨rfl, hv⟩)
     intro vals w540 hW541 hA542
     obtain ⟨he184, hS543⟩ := hW541
     have e544 := hA542 24 (by decide)
     refine yh (kv := [(1, .pointer (some ⟨b2, 0, none⟩)), (6, .int .i64 ((z : Nat) : Int)), (48, .int .i64 ((z : Nat) : Int)), (49, .pointer (some ⟨b2, 1, none⟩)), (50, dd1), (51, .int .i64 ((d.projs.length : Nat) : Int)), (52, .bool true), (55, .pointer (some ⟨b2, 1, none⟩)), (56, dd1), (57, .int .i64 ((z : Nat) : Int)), (58, .pointer (some ⟨sb dd1, so dd1 + z * 5, none⟩)), (59, .agg ((d.projs.getD z default).cells).toArray), (7, .pointer (some ⟨b26, 0, none⟩)), (61, .agg (d.cells dd0 dd1).toArray), (62, .pointer (some ⟨b26, 0, none⟩)), (63, .int .i64 ((d.projs.getD z default).ptyp)), (64, .pointer (some ⟨b26, 1, none⟩)), (65, .int .i64 ((d.projs.getD z default).pfield)), (66, .tuple #[.agg #[.int .i64 (c132), .int .i64 (c233), .bool c334, dx35], .bool b36]), (60, .tuple #[.agg #[.int .i64 (c132), .int .i64 (c233), .bool c334, dx35], .bool b36]), (67, .agg #[.int .i64 (c132), .int .i64 (c233), .bool c334, dx35]), (68, .bool b36), (8, .pointer (some ⟨b42, 0, none⟩)), (9, .bool b36), (69, .bool b36), (70, .bool false), (95, .bool (((decide (((d.projs.getD z default).pgroup) = 3)) && (!decide ((yf (d.types.getD (((d.projs.getD z default).ptyp).toNat) default) ((d.projs.getD z default).pby)) = 2))) || ((!decide (((d.projs.getD z default).pgroup) = 3)) && (!decide (((d.projs.getD z default).pby) = 0)))))]) ⟨rfl, rfl, rfl, rfl, rfl, rfl, rfl, rfl, rfl, rfl, rfl, rfl, rfl, rfl, rfl, rfl, rfl, rfl, rfl, rfl, rfl, rfl, rfl, rfl, rfl, rfl, (by exact e544), trivial⟩ (fun ρw540 => ?_)
     refine zf ?_
     cases hc545 : ((decide (((d.projs.getD z default).pgroup) = 3)) && (!decide ((yf (d.types.getD (((d.projs.getD z default).ptyp).toNat) default) ((d.projs.getD z default).pby)) = 2))) || ((!decide (((d.projs.getD z default).pgroup) = 3)) && (!decide (((d.projs.getD z default).pby) = 0)))
     ·skip
      try simp only [zn] at hc545
      refine zo rfl ?_
      refine zw ?_
      refine zd ?_
      refine zD (by kernel_rfl) ?_
      refine st (Ya rfl ?_)
      refine st (zg (v := .int .i64 ((d.projs.getD z default).pgroup)) Tryd.isAgg3 rfl (zh (hS543.blk (i := 1) rfl) rfl) ?_)
      refine st (zN (k := .i64) (a := (d.projs.getD z default).pgroup) (b := 1) rfl rfl ?_)
      refine st (zb (v := .bool (decide (((d.projs.getD z default).pgroup) < 1))) rfl ?_)
      refine stc (V := .pointer (some ⟨b26, 2, none⟩)) rfl rfl (fun hb546 => ?_) ?_
      ·have hl547 := hb546
       have hl547 := of_decide_eq_false hl547
       exact Ya rfl ⟨rfl, rfl⟩
      refine stc (V := .int .i64 ((d.projs.getD z default).pgroup)) rfl rfl (fun hb548 => ?_) ?_
      ·have hl549 := hb548
       have hl549 := of_decide_eq_false hl549
       exact zg (v := .int .i64 ((d.projs.getD z default).pgroup)) Tryd.isAgg3 (show _ = (.pointer (some ⟨b26, 2, none⟩) : Value) from (if_pos hb548)) (zh (hS543.blk (i := 1) rfl) rfl) ⟨rfl, rfl⟩
      refine stc (V := .bool (decide (3 < ((d.projs.getD z default).pgroup)))) rfl rfl (fun hb550 => ?_) ?_
      ·have hl551 := hb550
       have hl551 := of_decide_eq_false hl551
       exact yP (k := .i64) (a := (d.projs.getD z default).pgroup) (b := 3) (show _ = (.int .i64 ((d.projs.getD z default).pgroup) : Value) from (if_pos hb550)) rfl ⟨rfl, rfl⟩
      refine st (zA (b := decide (((d.projs.getD z default).pgroup) < 1)) (b' := decide (3 < ((d.projs.getD z default).pgroup))) rfl (fun hbp => (show _ = (.bool (decide (3 < ((d.projs.getD z default).pgroup))) : Value) from (if_pos hbp))) ?_)
      refine st (zb (v := .bool ((decide (((d.projs.getD z default).pgroup) < 1)) || (decide (3 < ((d.projs.getD z default).pgroup))))) rfl ?_)
      refine stc (V := .pointer (some ⟨b26, 4, none⟩)) rfl rfl (fun hb552 => ?_) ?_
      ·have hl553 := hb552
       try simp only [zn] at hl553
       exact WS rfl ⟨rfl, rfl⟩
      refine stc (V := .int .i64 ((d.projs.getD z default).pmake)) rfl rfl (fun hb554 => ?_) ?_
      ·have hl555 := hb554
       try simp only [zn] at hl555
       exact zg (v := .int .i64 ((d.projs.getD z default).pmake)) Tryd.isAgg3 (show _ = (.pointer (some ⟨b26, 4, none⟩) : Value) from (if_pos hb554)) (zh (hS543.blk (i := 1) rfl) rfl) ⟨rfl, rfl⟩
      refine stc (V := .bool (decide (((d.projs.getD z default).pmake) < 1))) rfl rfl (fun hb556 => ?_) ?_
      ·have hl557 := hb556
       try simp only [zn] at hl557
       exact zN (k := .i64) (a := (d.projs.getD z default).pmake) (b := 1) (show _ = (.int .i64 ((d.projs.getD z default).pmake) : Value) from (if_pos hb556)) rfl ⟨rfl, rfl⟩
      refine st (zA (b := (decide (((d.projs.getD z default).pgroup) < 1)) || (decide (3 < ((d.projs.getD z default).pgroup)))) (b' := decide (((d.projs.getD z default).pmake) < 1)) rfl (fun hbp => (show _ = (.bool (decide (((d.projs.getD z default).pmake) < 1)) : Value) from (if_pos hbp))) ?_)
      refine st (zb (v := .bool (((decide (((d.projs.getD z default).pgroup) < 1)) || (decide (3 < ((d.projs.getD z default).pgroup)))) || (decide (((d.projs.getD z default).pmake) < 1)))) rfl ?_)
      refine stc (V := .pointer (some ⟨b26, 4, none⟩)) rfl rfl (fun hb558 => ?_) ?_
      ·have hl559 := hb558
       try simp only [zn] at hl559
       exact WS rfl ⟨rfl, rfl⟩
      refine stc (V := .int .i64 ((d.projs.getD z default).pmake)) rfl rfl (fun hb560 => ?_) ?_
      ·have hl561 := hb560
       try simp only [zn] at hl561
       exact zg (v := .int .i64 ((d.projs.getD z default).pmake)) Tryd.isAgg3 (show _ = (.pointer (some ⟨b26, 4, none⟩) : Value) from (if_pos hb560)) (zh (hS543.blk (i := 1) rfl) rfl) ⟨rfl, rfl⟩
      refine stc (V := .bool (decide (5 < ((d.projs.getD z default).pmake)))) rfl rfl (fun hb562 => ?_) ?_
      ·have hl563 := hb562
       try simp only [zn] at hl563
       exact yP (k := .i64) (a := (d.projs.getD z default).pmake) (b := 5) (show _ = (.int .i64 ((d.projs.getD z default).pmake) : Value) from (if_pos hb562)) rfl ⟨rfl, rfl⟩
      refine st (zA (b := ((decide (((d.projs.getD z default).pgroup) < 1)) || (decide (3 < ((d.projs.getD z default).pgroup)))) || (decide (((d.projs.getD z default).pmake) < 1))) (b' := decide (5 < ((d.projs.getD z default).pmake))) rfl (fun hbp => (show _ = (.bool (decide (5 < ((d.projs.getD z default).pmake))) : Value) from (if_pos hbp))) ?_)
      refine zf ?_
      cases hc564 : (((decide (((d.projs.getD z default).pgroup) < 1)) || (decide (3 < ((d.projs.getD z default).pgroup)))) || (decide (((d.projs.getD z default).pmake) < 1))) || (decide (5 < ((d.projs.getD z default).pmake)))
      ·skip
       try simp only [zn] at hc564
       refine zo rfl ?_
       refine zw ?_
       refine za (by kernel_rfl) (fun _ => ?_)
       refine st (zb (v := .int .i64 ((z : Nat) : Int)) rfl ?_)
       have hr565 : InR ((z + 1 : Nat) : Int) := by first | omega | (simp only [lens]; omega)
       refine st (ye (r := ((z + 1 : Nat) : Int)) (k := .i64) (a := ((z : Nat) : Int)) (b := 1) rfl rfl (by rw [show (((z : Nat) : Int) + 1 : Int) = ((z + 1 : Nat) : Int) by first | omega | (simp only [lens]; omega)]; exact zQ hr565) ?_)
       refine st (ze (v := .int .i64 ((z + 1 : Nat) : Int)) rfl ?_)
       refine zf ?_
       have hS566 : Sep G W ((Blk b2 (d.cells dd0 dd1).toArray 25) :: Rs) w540 := hS543.sel 3 [2] (Nat.le_add_left _ _) rfl rfl
       exact ⟨_, by omega, z + 1, _, rfl, zp ⟨rfl, rfl, trivial⟩, by omega, hS566⟩
      ·skip
       try simp only [zn] at hc564
       refine zq rfl ?_
       refine zd ?_
       refine za (by kernel_rfl) (fun _ => ?_)
       refine st (ze (v := .int .i64 (2)) rfl ?_)
       refine zf ?_
       refine zu ?_
       refine ya Tryd.results46 (show _ = (.int .i64 (2) : Value) from rfl) ?_
       have hS567 : Sep G W Rs w540 := hS543.sel 3 [] (Nat.le_add_left _ _) rfl rfl
       refine ⟨2, rfl, ?_, ?_, hS567⟩
       · first | decide | assumption
       · intro h9
         exfalso; omega
     ·skip
      try simp only [zn] at hc545
      refine zq rfl ?_
      refine zd ?_
      refine za (by kernel_rfl) (fun _ => ?_)
      refine st (ze (v := .int .i64 (8)) rfl ?_)
      refine zf ?_
      refine zu ?_
      refine ya Tryd.results46 (show _ = (.int .i64 (8) : Value) from rfl) ?_
      have hS568 : Sep G W Rs w540 := hS543.sel 3 [] (Nat.le_add_left _ _) rfl rfl
      refine ⟨8, rfl, ?_, ?_, hS568⟩
      · first | decide | assumption
      · intro h9
        exfalso; omega
    ·skip
     try simp only [zn] at hc48
     refine zq rfl ?_
     refine zd ?_
     refine za (by kernel_rfl) (fun _ => ?_)
     refine st (ze (v := .int .i64 (8)) rfl ?_)
     refine zf ?_
     refine zu ?_
     refine ya Tryd.results46 (show _ = (.int .i64 (8) : Value) from rfl) ?_
     have hS569 : Sep G W Rs w45 := hS47.sel 3 [] (Nat.le_add_left _ _) rfl rfl
     refine ⟨8, rfl, ?_, ?_, hS569⟩
     · first | decide | assumption
     · intro h9
       exfalso; omega
  ·skip
   have hc14 := of_decide_eq_true hc14
   refine zq rfl ?_
   refine zw ?_
   refine zd ?_
   refine zx ?_
   refine zd ?_
   refine za (by kernel_rfl) (fun _ => ?_)
   refine st (ze (v := .int .i64 (0)) rfl ?_)
   refine zf ?_
   refine zx ?_
   refine yn (fun mq σ wq => ∃ (j : Nat) (ρ : Env), mq = (d.types.getD k default).fields.length - j ∧ σ = yp ρ [(1, .pointer (some ⟨b2, 0, none⟩)), (3, .int .i64 ((k : Nat) : Int)), (4, .int .i64 ((j : Nat) : Int))] ∧ (j ≤ (d.types.getD k default).fields.length) ∧ (∀ i, i < j → YN (d.types.getD k default) ((d.types.getD k default).fields.getD i default)) ∧ Sep G W ((Blk b2 (d.cells dd0 dd1).toArray 25) :: Rs) wq) ⟨0, _, rfl, zp ⟨rfl, rfl, rfl, trivial⟩, Nat.zero_le _, (fun i h => absurd h (Nat.not_lt_zero i)), hS13⟩ ?_
   rintro m571 σ572 w570 ⟨j, ρl3, rfl, rfl, hkj, hm2, hS573⟩
   refine zd ?_
   refine zd ?_
   refine za (by kernel_rfl) (fun _ => ?_)
   refine st (zb (v := .int .i64 ((j : Nat) : Int)) rfl ?_)
   refine st (yt rfl ?_)
   refine st (zg (v := dd0) Tryd.isAgg22 rfl (zh (hS573.blk (i := 0) rfl) rfl) ?_)
   refine st (zb (v := .int .i64 ((k : Nat) : Int)) rfl ?_)
   have hi574 : k < d.types.length := (by first | omega | (simp only [lens]; omega))
   refine st (zm (k := 1) (i := k) Tryd.underlying22 Tryd.sizeOf33 rfl hdd0.sl rfl hi574 ?_)
   refine st (yC rfl ?_)
   have hi576 : k < d.types.length := (by first | omega | (simp only [lens]; omega))
   obtain ⟨hce575, hde575_0, hoke575⟩ := hdd0.typ hi576
   rw [← zk default hi576] at hce575 hde575_0 hoke575
   have hsm577 : ((d.types.getD k default).fields).length * 48 ≤ 140737488355328 := hde575_0.small
   have hcw578 := hS573.cells hce575 (hdd0.foot (ne_of_lt hi576))
   refine st (zg (v := (zi W (sb dd0) (so dd0 + k * 1 + 0))) Tryd.isAgg31 rfl (hcw578.get (j := 0) rfl) ?_)
   refine st (zJ (n := ((d.types.getD k default).fields).length) Tryd.underlying31 rfl hde575_0.sl ?_)
   refine st (zN (k := .i64) (a := ((j : Nat) : Int)) (b := ((((d.types.getD k default).fields).length : Nat) : Int)) rfl rfl ?_)
   refine zf ?_
   cases hc579 : decide (((j : Nat) : Int) < ((((d.types.getD k default).fields).length : Nat) : Int))
   ·skip
    have hc579 := of_decide_eq_false hc579
    refine zo rfl ?_
    refine ym ?_
    refine yd ?_
    refine za (by kernel_rfl) (fun _ => ?_)
    refine st (zb (v := .int .i64 ((k : Nat) : Int)) rfl ?_)
    have hr580 : InR ((k + 1 : Nat) : Int) := by first | omega | (simp only [lens]; omega)
    refine st (ye (r := ((k + 1 : Nat) : Int)) (k := .i64) (a := ((k : Nat) : Int)) (b := 1) rfl rfl (by rw [show (((k : Nat) : Int) + 1 : Int) = ((k + 1 : Nat) : Int) by first | omega | (simp only [lens]; omega)]; exact zQ hr580) ?_)
    refine st (ze (v := .int .i64 ((k + 1 : Nat) : Int)) rfl ?_)
    refine zf ?_
    exact ⟨_, by omega, k + 1, _, rfl, zp ⟨rfl, rfl, trivial⟩, by omega, (xv hm (fun j9 h9 => hm2 j9 (by omega))), hS573⟩
   ·skip
    have hc579 := of_decide_eq_true hc579
    refine zq rfl ?_
    refine zw ?_
    refine zd ?_
    refine zx ?_
    refine zd ?_
    refine zP ((fun pp0 => WF [fun vals wq => Sep G W (pp0 :: Rs) wq, fun vals wq => ∃ (e709 : Int), (vals 14 = (.int .i64 (e709) : Value)) ∧ (InR e709) ∧ (e709 = 0 → YN (d.types.getD k default) (((d.types.getD k default).fields).getD j default)) ∧ Sep G W (pp0 :: Rs) wq]) (Blk b2 (d.cells dd0 dd1).toArray 25)) (AF [Vl 0 (.pointer (some ⟨b2, 0, none⟩)), Vl 1 (dd0), Vl 2 (.int .i64 ((k : Nat) : Int)), Vl 3 (.pointer (some ⟨sb dd0, so dd0 + k * 1, none⟩)), Vl 4 (.agg ((d.types.getD k default).cells (zi W (sb dd0) (so dd0 + k * 1 + 0))).toArray), Vl 5 (.pointer (some ⟨b2, 0, none⟩)), Vl 6 (dd0), Vl 7 (.int .i64 ((k : Nat) : Int)), Vl 8 (.pointer (some ⟨sb dd0, so dd0 + k * 1, none⟩)), Vl 9 (.pointer (some ⟨sb dd0, so dd0 + k * 1, none⟩)), Vl 10 ((zi W (sb dd0) (so dd0 + k * 1 + 0))), Vl 11 (.int .i64 ((j : Nat) : Int)), Vl 12 (.pointer (some ⟨sb (zi W (sb dd0) (so dd0 + k * 1 + 0)), so (zi W (sb dd0) (so dd0 + k * 1 + 0)) + j * 4, none⟩)), Vl 13 (.agg ((((d.types.getD k default).fields).getD j default).cells (zi W (sb (zi W (sb dd0) (so dd0 + k * 1 + 0))) (so (zi W (sb dd0) (so dd0 + k * 1 + 0)) + j * 4 + 3))).toArray), fun _ => True, fun vals => ∀ (e709 : Int), vals 14 = (.int .i64 (e709) : Value) → vals 15 = (.int .i64 (e709) : Value)]) [[], [0], [], [0, 1, 2], [0, 1, 2, 3], [], [5], [], [5, 6, 7], [5, 6, 7, 8], [5, 6, 7, 8, 9], [], [5, 6, 7, 8, 9, 10, 11], [5, 6, 7, 8, 9, 10, 11, 12], [0, 1, 2, 3, 4, 5, 6, 7, 8, 9, 10, 11, 12, 13], [0, 1, 2, 3, 4, 5, 6, 7, 8, 9, 10, 11, 12, 13, 14]] [14] [(0, 0), (0, 0), (0, 0), (0, 0), (0, 0), (0, 0), (0, 0), (0, 0), (0, 0), (0, 0), (0, 0), (0, 0), (0, 0), (0, 0), (0, 0), (1, 1)] (by kernel_rfl) (by kernel_rfl) (by kernel_rfl) rfl (by kernel_rfl) (by kernel_rfl) (fun _ h1 h2 h3 h4 _ => hS573.same h1 h2 h3 h4) ?_ (yg ⟨dA, dA, dA, dA, dA, dA, dA, dA, dA, dA, dA, dA, dA, dA, dT, fun vals vals' hv h => fun e709 hq0 => (hv 15 (.inl rfl)).trans (h e709 ((hv 14 (.inr (by decide))).symm.trans hq0)), trivial⟩) ⟨?_, ?_, ?_, ?_, ?_, ?_, ?_, ?_, ?_, ?_, ?_, ?_, ?_, ?_, ?_, ?_, trivial⟩ ?_
    ·intro k vals vals' w hv h
     have e : ∀ j ∈ ([14] : List Nat), vals' j = vals j := hv
     match k, h with
     | 0, h => exact h
     | 1, h => exact (by simpa only [WF, List.getElem?_cons_zero, List.getElem?_cons_succ, e 14 (by decide)] using h)
     | _ + 2, _ => trivial
    ·intro k722 vals w723 h726 h727 hW725 hA724
     refine obl rfl ?_
     exact yt rfl (fun vals' hv _ => ⟨rfl, hv⟩)
    ·intro k728 vals w729 h732 h733 hW731 hA730
     obtain rfl : k728 = 0 := Nat.le_antisymm h733 h732
     have hS734 : Sep _ _ _ _ := hW731
     have e735 := hA730 0 (by decide)
     refine obl rfl ?_
     exact zg (v := dd0) Tryd.isAgg22 e735 (zh (hS734.blk (i := 0) rfl) rfl) (fun vals' hv _ => ⟨rfl, hv⟩)
    ·intro k736 vals w737 h740 h741 hW739 hA738
     refine obl rfl ?_
     exact zb (v := .int .i64 ((k : Nat) : Int)) rfl (fun vals' hv _ => ⟨rfl, hv⟩)
    ·intro k742 vals w743 h746 h747 hW745 hA744
     obtain rfl : k742 = 0 := Nat.le_antisymm h747 h746
     have hS748 : Sep _ _ _ _ := hW745
     have e749 := hA744 1 (by decide)
     have e750 := hA744 2 (by decide)
     refine obl rfl ?_
     have hi751 : k < d.types.length := (by first | omega | (simp only [lens]; omega))
     exact zm (k := 1) (i := k) Tryd.underlying22 Tryd.sizeOf33 e749 hdd0.sl e750 hi751 (fun vals' hv _ => ⟨rfl, hv⟩)
    ·intro k752 vals w753 h756 h757 hW755 hA754
     obtain rfl : k752 = 0 := Nat.le_antisymm h757 h756
     have hS758 : Sep _ _ _ _ := hW755
     have e759 := hA754 3 (by decide)
     refine obl rfl ?_
     have hcw761 := hS758.cells hce575 (hdd0.foot (ne_of_lt hi576))
     exact zl (k := 1) Tryd.isAgg33 Tryd.sizeOf33 rfl e759 hcw761 (fun vals' hv _ => ⟨rfl, hv⟩)
    ·intro k762 vals w763 h766 h767 hW765 hA764
     refine obl rfl ?_
     exact yt rfl (fun vals' hv _ => ⟨rfl, hv⟩)
    ·intro k768 vals w769 h772 h773 hW771 hA770
     obtain rfl : k768 = 0 := Nat.le_antisymm h773 h772
     have hS774 : Sep _ _ _ _ := hW771
     have e775 := hA770 5 (by decide)
     refine obl rfl ?_
     exact zg (v := dd0) Tryd.isAgg22 e775 (zh (hS774.blk (i := 0) rfl) rfl) (fun vals' hv _ => ⟨rfl, hv⟩)
    ·intro k776 vals w777 h780 h781 hW779 hA778
     refine obl rfl ?_
     exact zb (v := .int .i64 ((k : Nat) : Int)) rfl (fun vals' hv _ => ⟨rfl, hv⟩)
    ·intro k782 vals w783 h786 h787 hW785 hA784
     obtain rfl : k782 = 0 := Nat.le_antisymm h787 h786
     have hS788 : Sep _ _ _ _ := hW785
     have e789 := hA784 6 (by decide)
     have e790 := hA784 7 (by decide)
     refine obl rfl ?_
     have hi791 : k < d.types.length := (by first | omega | (simp only [lens]; omega))
     exact zm (k := 1) (i := k) Tryd.underlying22 Tryd.sizeOf33 e789 hdd0.sl e790 hi791 (fun vals' hv _ => ⟨rfl, hv⟩)
    ·intro k792 vals w793 h796 h797 hW795 hA794
     have e798 := hA794 8 (by decide)
     refine obl rfl ?_
     exact yC e798 (fun vals' hv _ => ⟨rfl, hv⟩)
    ·intro k799 vals w800 h803 h804 hW802 hA801
     obtain rfl : k799 = 0 := Nat.le_antisymm h804 h803
     have hS805 : Sep _ _ _ _ := hW802
     have e806 := hA801 9 (by decide)
     refine obl rfl ?_
     have hcw808 := hS805.cells hce575 (hdd0.foot (ne_of_lt hi576))
     exact zg (v := (zi W (sb dd0) (so dd0 + k * 1 + 0))) Tryd.isAgg31 e806 (hcw808.get (j := 0) rfl) (fun vals' hv _ => ⟨rfl, hv⟩)
    ·intro k809 vals w810 h813 h814 hW812 hA811
     refine obl rfl ?_
     exact zb (v := .int .i64 ((j : Nat) : Int)) rfl (fun vals' hv _ => ⟨rfl, hv⟩)
    ·intro k815 vals w816 h819 h820 hW818 hA817
     obtain rfl : k815 = 0 := Nat.le_antisymm h820 h819
     have hS821 : Sep _ _ _ _ := hW818
     have e822 := hA817 10 (by decide)
     have e823 := hA817 11 (by decide)
     refine obl rfl ?_
     have hi824 : j < ((d.types.getD k default).fields).length := (by first | omega | (simp only [lens]; omega))
     exact zm (k := 4) (i := j) Tryd.underlying31 Tryd.sizeOf79 e822 hde575_0.sl e823 hi824 (fun vals' hv _ => ⟨rfl, hv⟩)
    ·intro k825 vals w826 h829 h830 hW828 hA827
     obtain rfl : k825 = 0 := Nat.le_antisymm h830 h829
     have hS831 : Sep _ _ _ _ := hW828
     have e832 := hA827 12 (by decide)
     refine obl rfl ?_
     have hi834 : j < ((d.types.getD k default).fields).length := (by first | omega | (simp only [lens]; omega))
     obtain ⟨hce833, hde833_0, hoke833⟩ := hde575_0.fld hi834
     rw [← zk default hi834] at hce833 hde833_0 hoke833
     have hsm835 : ((((d.types.getD k default).fields).getD j default).moves).length * 32 ≤ 140737488355328 := hde833_0.small
     have hcw836 := hS831.cells hce833 (hde575_0.foot (ne_of_lt hi834))
     exact zl (k := 4) Tryd.isAgg79 Tryd.sizeOf79 rfl e832 hcw836 (fun vals' hv _ => ⟨rfl, hv⟩)
    ·intro k696 vals w697 h700 h701 hW699 hA698
     obtain rfl : k696 = 0 := Nat.le_antisymm h701 h700
     have hS702 : Sep _ _ _ _ := hW699
     have e703 := hA698 4 (by decide)
     have e704 := hA698 13 (by decide)
     refine obl rfl ?_
     have hi706 : j < ((d.types.getD k default).fields).length := (by first | omega | (simp only [lens]; omega))
     obtain ⟨hce705, hde705_0, hoke705⟩ := hde575_0.fld hi706
     rw [← zk default hi706] at hce705 hde705_0 hoke705
     have hsm707 : ((((d.types.getD k default).fields).getD j default).moves).length * 32 ≤ 140737488355328 := hde705_0.small
     have hcw708 := hS702.cells hce705 (hde575_0.foot (ne_of_lt hi706))
     refine (zv (f := 71) (vals := [.agg ((d.types.getD k default).cells (zi W (sb dd0) (so dd0 + k * 1 + 0))).toArray, .agg ((((d.types.getD k default).fields).getD j default).cells (zi W (sb (zi W (sb dd0) (so dd0 + k * 1 + 0))) (so (zi W (sb dd0) (so dd0 + k * 1 + 0)) + j * 4 + 3))).toArray]) (cap := []) rfl (xj ⟨e703, e704, trivial⟩) Tryd.call71 (D_one (t := (d.types.getD k default)) (f := (((d.types.getD k default).fields).getD j default)) hde575_0 hoke575 hde705_0 hoke705 hS702) ?_)
     rintro _ w712 ⟨e709, rfl, hin710, hone711, hS713⟩
     intro vals' hv hv'
     refine ⟨?_, trivial⟩
     show ∃ (e709 : Int), (vals' 14 = (.int .i64 (e709) : Value)) ∧ (InR e709) ∧ (e709 = 0 → YN (d.types.getD k default) (((d.types.getD k default).fields).getD j default)) ∧ Sep G W ((Blk b2 (d.cells dd0 dd1).toArray 25) :: Rs) w712
     exact ⟨e709, hv, hin710, hone711, hS713⟩
    ·intro k837 vals w838 h841 h842 hW840 hA839
     obtain rfl : k837 = 1 := Nat.le_antisymm h842 h841
     obtain ⟨e709, he714, hin710, hone711, hS843⟩ := hW840
     refine obl rfl ?_
     refine ze (v := .int .i64 (e709)) he714 (fun vals' hv hv' => ⟨rfl, ?_⟩)
     intro e709q hq0
     rw [hv' 14 (by decide)] at hq0; cases he714.symm.trans hq0
     exact hv
    intro vals w844 hW845 hA846
    obtain ⟨e709, he714, hin710, hone711, hS847⟩ := hW845
    have e848 : vals 15 = (.int .i64 (e709) : Value) := hA846 15 (by decide) e709 he714
    refine yh (kv := [(1, .pointer (some ⟨b2, 0, none⟩)), (3, .int .i64 ((k : Nat) : Int)), (4, .int .i64 ((j : Nat) : Int)), (19, .int .i64 ((j : Nat) : Int)), (20, .pointer (some ⟨b2, 0, none⟩)), (21, dd0), (22, .int .i64 ((k : Nat) : Int)), (23, .pointer (some ⟨sb dd0, so dd0 + k * 1, none⟩)), (24, .pointer (some ⟨sb dd0, so dd0 + k * 1, none⟩)), (25, (zi W (sb dd0) (so dd0 + k * 1 + 0))), (26, .int .i64 ((((d.types.getD k default).fields).length : Nat) : Int)), (27, .bool true), (5, .int .i64 (e709))]) ⟨rfl, rfl, rfl, rfl, rfl, rfl, rfl, rfl, rfl, rfl, rfl, rfl, (by exact e848), trivial⟩ (fun ρw844 => ?_)
    refine zf ?_
    refine zd ?_
    refine za (by kernel_rfl) (fun _ => ?_)
    refine st (zb (v := .int .i64 (e709)) rfl ?_)
    refine st (yz (k := .i64) (a := e709) (b := 0) rfl rfl ?_)
    refine zf ?_
    cases hc849 : !decide (e709 = 0)
    ·skip
     have hc849 := yq hc849
     refine zo rfl ?_
     refine zw ?_
     refine za (by kernel_rfl) (fun _ => ?_)
     refine st (zb (v := .int .i64 ((j : Nat) : Int)) rfl ?_)
     have hr850 : InR ((j + 1 : Nat) : Int) := by first | omega | (simp only [lens]; omega)
     refine st (ye (r := ((j + 1 : Nat) : Int)) (k := .i64) (a := ((j : Nat) : Int)) (b := 1) rfl rfl (by rw [show (((j : Nat) : Int) + 1 : Int) = ((j + 1 : Nat) : Int) by first | omega | (simp only [lens]; omega)]; exact zQ hr850) ?_)
     refine st (ze (v := .int .i64 ((j + 1 : Nat) : Int)) rfl ?_)
     refine zf ?_
     exact ⟨_, by omega, j + 1, _, rfl, zp ⟨rfl, rfl, rfl, trivial⟩, by omega, (xv hm2 (hone711 (by have h9 := hc849; omega))), hS847⟩
    ·skip
     have hc849 := zY hc849
     refine zq rfl ?_
     refine zd ?_
     refine za (by kernel_rfl) (fun _ => ?_)
     refine st (zb (v := .int .i64 (e709)) rfl ?_)
     refine st (ze (v := .int .i64 (e709)) rfl ?_)
     refine zf ?_
     refine zu ?_
     refine ya Tryd.results46 (show _ = (.int .i64 (e709) : Value) from rfl) ?_
     have hS851 : Sep G W Rs w844 := hS847.sel 1 [] (Nat.le_add_left _ _) rfl rfl
     refine ⟨e709, rfl, ?_, ?_, hS851⟩
     · first | decide | assumption
     · intro h9
       exfalso; omega
 ·skip
  refine zq rfl ?_
  refine zd ?_
  refine za (by kernel_rfl) (fun _ => ?_)
  refine st (ze (v := .int .i64 (3)) rfl ?_)
  refine zf ?_
  refine zu ?_
  refine ya Tryd.results46 (show _ = (.int .i64 (3) : Value) from rfl) ?_
  have hS852 : Sep G W Rs w7 := hS8.sel 1 [] (Nat.le_add_left _ _) rfl rfl
  refine ⟨3, rfl, ?_, ?_, hS852⟩
  · first | decide | assumption
  · intro h9
    exfalso; omega

end Go.Proofs.YtlblilbmpdejgaaDoor
/- Steps of the proofs of this seat: part C9. -/
set_option maxRecDepth 8000
namespace Go.Proofs.YtlblilbmpdejgaaDoor
open Go.Proofs Go.RowKit

theorem QM {G : Nat → Prop} {W w : World} {Rs : List HP} {x : Int} (hx : InR x) {n : Nat} (hn : 1 ≤ n ∧ n ≤ 281474976710656) (hS0 : Sep G W Rs w) : Ret Tryd.prog 13 [.int .i64 (x), .int .i64 ((n : Nat) : Int)] w (fun r w' => ∃ (q : Nat), r = (.int .i64 ((q : Nat) : Int) : Value) ∧ (q < n) ∧ Sep G W Rs w') := by
 refine zr (args := [.int .i64 (x), .int .i64 ((n : Nat) : Int)]) Tryd.func13 rfl rfl ?_
 refine zd ?_
 refine za (by kernel_rfl) (fun _ => ?_)
 refine st (ze (v := .int .i64 (0)) rfl ?_)
 refine zf ?_
 refine zd ?_
 refine zd ?_
 refine za (by kernel_rfl) (fun _ => ?_)
 refine st (zb (v := .int .i64 ((n : Nat) : Int)) rfl ?_)
 refine st (zN (k := .i64) (a := ((n : Nat) : Int)) (b := 1) rfl rfl ?_)
 refine zf ?_
 cases hc1 : decide (((n : Nat) : Int) < 1)
 ·skip
  have hc1 := of_decide_eq_false hc1
  refine zo rfl ?_
  refine zw ?_
  refine zd ?_
  refine za (by kernel_rfl) (fun _ => ?_)
  refine st (zb (v := .int .i64 (x)) rfl ?_)
  refine st (zb (v := .int .i64 ((n : Nat) : Int)) rfl ?_)
  have h03 : (0 : Int) < ((n : Nat) : Int) := by omega
  have hr4 := Int.tmod_lt_of_pos x h03; have hr5 := Int.lt_tmod_of_pos x h03
  obtain ⟨rm2, hr6⟩ : ∃ z, Int.tmod x ((n : Nat) : Int) = z := ⟨_, rfl⟩; rw [hr6] at hr4 hr5
  refine st (QN (r := rm2) rfl rfl h03 hr6 ?_)
  refine st (ze (v := .int .i64 (rm2)) rfl ?_)
  refine zf ?_
  refine zd ?_
  refine zd ?_
  refine za (by kernel_rfl) (fun _ => ?_)
  refine st (zb (v := .int .i64 (rm2)) rfl ?_)
  refine st (zN (k := .i64) (a := rm2) (b := 0) rfl rfl ?_)
  refine zf ?_
  cases hc7 : decide (rm2 < 0)
  ·skip
   have hc7 := of_decide_eq_false hc7
   refine zo rfl ?_
   refine zw ?_
   refine zd ?_
   refine za (by kernel_rfl) (fun _ => ?_)
   refine st (zb (v := .int .i64 (rm2)) rfl ?_)
   refine st (ze (v := .int .i64 (rm2)) rfl ?_)
   refine zf ?_
   refine zu ?_
   refine ya Tryd.results13 (show _ = (.int .i64 (rm2) : Value) from rfl) ?_
   refine ⟨(rm2).toNat, ?_, ?_, hS0⟩
   · rw [Int.toNat_of_nonneg (by omega)]
   · omega
  ·skip
   have hc7 := of_decide_eq_true hc7
   refine zq rfl ?_
   refine za (by kernel_rfl) (fun _ => ?_)
   refine st (zb (v := .int .i64 (rm2)) rfl ?_)
   refine st (zb (v := .int .i64 ((n : Nat) : Int)) rfl ?_)
   have hr8 : InR (rm2 + ((n : Nat) : Int)) := by omega
   refine st (ye (r := rm2 + ((n : Nat) : Int)) (k := .i64) (a := rm2) (b := ((n : Nat) : Int)) rfl rfl (zQ hr8) ?_)
   refine st (ze (v := .int .i64 (rm2 + ((n : Nat) : Int))) rfl ?_)
   refine zf ?_
   refine zd ?_
   refine za (by kernel_rfl) (fun _ => ?_)
   refine st (zb (v := .int .i64 (rm2 + ((n : Nat) : Int))) rfl ?_)
   refine st (ze (v := .int .i64 (rm2 + ((n : Nat) : Int))) rfl ?_)
   refine zf ?_
   refine zu ?_
   refine ya Tryd.results13 (show _ = (.int .i64 (rm2 + ((n : Nat) : Int)) : Value) from rfl) ?_
   refine ⟨(rm2 + ((n : Nat) : Int)).toNat, ?_, ?_, hS0⟩
   · rw [Int.toNat_of_nonneg (by omega)]
   · omega
 ·skip
  have hc1 := of_decide_eq_true hc1
  refine zq rfl ?_
  refine zd ?_
  refine za (by kernel_rfl) (fun _ => ?_)
  refine st (ze (v := .int .i64 (0)) rfl ?_)
  refine zf ?_
  refine zu ?_
  refine ya Tryd.results13 (show _ = (.int .i64 (0) : Value) from rfl) ?_
  refine ⟨0, ?_, ?_, hS0⟩
  · exfalso; omega
  · omega

end Go.Proofs.YtlblilbmpdejgaaDoor
/- Steps of the proofs of this seat: part C10. -/
set_option maxRecDepth 8000
namespace Go.Proofs.YtlblilbmpdejgaaDoor
open Go.Proofs Go.RowKit

end Go.Proofs.YtlblilbmpdejgaaDoor
/- Cells that are worked on: seen as a row; made new. -/
namespace Go.Proofs.YtlblilbmpdejgaaDoor
open Go.RowKit
section
variable {G : Nat → Prop} {W w : World} {As : List HP} {T Ti : TypeId} {v : Value} {sh : List CelS} {l : List Cel}
theorem CelW.rowP {f : Nat → Prop} (h : (CelW v T Ti l).p w f) : (RowE (α := Cel) own T v l).p w f := by
  obtain ⟨sh, ⟨hlen, hn⟩, hA⟩ := h
  obtain ⟨fs, q1, q2⟩ := hA
  obtain ⟨⟨css, hE, hown, hrow, hsm⟩, hf0⟩ := q1 0 _ rfl
  obtain ⟨hSt, hf1⟩ := q1 1 _ rfl
  have q2' := q2 0 1 (by simp) (by simp) (by simp)
  have hcl := hE.length
  refine ⟨css, EP.of_at (by omega) (fun i h1 h2 => ?_), by rw [← hlen]; exact hown, fun b hb => (hf0 b (hrow b hb)).1, by rw [← hlen]; exact hsm⟩
  have hs : i < sh.length := by omega
  obtain ⟨hcs, hin, hone⟩ : css[i] = sh[i].cells ∧ InR sh[i].n ∧ sh[i].v.oneCell' = true := (EP.at2 hE i h1 hs).imp id (fun h => ⟨h.n, h.one⟩)
  have hr : (RowE (α := Int) own Ti (sh.getD i default).v (l.getD i default).set).p w (fs 1) := Star.at_ hSt (SetRows.get hs h2)
  have hsoft := RowE.soft hr
  have hni := hn i h2
  rw [zk _ hs, zk _ h2] at hsoft hni
  refine ⟨sh[i].v, ?_, hsoft.mono (fun b hb hlt => ⟨rfl, ⟨(hf1 b hb.1).1, fun e => q2' b (hrow b e) hb.1⟩, hb.2⟩), ⟨by rw [← hni]; exact hin⟩⟩
  rw [hcs]
  show [Value.int .i64 sh[i].n, sh[i].v] = _
  rw [hni]; rfl
theorem CelW.rd {f : Nat → Prop} (h : (CelW v T Ti l).p w f) : RdS w f v l := RowE.rd (CelW.rowP h)
end
end Go.Proofs.YtlblilbmpdejgaaDoor
/- Steps of the proofs of this seat: part C11. -/
set_option maxRecDepth 8000
namespace Go.Proofs.YtlblilbmpdejgaaDoor
open Go.Proofs Go.RowKit

end Go.Proofs.YtlblilbmpdejgaaDoor
/- Steps of the proofs of this seat: part C12. -/
set_option maxRecDepth 8000
namespace Go.Proofs.YtlblilbmpdejgaaDoor
open Go.Proofs Go.RowKit

end Go.Proofs.YtlblilbmpdejgaaDoor
/- Steps of the proofs of this seat: part C13. -/
set_option maxRecDepth 8000
namespace Go.Proofs.YtlblilbmpdejgaaDoor
open Go.Proofs Go.RowKit

end Go.Proofs.YtlblilbmpdejgaaDoor
/- Steps of the proofs of this seat: part C14. -/
set_option maxRecDepth 8000
set_option maxHeartbeats 4000000
namespace Go.Proofs.YtlblilbmpdejgaaDoor
open Go.Proofs Go.RowKit

theorem Wq {t : Typ} : Right t (List.replicate t.fields.length ⟨0, []⟩) := by
  have key : ∀ i, i < (List.replicate t.fields.length (⟨0, []⟩ : Cel)).length → (List.replicate t.fields.length (⟨0, []⟩ : Cel)).getD i default = ⟨0, []⟩ := by
    intro i hi
    rw [zk _ hi, List.getElem_replicate]
  refine ⟨by simp, fun i hi _ => ?_, fun i hi _ => ?_, fun i hi _ => ?_, fun i hi => ?_, fun i hi => ?_⟩ <;> rw [key i hi]
  · exact Int.le_refl _
  · simp
  · exact List.Pairwise.nil
end Go.Proofs.YtlblilbmpdejgaaDoor
/- Steps of the proofs of this seat: part C15. -/
set_option maxRecDepth 8000
set_option maxHeartbeats 4000000
namespace Go.Proofs.YtlblilbmpdejgaaDoor
open Go.Proofs Go.RowKit

theorem D_New {G : Nat → Prop} {W w : World} {Rs : List HP} {t : Typ} {dt0 : Value} (hdt0 : RdS W G dt0 t.fields) (ot : t.Ok) (hS0 : Sep G W Rs w) : Ret Tryd.prog 48 [.agg (t.cells dt0).toArray] w (fun r w' => ∃ (v : Value), r = (v : Value) ∧ Sep G W ((RowE (α := Cel) own 42 v (List.replicate t.fields.length (⟨0, []⟩ : Cel))) :: Rs) w') := by
 have hdt0s : _ * 48 ≤ _ := hdt0.small
 refine zr (args := [.agg (t.cells dt0).toArray]) Tryd.func48 rfl rfl ?_
 refine zd ?_
 refine za (by kernel_rfl) (fun _ => ?_)
 refine st (yb (v := .agg (t.cells dt0).toArray) rfl ?_)
 intro w3 b2 hn1
 have hS4 := hS0.new hn1
 refine st (ze (v := (.slice none 0 0)) rfl ?_)
 refine zf ?_
 refine zd ?_
 refine za (by kernel_rfl) (fun _ => ?_)
 refine st (yC rfl ?_)
 refine st (zg (v := dt0) Tryd.isAgg31 rfl (zh (hS4.blk (i := 0) rfl) rfl) ?_)
 refine st (zJ (n := t.fields.length) Tryd.underlying31 rfl hdt0.sl ?_)
 refine st (Xr (α := Cel) (T := 42) (bytes := 32) (n := t.fields.length) (x1 := (⟨0, []⟩ : Cel)) Tryd.underlying26 ⟨_, _, rfl, rfl, rfl, rfl, rfl, fun _ _ => ⟨_, rfl, RdS.nil _ _, ⟨by decide⟩⟩⟩ rfl rfl rfl (by show t.fields.length * 32 ≤ 140737488355328; omega) ?_)
 intro w10 b5 hx6 he7 hl8 ho9
 have hS11 : Sep G W ((RowE (α := Cel) own 42 (.slice (some ⟨b5, 0, none⟩) t.fields.length t.fields.length) (List.replicate t.fields.length (⟨0, []⟩ : Cel))) :: (Blk b2 (t.cells dt0).toArray 33) :: Rs) w10 := hS4.made hx6 ho9
 have hr12 := hS11.row (i := 0) rfl
 have hr12s : _ * 32 ≤ _ := hr12.2
 refine st (ze (v := (.slice (some ⟨b5, 0, none⟩) t.fields.length t.fields.length)) rfl ?_)
 refine zf ?_
 refine zu ?_
 refine ya Tryd.results48 (show _ = ((.slice (some ⟨b5, 0, none⟩) t.fields.length t.fields.length) : Value) from rfl) ?_
 have hS13 : Sep G W ((RowE (α := Cel) own 42 (.slice (some ⟨b5, 0, none⟩) t.fields.length t.fields.length) (List.replicate t.fields.length (⟨0, []⟩ : Cel))) :: Rs) w10 := hS11.sel 2 [0] (Nat.le_add_left _ _) rfl rfl
 refine ⟨(.slice (some ⟨b5, 0, none⟩) t.fields.length t.fields.length), rfl, hS13⟩

end Go.Proofs.YtlblilbmpdejgaaDoor
/- Steps of the proofs of this seat: part C17. -/
set_option maxRecDepth 8000
set_option maxHeartbeats 4000000
namespace Go.Proofs.YtlblilbmpdejgaaDoor
open Go.Proofs Go.RowKit

instance (t : Typ) (c : List Cel) (f op arg : Int) : Decidable (XB t c f op arg) := by unfold XB Asc; infer_instance
end Go.Proofs.YtlblilbmpdejgaaDoor
/- Steps of the proofs of this seat: part C18. -/
set_option maxRecDepth 8000
set_option maxHeartbeats 4000000
namespace Go.Proofs.YtlblilbmpdejgaaDoor
open Go.Proofs Go.RowKit

end Go.Proofs.YtlblilbmpdejgaaDoor
/- A listed table of integers is a shared list; the lifted law of a row that lists variables. -/
namespace Go.Proofs.YtlblilbmpdejgaaDoor
open Go.ChangeShapes Go.WideShapes Go.ChangeAt Go.RowKit

theorem UK {P : Program} {W : World} {name : String} {zs : List Int} {g : Nat} (hg : P.globalNamed name = some g) (h : Lib.TabIs P W name .i64 zs) (hz : ∀ z ∈ zs, InR z) (hs : zs.length * 8 ≤ 140737488355328) :
    RdS W (yV W) (.slice (some ⟨g, 0, none⟩) zs.length zs.length) zs := by
  have hc : ∀ i, W.cell? ⟨g, i, none⟩ = (zs.map fun z => Value.int .i64 z)[i]? := fun i => by
    rw [World.var?_cell hg h i]; simp
  refine ⟨⟨_, _, rfl, Nat.le_refl _, fun _ => ⟨_, _, rfl⟩⟩, fun hne => ?_, hs, fun i hi => ?_⟩
  · have h0 : 0 < zs.length := List.length_pos_iff.2 hne
    have h1 := hc 0
    rw [List.getElem?_eq_getElem (by simpa using h0)] at h1
    exact xF h1
  · refine ⟨[.int .i64 zs[i]], fun j hj => ?_, ⟨rfl, hz _ (List.getElem_mem hi)⟩⟩
    obtain rfl : j = 0 := by simp at hj; omega
    have h1 := hc i
    rw [List.getElem?_eq_getElem (by simpa using hi)] at h1
    have e : (so (.slice (some ⟨g, 0, none⟩) zs.length zs.length) + i * Rep.k Int + 0) = i := by
      show 0 + i * 1 + 0 = i
      omega
    show W.cell? ⟨g, so (.slice (some ⟨g, 0, none⟩) zs.length zs.length) + i * Rep.k Int + 0, none⟩ = _
    rw [e, h1]
    simp

theorem YB {P : Program} {d : Option Tmp} {ty : TypeId} {pos : String} {af : Array Edge} {g : Option (Nat × Bool)} {σ : Env} {w : World} {K : Value → World → Prop} {t e : TypeId} {k n b o off : Nat} {i : Int} {x y : Operand} {ki : IntKind} (hU : P.underlying t = some (.array n e)) (hS : ∀ w, (sizeOf e).run P w = .ok k w) (hx : ev σ x = .pointer (some ⟨b, o, none⟩)) (hy : ev σ y = .int ki i)
    (hi : 0 ≤ i ∧ i < n) (ho : i.toNat * k = off) (h : K (.pointer (some ⟨b, o + off, none⟩)) w) : opV P ⟨d, .indexAddr t x y, ty, pos, af, g⟩ σ w K := by
  obtain ⟨m, rfl⟩ := Int.eq_ofNat_of_zero_le hi.1
  exact YI (i := m) hU hS hx hy (by omega) (by simpa using ho) h

theorem ZT {H : Type} {enc : TypeId × Value → H} {C : Checked} {os : Os} {f : FuncId} {fn : Func} {s : ChangeSpec} {tb : TypeId} {laid : List (String × DataW Unit)}
    (own : ownKnob C.prog.godebug = none) (started : os.Started) (noInit : C.prog.inits.idxOf? f = none) (hfn : C.prog.funcs[f]? = some fn)
    (hl : laidOutB C.prog = true) (hrt : fn.resultTypes = #[tb]) (htb : C.prog.underlying tb = some .bool) (hsv : s.vars = [])
    (hsf : ∀ ds : List (DataW H), ds.length = fn.params.size → s.fn H ds = { results := [.lit (.bool true)], args := ds })
    (hps : ∀ t ∈ fn.params.toList, C.prog.readableRec t = true ∧ t < C.prog.types.size)
    (witness : ∃ (w : World) (tape : Tape) (i : Input), w.os = os ∧ (w.forCall tape i).Shaped C.prog ∧ i.vars = [] ∧ Input.okWide C.prog (w.forCall tape i) .any w.heap.size f i ∧
      ((s.pre enc C.prog fn [] false (w.forCall tape i).memory i.args ∧ laidMetH C.prog laid (w.forCall tape i).memory) ∧ sizedMet enc C.prog fn (OpenSpec.ofChange s) false (w.forCall tape i).memory i.args) ∧ ({} : Assume).holds C.prog (lone (Frame.enter C.prog f i.args .normal) [] (w.forCall tape i)))
    (contract : ∀ (W : World) (base : Nat) (args : Array Value) (ds : List (DataW H)) (ps : List MemPlace),
      (∀ (j : Nat) t v, fn.params[j]? = some t → args[j]? = some v → Value.okWide C.prog W .any base t v) →
      DataW.TrodAll enc C.prog W 0 (fun _ => true) true fn.params.toList args.toList ds ps →
      (∀ (j : Nat) t d, fn.params.toList[j]? = some t → ds[j]? = some d → xQ C.prog t d) → laidMetH C.prog laid W →
      Ret C.prog f args.toList W (fun r w' => r = .bool true ∧ Ext W w')) :
    ReturnsInHanded {} C os f .any (fun w args => (s.pre enc C.prog fn [] false w args ∧ laidMetH C.prog laid w) ∧ sizedMet enc C.prog fn (OpenSpec.ofChange s) false w args) (s.post enc C.prog fn false true false false) := by
  refine returnsInHanded_of_change_and (C := C) (X := fun w _ => laidMetH C.prog laid w) (fun _ _ _ hh h => h.of_heap hh) own started noInit hfn witness ?_
  intro W base args ds gs before hval hW _ hsz hL _
  have hW' := hW
  obtain ⟨p, q, hA, hV, rfl, hfz, hnd⟩ := hW
  have hlt := hW'.lt
  rw [hsv] at hV
  obtain ⟨rfl, rfl⟩ := trodVars_none hV
  simp only [List.append_nil] at hW' hlt
  have hlen : ds.length = fn.params.size := by
    have : ∀ {ts : List TypeId} {vs : List Value} {ds : List (DataW H)} {ps : List MemPlace}, DataW.TrodAll enc C.prog W 0 (fun _ => true) true ts vs ds ps → ds.length = ts.length := by
      intro ts
      induction ts with
      | nil => intro vs ds ps h; obtain ⟨_, rfl, _⟩ := trodAll_nil h; rfl
      | cons t ts ih => intro vs ds ps h; obtain ⟨_, _, _, ds1, _, _, _, rfl, _, _, h2⟩ := trodAll_cons h; simp [ih h2]
    simpa using this hA
  have hc := contract W base args ds p hval hA (fun j t d ht hd n hn => by
    have := List.all_eq_true.1 hsz n (by
      rw [List.append_nil]
      refine DataW.weights_mem_each (j := j) (t := t) ?_ hd n hn
      rw [List.getElem?_append_left (by exact (List.getElem?_eq_some_iff.1 ht).1)]
      exact ht)
    simpa using this) hL
  have hc' : Calls C.prog f args W fun e w' => ∃ v, e = .returned v ∧ v = .bool true ∧ Ext W w' := by
    have : args.toList.toArray = args := by simp
    rw [← this]; exact hc
  refine hc'.mono fun e W' ⟨v, he, hv, hx⟩ => ⟨v, he, ?_⟩
  subst hv
  have hb := hx.below
  refine ⟨ds, [], p, [], p, [], hW', ?_, ?_, ?_, hb.frame _, fun h => by cases h⟩
  · rw [List.append_nil, hsf ds hlen, hrt]
    exact trodAll_mk1 (shut_bool htb _)
  · rw [List.append_nil, hsf ds hlen]
    exact Ze hl hb hps hA (fun x hx => hlt x hx)
  · rw [List.append_nil, hsf ds hlen, hsv]
    rfl
end Go.Proofs.YtlblilbmpdejgaaDoor
/- Steps of the proofs of this seat: part K1. -/
set_option maxRecDepth 8000
set_option maxHeartbeats 4000000
namespace Go.Proofs.YtlblilbmpdejgaaDoor
open Go.Proofs Go.RowKit

def kindsL : List Int := [0, 1, 2, 3, 3, 4]
theorem Ww : kindsL.length = 6 := rfl
def yy (d : Dcl) (ty f : Int) : Bool := (decide (0 ≤ ty) && decide (ty ≤ ((d.types.length : Nat) : Int) - 1)) && (decide (0 ≤ f) && decide (f ≤ (((d.types.getD ty.toNat default).fields.length : Nat) : Int) - 1))
def zO (d : Dcl) (ty f : Int) : Fld := if yy d ty f = true then (d.types.getD ty.toNat default).fields.getD f.toNat default else ⟨0, 0, false, []⟩
def yO (d : Dcl) (ty f op arg : Int) : Int :=
  if (!yy d ty f) = true then 8 else if (!(decide (1 ≤ op) && decide (op ≤ 5)) || !decide (kindsL.getD op.toNat 0 = (zO d ty f).kind)) = true then 2
  else if (decide (op = 1) && decide (arg = 0)) = true then 1 else if (decide (op = 5) && !(decide (0 ≤ arg) && decide (arg ≤ (((zO d ty f).moves.length : Nat) : Int) - 1))) = true then 1 else 0
theorem Xh {d : Dcl} {ty f op arg : Int} (h : yO d ty f op arg = 0) : 0 ≤ ty ∧ ty < d.types.length ∧ Fits (d.types.getD ty.toNat default) f op arg := by
  unfold yO at h
  split at h
  · cases h
  rename_i h1
  split at h
  · cases h
  rename_i h2
  split at h
  · cases h
  rename_i h3
  split at h
  · cases h
  rename_i h4
  have hB : yy d ty f = true := by simpa using h1
  have hz : zO d ty f = (d.types.getD ty.toNat default).fields.getD f.toNat default := by unfold zO; rw [hB]; rfl
  rw [hz] at h2 h4
  unfold yy at hB
  simp only [Bool.and_eq_true, decide_eq_true_eq] at hB
  simp only [Bool.or_eq_true, Bool.not_eq_true', Bool.and_eq_false_iff, Bool.and_eq_true, decide_eq_true_eq, decide_eq_false_iff_not, not_or, Decidable.not_not, not_and] at h2 h3 h4
  refine ⟨hB.1.1, by omega, ⟨hB.2.1, by omega, ?_⟩⟩
  have h5 : op = 1 ∨ op = 2 ∨ op = 3 ∨ op = 4 ∨ op = 5 := by omega
  have h6 := h2.2
  unfold yR
  rcases h5 with rfl | rfl | rfl | rfl | rfl
  · exact .inl ⟨rfl, h6.symm⟩
  · exact .inr (.inl ⟨rfl, h6.symm⟩)
  · exact .inr (.inr (.inl ⟨.inl rfl, h6.symm⟩))
  · exact .inr (.inr (.inl ⟨.inr rfl, h6.symm⟩))
  · have := h4 rfl
    exact .inr (.inr (.inr ⟨rfl, h6.symm, by omega, by omega⟩))
instance : Flat Mv := ⟨fun h => h⟩
theorem Zv {G : Nat → Prop} {W w : World} {Rs : List HP} {x : Int} (hx : InR x) {lo : Int} (hlo : InR lo) {hi : Int} (hhi : InR hi) (hS0 : Sep G W Rs w) : Ret Tryd.prog 51 [.int .i64 (x), .int .i64 (lo), .int .i64 (hi)] w (fun r w' => r = (.bool ((decide (lo ≤ x) && decide (x ≤ hi))) : Value) ∧ Sep G W Rs w') := by
 refine zr (args := [.int .i64 (x), .int .i64 (lo), .int .i64 (hi)]) Tryd.func51 rfl rfl ?_
 refine zd ?_
 refine za (by kernel_rfl) (fun _ => ?_)
 refine st (ze (v := .bool false) rfl ?_)
 refine zf ?_
 refine zd ?_
 refine zD (by kernel_rfl) ?_
 refine st (zb (v := .int .i64 (x)) rfl ?_)
 refine st (zb (v := .int .i64 (lo)) rfl ?_)
 refine st (xI (k := .i64) (a := x) (b := lo) rfl rfl ?_)
 refine st (zb (v := .bool (decide (lo ≤ x))) rfl ?_)
 refine stc (V := .int .i64 (x)) rfl rfl (fun hb1 => ?_) ?_
 ·have hl2 := hb1
  have hl2 := of_decide_eq_true hl2
  exact zb (v := .int .i64 (x)) rfl ⟨rfl, rfl⟩
 refine stc (V := .int .i64 (hi)) rfl rfl (fun hb3 => ?_) ?_
 ·have hl4 := hb3
  have hl4 := of_decide_eq_true hl4
  exact zb (v := .int .i64 (hi)) rfl ⟨rfl, rfl⟩
 refine stc (V := .bool (decide (x ≤ hi))) rfl rfl (fun hb5 => ?_) ?_
 ·have hl6 := hb5
  have hl6 := of_decide_eq_true hl6
  exact Qf (k := .i64) (a := x) (b := hi) (show _ = (.int .i64 (x) : Value) from (if_pos hb5)) (show _ = (.int .i64 (hi) : Value) from (if_pos hb5)) ⟨rfl, rfl⟩
 refine st (zK (b := decide (lo ≤ x)) (b' := decide (x ≤ hi)) rfl (fun hbp => (show _ = (.bool (decide (x ≤ hi)) : Value) from (if_pos hbp))) ?_)
 refine st (ze (v := .bool ((decide (lo ≤ x)) && (decide (x ≤ hi)))) rfl ?_)
 refine zf ?_
 refine zu ?_
 refine ya Tryd.results51 (show _ = (.bool ((decide (lo ≤ x)) && (decide (x ≤ hi))) : Value) from rfl) ?_
 refine ⟨rfl, hS0⟩

theorem YS {G : Nat → Prop} {W w : World} {Rs : List HP} {vl : Value} {l : List Mv} (hl : RdS W G vl l) (hS0 : Sep G W Rs w) : Ret Tryd.prog 67 [vl] w (fun r w' => ∃ (v : Value), r = (v : Value) ∧ Sep G W ((RowE (α := Mv) own 115 v l) :: Rs) w') := by
 have hls : _ * 32 ≤ _ := hl.small
 refine zr (args := [vl]) Tryd.func67 rfl rfl ?_
 refine zd ?_
 refine za (by kernel_rfl) (fun _ => ?_)
 refine st (ze (v := (.slice none 0 0)) rfl ?_)
 refine zf ?_
 refine zd ?_
 refine zd ?_
 refine za (by kernel_rfl) (fun _ => ?_)
 refine st (zb (v := vl) rfl ?_)
 refine st (xr (v := vl) Tryd.underlying77 rfl hl.sl ?_)
 refine zf ?_
 cases hc1 : xp vl
 ·skip
  refine zo rfl ?_
  refine zw ?_
  refine zd ?_
  refine za (by kernel_rfl) (fun _ => ?_)
  refine st (zB (k := 4) (parts' := []) (c := #[]) Tryd.underlying77 Tryd.sizeOf115 Tryd.zeroValue115 (by decide) rfl (by kernel_rfl) ?_)
  intro w4 b3 hn2
  have hS5 := hS0.new hn2
  refine st (zb (v := vl) rfl ?_)
  have hS9 : Sep G W ((RowE (α := Mv) own 115 (.slice (some ⟨b3, 0, none⟩) 0 0) ([] : List Mv)) :: Rs) w4 := Sep.blkRow (src := own) (l := ([] : List Mv)) (css := []) hS5 rfl trivial (by first | decide | (simp only [List.length_cons, List.length_nil]; decide))
  have hr10 := hS9.row (i := 0) rfl
  have hr10s : _ * 32 ≤ _ := hr10.2
  refine st (xg (src := own) (bytes := 32) hS9 QR rfl rfl hl (by first | omega | (simp only [List.length_append, List.length_cons, List.length_nil, List.length_take, List.length_drop]; omega)) rfl (hq' := fun _ _ h _ _ => YA h) ?_)
  intro v7 w6 hS8
  have hS8 : Sep G W ((RowE (α := Mv) own 115 v7 l) :: Rs) w6 := hS8
  have hr11 := hS8.row (i := 0) rfl
  have hr11s : _ * 32 ≤ _ := hr11.2
  refine st (ze (v := v7) rfl ?_)
  refine zf ?_
  refine zu ?_
  refine ya Tryd.results67 (show _ = (v7 : Value) from rfl) ?_
  refine ⟨v7, rfl, hS8⟩
 ·skip
  have hl0 := Za hl.sl hc1
  refine zq rfl ?_
  refine zd ?_
  refine za (by kernel_rfl) (fun _ => ?_)
  refine st (ze (v := (.slice none 0 0)) rfl ?_)
  refine zf ?_
  refine zu ?_
  refine ya Tryd.results67 (show _ = ((.slice none 0 0) : Value) from rfl) ?_
  have hS12 : Sep G W ((RowE (α := Mv) own 115 (.slice none 0 0) ([] : List Mv)) :: Rs) w := hS0.rowNil own 115
  have hl1 : l = [] := List.length_eq_zero_iff.1 hl0
  subst hl1
  refine ⟨(.slice none 0 0), rfl, hS12⟩

theorem UL {G : Nat → Prop} {W w : World} {Rs : List HP} {d : Dcl} {dd0 : Value} (hdd0 : RdS W G dd0 d.types) {dd1 : Value} (hdd1 : RdS W G dd1 d.projs) (od : d.Ok) {ty : Int} (hty : InR ty) {f : Int} (hf : InR f) (hS0 : Sep G W Rs w) : Ret Tryd.prog 40 [.agg (d.cells dd0 dd1).toArray, .int .i64 (ty), .int .i64 (f)] w (fun r w' => ∃ (v : Value), r = (.tuple #[.agg ((zO d ty f).cells v).toArray, .bool ((yy d ty f))] : Value) ∧ ((zO d ty f).Ok) ∧ Sep G W ((RowE (α := Mv) own 115 v ((zO d ty f).moves)) :: Rs) w') := by
 have hdd0s : _ * 24 ≤ _ := hdd0.small
 have hdd1s : _ * 40 ≤ _ := hdd1.small
 refine zr (args := [.agg (d.cells dd0 dd1).toArray, .int .i64 (ty), .int .i64 (f)]) Tryd.func40 rfl rfl ?_
 refine zd ?_
 refine za (by kernel_rfl) (fun _ => ?_)
 refine st (yb (v := .agg (d.cells dd0 dd1).toArray) rfl ?_)
 intro w3 b2 hn1
 have hS4 := hS0.new hn1
 refine st (zE Tryd.zeroValue79 ?_)
 intro w7 b6 hn5
 have hS8 := hS4.new hn5
 refine st (ze (v := .bool false) rfl ?_)
 refine zf ?_
 refine zd ?_
 refine zd ?_
 refine zD (by kernel_rfl) ?_
 refine st (zb (v := .int .i64 (ty)) rfl ?_)
 refine st (yt rfl ?_)
 refine st (zg (v := dd0) Tryd.isAgg22 rfl (zh (hS8.blk (i := 1) rfl) rfl) ?_)
 refine st (zJ (n := d.types.length) Tryd.underlying22 rfl hdd0.sl ?_)
 have hr9 : InR (((d.types.length : Nat) : Int) - 1) := by omega
 refine st (Xn (r := ((d.types.length : Nat) : Int) - 1) (k := .i64) (a := ((d.types.length : Nat) : Int)) (b := 1) rfl rfl (zQ hr9) ?_)
 refine st (zv (f := 51) (vals := [.int .i64 (ty), .int .i64 (0), .int .i64 (((d.types.length : Nat) : Int) - 1)]) (cap := []) rfl rfl Tryd.call51 (Zv (x := ty) (lo := 0) (hi := ((d.types.length : Nat) : Int) - 1) hty (by decide) hr9 hS8) ?_)
 rintro _ w10 ⟨rfl, hS11⟩
 refine st (yJ (a := (decide (0 ≤ ty) && decide (ty ≤ (((d.types.length : Nat) : Int) - 1)))) rfl ?_)
 refine st (zb (v := .bool (!(decide (0 ≤ ty) && decide (ty ≤ (((d.types.length : Nat) : Int) - 1))))) rfl ?_)
 refine stc (V := .int .i64 (f)) rfl rfl (fun hb12 => ?_) ?_
 ·have hl13 := hb12
  try simp only [zn] at hl13
  exact zb (v := .int .i64 (f)) rfl ⟨rfl, rfl⟩
 refine stc (V := .pointer (some ⟨b2, 0, none⟩)) rfl rfl (fun hb14 => ?_) ?_
 ·have hl15 := hb14
  try simp only [zn] at hl15
  exact yt rfl ⟨rfl, rfl⟩
 refine stc (V := dd0) rfl rfl (fun hb16 => ?_) ?_
 ·have hl17 := hb16
  try simp only [zn] at hl17
  exact zg (v := dd0) Tryd.isAgg22 (show _ = (.pointer (some ⟨b2, 0, none⟩) : Value) from (if_pos hb16)) (zh (hS11.blk (i := 1) rfl) rfl) ⟨rfl, rfl⟩
 refine stc (V := .int .i64 (ty)) rfl rfl (fun hb18 => ?_) ?_
 ·have hl19 := hb18
  try simp only [zn] at hl19
  exact zb (v := .int .i64 (ty)) rfl ⟨rfl, rfl⟩
 refine stc (V := .pointer (some ⟨sb dd0, so dd0 + ty.toNat * 1, none⟩)) rfl rfl (fun hb20 => ?_) ?_
 ·have hl21 := hb20
  try simp only [zn] at hl21
  have hi22 : ty.toNat < d.types.length := (by first | omega | (simp only [lens]; omega))
  exact zG (k := 1) (i := ty) Tryd.underlying22 Tryd.sizeOf33 (show _ = (dd0 : Value) from (if_pos hb20)) hdd0.sl (show _ = (.int .i64 (ty) : Value) from (if_pos hb20)) ⟨by omega, by omega⟩ ⟨rfl, rfl⟩
 refine stc (V := .pointer (some ⟨sb dd0, so dd0 + ty.toNat * 1, none⟩)) rfl rfl (fun hb23 => ?_) ?_
 ·have hl24 := hb23
  try simp only [zn] at hl24
  exact yC (show _ = (.pointer (some ⟨sb dd0, so dd0 + ty.toNat * 1, none⟩) : Value) from (if_pos hb23)) ⟨rfl, rfl⟩
 refine stc (V := (zi W (sb dd0) (so dd0 + ty.toNat * 1 + 0))) rfl rfl (fun hb25 => ?_) ?_
 ·have hl26 := hb25
  try simp only [zn] at hl26
  have hi28 : ty.toNat < d.types.length := (by first | omega | (simp only [lens]; omega))
  obtain ⟨hce27, hde27_0, hoke27⟩ := hdd0.typ hi28
  rw [← zk default hi28] at hce27 hde27_0 hoke27
  have hsm29 : ((d.types.getD ty.toNat default).fields).length * 48 ≤ 140737488355328 := hde27_0.small
  have hcw30 := hS11.cells hce27 (hdd0.foot (ne_of_lt hi28))
  exact zg (v := (zi W (sb dd0) (so dd0 + ty.toNat * 1 + 0))) Tryd.isAgg31 (show _ = (.pointer (some ⟨sb dd0, so dd0 + ty.toNat * 1, none⟩) : Value) from (if_pos hb25)) (hcw30.get (j := 0) rfl) ⟨rfl, rfl⟩
 refine stc (V := .int .i64 ((((d.types.getD ty.toNat default).fields).length : Nat) : Int)) rfl rfl (fun hb31 => ?_) ?_
 ·have hl32 := hb31
  try simp only [zn] at hl32
  have hi34 : ty.toNat < d.types.length := (by first | omega | (simp only [lens]; omega))
  obtain ⟨hce33, hde33_0, hoke33⟩ := hdd0.typ hi34
  rw [← zk default hi34] at hce33 hde33_0 hoke33
  have hsm35 : ((d.types.getD ty.toNat default).fields).length * 48 ≤ 140737488355328 := hde33_0.small
  have hcw36 := hS11.cells hce33 (hdd0.foot (ne_of_lt hi34))
  exact zJ (n := ((d.types.getD ty.toNat default).fields).length) Tryd.underlying31 (show _ = ((zi W (sb dd0) (so dd0 + ty.toNat * 1 + 0)) : Value) from (if_pos hb31)) hde33_0.sl ⟨rfl, rfl⟩
 refine stc (V := .int .i64 (((((d.types.getD ty.toNat default).fields).length : Nat) : Int) - 1)) rfl rfl (fun hb37 => ?_) ?_
 ·have hl38 := hb37
  try simp only [zn] at hl38
  have hi40 : ty.toNat < d.types.length := (by first | omega | (simp only [lens]; omega))
  obtain ⟨hce39, hde39_0, hoke39⟩ := hdd0.typ hi40
  rw [← zk default hi40] at hce39 hde39_0 hoke39
  have hsm41 : ((d.types.getD ty.toNat default).fields).length * 48 ≤ 140737488355328 := hde39_0.small
  have hcw42 := hS11.cells hce39 (hdd0.foot (ne_of_lt hi40))
  have hr43 : InR (((((d.types.getD ty.toNat default).fields).length : Nat) : Int) - 1) := by omega
  exact Xn (r := ((((d.types.getD ty.toNat default).fields).length : Nat) : Int) - 1) (k := .i64) (a := ((((d.types.getD ty.toNat default).fields).length : Nat) : Int)) (b := 1) (show _ = (.int .i64 ((((d.types.getD ty.toNat default).fields).length : Nat) : Int) : Value) from (if_pos hb37)) rfl (zQ hr43) ⟨rfl, rfl⟩
 cases hg44 : !(decide (0 ≤ ty) && decide (ty ≤ (((d.types.length : Nat) : Int) - 1)))
 ·skip
  have hg44r := hg44
  try simp only [zn] at hg44
  have hi46 : ty.toNat < d.types.length := (by first | omega | (simp only [lens]; omega))
  obtain ⟨hce45, hde45_0, hoke45⟩ := hdd0.typ hi46
  rw [← zk default hi46] at hce45 hde45_0 hoke45
  have hsm47 : ((d.types.getD ty.toNat default).fields).length * 48 ≤ 140737488355328 := hde45_0.small
  have hcw48 := hS11.cells hce45 (hdd0.foot (ne_of_lt hi46))
  refine sty rfl rfl (zv (f := 51) (vals := [.int .i64 (f), .int .i64 (0), .int .i64 (((((d.types.getD ty.toNat default).fields).length : Nat) : Int) - 1)]) (cap := []) rfl rfl Tryd.call51 (Zv (x := f) (lo := 0) (hi := ((((d.types.getD ty.toNat default).fields).length : Nat) : Int) - 1) hf (by decide) (by omega) hS11) ?_)
  rintro _ w49 ⟨rfl, hS50⟩
  refine sty rfl rfl (yJ (a := (decide (0 ≤ f) && decide (f ≤ (((((d.types.getD ty.toNat default).fields).length : Nat) : Int) - 1)))) rfl ?_)
  refine st (zV (v := .bool (!(decide (0 ≤ f) && decide (f ≤ (((((d.types.getD ty.toNat default).fields).length : Nat) : Int) - 1))))) rfl rfl ?_)
  refine zf ?_
  cases hc51 : !(decide (0 ≤ f) && decide (f ≤ (((((d.types.getD ty.toNat default).fields).length : Nat) : Int) - 1)))
  ·skip
   try simp only [zn] at hc51
   refine zo rfl ?_
   refine zw ?_
   refine zd ?_
   refine za (by kernel_rfl) (fun _ => ?_)
   refine st (yt rfl ?_)
   refine st (zg (v := dd0) Tryd.isAgg22 rfl (zh (hS50.blk (i := 1) rfl) rfl) ?_)
   refine st (zb (v := .int .i64 (ty)) rfl ?_)
   have hi52 : ty.toNat < d.types.length := (by first | omega | (simp only [lens]; omega))
   refine st (zG (k := 1) (i := ty) Tryd.underlying22 Tryd.sizeOf33 rfl hdd0.sl rfl ⟨by omega, by omega⟩ ?_)
   refine st (yC rfl ?_)
   have hcw54 := hS50.cells hce45 (hdd0.foot (ne_of_lt hi46))
   refine st (zg (v := (zi W (sb dd0) (so dd0 + ty.toNat * 1 + 0))) Tryd.isAgg31 rfl (hcw54.get (j := 0) rfl) ?_)
   refine st (zb (v := .int .i64 (f)) rfl ?_)
   have hi55 : f.toNat < ((d.types.getD ty.toNat default).fields).length := (by first | omega | (simp only [lens]; omega))
   refine st (zG (k := 4) (i := f) Tryd.underlying31 Tryd.sizeOf79 rfl hde45_0.sl rfl ⟨by omega, by omega⟩ ?_)
   have hi57 : f.toNat < ((d.types.getD ty.toNat default).fields).length := (by first | omega | (simp only [lens]; omega))
   obtain ⟨hce56, hde56_0, hoke56⟩ := hde45_0.fld hi57
   rw [← zk default hi57] at hce56 hde56_0 hoke56
   have hsm58 : ((((d.types.getD ty.toNat default).fields).getD f.toNat default).moves).length * 32 ≤ 140737488355328 := hde56_0.small
   have hcw59 := hS50.cells hce56 (hde45_0.foot (ne_of_lt hi57))
   refine st (zl (k := 4) Tryd.isAgg79 Tryd.sizeOf79 rfl rfl hcw59 ?_)
   refine st (zE Tryd.zeroValue79 ?_)
   intro w62 b61 hn60
   have hS63 := hS50.new hn60
   refine stn (zy (v := .agg ((((d.types.getD ty.toNat default).fields).getD f.toNat default).cells (zi W (sb (zi W (sb dd0) (so dd0 + ty.toNat * 1 + 0))) (so (zi W (sb dd0) (so dd0 + ty.toNat * 1 + 0)) + f.toNat * 4 + 3))).toArray) (c' := ((((d.types.getD ty.toNat default).fields).getD f.toNat default).cells (zi W (sb (zi W (sb dd0) (so dd0 + ty.toNat * 1 + 0))) (so (zi W (sb dd0) (so dd0 + ty.toNat * 1 + 0)) + f.toNat * 4 + 3))).toArray) Tryd.sizeOf79 rfl rfl (hS63.blk (i := 0) rfl) (yj ⟨rfl, rfl, rfl, hde56_0.sl.one, trivial⟩) (Nat.le_of_ble_eq_true rfl) rfl ?_)
   intro w64 hp65
   have hS66 := hS63.pt0 hp65
   refine zf ?_
   refine zd ?_
   refine za (by kernel_rfl) (fun _ => ?_)
   refine st (yE rfl ?_)
   refine st (zg (v := (zi W (sb (zi W (sb dd0) (so dd0 + ty.toNat * 1 + 0))) (so (zi W (sb dd0) (so dd0 + ty.toNat * 1 + 0)) + f.toNat * 4 + 3))) Tryd.isAgg77 rfl (zh (hS66.blk (i := 0) rfl) rfl) ?_)
   refine st (zv (f := 67) (vals := [(zi W (sb (zi W (sb dd0) (so dd0 + ty.toNat * 1 + 0))) (so (zi W (sb dd0) (so dd0 + ty.toNat * 1 + 0)) + f.toNat * 4 + 3))]) (cap := []) rfl rfl Tryd.call67 (YS (l := (((d.types.getD ty.toNat default).fields).getD f.toNat default).moves) (vl := (zi W (sb (zi W (sb dd0) (so dd0 + ty.toNat * 1 + 0))) (so (zi W (sb dd0) (so dd0 + ty.toNat * 1 + 0)) + f.toNat * 4 + 3))) hde56_0 hS66) ?_)
   rintro v67 w68 ⟨_, rfl, hS69⟩
   have hr70 := hS69.row (i := 0) rfl
   have hr70s : _ * 32 ≤ _ := hr70.2
   refine st (yE rfl ?_)
   refine stn (yK (v := v67) (c := [.int .i64 ((((d.types.getD ty.toNat default).fields).getD f.toNat default).kind), .int .i64 ((((d.types.getD ty.toNat default).fields).getD f.toNat default).policy), .bool ((((d.types.getD ty.toNat default).fields).getD f.toNat default).floor), (zi W (sb (zi W (sb dd0) (so dd0 + ty.toNat * 1 + 0))) (so (zi W (sb dd0) (so dd0 + ty.toNat * 1 + 0)) + f.toNat * 4 + 3))]) (c' := [.int .i64 ((((d.types.getD ty.toNat default).fields).getD f.toNat default).kind), .int .i64 ((((d.types.getD ty.toNat default).fields).getD f.toNat default).policy), .bool ((((d.types.getD ty.toNat default).fields).getD f.toNat default).floor), v67]) Tryd.sizeOf77 rfl rfl (hS69.blk (i := 1) rfl) hr70.1.one rfl rfl ?_)
   intro w71 hp72
   have ok73 : Fld.Ok (((d.types.getD ty.toNat default).fields).getD f.toNat default) := ⟨(show InR ((((d.types.getD ty.toNat default).fields).getD f.toNat default).kind) from hoke56.kind), (show InR ((((d.types.getD ty.toNat default).fields).getD f.toNat default).policy) from hoke56.policy)⟩
   have hS74 := hS69.pt1 hp72
   refine zf ?_
   refine zd ?_
   refine za (by kernel_rfl) (fun _ => ?_)
   refine st (zl (k := 4) Tryd.isAgg79 Tryd.sizeOf79 rfl rfl (CellsAt.all (hS74.blk (i := 1) rfl)) ?_)
   refine stn (zy (v := .agg ((((d.types.getD ty.toNat default).fields).getD f.toNat default).cells v67).toArray) (c' := ((((d.types.getD ty.toNat default).fields).getD f.toNat default).cells v67).toArray) Tryd.sizeOf79 rfl rfl (hS74.blk (i := 2) rfl) (yj ⟨rfl, rfl, rfl, hr70.1.one, trivial⟩) (Nat.le_of_ble_eq_true rfl) rfl ?_)
   intro w75 hp76
   have hS77 := hS74.pt2 hp76
   refine st (ze (v := .bool true) rfl ?_)
   refine zf ?_
   refine zu ?_
   refine YU (b := b6) Tryd.results40 Tryd.isAgg79 Tryd.sizeOf79 rfl rfl (CellsAt.all (hS77.blk (i := 2) rfl)) (show _ = (.bool true : Value) from rfl) ?_
   have hS78 : Sep G W ((RowE (α := Mv) own 115 v67 ((((d.types.getD ty.toNat default).fields).getD f.toNat default).moves)) :: Rs) w75 := hS77.sel 4 [0] (Nat.le_add_left _ _) rfl rfl
   have hB : yy d ty f = true := by unfold yy; simp only [Bool.and_eq_true, decide_eq_true_eq]; omega
   have hz : zO d ty f = (((d.types.getD ty.toNat default).fields).getD f.toNat default) := by unfold zO; rw [hB]; rfl
   rw [hz, hB]
   refine ⟨v67, rfl, ?_, hS78⟩
   exact ok73
  ·skip
   try simp only [zn] at hc51
   refine zq rfl ?_
   refine zd ?_
   refine za (by kernel_rfl) (fun _ => ?_)
   have ok79 : Fld.Ok (⟨0, 0, false, []⟩ : Fld) := ⟨(show InR (0) from (by decide)), (show InR (0) from (by decide))⟩
   refine st (zS (parts' := []) (v := .agg ((⟨0, 0, false, []⟩ : Fld).cells (.slice none 0 0)).toArray) rfl (by simp [Instr.build, Instr.fill, Ev.cells, go_sem, Mv.cells, Fld.cells, Typ.cells, Prj.cells, Dcl.cells, Cel.cells, AskR.cells, Ask.cells]) ?_)
   refine stn (zy (v := .agg ((⟨0, 0, false, []⟩ : Fld).cells (.slice none 0 0)).toArray) (c' := ((⟨0, 0, false, []⟩ : Fld).cells (.slice none 0 0)).toArray) Tryd.sizeOf79 rfl rfl (hS50.blk (i := 0) rfl) (yj ⟨rfl, rfl, rfl, rfl, trivial⟩) (Nat.le_of_ble_eq_true rfl) rfl ?_)
   intro w80 hp81
   have hS82 := hS50.pt0 hp81
   refine st (ze (v := .bool false) rfl ?_)
   refine zf ?_
   refine zu ?_
   refine YU (b := b6) Tryd.results40 Tryd.isAgg79 Tryd.sizeOf79 rfl rfl (CellsAt.all (hS82.blk (i := 0) rfl)) (show _ = (.bool false : Value) from rfl) ?_
   have hS83 : Sep G W ((RowE (α := Mv) own 115 (.slice none 0 0) ([] : List Mv)) :: (Blk b6 ((⟨0, 0, false, []⟩ : Fld).cells (.slice none 0 0)).toArray 79) :: (Blk b2 (d.cells dd0 dd1).toArray 25) :: Rs) w80 := hS82.rowNil own 115
   have hS84 : Sep G W ((RowE (α := Mv) own 115 (.slice none 0 0) ([] : List Mv)) :: Rs) w80 := hS83.sel 3 [0] (Nat.le_add_left _ _) rfl rfl
   have hB : yy d ty f = false := by unfold yy; rw [Bool.eq_false_iff]; intro h9; simp only [Bool.and_eq_true, decide_eq_true_eq] at h9; omega
   have hz : zO d ty f = (⟨0, 0, false, []⟩ : Fld) := by unfold zO; rw [hB]; rfl
   rw [hz, hB]
   refine ⟨(.slice none 0 0), rfl, ?_, hS84⟩
   exact ok79
 ·skip
  have hg44r := hg44
  try simp only [zn] at hg44
  refine stx rfl rfl ?_
  refine stx rfl rfl ?_
  refine st (zU (v := .bool true) rfl rfl ?_)
  refine zf ?_
  refine zq rfl ?_
  refine zd ?_
  refine za (by kernel_rfl) (fun _ => ?_)
  have ok85 : Fld.Ok (⟨0, 0, false, []⟩ : Fld) := ⟨(show InR (0) from (by decide)), (show InR (0) from (by decide))⟩
  refine st (zS (parts' := []) (v := .agg ((⟨0, 0, false, []⟩ : Fld).cells (.slice none 0 0)).toArray) rfl (by simp [Instr.build, Instr.fill, Ev.cells, go_sem, Mv.cells, Fld.cells, Typ.cells, Prj.cells, Dcl.cells, Cel.cells, AskR.cells, Ask.cells]) ?_)
  refine stn (zy (v := .agg ((⟨0, 0, false, []⟩ : Fld).cells (.slice none 0 0)).toArray) (c' := ((⟨0, 0, false, []⟩ : Fld).cells (.slice none 0 0)).toArray) Tryd.sizeOf79 rfl rfl (hS11.blk (i := 0) rfl) (yj ⟨rfl, rfl, rfl, rfl, trivial⟩) (Nat.le_of_ble_eq_true rfl) rfl ?_)
  intro w86 hp87
  have hS88 := hS11.pt0 hp87
  refine st (ze (v := .bool false) rfl ?_)
  refine zf ?_
  refine zu ?_
  refine YU (b := b6) Tryd.results40 Tryd.isAgg79 Tryd.sizeOf79 rfl rfl (CellsAt.all (hS88.blk (i := 0) rfl)) (show _ = (.bool false : Value) from rfl) ?_
  have hS89 : Sep G W ((RowE (α := Mv) own 115 (.slice none 0 0) ([] : List Mv)) :: (Blk b6 ((⟨0, 0, false, []⟩ : Fld).cells (.slice none 0 0)).toArray 79) :: (Blk b2 (d.cells dd0 dd1).toArray 25) :: Rs) w86 := hS88.rowNil own 115
  have hS90 : Sep G W ((RowE (α := Mv) own 115 (.slice none 0 0) ([] : List Mv)) :: Rs) w86 := hS89.sel 3 [0] (Nat.le_add_left _ _) rfl rfl
  have hB : yy d ty f = false := by unfold yy; rw [Bool.eq_false_iff]; intro h9; simp only [Bool.and_eq_true, decide_eq_true_eq] at h9; omega
  have hz : zO d ty f = (⟨0, 0, false, []⟩ : Fld) := by unfold zO; rw [hB]; rfl
  rw [hz, hB]
  refine ⟨(.slice none 0 0), rfl, ?_, hS90⟩
  exact ok85

theorem QL {G : Nat → Prop} {W w : World} {Rs : List HP} {d : Dcl} {dd0 : Value} (hdd0 : RdS W G dd0 d.types) {dd1 : Value} (hdd1 : RdS W G dd1 d.projs) (od : d.Ok) {ty : Int} (hty : InR ty) {f : Int} (hf : InR f) {op : Int} (hop : InR op) {arg : Int} (harg : InR arg) (hKN : RdS W G (.slice (some ⟨0, 0, none⟩) 6 6) kindsL) (hS0 : Sep G W Rs w) : Ret Tryd.prog 15 [.agg (d.cells dd0 dd1).toArray, .int .i64 (ty), .int .i64 (f), .int .i64 (op), .int .i64 (arg)] w (fun r w' => r = (.int .i64 (yO d ty f op arg) : Value) ∧ Sep G W Rs w') := by
 have hdd0s : _ * 24 ≤ _ := hdd0.small
 have hdd1s : _ * 40 ≤ _ := hdd1.small
 have hKNs : _ * 8 ≤ _ := hKN.small
 refine zr (args := [.agg (d.cells dd0 dd1).toArray, .int .i64 (ty), .int .i64 (f), .int .i64 (op), .int .i64 (arg)]) Tryd.func15 rfl rfl ?_
 refine zd ?_
 refine za (by kernel_rfl) (fun _ => ?_)
 refine st (yb (v := .agg (d.cells dd0 dd1).toArray) rfl ?_)
 intro w3 b2 hn1
 have hS4 := hS0.new hn1
 refine st (ze (v := .int .i64 (0)) rfl ?_)
 refine zf ?_
 refine zd ?_
 refine za (by kernel_rfl) (fun _ => ?_)
 refine st (zl (k := 2) Tryd.isAgg25 Tryd.sizeOf25 rfl rfl (CellsAt.all (hS4.blk (i := 0) rfl)) ?_)
 refine st (zb (v := .int .i64 (ty)) rfl ?_)
 refine st (zb (v := .int .i64 (f)) rfl ?_)
 refine st (zv (f := 40) (vals := [.agg (d.cells dd0 dd1).toArray, .int .i64 (ty), .int .i64 (f)]) (cap := []) rfl rfl Tryd.call40 (UL (d := d) (ty := ty) (f := f) hdd0 hdd1 od hty hf hS4) ?_)
 rintro _ w7 ⟨v5, rfl, hfok6, hS8⟩
 have hr9 := hS8.row (i := 0) rfl
 have hr9s : _ * 32 ≤ _ := hr9.2
 refine st (zb (v := .tuple #[.agg ((zO d ty f).cells v5).toArray, .bool ((yy d ty f))]) rfl ?_)
 refine st (zH (vs := [.agg ((zO d ty f).cells v5).toArray, .bool ((yy d ty f))]) (i := 0) (v := .agg ((zO d ty f).cells v5).toArray) rfl rfl ?_)
 refine st (zH (vs := [.agg ((zO d ty f).cells v5).toArray, .bool ((yy d ty f))]) (i := 1) (v := .bool ((yy d ty f))) rfl rfl ?_)
 refine st (zE Tryd.zeroValue79 ?_)
 intro w12 b11 hn10
 have hS13 := hS8.new hn10
 refine stn (zy (v := .agg ((zO d ty f).cells v5).toArray) (c' := ((zO d ty f).cells v5).toArray) Tryd.sizeOf79 rfl rfl (hS13.blk (i := 0) rfl) (yj ⟨rfl, rfl, rfl, hr9.1.one, trivial⟩) (Nat.le_of_ble_eq_true rfl) rfl ?_)
 intro w14 hp15
 have hS16 := hS13.pt0 hp15
 refine st (ze (v := .bool ((yy d ty f))) rfl ?_)
 refine zf ?_
 refine zd ?_
 refine zx ?_
 refine zd ?_
 refine za (by kernel_rfl) (fun _ => ?_)
 refine st (zb (v := .bool ((yy d ty f))) rfl ?_)
 refine st (yJ (a := (yy d ty f)) rfl ?_)
 refine st (ze (v := .bool (!(yy d ty f))) rfl ?_)
 refine zf ?_
 cases hc17 : !(yy d ty f)
 ·skip
  have hc17r := hc17
  try simp only [zn] at hc17
  refine zo rfl ?_
  refine zd ?_
  refine zP ((fun TT pp0 => WF [fun vals wq => Sep G W (pp0 :: TT) wq, fun vals wq => (vals 1 = (.bool ((decide (1 ≤ op) && decide (op ≤ 5))) : Value)) ∧ Sep G W (pp0 :: TT) wq]) ((RowE (α := Mv) own 115 v5 ((zO d ty f).moves)) :: (Blk b2 (d.cells dd0 dd1).toArray 25) :: Rs) (Blk b11 ((zO d ty f).cells v5).toArray 79)) (AF [Vl 0 (.int .i64 (op)), fun _ => True, Vl 2 (.bool (!(decide (1 ≤ op) && decide (op ≤ 5)))), Vl 3 (.bool (!(decide (1 ≤ op) && decide (op ≤ 5)))), Vl 4 (if (!(decide (1 ≤ op) && decide (op ≤ 5))) = false then .int .i64 (op) else undef), Vl 5 (if (!(decide (1 ≤ op) && decide (op ≤ 5))) = false then .pointer (some ⟨sb (.slice (some ⟨0, 0, none⟩) 6 6), so (.slice (some ⟨0, 0, none⟩) 6 6) + op.toNat * 1, none⟩) else undef), Vl 6 (if (!(decide (1 ≤ op) && decide (op ≤ 5))) = false then .int .i64 ((kindsL.getD op.toNat 0)) else undef), Vl 7 (if (!(decide (1 ≤ op) && decide (op ≤ 5))) = false then .pointer (some ⟨b11, 0, none⟩) else undef), Vl 8 (if (!(decide (1 ≤ op) && decide (op ≤ 5))) = false then .int .i64 ((zO d ty f).kind) else undef), Vl 9 (if (!(decide (1 ≤ op) && decide (op ≤ 5))) = false then .bool (!decide ((kindsL.getD op.toNat 0) = ((zO d ty f).kind))) else undef), Vl 10 (.bool ((!(decide (1 ≤ op) && decide (op ≤ 5))) || (!decide ((kindsL.getD op.toNat 0) = ((zO d ty f).kind))))), Vl 11 (.bool ((!(decide (1 ≤ op) && decide (op ≤ 5))) || (!decide ((kindsL.getD op.toNat 0) = ((zO d ty f).kind)))))]) [[], [0], [0, 1], [0, 1, 2], [0, 1, 2, 3], [0, 1, 2, 3, 4], [0, 1, 2, 3, 4, 5], [0, 1, 2, 3], [0, 1, 2, 3, 7], [0, 1, 2, 3, 4, 5, 6, 7, 8], [0, 1, 2, 3, 4, 5, 6, 7, 8, 9], [0, 1, 2, 3, 4, 5, 6, 7, 8, 9, 10]] [1] [(0, 0), (0, 0), (1, 1), (1, 1), (1, 1), (1, 1), (1, 1), (1, 1), (1, 1), (1, 1), (1, 1), (1, 1)] (by kernel_rfl) (by kernel_rfl) (by kernel_rfl) rfl (by kernel_rfl) (by kernel_rfl) (fun _ h1 h2 h3 h4 _ => hS16.same h1 h2 h3 h4) ?_ (yg ⟨dA, dT, dA, dA, dA, dA, dA, dA, dA, dA, dA, dA, trivial⟩) ⟨?_, ?_, ?_, ?_, ?_, ?_, ?_, ?_, ?_, ?_, ?_, ?_, trivial⟩ ?_
  ·intro k vals vals' w hv h
   have e : ∀ j ∈ ([1] : List Nat), vals' j = vals j := hv
   match k, h with
   | 0, h => exact h
   | 1, h => exact (by simpa only [WF, List.getElem?_cons_zero, List.getElem?_cons_succ, e 1 (by decide)] using h)
   | _ + 2, _ => trivial
  ·intro k130 vals w131 h134 h135 hW133 hA132
   refine obl rfl ?_
   exact zb (v := .int .i64 (op)) rfl (fun vals' hv _ => ⟨rfl, hv⟩)
  ·intro k24 vals w25 h28 h29 hW27 hA26
   obtain rfl : k24 = 0 := Nat.le_antisymm h29 h28
   have hS30 : Sep _ _ _ _ := hW27
   have e31 := hA26 0 (by decide)
   refine obl rfl ?_
   refine (zv (f := 51) (vals := [.int .i64 (op), .int .i64 (1), .int .i64 (5)]) (cap := []) rfl (xj ⟨e31, rfl, rfl, trivial⟩) Tryd.call51 (Zv (x := op) (lo := 1) (hi := 5) (by omega) (by decide) (by decide) hS30) ?_)
   rintro _ w32 ⟨rfl, hS33⟩
   intro vals' hv hv'
   refine ⟨?_, trivial⟩
   show (vals' 1 = (.bool ((decide (1 ≤ op) && decide (op ≤ 5))) : Value)) ∧ Sep G W ((Blk b11 ((zO d ty f).cells v5).toArray 79) :: (RowE (α := Mv) own 115 v5 ((zO d ty f).moves)) :: (Blk b2 (d.cells dd0 dd1).toArray 25) :: Rs) w32
   exact ⟨hv, hS33⟩
  ·intro k136 vals w137 h140 h141 hW139 hA138
   obtain rfl : k136 = 1 := Nat.le_antisymm h141 h140
   obtain ⟨he34, hS142⟩ := hW139
   refine obl rfl ?_
   exact yJ (a := (decide (1 ≤ op) && decide (op ≤ 5))) he34 (fun vals' hv _ => ⟨rfl, hv⟩)
  ·intro k143 vals w144 h147 h148 hW146 hA145
   have e149 := hA145 2 (by decide)
   refine obl rfl ?_
   exact zb (v := .bool (!(decide (1 ≤ op) && decide (op ≤ 5)))) e149 (fun vals' hv _ => ⟨rfl, hv⟩)
  ·intro k150 vals w151 h154 h155 hW153 hA152
   have e156 := hA152 3 (by decide)
   refine zC rfl rfl e156 (fun hb157 => ?_) (fun hb157 => fun vals' hv _ => ⟨trivial, hv.trans (if_neg hb157).symm⟩)
   have hl158 := hb157
   try simp only [zn] at hl158
   exact zb (v := .int .i64 (op)) rfl (fun vals' hv _ => ⟨rfl, hv.trans (if_pos hb157).symm⟩)
  ·intro k159 vals w160 h163 h164 hW162 hA161
   obtain rfl : k159 = 1 := Nat.le_antisymm h164 h163
   obtain ⟨he34, hS165⟩ := hW162
   have e166 := hA161 3 (by decide)
   have e167 : vals 4 = (if (!(decide (1 ≤ op) && decide (op ≤ 5))) = false then (.int .i64 (op) : Value) else undef) := hA161 4 (by decide)
   refine zC rfl rfl e166 (fun hb168 => ?_) (fun hb168 => fun vals' hv _ => ⟨trivial, hv.trans (if_neg hb168).symm⟩)
   have hl169 := hb168
   try simp only [zn] at hl169
   exact YB (b := sb (.slice (some ⟨0, 0, none⟩) 6 6)) (o := so (.slice (some ⟨0, 0, none⟩) 6 6)) (k := 1) (n := 6) (i := op) (off := op.toNat * 1) Tryd.underlying92 Tryd.sizeOf3 rfl (show _ = (.int .i64 (op) : Value) from (Eq.trans e167 (if_pos hb168))) (by omega) rfl (fun vals' hv _ => ⟨rfl, hv.trans (if_pos hb168).symm⟩)
  ·intro k170 vals w171 h174 h175 hW173 hA172
   obtain rfl : k170 = 1 := Nat.le_antisymm h175 h174
   obtain ⟨he34, hS176⟩ := hW173
   have e177 := hA172 3 (by decide)
   have e178 : vals 5 = (if (!(decide (1 ≤ op) && decide (op ≤ 5))) = false then (.pointer (some ⟨sb (.slice (some ⟨0, 0, none⟩) 6 6), so (.slice (some ⟨0, 0, none⟩) 6 6) + op.toNat * 1, none⟩) : Value) else undef) := hA172 5 (by decide)
   refine zC rfl rfl e177 (fun hb179 => ?_) (fun hb179 => fun vals' hv _ => ⟨trivial, hv.trans (if_neg hb179).symm⟩)
   have hl180 := hb179
   try simp only [zn] at hl180
   have hi182 : op.toNat < kindsL.length := (by first | omega | (rw [Ww]; omega))
   obtain ⟨hce181, hxe181⟩ := hKN.int hi182
   rw [← zk 0 hi182] at hce181 hxe181
   have hcw183 := hS176.cells hce181 (hKN.foot (ne_of_lt hi182))
   exact zg (v := .int .i64 ((kindsL.getD op.toNat 0))) Tryd.isAgg3 (show _ = (.pointer (some ⟨sb (.slice (some ⟨0, 0, none⟩) 6 6), so (.slice (some ⟨0, 0, none⟩) 6 6) + op.toNat * 1, none⟩) : Value) from (Eq.trans e178 (if_pos hb179))) (hcw183.get (j := 0) rfl) (fun vals' hv _ => ⟨rfl, hv.trans (if_pos hb179).symm⟩)
  ·intro k184 vals w185 h188 h189 hW187 hA186
   have e190 := hA186 3 (by decide)
   refine zC rfl rfl e190 (fun hb191 => ?_) (fun hb191 => fun vals' hv _ => ⟨trivial, hv.trans (if_neg hb191).symm⟩)
   have hl192 := hb191
   try simp only [zn] at hl192
   exact xA rfl (fun vals' hv _ => ⟨rfl, hv.trans (if_pos hb191).symm⟩)
  ·intro k193 vals w194 h197 h198 hW196 hA195
   obtain rfl : k193 = 1 := Nat.le_antisymm h198 h197
   obtain ⟨he34, hS199⟩ := hW196
   have e200 := hA195 3 (by decide)
   have e201 : vals 7 = (if (!(decide (1 ≤ op) && decide (op ≤ 5))) = false then (.pointer (some ⟨b11, 0, none⟩) : Value) else undef) := hA195 7 (by decide)
   refine zC rfl rfl e200 (fun hb202 => ?_) (fun hb202 => fun vals' hv _ => ⟨trivial, hv.trans (if_neg hb202).symm⟩)
   have hl203 := hb202
   try simp only [zn] at hl203
   exact zg (v := .int .i64 ((zO d ty f).kind)) Tryd.isAgg3 (show _ = (.pointer (some ⟨b11, 0, none⟩) : Value) from (Eq.trans e201 (if_pos hb202))) (zh (hS199.blk (i := 0) rfl) rfl) (fun vals' hv _ => ⟨rfl, hv.trans (if_pos hb202).symm⟩)
  ·intro k204 vals w205 h208 h209 hW207 hA206
   obtain rfl : k204 = 1 := Nat.le_antisymm h209 h208
   obtain ⟨he34, hS210⟩ := hW207
   have e211 := hA206 3 (by decide)
   have e212 : vals 6 = (if (!(decide (1 ≤ op) && decide (op ≤ 5))) = false then (.int .i64 ((kindsL.getD op.toNat 0)) : Value) else undef) := hA206 6 (by decide)
   have e213 : vals 8 = (if (!(decide (1 ≤ op) && decide (op ≤ 5))) = false then (.int .i64 ((zO d ty f).kind) : Value) else undef) := hA206 8 (by decide)
   refine zC rfl rfl e211 (fun hb214 => ?_) (fun hb214 => fun vals' hv _ => ⟨trivial, hv.trans (if_neg hb214).symm⟩)
   have hl215 := hb214
   try simp only [zn] at hl215
   exact yz (k := .i64) (a := (kindsL.getD op.toNat 0)) (b := (zO d ty f).kind) (show _ = (.int .i64 ((kindsL.getD op.toNat 0)) : Value) from (Eq.trans e212 (if_pos hb214))) (show _ = (.int .i64 ((zO d ty f).kind) : Value) from (Eq.trans e213 (if_pos hb214))) (fun vals' hv _ => ⟨rfl, hv.trans (if_pos hb214).symm⟩)
  ·intro k216 vals w217 h220 h221 hW219 hA218
   have e222 := hA218 3 (by decide)
   have e223 : vals 9 = (if (!(decide (1 ≤ op) && decide (op ≤ 5))) = false then (.bool (!decide ((kindsL.getD op.toNat 0) = ((zO d ty f).kind))) : Value) else undef) := hA218 9 (by decide)
   refine obl rfl ?_
   exact zA (b := !(decide (1 ≤ op) && decide (op ≤ 5))) (b' := !decide ((kindsL.getD op.toNat 0) = ((zO d ty f).kind))) e222 (fun hbp => (show _ = (.bool (!decide ((kindsL.getD op.toNat 0) = ((zO d ty f).kind))) : Value) from (Eq.trans e223 (if_pos hbp)))) (fun vals' hv _ => ⟨rfl, hv⟩)
  ·intro k224 vals w225 h228 h229 hW227 hA226
   have e230 := hA226 10 (by decide)
   refine obl rfl ?_
   exact ze (v := .bool ((!(decide (1 ≤ op) && decide (op ≤ 5))) || (!decide ((kindsL.getD op.toNat 0) = ((zO d ty f).kind))))) e230 (fun vals' hv _ => ⟨rfl, hv⟩)
  intro vals w231 hW232 hA233
  obtain ⟨he34, hS234⟩ := hW232
  have e235 := hA233 11 (by decide)
  refine yh (kv := [(0, .agg (d.cells dd0 dd1).toArray), (1, .int .i64 (ty)), (2, .int .i64 (f)), (3, .int .i64 (op)), (4, .int .i64 (arg)), (5, .pointer (some ⟨b2, 0, none⟩)), (10, .int .i64 (0)), (14, .agg (d.cells dd0 dd1).toArray), (15, .int .i64 (ty)), (16, .int .i64 (f)), (17, .tuple #[.agg ((zO d ty f).cells v5).toArray, .bool ((yy d ty f))]), (13, .tuple #[.agg ((zO d ty f).cells v5).toArray, .bool ((yy d ty f))]), (18, .agg ((zO d ty f).cells v5).toArray), (19, .bool ((yy d ty f))), (11, .pointer (some ⟨b11, 0, none⟩)), (12, .bool ((yy d ty f))), (21, .bool ((yy d ty f))), (22, .bool false), (20, .bool false), (23, .bool ((!(decide (1 ≤ op) && decide (op ≤ 5))) || (!decide ((kindsL.getD op.toNat 0) = ((zO d ty f).kind)))))]) ⟨rfl, rfl, rfl, rfl, rfl, rfl, rfl, rfl, rfl, rfl, rfl, rfl, rfl, rfl, rfl, rfl, rfl, rfl, rfl, (by exact e235), trivial⟩ (fun ρw231 => ?_)
  refine zf ?_
  cases hc236 : (!(decide (1 ≤ op) && decide (op ≤ 5))) || (!decide ((kindsL.getD op.toNat 0) = ((zO d ty f).kind)))
  ·skip
   have hc236r := hc236
   try simp only [zn] at hc236
   refine zo rfl ?_
   refine zd ?_
   refine zd ?_
   refine zD (by kernel_rfl) ?_
   refine st (zb (v := .int .i64 (op)) rfl ?_)
   refine st (yu (k := .i64) (a := op) (b := 1) rfl rfl ?_)
   refine st (zb (v := .bool (decide (op = 1))) rfl ?_)
   refine stc (V := .int .i64 (arg)) rfl rfl (fun hb237 => ?_) ?_
   ·have hl238 := hb237
    have hl238 := of_decide_eq_true hl238
    exact zb (v := .int .i64 (arg)) rfl ⟨rfl, rfl⟩
   refine stc (V := .bool (decide (arg = 0))) rfl rfl (fun hb239 => ?_) ?_
   ·have hl240 := hb239
    have hl240 := of_decide_eq_true hl240
    exact yu (k := .i64) (a := arg) (b := 0) (show _ = (.int .i64 (arg) : Value) from (if_pos hb239)) rfl ⟨rfl, rfl⟩
   refine st (zK (b := decide (op = 1)) (b' := decide (arg = 0)) rfl (fun hbp => (show _ = (.bool (decide (arg = 0)) : Value) from (if_pos hbp))) ?_)
   refine st (ze (v := .bool ((decide (op = 1)) && (decide (arg = 0)))) rfl ?_)
   refine zf ?_
   cases hc241 : (decide (op = 1)) && (decide (arg = 0))
   ·skip
    have hc241r := hc241
    try simp only [zn] at hc241
    refine zo rfl ?_
    refine zD (by kernel_rfl) ?_
    refine st (zb (v := .int .i64 (op)) rfl ?_)
    refine st (yu (k := .i64) (a := op) (b := 5) rfl rfl ?_)
    refine st (zb (v := .bool (decide (op = 5))) rfl ?_)
    refine stc (V := .int .i64 (arg)) rfl rfl (fun hb242 => ?_) ?_
    ·have hl243 := hb242
     have hl243 := of_decide_eq_true hl243
     exact zb (v := .int .i64 (arg)) rfl ⟨rfl, rfl⟩
    refine stc (V := .pointer (some ⟨b11, 3, none⟩)) rfl rfl (fun hb244 => ?_) ?_
    ·have hl245 := hb244
     have hl245 := of_decide_eq_true hl245
     exact yE rfl ⟨rfl, rfl⟩
    refine stc (V := v5) rfl rfl (fun hb246 => ?_) ?_
    ·have hl247 := hb246
     have hl247 := of_decide_eq_true hl247
     exact zg (v := v5) Tryd.isAgg77 (show _ = (.pointer (some ⟨b11, 3, none⟩) : Value) from (if_pos hb246)) (zh (hS234.blk (i := 0) rfl) rfl) ⟨rfl, rfl⟩
    refine stc (V := .int .i64 ((((zO d ty f).moves).length : Nat) : Int)) rfl rfl (fun hb248 => ?_) ?_
    ·have hl249 := hb248
     have hl249 := of_decide_eq_true hl249
     exact zJ (n := ((zO d ty f).moves).length) Tryd.underlying77 (show _ = (v5 : Value) from (if_pos hb248)) hr9.1 ⟨rfl, rfl⟩
    refine stc (V := .int .i64 (((((zO d ty f).moves).length : Nat) : Int) - 1)) rfl rfl (fun hb250 => ?_) ?_
    ·have hl251 := hb250
     have hl251 := of_decide_eq_true hl251
     have hr252 : InR (((((zO d ty f).moves).length : Nat) : Int) - 1) := by omega
     exact Xn (r := ((((zO d ty f).moves).length : Nat) : Int) - 1) (k := .i64) (a := ((((zO d ty f).moves).length : Nat) : Int)) (b := 1) (show _ = (.int .i64 ((((zO d ty f).moves).length : Nat) : Int) : Value) from (if_pos hb250)) rfl (zQ hr252) ⟨rfl, rfl⟩
    cases hg253 : decide (op = 5)
    ·skip
     have hg253r := hg253
     have hg253 := of_decide_eq_false hg253
     refine stx rfl rfl ?_
     refine stx rfl rfl ?_
     refine st (zV (v := .bool false) rfl rfl ?_)
     refine st (ze (v := .bool false) rfl ?_)
     refine zf ?_
     refine zo rfl ?_
     refine zw ?_
     refine zd ?_
     refine za (by kernel_rfl) (fun _ => ?_)
     refine st (ze (v := .int .i64 (0)) rfl ?_)
     refine zf ?_
     refine zu ?_
     refine ya Tryd.results15 (show _ = (.int .i64 (0) : Value) from rfl) ?_
     have hS254 : Sep G W Rs w231 := hS234.sel 3 [] (Nat.le_add_left _ _) rfl rfl
     refine ⟨?_, hS254⟩
     unfold yO
     simp only [hc17r, hc236r, hc241r, hg253r, Bool.not_false, Bool.not_true, Bool.true_and, Bool.false_and, Bool.or_true, if_true, if_false, Bool.false_eq_true, ↓reduceIte]
    ·skip
     have hg253r := hg253
     have hg253 := of_decide_eq_true hg253
     refine sty rfl rfl (zv (f := 51) (vals := [.int .i64 (arg), .int .i64 (0), .int .i64 (((((zO d ty f).moves).length : Nat) : Int) - 1)]) (cap := []) rfl rfl Tryd.call51 (Zv (x := arg) (lo := 0) (hi := ((((zO d ty f).moves).length : Nat) : Int) - 1) harg (by decide) (by omega) hS234) ?_)
     rintro _ w255 ⟨rfl, hS256⟩
     refine sty rfl rfl (yJ (a := (decide (0 ≤ arg) && decide (arg ≤ (((((zO d ty f).moves).length : Nat) : Int) - 1)))) rfl ?_)
     refine st (zU (v := .bool (!(decide (0 ≤ arg) && decide (arg ≤ (((((zO d ty f).moves).length : Nat) : Int) - 1))))) rfl rfl ?_)
     refine st (ze (v := .bool (!(decide (0 ≤ arg) && decide (arg ≤ (((((zO d ty f).moves).length : Nat) : Int) - 1))))) rfl ?_)
     refine zf ?_
     cases hc257 : !(decide (0 ≤ arg) && decide (arg ≤ (((((zO d ty f).moves).length : Nat) : Int) - 1)))
     ·skip
      have hc257r := hc257
      try simp only [zn] at hc257
      refine zo rfl ?_
      refine zw ?_
      refine zd ?_
      refine za (by kernel_rfl) (fun _ => ?_)
      refine st (ze (v := .int .i64 (0)) rfl ?_)
      refine zf ?_
      refine zu ?_
      refine ya Tryd.results15 (show _ = (.int .i64 (0) : Value) from rfl) ?_
      have hS258 : Sep G W Rs w255 := hS256.sel 3 [] (Nat.le_add_left _ _) rfl rfl
      refine ⟨?_, hS258⟩
      unfold yO
      simp only [hc17r, hc236r, hc241r, hg253r, hc257r, Bool.not_false, Bool.not_true, Bool.true_and, Bool.false_and, Bool.or_true, if_true, if_false, Bool.false_eq_true, ↓reduceIte]
     ·skip
      have hc257r := hc257
      try simp only [zn] at hc257
      refine zq rfl ?_
      refine zd ?_
      refine za (by kernel_rfl) (fun _ => ?_)
      refine st (ze (v := .int .i64 (1)) rfl ?_)
      refine zf ?_
      refine zu ?_
      refine ya Tryd.results15 (show _ = (.int .i64 (1) : Value) from rfl) ?_
      have hS259 : Sep G W Rs w255 := hS256.sel 3 [] (Nat.le_add_left _ _) rfl rfl
      refine ⟨?_, hS259⟩
      unfold yO
      simp only [hc17r, hc236r, hc241r, hg253r, hc257r, Bool.not_false, Bool.not_true, Bool.true_and, Bool.false_and, Bool.or_true, if_true, if_false, Bool.false_eq_true, ↓reduceIte]
   ·skip
    have hc241r := hc241
    try simp only [zn] at hc241
    refine zq rfl ?_
    refine zw ?_
    refine zq rfl ?_
    refine zd ?_
    refine za (by kernel_rfl) (fun _ => ?_)
    refine st (ze (v := .int .i64 (1)) rfl ?_)
    refine zf ?_
    refine zu ?_
    refine ya Tryd.results15 (show _ = (.int .i64 (1) : Value) from rfl) ?_
    have hS260 : Sep G W Rs w231 := hS234.sel 3 [] (Nat.le_add_left _ _) rfl rfl
    refine ⟨?_, hS260⟩
    unfold yO
    simp only [hc17r, hc236r, hc241r, Bool.not_false, Bool.not_true, Bool.true_and, Bool.false_and, Bool.or_true, if_true, if_false, Bool.false_eq_true, ↓reduceIte]
  ·skip
   have hc236r := hc236
   try simp only [zn] at hc236
   refine zq rfl ?_
   refine zd ?_
   refine za (by kernel_rfl) (fun _ => ?_)
   refine st (ze (v := .int .i64 (2)) rfl ?_)
   refine zf ?_
   refine zu ?_
   refine ya Tryd.results15 (show _ = (.int .i64 (2) : Value) from rfl) ?_
   have hS261 : Sep G W Rs w231 := hS234.sel 3 [] (Nat.le_add_left _ _) rfl rfl
   refine ⟨?_, hS261⟩
   unfold yO
   simp only [hc17r, hc236r, Bool.not_false, Bool.not_true, Bool.true_and, Bool.false_and, Bool.or_true, if_true, if_false, Bool.false_eq_true, ↓reduceIte]
 ·skip
  have hc17r := hc17
  try simp only [zn] at hc17
  refine zq rfl ?_
  refine zd ?_
  refine za (by kernel_rfl) (fun _ => ?_)
  refine st (ze (v := .int .i64 (8)) rfl ?_)
  refine zf ?_
  refine zu ?_
  refine ya Tryd.results15 (show _ = (.int .i64 (8) : Value) from rfl) ?_
  have hS262 : Sep G W Rs w14 := hS16.sel 3 [] (Nat.le_add_left _ _) rfl rfl
  refine ⟨?_, hS262⟩
  unfold yO
  simp only [hc17r, Bool.not_false, Bool.not_true, Bool.true_and, Bool.false_and, Bool.or_true, if_true, if_false, Bool.false_eq_true, ↓reduceIte]

end Go.Proofs.YtlblilbmpdejgaaDoor
/- The arguments opened. -/
set_option maxRecDepth 100000
namespace Go.Proofs.YtlblilbmpdejgaaDoor
open Go.ChangeShapes Go.WideShapes Go.ChangeAt Go.RowKit

theorem opI : yN Tryd.prog 3 Int := Vs Tryd.underlying3
theorem opB : yN Tryd.prog 4 Bool := Ws Tryd.underlying4
theorem opId : yN Tryd.prog 57 (Int × Int) := WE Tryd.underlying57 (by kernel_rfl) rfl rfl rfl rfl (by kernel_rfl) (by kernel_rfl) opI opI
theorem Qc {α : Type} {l : List α} (h : l.length = 4) : ∃ a0 a1 a2 a3, l = [a0, a1, a2, a3] := by
  match l, h with
  | [a0, a1, a2, a3], _ => exact ⟨a0, a1, a2, a3, rfl⟩
theorem op_Mv : yN Tryd.prog 115 Mv := by
  intro H enc w fuel cs x h hx
  obtain ⟨_, _, _, _, hl, _⟩ := DataW.trod_struct Tryd.underlying115 h
  obtain ⟨c0, c1, c2, c3, rfl⟩ := Qc (hl.trans (by kernel_rfl))
  obtain ⟨m0, e0, r0⟩ := zM (α := Int) (i := 0) Tryd.underlying115 h hx rfl (by kernel_rfl) opI
  obtain rfl : c0 = .int .i64 m0 := List.cons.inj e0 |>.1
  obtain ⟨m1, e1, r1⟩ := zM (α := Int) (i := 1) Tryd.underlying115 h hx rfl (by kernel_rfl) opI
  obtain rfl : c1 = .int .i64 m1 := List.cons.inj e1 |>.1
  obtain ⟨m2, e2, r2⟩ := zM (α := Int) (i := 2) Tryd.underlying115 h hx rfl (by kernel_rfl) opI
  obtain rfl : c2 = .int .i64 m2 := List.cons.inj e2 |>.1
  obtain ⟨m3, e3, r3⟩ := zM (α := Int) (i := 3) Tryd.underlying115 h hx rfl (by kernel_rfl) opI
  obtain rfl : c3 = .int .i64 m3 := List.cons.inj e3 |>.1
  exact ⟨⟨m0, m1, m2, m3⟩, rfl, ⟨r0, r1, r2, r3⟩⟩
theorem Qh : yN Tryd.prog 77 (List Mv) := xf Tryd.underlying77 op_Mv (by kernel_rfl) (by kernel_rfl)
theorem Qt : yN Tryd.prog 79 Fld := by
  intro H enc w fuel cs x h hx
  obtain ⟨_, _, _, _, hl, _⟩ := DataW.trod_struct Tryd.underlying79 h
  obtain ⟨c0, c1, c2, c3, rfl⟩ := Qc (hl.trans (by kernel_rfl))
  obtain ⟨m0, e0, r0⟩ := zM (α := Int) (i := 0) Tryd.underlying79 h hx rfl (by kernel_rfl) opI
  obtain rfl : c0 = .int .i64 m0 := List.cons.inj e0 |>.1
  obtain ⟨m1, e1, r1⟩ := zM (α := Int) (i := 1) Tryd.underlying79 h hx rfl (by kernel_rfl) opI
  obtain rfl : c1 = .int .i64 m1 := List.cons.inj e1 |>.1
  obtain ⟨m2, e2⟩ := zM (α := Bool) (i := 2) Tryd.underlying79 h hx rfl (by kernel_rfl) opB
  obtain rfl : c2 = .bool m2 := List.cons.inj e2 |>.1
  obtain ⟨l3, v3, e3, r3⟩ := zM (α := List Mv) (i := 3) Tryd.underlying79 h hx rfl (by kernel_rfl) Qh
  obtain rfl : c3 = v3 := List.cons.inj e3 |>.1
  exact ⟨⟨m0, m1, m2, l3⟩, c3, rfl, r3, ⟨r0, r1⟩⟩
theorem UT : yN Tryd.prog 31 (List Fld) := xf Tryd.underlying31 Qt (by kernel_rfl) (by kernel_rfl)
theorem lst_1 {α : Type} {l : List α} (h : l.length = 1) : ∃ a0, l = [a0] := by
  match l, h with
  | [a0], _ => exact ⟨a0, rfl⟩
theorem Qy : yN Tryd.prog 33 Typ := by
  intro H enc w fuel cs x h hx
  obtain ⟨_, _, _, _, hl, _⟩ := DataW.trod_struct Tryd.underlying33 h
  obtain ⟨c0, rfl⟩ := lst_1 (hl.trans (by kernel_rfl))
  obtain ⟨l0, v0, e0, r0⟩ := zM (α := List Fld) (i := 0) Tryd.underlying33 h hx rfl (by kernel_rfl) UT
  obtain rfl : c0 = v0 := List.cons.inj e0 |>.1
  exact ⟨⟨l0⟩, c0, rfl, r0, ⟨⟩⟩
theorem lst_5 {α : Type} {l : List α} (h : l.length = 5) : ∃ a0 a1 a2 a3 a4, l = [a0, a1, a2, a3, a4] := by
  match l, h with
  | [a0, a1, a2, a3, a4], _ => exact ⟨a0, a1, a2, a3, a4, rfl⟩
theorem QD : yN Tryd.prog 107 Prj := by
  intro H enc w fuel cs x h hx
  obtain ⟨_, _, _, _, hl, _⟩ := DataW.trod_struct Tryd.underlying107 h
  obtain ⟨c0, c1, c2, c3, c4, rfl⟩ := lst_5 (hl.trans (by kernel_rfl))
  obtain ⟨m0, e0, r0⟩ := zM (α := Int) (i := 0) Tryd.underlying107 h hx rfl (by kernel_rfl) opI
  obtain rfl : c0 = .int .i64 m0 := List.cons.inj e0 |>.1
  obtain ⟨m1, e1, r1⟩ := zM (α := Int) (i := 1) Tryd.underlying107 h hx rfl (by kernel_rfl) opI
  obtain rfl : c1 = .int .i64 m1 := List.cons.inj e1 |>.1
  obtain ⟨m2, e2, r2⟩ := zM (α := Int) (i := 2) Tryd.underlying107 h hx rfl (by kernel_rfl) opI
  obtain rfl : c2 = .int .i64 m2 := List.cons.inj e2 |>.1
  obtain ⟨m3, e3, r3⟩ := zM (α := Int) (i := 3) Tryd.underlying107 h hx rfl (by kernel_rfl) opI
  obtain rfl : c3 = .int .i64 m3 := List.cons.inj e3 |>.1
  obtain ⟨m4, e4, r4⟩ := zM (α := Int) (i := 4) Tryd.underlying107 h hx rfl (by kernel_rfl) opI
  obtain rfl : c4 = .int .i64 m4 := List.cons.inj e4 |>.1
  exact ⟨⟨m0, m1, m2, m3, m4⟩, rfl, ⟨r0, r1, r2, r3, r4⟩⟩
theorem UP : yN Tryd.prog 22 (List Typ) := xf Tryd.underlying22 Qy (by kernel_rfl) (by kernel_rfl)
theorem Uz : yN Tryd.prog 23 (List Prj) := xf Tryd.underlying23 QD (by kernel_rfl) (by kernel_rfl)
theorem lst_2 {α : Type} {l : List α} (h : l.length = 2) : ∃ a0 a1, l = [a0, a1] := by
  match l, h with
  | [a0, a1], _ => exact ⟨a0, a1, rfl⟩
theorem QO : yN Tryd.prog 25 Dcl := by
  intro H enc w fuel cs x h hx
  obtain ⟨_, _, _, _, hl, _⟩ := DataW.trod_struct Tryd.underlying25 h
  obtain ⟨c0, c1, rfl⟩ := lst_2 (hl.trans (by kernel_rfl))
  obtain ⟨l0, v0, e0, r0⟩ := zM (α := List Typ) (i := 0) Tryd.underlying25 h hx rfl (by kernel_rfl) UP
  obtain rfl : c0 = v0 := List.cons.inj e0 |>.1
  obtain ⟨l1, v1, e1, r1⟩ := zM (α := List Prj) (i := 1) Tryd.underlying25 h hx rfl (by kernel_rfl) Uz
  obtain rfl : c1 = v1 := List.cons.inj e1 |>.1
  exact ⟨⟨l0, l1⟩, c0, c1, rfl, r0, r1, ⟨⟩⟩
theorem UA : yN Tryd.prog 40 (List Int) := xf Tryd.underlying40 opI (by kernel_rfl) (by kernel_rfl)
theorem QI {α : Type} {l : List α} (h : l.length = 10) : ∃ a0 a1 a2 a3 a4 a5 a6 a7 a8 a9, l = [a0, a1, a2, a3, a4, a5, a6, a7, a8, a9] := by
  match l, h with
  | [a0, a1, a2, a3, a4, a5, a6, a7, a8, a9], _ => exact ⟨a0, a1, a2, a3, a4, a5, a6, a7, a8, a9, rfl⟩
theorem op_Ev : yN Tryd.prog 59 Ev := by
  intro H enc w fuel cs x h hx
  obtain ⟨_, _, _, _, hl, _⟩ := DataW.trod_struct Tryd.underlying59 h
  obtain ⟨c0, c1, c2, c3, c4, c5, c6, c7, c8, c9, rfl⟩ := QI (hl.trans (by kernel_rfl))
  obtain ⟨⟨m0, m1⟩, e0, r0, r1⟩ := zM (α := Int × Int) (i := 0) Tryd.underlying59 h hx rfl (by kernel_rfl) opId
  obtain rfl : c0 = .int .i64 m0 := List.cons.inj e0 |>.1
  obtain rfl : c1 = .int .i64 m1 := List.cons.inj (List.cons.inj e0 |>.2) |>.1
  obtain ⟨m2, e2, r2⟩ := zM (α := Int) (i := 1) Tryd.underlying59 h hx rfl (by kernel_rfl) opI
  obtain rfl : c2 = .int .i64 m2 := List.cons.inj e2 |>.1
  obtain ⟨l3, v3, e3, r3⟩ := zM (α := List Int) (i := 2) Tryd.underlying59 h hx rfl (by kernel_rfl) UA
  obtain rfl : c3 = v3 := List.cons.inj e3 |>.1
  obtain ⟨m4, e4, r4⟩ := zM (α := Int) (i := 3) Tryd.underlying59 h hx rfl (by kernel_rfl) opI
  obtain rfl : c4 = .int .i64 m4 := List.cons.inj e4 |>.1
  obtain ⟨m5, e5, r5⟩ := zM (α := Int) (i := 4) Tryd.underlying59 h hx rfl (by kernel_rfl) opI
  obtain rfl : c5 = .int .i64 m5 := List.cons.inj e5 |>.1
  obtain ⟨m6, e6, r6⟩ := zM (α := Int) (i := 5) Tryd.underlying59 h hx rfl (by kernel_rfl) opI
  obtain rfl : c6 = .int .i64 m6 := List.cons.inj e6 |>.1
  obtain ⟨m7, e7, r7⟩ := zM (α := Int) (i := 6) Tryd.underlying59 h hx rfl (by kernel_rfl) opI
  obtain rfl : c7 = .int .i64 m7 := List.cons.inj e7 |>.1
  obtain ⟨m8, e8, r8⟩ := zM (α := Int) (i := 7) Tryd.underlying59 h hx rfl (by kernel_rfl) opI
  obtain rfl : c8 = .int .i64 m8 := List.cons.inj e8 |>.1
  obtain ⟨m9, e9, r9⟩ := zM (α := Int) (i := 8) Tryd.underlying59 h hx rfl (by kernel_rfl) opI
  obtain rfl : c9 = .int .i64 m9 := List.cons.inj e9 |>.1
  exact ⟨⟨m0, m1, m2, l3, m4, m5, m6, m7, m8, m9⟩, c3, rfl, r3, ⟨r0, r1, r2, r4, r5, r6, r7, r8, r9⟩⟩
theorem Xt {H : Type} {enc : TypeId × Value → H} {W : World} {base : Nat} {v : Value} {d : DataW H} {ps : List MemPlace} (hval : Value.okWide Tryd.prog W .any base 25 v) (h : DataW.Trod enc Tryd.prog W 0 (fun _ => true) true 25 v d ps) (hx : xQ Tryd.prog 25 d) : ∃ (p : Dcl) (d1 : Value) (d2 : Value), v = .agg (p.cells d1 d2).toArray ∧ RdS W (yV W) d1 p.types ∧ RdS W (yV W) d2 p.projs ∧ p.Ok := by
  obtain ⟨cs, rfl, _⟩ := okWide_struct Tryd.underlying25 hval
  obtain ⟨fuel, hf⟩ := h
  obtain ⟨e, d1, d2, he, hd1, hd2, ho⟩ := QO H enc W fuel _ _ hf hx
  refine ⟨e, d1, d2, ?_, hd1, hd2, ho⟩
  have : cs.toList = e.cells d1 d2 := he
  rw [← this]
theorem Uf {H : Type} {enc : TypeId × Value → H} {W : World} {base : Nat} {v : Value} {d : DataW H} {ps : List MemPlace} (hval : Value.okWide Tryd.prog W .any base 3 v) (h : DataW.Trod enc Tryd.prog W 0 (fun _ => true) true 3 v d ps) (hx : xQ Tryd.prog 3 d) : ∃ n : Int, v = .int .i64 n ∧ InR n := by
  obtain ⟨n, rfl⟩ := okWide_int Tryd.underlying3 hval
  obtain ⟨fuel, hf⟩ := h
  obtain ⟨m, he, hr⟩ := opI H enc W fuel _ _ hf hx
  obtain rfl : n = m := by
    have := List.cons.inj he |>.1
    cases this; rfl
  exact ⟨n, rfl, hr⟩
theorem Qx : yN Tryd.prog 47 (List Ev) := xf Tryd.underlying47 op_Ev (by kernel_rfl) (by kernel_rfl)
theorem Wc {H : Type} {enc : TypeId × Value → H} {W : World} {base : Nat} {v : Value} {d : DataW H} {ps : List MemPlace} (hval : Value.okWide Tryd.prog W .any base 47 v) (h : DataW.Trod enc Tryd.prog W 0 (fun _ => true) true 47 v d ps) (hx : xQ Tryd.prog 47 d) : ∃ l : List Ev, RdS W (yV W) v l := by
  obtain ⟨a, len, cap, rfl⟩ := okWide_slice Tryd.underlying47 hval
  obtain ⟨fuel, hf⟩ := h
  obtain ⟨l, v, he, hr⟩ := Qx H enc W fuel _ _ hf hx
  obtain rfl := List.cons.inj he |>.1
  exact ⟨l, hr⟩
theorem Tryd.own : ownKnob Tryd.prog.godebug = none := by kernel_rfl
theorem Tryd.laidOut : laidOutB Tryd.prog = true := by kernel_rfl
theorem Um : Tryd.prog.globalNamed "quayside/schema.kinds" = some 0 := by kernel_rfl
theorem Ql : (Tryd.prog.globals[0]?).map (·.type) = some 92 := by kernel_rfl
theorem Vx {W : World} (h : laidMetH Tryd.prog [("quayside/schema.kinds", Rows.laid_quayside_schema_kinds)] W) : RdS W (yV W) (.slice (some ⟨0, 0, none⟩) 6 6) kindsL := by
  rw [MakeChecks.laidMetH_plain _ _ _ (by kernel_rfl)] at h
  exact UK Um (Lib.tabIs_of_head (k := .i64) (zs := kindsL) Um Ql Tryd.underlying92 Tryd.underlying3 (by kernel_rfl) (by kernel_rfl) h) (by decide) (by decide)
theorem VC (os : Os) (args : Array Value) : laidMetH Tryd.prog [("quayside/schema.kinds", Rows.laid_quayside_schema_kinds)] ((World.doorLaid Tryd.prog 14 os).forCall (fun _ _ => 0) ⟨#[], args, []⟩).memory :=
  laidMetH_of_parts3 (fuel := 8) (laidMet_of_run' 8 (by kernel_rfl) (by kernel_rfl)) (by kernel_rfl) (by kernel_rfl)
end Go.Proofs.YtlblilbmpdejgaaDoor
/- Steps of the proofs of this seat: part K2. -/
set_option maxRecDepth 8000
set_option maxHeartbeats 4000000
namespace Go.Proofs.YtlblilbmpdejgaaDoor
open Go.Proofs Go.RowKit

end Go.Proofs.YtlblilbmpdejgaaDoor
/- Steps of the proofs of this seat: part K3. -/
set_option maxRecDepth 8000
set_option maxHeartbeats 4000000
namespace Go.Proofs.YtlblilbmpdejgaaDoor
open Go.Proofs Go.RowKit

theorem UW {t : Typ} {c : List Cel} {f op arg : Int} (h : Zo t c f op arg = 0) : xi (yR t f) c (yc c f) op arg = true := by
  unfold Zo at h
  split at h
  · assumption
  · cases h
end Go.Proofs.YtlblilbmpdejgaaDoor
/- Maps with structs as keys: what they hold, value by value. -/
namespace Go.Proofs.YtlblilbmpdejgaaDoor
open Go.RowKit Go.MapKept

structure KLaw (P : Program) (kt : TypeId) {κ : Type} [DecidableEq κ] (enc : κ → Value) : Prop where
  inj : ∀ {a b : κ}, enc a = enc b → a = b
  desc : ∃ d, P.underlying kt = some d ∧ ∀ a b, Instr.sameNow d (enc a) (enc b) = none
  check : ∀ (w : World) (e : Bool) (k : κ), (Instr.checkKey e 10000 kt (enc k)).run P w = .ok () w
  eql : ∀ (w : World) (a b : κ), (Op.equal kt (enc a) (enc b)).run P w = .ok (decide (a = b)) w
  stays : ∀ k, Instr.sameBits 10000 (enc k) (enc k) = true

def yw {κ β : Type} [DecidableEq κ] (L : List (κ × β)) (k : κ) : Option β := (L.find? fun p => decide (p.1 = k)).map (·.2)
def Xu {κ β : Type} [DecidableEq κ] (L : List (κ × β)) (k : κ) (x : β) : List (κ × β) := match L.findIdx? fun p => decide (p.1 = k) with
  | some j => L.set j (k, x)
  | none => L ++ [(k, x)]
def XD {κ β : Type} [DecidableEq κ] (L : List (κ × β)) (k : κ) (z : β) : List (κ × β) := match L.findIdx? fun p => decide (p.1 = k) with
  | some _ => L
  | none => L ++ [(k, z)]

section
variable {P : Program} {kt : TypeId} {κ : Type} [DecidableEq κ] {enc : κ → Value}
theorem KLaw.ask (K : KLaw P kt enc) (k : κ) (w : World) : ∀ (es : List MapEntry) (i : Nat), (∀ e ∈ es, ∃ q, e.key = enc q) →
    ((Instr.findAsking kt (enc k) es i).run P w = .ok none w ∧ ∀ e ∈ es, e.key ≠ enc k) ∨ ∃ j e, (Instr.findAsking kt (enc k) es i).run P w = .ok (some (i + j, e.val)) w ∧ es[j]? = some e ∧ e.key = enc k
  | [], i, _ => .inl ⟨rfl, by simp⟩
  | e :: es, i, h => by
    obtain ⟨q, hq⟩ := h e (.head _)
    by_cases hk : k = q
    · subst hk
      refine .inr ⟨0, e, ?_, rfl, hq⟩
      simp [Instr.findAsking, hq, K.eql, go_sem]
    · rcases KLaw.ask K k w es (i + 1) (fun x hx => h x (.tail _ hx)) with ⟨h1, h2⟩ | ⟨j, e', h1, h2, h3⟩
      · refine .inl ⟨?_, fun x hx => ?_⟩
        · simp [Instr.findAsking, hq, K.eql, hk, h1, go_sem]
        · rcases List.mem_cons.1 hx with rfl | hx
          · rw [hq]; exact fun e => hk (K.inj e).symm
          · exact h2 x hx
      · refine .inr ⟨j + 1, e', ?_, by simpa using h2, h3⟩
        have e9 : i + 1 + j = i + (j + 1) := by omega
        rw [e9] at h1
        simp [Instr.findAsking, hq, K.eql, hk, h1, go_sem]
theorem KLaw.find (K : KLaw P kt enc) (k : κ) (w : World) (es : List MapEntry) (h : ∀ e ∈ es, ∃ q, e.key = enc q) :
    ((Instr.findKey kt (enc k) es).run P w = .ok none w ∧ ∀ e ∈ es, e.key ≠ enc k) ∨ ∃ j e, (Instr.findKey kt (enc k) es).run P w = .ok (some (j, e.val)) w ∧ es[j]? = some e ∧ e.key = enc k := by
  obtain ⟨d, hd, hs⟩ := K.desc
  match es, h with
  | [], h => exact .inl ⟨by simp [Instr.findKey, run_underlying hd, Instr.findNow, go_sem], by simp⟩
  | e :: es, h =>
    obtain ⟨q, hq⟩ := h e (.head _)
    have hn : Instr.findNow d (enc k) (e :: es) 0 = none := by simp [Instr.findNow, hq, hs]
    have hr : ∀ r, (Instr.findAsking kt (enc k) (e :: es) 0).run P w = .ok r w → (Instr.findKey kt (enc k) (e :: es)).run P w = .ok r w := by
      intro r hr
      simp [Instr.findKey, run_underlying hd, hn, go_sem]
      exact hr
    rcases K.ask k w (e :: es) 0 h with ⟨h1, h2⟩ | ⟨j, e', h1, h2, h3⟩
    · exact .inl ⟨hr _ h1, h2⟩
    · exact .inr ⟨j, e', hr _ (by rw [h1, Nat.zero_add]), h2, h3⟩
theorem KLaw.keeps (K : KLaw P kt enc) (k : κ) (w : World) : (Instr.keyThatStays (enc k) (enc k)).run P w = .ok (enc k) w := by
  simp [Instr.keyThatStays, K.stays]

def EntsV (enc : κ → Value) (es : List MapEntry) (L : List (κ × Value)) : Prop := es.map (fun e => (e.key, e.val)) = L.map (fun p => (enc p.1, p.2))
theorem EntsV.len {es : List MapEntry} {L : List (κ × Value)} (h : EntsV enc es L) : es.length = L.length := by have := congrArg List.length h; simpa using this
theorem EntsV.at_ {es : List MapEntry} {L : List (κ × Value)} (h : EntsV enc es L) {j : Nat} {e : MapEntry} (he : es[j]? = some e) : ∃ p, L[j]? = some p ∧ e.key = enc p.1 ∧ e.val = p.2 := by
  have h1 : (es.map (fun e => (e.key, e.val)))[j]? = (L.map (fun p => (enc p.1, p.2)))[j]? := by rw [show es.map _ = L.map _ from h]
  rw [List.getElem?_map, List.getElem?_map, he] at h1
  cases hp : L[j]? with
  | none => rw [hp] at h1; cases h1
  | some p => rw [hp] at h1; simp only [Option.map_some, Option.some.injEq, Prod.mk.injEq] at h1; exact ⟨p, rfl, h1.1, h1.2⟩
theorem EntsV.keys {es : List MapEntry} {L : List (κ × Value)} (h : EntsV enc es L) : ∀ e ∈ es, ∃ q, e.key = enc q := by
  intro e he
  obtain ⟨j, hj, rfl⟩ := List.getElem_of_mem he
  obtain ⟨p, _, h1, _⟩ := h.at_ (List.getElem?_eq_getElem hj)
  exact ⟨p.1, h1⟩
theorem EntsV.nodup {es : List MapEntry} {L : List (κ × Value)} (h : EntsV enc es L) (hp : (es.map (·.key)).Nodup) : (L.map (·.1)).Nodup := by
  have h1 : (es.map (·.key)) = (L.map (·.1)).map enc := by
    have := congrArg (List.map Prod.fst) h
    simpa [Function.comp_def] using this
  have h2 : ((L.map (·.1)).map enc).Nodup := by rw [← h1]; exact hp
  exact (List.pairwise_map.1 h2).imp (fun hne e => hne (by rw [e]))
theorem EntsV.none {es : List MapEntry} {L : List (κ × Value)} (h : EntsV enc es L) {k : κ} (hk : ∀ e ∈ es, e.key ≠ enc k) : (L.findIdx? fun p => decide (p.1 = k)) = none ∧ yw L k = none := by
  have key : ∀ p ∈ L, ¬ p.1 = k := by
    intro p hp e
    obtain ⟨j, hj, rfl⟩ := List.getElem_of_mem hp
    have hje : j < es.length := by rw [h.len]; exact hj
    obtain ⟨q, h1, h2, _⟩ := h.at_ (List.getElem?_eq_getElem hje)
    rw [List.getElem?_eq_getElem hj] at h1
    cases h1
    exact hk _ (List.getElem_mem hje) (by rw [h2, e])
  refine ⟨by rw [List.findIdx?_eq_none_iff]; intro p hp; simpa using key p hp, ?_⟩
  unfold yw
  rw [Option.map_eq_none_iff, List.find?_eq_none]
  intro p hp
  simpa using key p hp
theorem EntsV.some {es : List MapEntry} {L : List (κ × Value)} (h : EntsV enc es L) (hi : ∀ {a b : κ}, enc a = enc b → a = b) (hp : (es.map (·.key)).Nodup) {k : κ} {j : Nat} {e : MapEntry} (he : es[j]? = some e) (hk : e.key = enc k) :
    j < L.length ∧ (L.findIdx? fun p => decide (p.1 = k)) = some j ∧ yw L k = some e.val := by
  obtain ⟨p, h1, h2, h3⟩ := h.at_ he
  have hjl := (List.getElem?_eq_some_iff.1 h1).1
  have hpe : L[j] = p := (List.getElem?_eq_some_iff.1 h1).2
  have hpk : p.1 = k := hi (by rw [← h2, hk])
  have hn := h.nodup hp
  have first : ∀ i (hij : i < j), ¬ (L[i]'(by omega)).1 = k := fun i hij => by
    have := List.pairwise_iff_getElem.1 (List.pairwise_map.1 hn) i j (by omega) hjl hij
    intro e; exact this (by rw [e, hpe, hpk])
  refine ⟨hjl, ?_, ?_⟩
  · rw [List.findIdx?_eq_some_iff_getElem]
    exact ⟨hjl, by simp [hpe, hpk], fun i hi => by simpa using first i hi⟩
  · unfold yw
    have : (L.find? fun p => decide (p.1 = k)) = Option.some p := by
      rw [List.find?_eq_some_iff_getElem]
      exact ⟨by simp [hpk], j, hjl, hpe, fun i hi => by simpa using first i hi⟩
    rw [this, Option.map_some, h3]

def IsMap (enc : κ → Value) (w : World) (m : Nat) (L : List (κ × Value)) : Prop := ∃ es clock, w.heap[m]? = some (.map es clock) ∧ Stamped es clock ∧ EntsV enc es.toList L ∧ clock = es.size
def IsMapE (enc : κ → Value) (w : World) (m : Nat) (L : List (κ × Value)) (j : Nat) (s : Int) : Prop := ∃ es clock, w.heap[m]? = some (.map es clock) ∧ Stamped es clock ∧ EntsV enc es.toList L ∧ clock = es.size ∧ ∃ e, es[j]? = some e ∧ (e.born : Int) = s
theorem IsMapE.is {w : World} {m j : Nat} {s : Int} {L : List (κ × Value)} (h : IsMapE enc w m L j s) : IsMap enc w m L := by obtain ⟨es, c, h1, h2, h3, h4, _⟩ := h; exact ⟨es, c, h1, h2, h3, h4⟩
theorem IsMap.lt {w : World} {m : Nat} {L : List (κ × Value)} (h : IsMap enc w m L) : m < w.heap.size := by obtain ⟨es, c, hb, _⟩ := h; exact xe hb
end

section
variable {P : Program} {d : Option Tmp} {ty : TypeId} {pos : String} {af : Array Edge} {gd : Option (Nat × Bool)} {σ : Env} {w : World} {K : Value → World → Prop} {κ : Type} [DecidableEq κ] {enc : κ → Value} {G : Nat → Prop} {W : World} {As : List HP} {m : Nat} {L : List (κ × Value)}

theorem xU {m : Nat} {es es' : Array MapEntry} {c c' : Nat} (hb : w.heap[m]? = some (.map es c)) : Chg (fun i => i = m) w { w with heap := w.heap.setIfInBounds m (.map es' c') } := by
  refine ⟨rfl, rfl, rfl, by simp, fun i hi hne => (heap_set hb).2 i hne, ?_, Nat.le_refl _⟩
  rintro i ⟨c, T, hc⟩
  have hne : i ≠ m := fun e => by subst e; rw [hb] at hc; cases hc
  exact ⟨c, T, by rw [(heap_set hb).2 i hne]; exact hc⟩
theorem Yw {es : Array MapEntry} (h : EntsV enc es.toList L) (k : κ) (v : Value) (n : Nat) : EntsV enc (es.push { key := enc k, val := v, born := n }).toList (L ++ [(k, v)]) := by
  unfold EntsV at *
  rw [Array.toList_push, List.map_append, List.map_append, h]
  rfl
theorem ZJ {es : Array MapEntry} (h : EntsV enc es.toList L) {k : κ} {v : Value} {j : Nat} {e : MapEntry} (he : es.toList[j]? = some e) (f : MapEntry → MapEntry) (hk : (f e).key = enc k) (hv : (f e).val = v) : EntsV enc (es.modify j f).toList (L.set j (k, v)) := by
  unfold EntsV at *
  rw [Array.toList_modify, List.modify_eq_set, he]
  simp only [Option.map_some, Option.getD_some, List.map_set, h, hk, hv]

theorem Wz {t kt et : TypeId} {x y : Operand} {k : κ} {z : Value} (hK : KLaw P kt enc) (hU : P.underlying t = some (.map kt et)) (hZ : ∀ w, (zeroValue et).run P w = .ok z w)
    (hx : ev σ x = .map (some m)) (hy : ev σ y = enc k) (hm : IsMap enc w m L) (h : K ((yw L k).getD z) w) : opV P ⟨d, .lookup t x y false, ty, pos, af, gd⟩ σ w K := by
  obtain ⟨es, clock, hb, hs, he, _⟩ := hm
  rcases hK.find k w es.toList he.keys with ⟨h1, h2⟩ | ⟨j, e, h1, h2, h3⟩
  · rw [(he.none h2).2] at h
    refine zZ (v := z) (w' := w) ?_ h
    simp [execOp, hx, hy, Instr.lookup, run_underlying hU, MapKept.run_getObj_map hb, hK.check, h1, hZ, go_sem]
  · rw [(he.some hK.inj hs.2.2 h2 h3).2.2] at h
    refine zZ (v := e.val) (w' := w) ?_ h
    simp [execOp, hx, hy, Instr.lookup, run_underlying hU, MapKept.run_getObj_map hb, hK.check, h1, go_sem]
theorem XE {t kt et : TypeId} {x y : Operand} {k : κ} {z : Value} (hK : KLaw P kt enc) (hU : P.underlying t = some (.map kt et)) (hZ : ∀ w, (zeroValue et).run P w = .ok z w)
    (hx : ev σ x = .map (some m)) (hy : ev σ y = enc k) (hm : IsMap enc w m L) (h : K (.tuple #[(yw L k).getD z, .bool (yw L k).isSome]) w) : opV P ⟨d, .lookup t x y true, ty, pos, af, gd⟩ σ w K := by
  obtain ⟨es, clock, hb, hs, he, _⟩ := hm
  rcases hK.find k w es.toList he.keys with ⟨h1, h2⟩ | ⟨j, e, h1, h2, h3⟩
  · rw [(he.none h2).2] at h
    refine zZ (v := .tuple #[z, .bool false]) (w' := w) ?_ h
    simp [execOp, hx, hy, Instr.lookup, run_underlying hU, MapKept.run_getObj_map hb, hK.check, h1, hZ, go_sem]
  · rw [(he.some hK.inj hs.2.2 h2 h3).2.2] at h
    refine zZ (v := .tuple #[e.val, .bool true]) (w' := w) ?_ h
    simp [execOp, hx, hy, Instr.lookup, run_underlying hU, MapKept.run_getObj_map hb, hK.check, h1, go_sem]
theorem YC {t kt et : TypeId} {x y z : Operand} {k : κ} {v : Value} (hK : KLaw P kt enc) (hU : P.underlying t = some (.map kt et)) (hx : ev σ x = .map (some m)) (hy : ev σ y = enc k) (hz : ev σ z = v) (hm : IsMap enc w m L)
    (h : ∀ w1, IsMap enc w1 m (Xu L k v) → Chg (fun i => i = m) w w1 → K undef w1) : opV P ⟨d, .mapUpdate t x y z, ty, pos, af, gd⟩ σ w K := by
  obtain ⟨es, clock, hb, hs, he, hcl⟩ := hm
  rcases hK.find k w es.toList he.keys with ⟨h1, h2⟩ | ⟨j, e, h1, h2, h3⟩
  · refine Zd (w' := { w with heap := w.heap.setIfInBounds m (.map (es.push { key := enc k, val := v, born := clock }) (clock + 1)) }) ?_ (h _ ?_ (xU hb))
    · simp [execOp, hx, hy, hz, Instr.mapUpdate, run_underlying hU, MapKept.run_getObj_map hb, hK.check, h1, MapKept.run_setObj_map _ hb, go_sem]
    · unfold Xu
      rw [(he.none h2).1]
      exact ⟨_, _, (heap_set hb).1, stamped_push hs h2, Yw he k v clock, by simp [hcl]⟩
  · have hja : es[j]? = some e := by simpa using h2
    obtain ⟨hjl, hfi, _⟩ := he.some hK.inj hs.2.2 h2 h3
    refine Zd (w' := { w with heap := w.heap.setIfInBounds m (.map (es.modify j fun e => { e with key := enc k, val := v }) clock) }) ?_ (h _ ?_ (xU hb))
    · simp [execOp, hx, hy, hz, Instr.mapUpdate, run_underlying hU, MapKept.run_getObj_map hb, hK.check, h1, hja, h3, hK.keeps, MapKept.run_setObj_map _ hb, go_sem]
    · unfold Xu
      rw [hfi]
      exact ⟨_, _, (heap_set hb).1, stamped_modify hs _ _ (fun _ _ => rfl) (fun e' _ he' => by rw [hja] at he'; cases he'; exact h3.symm), ZJ he h2 _ rfl rfl, by simp [hcl]⟩
theorem Xb {t kt et : TypeId} {x y : Operand} {k : κ} {z : Value} (hK : KLaw P kt enc) (hU : P.underlying t = some (.map kt et)) (hZ : ∀ w, (zeroValue et).run P w = .ok z w) (hx : ev σ x = .map (some m)) (hy : ev σ y = enc k) (hm : IsMap enc w m L)
    (h : ∀ w1 j s, IsMapE enc w1 m (XD L k z) j s → (∀ v, (XD L k z).set j (k, v) = Xu L k v) → (∃ p, (XD L k z)[j]? = some p ∧ p.1 = k) → Chg (fun i => i = m) w w1 → K (.tuple #[(yw L k).getD z, .int .i64 s]) w1) : opV P ⟨d, .mapEntry t x y, ty, pos, af, gd⟩ σ w K := by
  obtain ⟨es, clock, hb, hs, he, hcl⟩ := hm
  rcases hK.find k w es.toList he.keys with ⟨h1, h2⟩ | ⟨j, e, h1, h2, h3⟩
  · have h0 := h { w with heap := w.heap.setIfInBounds m (.map (es.push { key := enc k, val := z, born := clock }) (clock + 1)) } es.size (clock : Int)
    unfold XD Xu at h0
    rw [(he.none h2).1, (he.none h2).2] at h0
    refine zZ (v := .tuple #[z, .int .i64 (clock : Int)]) (w' := { w with heap := w.heap.setIfInBounds m (.map (es.push { key := enc k, val := z, born := clock }) (clock + 1)) }) ?_ (h0 ⟨_, _, (heap_set hb).1, stamped_push hs h2, Yw he k z clock, by simp [hcl], { key := enc k, val := z, born := clock }, by simp, rfl⟩ ?_ ?_ (xU hb))
    · simp [execOp, hx, hy, Instr.mapEntry, run_underlying hU, MapKept.run_getObj_map hb, hK.check, h1, hZ, MapKept.run_setObj_map _ hb, goInt, go_sem]
    · intro v
      have hl : es.size = L.length := by have := he.len; simpa using this
      simp only [hl]
      rw [List.set_append_right _ _ (Nat.le_refl _), Nat.sub_self]; rfl
    · have hl : es.size = L.length := by have := he.len; simpa using this
      exact ⟨(k, z), by rw [hl]; simp, rfl⟩
  · have hja : es[j]? = some e := by simpa using h2
    obtain ⟨hjl, hfi, hlk⟩ := he.some hK.inj hs.2.2 h2 h3
    have h0 := h { w with heap := w.heap.setIfInBounds m (.map (es.modify j fun e => { e with key := enc k }) clock) } j (e.born : Int)
    unfold XD Xu at h0
    rw [hfi, hlk] at h0
    have hes : EntsV enc (es.modify j fun e => { e with key := enc k }).toList L := by
      have h9 := ZJ he (k := k) (v := e.val) h2 (fun e => { e with key := enc k }) rfl rfl
      obtain ⟨p, q1, q2, q3⟩ := he.at_ h2
      have : L.set j (k, e.val) = L := by
        obtain ⟨hj9, q4⟩ := List.getElem?_eq_some_iff.1 q1
        have hpk : p.1 = k := hK.inj (by rw [← q2, h3])
        rw [q3, show (k, p.2) = L[j] by rw [q4, ← hpk]]
        exact List.set_getElem_self hj9
      rwa [this] at h9
    refine zZ (v := .tuple #[e.val, .int .i64 (e.born : Int)]) (w' := { w with heap := w.heap.setIfInBounds m (.map (es.modify j fun e => { e with key := enc k }) clock) }) ?_ (h0 ⟨_, _, (heap_set hb).1, stamped_modify hs _ _ (fun _ _ => rfl) (fun e' _ he' => by rw [hja] at he'; cases he'; exact h3.symm), hes, by simp [hcl], { e with key := enc k }, by simp [Array.getElem?_modify, hja], rfl⟩ (fun v => rfl) ((he.at_ h2).elim fun p hp => ⟨p, hp.1, hK.inj (by rw [← hp.2.1, h3])⟩) (xU hb))
    simp [execOp, hx, hy, Instr.mapEntry, run_underlying hU, MapKept.run_getObj_map hb, hK.check, h1, hja, h3, hK.keeps, MapKept.run_setObj_map _ hb, goInt, go_sem]
theorem Yo {t : TypeId} {x y z : Operand} {j : Nat} {s : Int} {v : Value} {p : κ × Value} (hx : ev σ x = .map (some m)) (hy : ev σ y = .int .i64 s) (hz : ev σ z = v) (hm : IsMapE enc w m L j s) (hp : L[j]? = some p)
    (h : ∀ w1, IsMap enc w1 m (L.set j (p.1, v)) → Chg (fun i => i = m) w w1 → K undef w1) : opV P ⟨d, .entryStore t x y z, ty, pos, af, gd⟩ σ w K := by
  obtain ⟨es, clock, hb, hs, he, hcl, e, hja, hbn⟩ := hm
  have h2 : es.toList[j]? = some e := by simpa using hja
  have hjs : j < es.size := (Array.getElem?_eq_some_iff.1 hja).1
  have hej : es[j] = e := (Array.getElem?_eq_some_iff.1 hja).2
  have hfi : es.findIdx? (fun e => (e.born : Int) == s) = some j := by
    rw [Array.findIdx?_eq_some_iff_getElem]
    refine ⟨hjs, by simp [hej, hbn], fun i hi => ?_⟩
    have := List.pairwise_iff_getElem.1 (List.pairwise_map.1 hs.2.1) i j (by simp; omega) (by simpa using hjs) hi
    simp only [Array.getElem_toList] at this
    rw [hej] at this
    have h9 : ¬ ((es[i].born : Int) = s) := fun e9 => this (by omega)
    simpa using h9
  obtain ⟨q, q1, q2, q3⟩ := he.at_ h2
  rw [hp] at q1
  cases q1
  refine Zd (w' := { w with heap := w.heap.setIfInBounds m (.map (es.modify j fun e => { e with val := v }) clock) }) ?_ (h _ ?_ (xU hb))
  · simp [execOp, hx, hy, hz, Instr.entryStore, MapKept.run_getObj_map hb, asInt, hfi, MapKept.run_setObj_map _ hb, go_sem]
  · exact ⟨_, _, (heap_set hb).1, stamped_modify hs _ _ (fun _ _ => rfl) (fun e' _ he' => rfl), ZJ he h2 _ q2 rfl, by simp [hcl]⟩
end
end Go.Proofs.YtlblilbmpdejgaaDoor
