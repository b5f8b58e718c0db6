import Derived.Test.YtlblilbmpdejgaaDoorV7
import Derived.Test.YtlblilbmpdejgaaDoorV2
set_option linter.unusedSimpArgs false
set_option linter.unusedVariables false
set_option linter.unusedSectionVars false
set_option linter.deprecated false
set_option maxRecDepth 8000
set_option maxHeartbeats 4000000
open Go.Proofs.Tryd renaming isAgg3 → lT, sizeOf79 → mT, results89 → nT, isAgg22 → oT, underlying22 → pT, sizeOf33 → qT, isAgg31 → rT, underlying77 → sT, isAgg79 → tT, sizeOf115 → uT, underlying31 → vT, isAgg77 → wT, zeroValue79 → lR, isAgg23 → mR, isAgg59 → nR, sizeOf59 → oR, underlying23 → pR, sizeOf107 → qR, underlying40 → rR, sizeOf3 → sR, sizeOf25 → tR, results98 → uR, results90 → vR, isAgg25 → wR, isAgg26 → lY, underlying26 → mY, results97 → nY, sizeOf77 → oY, isAgg115 → pY, zeroValue115 → qY, zeroValue25 → rY, zeroValue33 → sY, sizeOf42 → tY, isAgg40 → uY, results108 → vY, call105 → wY, results72 → lA
namespace Go.Proofs.YtlblilbmpdejgaaDoor
open Go.Proofs Go.RowKit

theorem Vi {G : Nat → Prop} {W w : World} {Rs : List HP} {f : Fld} {df0 : Value} (hdf0 : RdS W G df0 f.moves) (of : f.Ok) (hS0 : Sep G W Rs w) : Ret Tryd.prog 56 [.agg (f.cells df0).toArray] w (fun r w' => ∃ (v : Value), r = (.agg (f.cells v).toArray : Value) ∧ Sep G W ((RowE (α := Mv) own 115 v f.moves) :: Rs) w') := by
 have hdf0s : _ * 32 ≤ _ := hdf0.small
 refine zl (args := [.agg (f.cells df0).toArray]) Tryd.func56 rfl rfl ?_
 refine za (R0 fun _ => st (zR (v := .agg (f.cells df0).toArray) rfl ?_))
 intro w3 b2 H
 refine st (zr lR ?_)
 intro w7 x I
 refine zb (za (R0 fun _ => st (aS (Iz) (zb (za (za (R0 fun _ => st (aS (Iv 0) (zb (zn ?_))))))))))
 have J : Sep _ _ ((RowE (α := Mv) own 115 (Iz) ([] : List Mv)) :: _) _ := ((hS0.new H).new I).rowNil own 115
 refine zX (fun mq σ K => ∃ (k : Nat) (vo : Value) (ρ : Env), mq = f.moves.length - k ∧ σ = yb ρ [(1, Ix b2 0), (2, Ix x 0), (4, Iw k), (3, vo)] ∧ (k ≤ f.moves.length) ∧ Sep G W ((RowE (α := Mv) own 115 vo (f.moves.take k)) :: (Blk x #[Iv 0, Iv 0, .bool false, (Iz)] 79) :: (Blk b2 (f.cells df0).toArray 79) :: Rs) K) ⟨0, (Iz), _, rfl, sSf, Nat.zero_le _, J⟩ ?_
 rintro m11 σ12 w10 ⟨k, vo, ρl1, rfl, rfl, hkk, d⟩
 have y := d.r0
 have hr14s : _ * 32 ≤ _ := y.2
 refine za (za (R0 fun _ => st (mV (Iw k) (st (yu rfl (st (lD df0 wT rfl (zd (d.b2) rfl) (st (zA (n := f.moves.length) sT rfl hdf0.sl (st (zD (k := .i64) (a := ((k : Nat) : Int)) (b := ((f.moves.length : Nat) : Int)) rfl rfl (zb ?_))))))))))))
 cases e : decide (((k : Nat) : Int) < ((f.moves.length : Nat) : Int))
 have e := fD e
 have hkn : k = f.moves.length := by omega
 rw [hkn, List.take_of_length_le (Nat.le_refl f.moves.length)] at d
 have g := d.r0
 have hr16s : _ * 32 ≤ _ := g.2
 refine zi rfl (zU (zI (za (R0 fun _ => st (mV vo (st (yu rfl (stn (yp (v := vo) (c := [Iv (f.kind), Iv (f.policy), .bool (f.floor), df0]) (c' := [Iv (f.kind), Iv (f.policy), .bool (f.floor), vo]) oY rfl rfl (d.b2) g.1.one rfl rfl ?_)))))))))
 intro w17 z
 have ok19 : Fld.Ok f := ⟨(show InR (f.kind) from of.kind), (show InR (f.policy) from of.policy)⟩
 have h := d.pt2 z
 refine zb (za (R0 fun _ => st (zg (k := 4) tT mT rfl rfl (CellsAt.all (h.b2)) (stn (zp (v := .agg (f.cells vo).toArray) (c' := (f.cells vo).toArray) mT rfl rfl (h.b1) (zW ⟨rfl, rfl, rfl, g.1.one, trivial⟩) yqc rfl ?_)))))
 intro w21 A
 have l := h.pt1 A
 refine zb (zm (XK (b := x) Tryd.results56 tT mT rfl rfl (CellsAt.all (l.b1)) ?_))
 refine ⟨vo, rfl, (l.s3_a)⟩
 have e := tD e
 refine zj rfl (zk (za (zn (R0 fun _ => st (mV vo (st (yu rfl (st (lD df0 wT rfl (zd (d.b2) rfl) (st (mV (Iw k) ?_)))))))))))
 have B : k < f.moves.length := bo
 refine st (ze (k := 4) (i := k) sT uT rfl hdf0.sl rfl B ?_)
 have m : k < f.moves.length := bo
 obtain ⟨q, o⟩ := hdf0.mvD m
 have s := d.cells q (hdf0.foot (ne_of_lt m))
 refine st (zg (k := 4) pY uT rfl rfl s (st (zu (k := 4) (parts' := [(0, .agg ((f.moves.getD k default).cells).toArray)]) (c := ((f.moves.getD k default).cells).toArray) sT uT qY dc rfl kr ?_)))
 intro w31 b30 C
 have p := d.new C
 have t := p.b0
 refine st (yj (src := own) (bytes := 32) (x1 := (f.moves.getD k default)) ((p.s4_bcd).emp1) Kx rfl rfl t (fun _ _ _ => (show _ from ⟨rfl, o⟩)) yqb rfl ?_)
 intro u w33 j
 have D := j.r0
 have hr39s : _ * 32 ≤ _ := D.2
 refine st (aS u (zb (R0 fun _ => st (mV (Iw k) ?_))))
 have E : InR ((k + 1 : Nat) : Int) := bo
 refine st (zH (r := ((k + 1 : Nat) : Int)) (k := .i64) (a := ((k : Nat) : Int)) (b := 1) rfl rfl (by rw [show (((k : Nat) : Int) + 1 : Int) = ((k + 1 : Nat) : Int) from bo]; exact zz E) (st (aS (Iw (k + 1)) (zb ?_))))
 have F : (f.moves.take (k + 1)) = (f.moves.take k) ++ [(f.moves.getD k default)] := (List.take_getD om)
 rw [← F] at j
 exact ⟨_, by omega, k + 1, u, _, rfl, sSf, by omega, j⟩

theorem YM {G : Nat → Prop} {W w : World} {Rs : List HP} {d : Dcl} {dd0 : Value} (hdd0 : RdS W G dd0 d.types) {dd1 : Value} (hdd1 : RdS W G dd1 d.projs) (od : d.Ok) (hS0 : Sep G W Rs w) : Ret Tryd.prog 23 [.agg (d.cells dd0 dd1).toArray] w (fun r w' => ∃ (v1 : Value) (v2 : Value), r = (.agg (d.cells v1 v2).toArray : Value) ∧ Sep G W ((TypW v1 33 79 d.types) :: (RowE (α := Prj) own 107 v2 d.projs) :: Rs) w') := by
 have hdd0s : _ * 24 ≤ _ := hdd0.small
 have hdd1s : _ * 40 ≤ _ := hdd1.small
 refine zl (args := [.agg (d.cells dd0 dd1).toArray]) Tryd.func23 rfl rfl ?_
 refine za (R0 fun _ => st (zR (v := .agg (d.cells dd0 dd1).toArray) rfl ?_))
 intro w3 b2 cu
 refine st (zr rY ?_)
 intro w7 E cv
 refine zb (za (R0 fun _ => st (zr rY ?_)))
 intro w11 u cw
 refine zb (za (za (R0 fun _ => st (aS (Iv 0) (zb (zn ?_))))))
 have cg : Sep _ _ ((TypW (Iz) 33 79 []) :: _) _ := TypW.nil (T := 33) (Ti := 79) (((hS0.new cu).new cv).new cw)
 refine zX (fun mq σ s => ∃ (k : Nat) (vo : Value) (ρ : Env), mq = d.types.length - k ∧ σ = yb ρ [(1, Ix b2 0), (2, Ix E 0), (3, Ix u 0), (4, Iw k)] ∧ (k ≤ d.types.length) ∧ Sep G W ((TypW vo 33 79 (d.types.take k)) :: (Blk u #[vo, (Iz)] 25) :: (Blk E #[(Iz), (Iz)] 25) :: (Blk b2 (d.cells dd0 dd1).toArray 25) :: Rs) s) ⟨0, (Iz), _, rfl, sSf, Nat.zero_le _, cg⟩ ?_
 rintro m15 σ16 w14 ⟨k, vo, ρl1, rfl, rfl, hkk, M⟩
 refine za (za (R0 fun _ => st (mV (Iw k) (st (yn rfl (st (lD dd0 oT rfl (zd (M.b3) rfl) (st (zA (n := d.types.length) pT rfl hdd0.sl (st (zD (k := .i64) (a := ((k : Nat) : Int)) (b := ((d.types.length : Nat) : Int)) rfl rfl (zb ?_))))))))))))
 cases N : decide (((k : Nat) : Int) < ((d.types.length : Nat) : Int))
 have N := fD N
 have hkn : k = d.types.length := by omega
 rw [hkn, List.take_of_length_le (Nat.le_refl d.types.length)] at M
 refine zi rfl (zU (zI (za (za (R0 fun _ => st (aS (Iv 0) (zb (zn ?_))))))))
 have ch : Sep _ _ ((RowE (α := Prj) own 107 (Iz) ([] : List Prj)) :: _) _ := M.rowNil own 107
 refine zX (fun mq σ s => ∃ (k : Nat) (vp : Value) (ρ : Env), mq = d.projs.length - k ∧ σ = yb ρ [(1, Ix b2 0), (2, Ix E 0), (3, Ix u 0), (7, Iw k)] ∧ (k ≤ d.projs.length) ∧ Sep G W ((RowE (α := Prj) own 107 vp (d.projs.take k)) :: (TypW vo 33 79 d.types) :: (Blk u #[vo, vp] 25) :: (Blk E #[(Iz), (Iz)] 25) :: (Blk b2 (d.cells dd0 dd1).toArray 25) :: Rs) s) ⟨0, (Iz), _, rfl, sSf, Nat.zero_le _, ch⟩ ?_
 rintro m21 σ22 w20 ⟨k, vp, ρl2, rfl, rfl, hkk, y⟩
 have ci := y.r0
 have hr24s : _ * 40 ≤ _ := ci.2
 refine za (za (R0 fun _ => st (mV (Iw k) (st (xW rfl (st (lD dd1 mR rfl (zd (y.b4) rfl) (st (zA (n := d.projs.length) pR rfl hdd1.sl (st (zD (k := .i64) (a := ((k : Nat) : Int)) (b := ((d.projs.length : Nat) : Int)) rfl rfl (zb ?_))))))))))))
 cases O : decide (((k : Nat) : Int) < ((d.projs.length : Nat) : Int))
 have O := fD O
 have hkn : k = d.projs.length := by omega
 rw [hkn, List.take_of_length_le (Nat.le_refl d.projs.length)] at y
 have aM := y.r0
 have hr26s : _ * 40 ≤ _ := aM.2
 refine zi rfl (zU (zI (za (R0 fun _ => st (zg (k := 2) wR tR rfl rfl (CellsAt.all (y.b2)) (stn (zp (v := .agg (d.cells vo vp).toArray) (c' := (d.cells vo vp).toArray) tR rfl rfl (y.b3) (zW ⟨(y.typSl (i := 1) rfl).one, aM.1.one, trivial⟩) yqc rfl ?_)))))))
 intro cx cj
 have aN := y.pt3 cj
 refine zb (zm (XK (b := E) Tryd.results23 wR tR rfl rfl (CellsAt.all (aN.b3)) ?_))
 have ck : Sep G W ((TypW vo 33 79 d.types) :: (RowE (α := Prj) own 107 vp d.projs) :: Rs) cx := aN.sel 5 [1, 0] (Nat.le_add_left _ _) rfl rfl
 refine ⟨vo, vp, rfl, ck⟩
 have O := tD O
 refine zj rfl (zk (za (zn ?_)))
 refine WD4 ((fun TT L C aO => WF [fun vals s => Sep G W (L :: C :: aO :: TT) s, fun vals s => ∃ (x : Nat), (vals 7 = ((Iy x 1 1) : Value)) ∧ Sep G W ((Blk x ((d.projs.getD k default).cells).toArray 107) :: L :: C :: aO :: TT) s, fun vals s => ∃ (x : Nat) (h : Value), (vals 7 = ((Iy x 1 1) : Value)) ∧ (vals 8 = (h : Value)) ∧ Sep G W ((RowE (α := Prj) own 107 h ((d.projs.take k) ++ [(d.projs.getD k default)])) :: C :: aO :: TT) s, fun vals s => ∃ (x : Nat) (h : Value), (vals 7 = ((Iy x 1 1) : Value)) ∧ (vals 8 = (h : Value)) ∧ Sep G W ((RowE (α := Prj) own 107 h ((d.projs.take k) ++ [(d.projs.getD k default)])) :: C :: (Blk u (d.cells vo h).toArray 25) :: TT) s]) ((Blk E #[(Iz), (Iz)] 25) :: (Blk b2 (d.cells dd0 dd1).toArray 25) :: Rs) (RowE (α := Prj) own 107 vp (d.projs.take k)) (TypW vo 33 79 d.types) (Blk u #[vo, vp] 25)) (AF [Vl 0 (Ix u 1), Vl 1 (vp), Vl 2 (Ix b2 1), Vl 3 (dd1), Vl 4 (Iw k), Vl 5 (Ix (sb dd1) (so dd1 + k * 5)), Vl 6 (.agg ((d.projs.getD k default).cells).toArray), fun _ => True, fun _ => True, Vl 9 (Ix u 1), fun _ => True]) [[], [0], [], [2], [], [2, 3, 4], [2, 3, 4, 5], [2, 3, 4, 5, 6], (rg 8), (rg 9), (rg 10)] [7, 8, 10] [(0, 1), (0, 1), (0, 0), (0, 0), (0, 0), (0, 0), (0, 0), (0, 0), (1, 1), (2, 2), (2, 2)] y ⟨fun _ _ _ _ _ _ _ => obl rfl (xW rfl dR), ?_, fun _ _ _ _ _ _ _ => obl rfl (xW rfl dR), ob1 0 fun _ _ (bc : Sep _ _ _ _) bd => obl rfl (lD dd1 mR (bd 2 dc) (zd (bc.b4) rfl) dR), fun _ _ _ _ _ _ _ => obl rfl (mV (Iw k) dR), ?_, ?_, ?_, ?_, fun _ _ _ _ _ _ _ => obl rfl (xW rfl dR), ?_, trivial⟩ ?_
 refine fun P _ _ cl cm af ag => ?_
 have hkk : P = 0 ∨ P = 1 := by have h1 : 0 ≤ P := cl; have h2 : P ≤ 1 := cm; omega
 rcases hkk with rfl | rfl
 have be : Sep _ _ _ _ := af
 exact obl rfl (lD vp mR (ag 0 dc) (zd (be.b2) rfl) dR)
 obtain ⟨x, D, bf⟩ := af
 exact obl rfl (lD vp mR (ag 0 dc) (zd (bf.b3) rfl) dR)
 refine ob1 0 fun _ _ _ ah => (obl rfl ?_)
 have bg : k < d.projs.length := bo
 exact ze (k := 5) (i := k) pR qR (ah 3 dc) hdd1.sl (ah 4 dc) bg dR
 refine ob1 0 fun _ _ (bh : Sep _ _ _ _) bi => (obl rfl ?_)
 have ai : k < d.projs.length := bo
 obtain ⟨aP, hoke190⟩ := hdd1.prjD ai
 have aQ := bh.cells aP (hdd1.foot (ne_of_lt ai))
 exact zg (k := 5) Tryd.isAgg107 qR rfl (bi 5 dc) aQ dR
 refine ob1 0 fun _ _ (cn : Sep _ _ _ _) co => (obl rfl ((zu (k := 5) (parts' := [(0, .agg ((d.projs.getD k default).cells).toArray)]) (c := ((d.projs.getD k default).cells).toArray) pR qR Tryd.zeroValue107 dc (xF ⟨rfl, (co 6 dc), trivial⟩) kr ?_)))
 intro w96 x cp
 exact fun A H t => ⟨(Exists.intro x (And.intro H (cn.new cp))), trivial⟩
 refine ob1 1 fun _ _ bj bk => ?_
 obtain ⟨x, D, aj⟩ := bj
 refine obl rfl ?_
 have aR := aj.b0
 have ak := (aj.s6_bcdef).emp1
 have al : k < d.projs.length := bo
 obtain ⟨aT, aI⟩ := hdd1.prjD al
 have hcw115 := ak.cells aT (hdd1.foot (ne_of_lt al))
 refine (yj (src := own) (bytes := 40) (x1 := (d.projs.getD k default)) ak el23 (bk 1 (by decide)) D aR (fun _ _ _ => (show _ from ⟨rfl, aI⟩)) yqb rfl ?_)
 intro h w107 am
 have bl := am.r0
 have hr116s : _ * 40 ≤ _ := bl.2
 exact fun A H t => ⟨(Exists.intro x (Exists.intro h (And.intro ((t 7 dc).trans D) (And.intro H am)))), trivial⟩
 refine ob1 2 fun _ _ bm bn => ?_
 obtain ⟨x, h, D, Q, R⟩ := bm
 refine obl rfl ?_
 have an := R.r0
 have hr134s : _ * 40 ≤ _ := an.2
 refine (yp (v := h) (c := [vo, vp]) (c' := [vo, h]) Tryd.sizeOf23 (bn 9 dc) Q (R.b2) an.1.one rfl rfl ?_)
 intro w132 bp
 exact fun A H t => ⟨(Exists.intro x (Exists.intro h (And.intro ((t 7 dc).trans D) (And.intro ((t 8 dc).trans Q) (R.pt2 bp))))), trivial⟩
 intro vals w199 bq hA201
 obtain ⟨x, h, D, Q, ao⟩ := bq
 refine zZ (kv := [(1, Ix b2 0), (2, Ix E 0), (3, Ix u 0), (7, Iw k), (48, Iw k), (49, Ix b2 1), (50, dd1), (51, Iw d.projs.length), (52, .bool true)]) sEv (fun ρw199 => (zb (R0 fun _ => st (mV (Iw k) ?_))))
 have br : InR ((k + 1 : Nat) : Int) := bo
 refine st (zH (r := ((k + 1 : Nat) : Int)) (k := .i64) (a := ((k : Nat) : Int)) (b := 1) rfl rfl (by rw [show (((k : Nat) : Int) + 1 : Int) = ((k + 1 : Nat) : Int) from bo]; exact zz br) (st (aS (Iw (k + 1)) (zb ?_))))
 have bs : (d.projs.take (k + 1)) = (d.projs.take k) ++ [(d.projs.getD k default)] := (List.take_getD om)
 rw [← bs] at ao
 exact ⟨_, by omega, k + 1, h, _, rfl, sSf, by omega, ao⟩
 have N := tD N
 refine zj rfl (zk (za (zn (za (R0 fun _ => ?_)))))
 have ok205 : Typ.Ok (⟨[]⟩ : Typ) := ⟨⟩
 refine st (zQ (parts' := []) (v := .agg ((⟨[]⟩ : Typ).cells (Iz)).toArray) rfl yqf (st (zr sY ?_)))
 intro w208 z bt
 have ap := M.new bt
 refine stn (zp (v := .agg ((⟨[]⟩ : Typ).cells (Iz)).toArray) (c' := ((⟨[]⟩ : Typ).cells (Iz)).toArray) qT rfl rfl (ap.b0) (zW ⟨rfl, trivial⟩) yqc rfl ?_)
 intro w210 bu
 refine zb (za (za (R0 fun _ => st (aS (Iv 0) (zb (zn ?_))))))
 have bv : Sep _ _ ((RowE (α := Fld) own 79 (Iz) ([] : List Fld)) :: _) _ := (ap.pt0 bu).rowNil own 79
 refine zX (fun mq σ s => ∃ (q : Nat) (vq : Value) (ρ : Env), mq = ((d.types.getD k default).fields).length - q ∧ σ = yb ρ [(1, Ix b2 0), (2, Ix E 0), (3, Ix u 0), (4, Iw k), (5, Ix z 0), (6, Iw q)] ∧ (q ≤ ((d.types.getD k default).fields).length) ∧ Sep G W ((RowE (α := Fld) own 79 vq (((d.types.getD k default).fields).take q)) :: (Blk z #[vq] 33) :: (TypW vo 33 79 (d.types.take k)) :: (Blk u #[vo, (Iz)] 25) :: (Blk E #[(Iz), (Iz)] 25) :: (Blk b2 (d.cells dd0 dd1).toArray 25) :: Rs) s) ⟨0, (Iz), _, rfl, sSf, Nat.zero_le _, bv⟩ ?_
 rintro m215 σ216 w214 ⟨q, vq, ρl3, rfl, rfl, hkq, o⟩
 have bw := o.r0
 have hr218s : _ * 48 ≤ _ := bw.2
 refine za (za (R0 fun _ => st (mV (Iw q) (st (yn rfl (st (lD dd0 oT rfl (zd (o.b5) rfl) (st (mV (Iw k) ?_)))))))))
 have bx : k < d.types.length := bo
 refine st (ze (k := 1) (i := k) pT qT rfl hdd0.sl rfl bx (st (yv rfl ?_)))
 have S : k < d.types.length := bo
 obtain ⟨ab, g, hoke220⟩ := hdd0.typD S
 have hsm222 : ((d.types.getD k default).fields).length * 48 ≤ 140737488355328 := g.small
 have aU := o.cells ab (hdd0.foot (ne_of_lt S))
 refine st (lD (zy W (sb dd0) (so dd0 + k * 1 + 0)) rT rfl (aU.get (j := 0) rfl) (st (zA (n := ((d.types.getD k default).fields).length) vT rfl g.sl (st (zD (k := .i64) (a := ((q : Nat) : Int)) (b := ((((d.types.getD k default).fields).length : Nat) : Int)) rfl rfl (zb ?_))))))
 cases F : decide (((q : Nat) : Int) < ((((d.types.getD k default).fields).length : Nat) : Int))
 have F := fD F
 have hkn : q = ((d.types.getD k default).fields).length := by omega
 rw [hkn, List.take_of_length_le (Nat.le_refl ((d.types.getD k default).fields).length)] at o
 have aq := o.r0
 have hr225s : _ * 48 ≤ _ := aq.2
 refine zi rfl (zU (zI (R0 fun _ => st (yn rfl (st (lD vo oT rfl (zd (o.b3) rfl) ?_))))))
 have ok226 : Typ.Ok (d.types.getD k default) := ⟨⟩
 refine st (zg (k := 1) Tryd.isAgg33 qT rfl rfl (CellsAt.all (o.b1)) (st (zu (k := 1) (parts' := [(0, .agg ((d.types.getD k default).cells vq).toArray)]) (c := ((d.types.getD k default).cells vq).toArray) pT qT sY dc rfl kr ?_)))
 intro cq cr bz
 obtain ⟨ar, ac, bA⟩ := TypW.open ((o.new bz).mv3)
 have I : Sep G W ((RowE (α := TypS) own 33 vo ar) :: (Star (FldRows 79 ar (d.types.take k))) :: (Blk cr ((d.types.getD k default).cells vq).toArray 33) :: (RowE (α := Fld) own 79 vq ((d.types.getD k default).fields)) :: (Blk z #[vq] 33) :: (Blk u #[vo, (Iz)] 25) :: (Blk E #[(Iz), (Iz)] 25) :: (Blk b2 (d.cells dd0 dd1).toArray 25) :: Rs) cq := bA
 have bB := I.r0
 have hr235s : _ * 24 ≤ _ := bB.2
 have aJ := ac
 rw [List.length_take] at aJ
 have aV := I.b2
 refine st (yj (src := own) (bytes := 24) (x1 := (⟨vq⟩ : TypS)) ((I.s8_abdefgh).emp1) el22 rfl rfl aV (fun _ _ _ => (show _ from ⟨rfl, ⟨aq.1.one⟩⟩)) yqb rfl ?_)
 intro U w236 au
 have bC := au.r0
 have hr242s : _ * 24 ≤ _ := bC.2
 have V : Sep _ _ ((TypW U 33 79 ((d.types.take k) ++ [(d.types.getD k default)])) :: _) _ := TypW.snoc (c := (d.types.getD k default)) ac au
 refine st (yn rfl (stn (yp (v := U) (c := [vo, (Iz)]) (c' := [U, (Iz)]) Tryd.sizeOf22 rfl rfl (V.b2) (V.typSl (i := 0) rfl).one rfl rfl ?_)))
 intro w244 bD
 refine zb (R0 fun _ => st (mV (Iw k) ?_))
 have bE : InR ((k + 1 : Nat) : Int) := bo
 refine st (zH (r := ((k + 1 : Nat) : Int)) (k := .i64) (a := ((k : Nat) : Int)) (b := 1) rfl rfl (by rw [show (((k : Nat) : Int) + 1 : Int) = ((k + 1 : Nat) : Int) from bo]; exact zz bE) (st (aS (Iw (k + 1)) (zb ?_))))
 have av := (V.pt2 bD).s5_acde
 have bF : d.types.take (k + 1) = ((d.types.take k) ++ [(d.types.getD k default)]) := (List.take_getD om)
 rw [← bF] at av
 exact ⟨_, by omega, k + 1, U, _, rfl, sSf, by omega, av⟩
 have F := tD F
 refine zj rfl (zk (za (zn ?_)))
 refine WD4 ((fun TT L C => WF [fun vals s => Sep G W (L :: C :: TT) s, fun vals s => ∃ (e : Value), (vals 11 = (.agg ((((d.types.getD k default).fields).getD q default).cells e).toArray : Value)) ∧ Sep G W ((RowE (α := Mv) own 115 e ((((d.types.getD k default).fields).getD q default).moves)) :: L :: C :: TT) s, fun vals s => ∃ (e : Value) (l : Nat), (vals 11 = (.agg ((((d.types.getD k default).fields).getD q default).cells e).toArray : Value)) ∧ (vals 12 = ((Iy l 1 1) : Value)) ∧ Sep G W ((Blk l ((((d.types.getD k default).fields).getD q default).cells e).toArray 79) :: (RowE (α := Mv) own 115 e ((((d.types.getD k default).fields).getD q default).moves)) :: L :: C :: TT) s, fun vals s => ∃ (e : Value) (l : Nat) (m : Value), (vals 11 = (.agg ((((d.types.getD k default).fields).getD q default).cells e).toArray : Value)) ∧ (vals 12 = ((Iy l 1 1) : Value)) ∧ (vals 13 = (m : Value)) ∧ Sep G W ((RowE (α := Fld) own 79 m ((((d.types.getD k default).fields).take q) ++ [(((d.types.getD k default).fields).getD q default)])) :: C :: TT) s, fun vals s => ∃ (e : Value) (l : Nat) (m : Value), (vals 11 = (.agg ((((d.types.getD k default).fields).getD q default).cells e).toArray : Value)) ∧ (vals 12 = ((Iy l 1 1) : Value)) ∧ (vals 13 = (m : Value)) ∧ Sep G W ((RowE (α := Fld) own 79 m ((((d.types.getD k default).fields).take q) ++ [(((d.types.getD k default).fields).getD q default)])) :: (Blk z #[m] 33) :: TT) s]) ((TypW vo 33 79 (d.types.take k)) :: (Blk u #[vo, (Iz)] 25) :: (Blk E #[(Iz), (Iz)] 25) :: (Blk b2 (d.cells dd0 dd1).toArray 25) :: Rs) (RowE (α := Fld) own 79 vq (((d.types.getD k default).fields).take q)) (Blk z #[vq] 33)) (AF [Vl 0 (Ix z 0), Vl 1 (vq), Vl 2 (Ix b2 0), Vl 3 (dd0), Vl 4 (Iw k), Vl 5 (Ix (sb dd0) (so dd0 + k * 1)), Vl 6 (Ix (sb dd0) (so dd0 + k * 1)), Vl 7 ((zy W (sb dd0) (so dd0 + k * 1 + 0))), Vl 8 (Iw q), Vl 9 (Ix (sb (zy W (sb dd0) (so dd0 + k * 1 + 0))) (so (zy W (sb dd0) (so dd0 + k * 1 + 0)) + q * 4)), Vl 10 (.agg ((((d.types.getD k default).fields).getD q default).cells (zy W (sb (zy W (sb dd0) (so dd0 + k * 1 + 0))) (so (zy W (sb dd0) (so dd0 + k * 1 + 0)) + q * 4 + 3))).toArray), fun _ => True, fun _ => True, fun _ => True, Vl 14 (Ix z 0), fun _ => True]) [[], [0], [], [2], [], [2, 3, 4], [2, 3, 4, 5], [2, 3, 4, 5, 6], [], [2, 3, 4, 5, 6, 7, 8], [2, 3, 4, 5, 6, 7, 8, 9], [2, 3, 4, 5, 6, 7, 8, 9, 10], [2, 3, 4, 5, 6, 7, 8, 9, 10, 11], (rg 13), (rg 14), (rg 15)] [11, 12, 13, 15] [(0, 2), (0, 2), (0, 0), (0, 0), (0, 0), (0, 0), (0, 0), (0, 0), (0, 0), (0, 0), (0, 0), (0, 0), (1, 1), (2, 2), (3, 3), (3, 3)] o ⟨fun _ _ _ _ _ _ _ => obl rfl (yv rfl dR), ?_, fun _ _ _ _ _ _ _ => obl rfl (yn rfl dR), ob1 0 fun _ _ (bG : Sep _ _ _ _) bH => obl rfl (lD dd0 oT (bH 2 dc) (zd (bG.b5) rfl) dR), fun _ _ _ _ _ _ _ => obl rfl (mV (Iw k) dR), ?_, fun _ _ _ _ _ _ bI => obl rfl (yv (bI 5 dc) dR), ?_, fun _ _ _ _ _ _ _ => obl rfl (mV (Iw q) dR), ?_, ?_, ?_, ?_, ?_, fun _ _ _ _ _ _ _ => obl rfl (yv rfl dR), ?_, trivial⟩ ?_
 refine fun J _ _ cs ct X Y => ?_
 have hkk : J = 0 ∨ J = 1 ∨ J = 2 := by have h1 : 0 ≤ J := cs; have h2 : J ≤ 2 := ct; omega
 rcases hkk with rfl | rfl | rfl
 have bJ : Sep _ _ _ _ := X
 exact obl rfl (lD vq rT (Y 0 dc) (zd (bJ.b1) rfl) dR)
 obtain ⟨e, p, bK⟩ := X
 exact obl rfl (lD vq rT (Y 0 dc) (zd (bK.b2) rfl) dR)
 obtain ⟨e, l, p, B, bL⟩ := X
 exact obl rfl (lD vq rT (Y 0 dc) (zd (bL.b3) rfl) dR)
 refine ob1 0 fun _ _ _ aw => (obl rfl ?_)
 have bM : k < d.types.length := bo
 exact ze (k := 1) (i := k) pT qT (aw 3 dc) hdd0.sl (aw 4 dc) bM dR
 refine ob1 0 fun _ _ (bN : Sep _ _ _ _) bO => (obl rfl ?_)
 have aW := bN.cells ab (hdd0.foot (ne_of_lt S))
 exact lD (zy W (sb dd0) (so dd0 + k * 1 + 0)) rT (bO 6 dc) (aW.get (j := 0) rfl) dR
 refine ob1 0 fun _ _ _ ax => (obl rfl ?_)
 have bP : q < ((d.types.getD k default).fields).length := bo
 exact ze (k := 4) (i := q) vT mT (ax 7 dc) g.sl (ax 8 dc) bP dR
 refine ob1 0 fun _ _ (bQ : Sep _ _ _ _) bR => (obl rfl ?_)
 have ay : q < ((d.types.getD k default).fields).length := bo
 obtain ⟨aX, ad, hoke494⟩ := g.fldD ay
 have hsm496 : ((((d.types.getD k default).fields).getD q default).moves).length * 32 ≤ 140737488355328 := ad.small
 have aY := bQ.cells aX (g.foot (ne_of_lt ay))
 exact zg (k := 4) tT mT rfl (bR 9 dc) aY dR
 refine ob1 0 fun vals _ (az : Sep _ _ _ _) bS => (obl rfl ?_)
 have aA : q < ((d.types.getD k default).fields).length := bo
 obtain ⟨aZ, K, aK⟩ := g.fldD aA
 have hsm349 : ((((d.types.getD k default).fields).getD q default).moves).length * 32 ≤ 140737488355328 := K.small
 have hcw350 := az.cells aZ (g.foot (ne_of_lt aA))
 refine (zV (f := 56) (vals := [.agg ((((d.types.getD k default).fields).getD q default).cells (zy W (sb (zy W (sb dd0) (so dd0 + k * 1 + 0))) (so (zy W (sb dd0) (so dd0 + k * 1 + 0)) + q * 4 + 3))).toArray]) (cap := []) rfl (yH ⟨(bS 10 dc), trivial⟩) Tryd.call56 (Vi (f := (((d.types.getD k default).fields).getD q default)) K aK az) ?_)
 rintro _ w352 ⟨e, rfl, aB⟩
 have bT := aB.r0
 have hr354s : _ * 32 ≤ _ := bT.2
 exact fun A H t => ⟨(Exists.intro e (And.intro H aB)), trivial⟩
 refine ob1 1 fun _ _ bU _ => ?_
 obtain ⟨e, p, bV⟩ := bU
 refine obl rfl ((zu (k := 4) (parts' := [(0, .agg ((((d.types.getD k default).fields).getD q default).cells e).toArray)]) (c := ((((d.types.getD k default).fields).getD q default).cells e).toArray) vT mT lR dc (xF ⟨rfl, p, trivial⟩) kr ?_))
 intro w365 l bW
 exact fun A H t => ⟨(Exists.intro e (Exists.intro l (And.intro ((t 11 dc).trans p) (And.intro H (bV.new bW))))), trivial⟩
 refine ob1 2 fun _ _ bX bY => ?_
 obtain ⟨e, l, p, B, aC⟩ := bX
 refine obl rfl ?_
 have ba := aC.b0
 have aD := aC.s8_cbdefgh
 have aE : q < ((d.types.getD k default).fields).length := bo
 obtain ⟨bb, ae, aL⟩ := g.fldD aE
 have hsm383 : ((((d.types.getD k default).fields).getD q default).moves).length * 32 ≤ 140737488355328 := ae.small
 have hcw384 := aD.cells bb (g.foot (ne_of_lt aE))
 refine (yj (src := own) (bytes := 48) (x1 := (((d.types.getD k default).fields).getD q default)) aD el31 (bY 1 (by decide)) B ba (fun _ _ hN => ⟨_, rfl, RowE.soft hN, aL⟩) yqb rfl ?_)
 intro m w376 aF
 have bZ := aF.r0
 have hr385s : _ * 48 ≤ _ := bZ.2
 exact fun A H t => ⟨(Exists.intro e (Exists.intro l (Exists.intro m (And.intro ((t 11 dc).trans p) (And.intro ((t 12 dc).trans B) (And.intro H aF)))))), trivial⟩
 refine ob1 3 fun _ _ ca cb => ?_
 obtain ⟨e, l, m, p, B, Z, aa⟩ := ca
 refine obl rfl ?_
 have aG := aa.r0
 have hr403s : _ * 48 ≤ _ := aG.2
 refine (yp (v := m) (c := [vq]) (c' := [m]) Tryd.sizeOf31 (cb 14 dc) Z (aa.b1) aG.1.one rfl rfl ?_)
 intro w401 cc
 exact fun A H t => ⟨(Exists.intro e (Exists.intro l (Exists.intro m (And.intro ((t 11 dc).trans p) (And.intro ((t 12 dc).trans B) (And.intro ((t 13 dc).trans Z) (aa.pt1 cc))))))), trivial⟩
 intro vals w504 cd hA506
 obtain ⟨e, l, m, p, B, Z, aH⟩ := cd
 refine zZ (kv := [(1, Ix b2 0), (2, Ix E 0), (3, Ix u 0), (4, Iw k), (5, Ix z 0), (6, Iw q), (16, Iw q), (17, Ix b2 0), (18, dd0), (19, Iw k), (20, Ix (sb dd0) (so dd0 + k * 1)), (21, Ix (sb dd0) (so dd0 + k * 1)), (22, (zy W (sb dd0) (so dd0 + k * 1 + 0))), (23, Iw (((d.types.getD k default).fields).length)), (24, .bool true)]) sEv (fun ρw504 => (zb (R0 fun _ => st (mV (Iw q) ?_))))
 have ce : InR ((q + 1 : Nat) : Int) := bo
 refine st (zH (r := ((q + 1 : Nat) : Int)) (k := .i64) (a := ((q : Nat) : Int)) (b := 1) rfl rfl (by rw [show (((q : Nat) : Int) + 1 : Int) = ((q + 1 : Nat) : Int) from bo]; exact zz ce) (st (aS (Iw (q + 1)) (zb ?_))))
 have cf : (((d.types.getD k default).fields).take (q + 1)) = (((d.types.getD k default).fields).take q) ++ [(((d.types.getD k default).fields).getD q default)] := (List.take_getD om)
 rw [← cf] at aH
 exact ⟨_, by omega, q + 1, m, _, rfl, sSf, by omega, aH⟩

end Go.Proofs.YtlblilbmpdejgaaDoor
namespace Go.Proofs.YtlblilbmpdejgaaDoor
open Go.RowKit
def MildV (a b : Value) : Prop := b = a ∨ ∃ m n : Int, a = .int .i64 m ∧ b = .int .i64 n ∧ InR n
def ML (w0 : World) (f0 : Nat → Prop) (X : Nat → Nat → Prop) : HP :=
  ⟨fun w f => ∀ b, f0 b → f b ∧ Soft w b ∧ ∀ o v, w0.cell? ⟨b, o, none⟩ = some v → ∃ v', w.cell? ⟨b, o, none⟩ = some v' ∧ (X b o ∨ MildV v v'), by
    intro w w' f f' h hf b hb
    obtain ⟨h1, h2, h3⟩ := h b hb
    have hlt : b < w.heap.size := by obtain ⟨c, T, hc⟩ := h2; exact xp hc
    have e := hf b h1 hlt
    refine ⟨e.2, h2.keep e.1, fun o v hv => ?_⟩
    rw [Zt e.1]; exact h3 o v hv⟩
def noX : Nat → Nat → Prop := fun _ _ => False
theorem IsSl.num {v : Value} {n : Nat} (h : IsSl v n) (m : Int) : v ≠ .int .i64 m := by obtain ⟨a, cap, rfl, _⟩ := h; intro e; cases e
section
variable {α : Type} [Rep α] {G : Nat → Prop} {W w w0 : World} {As : List HP} {T : TypeId} {v : Value} {l : List α} {f0 : Nat → Prop} {X : Nat → Nat → Prop}
theorem Sep.toML (h : Sep G W (RowE own T v l :: As) w) : ∃ f0, RdS w f0 v l ∧ Sep G W (ML w f0 noX :: As) w := by
  obtain ⟨f, hA, hl, hT⟩ := h.take (i := 0) rfl
  exact ⟨fun b => f b ∧ Soft w b, RowE.soft hA, hT w _ f (Chg.refl _ _) (fun b hb => ⟨hb.1, hb.2, fun o v hv => ⟨v, hv, .inr (.inl rfl)⟩⟩) (fun _ h => .inl h)⟩
theorem Sep.mlHead {i b o j : Nat} {cs : List Value} {u : Value} (h : Sep G W As w) (hi : As[i]? = some (ML w0 f0 X)) (hb : f0 b) (hc : CellsAt w0 b o cs) (hj : cs[j]? = some u) (hX : ¬ X b (o + j)) (hn : ∀ m, u ≠ .int .i64 m) : w.cell? ⟨b, o + j, none⟩ = some u := by
  obtain ⟨f, hA, _⟩ := h.get hi
  obtain ⟨_, _, h3⟩ := hA b hb
  obtain ⟨v', h4, h5⟩ := h3 _ _ (hc.get hj)
  rcases h5 with h5 | h5 | ⟨m, n, h5, _⟩
  · exact absurd h5 hX
  · rw [h4, h5]
  · exact absurd h5 (hn m)
theorem Sep.mlCells {i b o : Nat} {cs : List Value} (h : Sep G W As w) (hi : As[i]? = some (ML w0 f0 X)) (hb : f0 b) (hc : CellsAt w0 b o cs) (hX : ∀ j, j < cs.length → ¬ X b (o + j)) : ∃ cs', cs'.length = cs.length ∧ CellsAt w b o cs' ∧ ∀ (j : Nat) v, cs[j]? = some v → ∃ v', cs'[j]? = some v' ∧ MildV v v' := by
  obtain ⟨f, hA, _⟩ := h.get hi
  obtain ⟨_, _, h3⟩ := hA b hb
  refine ⟨cs.mapIdx (fun j _ => (w.cell? ⟨b, o + j, none⟩).getD undef), by simp, fun j hj => ?_, fun j v hj => ?_⟩
  · have hj' : j < cs.length := by simpa using hj
    obtain ⟨v', h4, h5⟩ := h3 _ _ (hc j hj')
    simp [h4]
  · obtain ⟨hlt, rfl⟩ := List.getElem?_eq_some_iff.1 hj
    obtain ⟨v', h4, h5⟩ := h3 _ _ (hc j hlt)
    refine ⟨v', ?_, h5.resolve_left (hX j hlt)⟩
    rw [List.getElem?_mapIdx, List.getElem?_eq_getElem hlt]
    simp [h4]
end
theorem WL {w : World} {b o : Nat} {c : Array Value} {T : TypeId} (h : w.heap[b]? = some (.cells c T)) : w.cell? ⟨b, o, none⟩ = c[o]? := by
  unfold World.cell?; simp [h]
theorem UL {c : Array Value} {o : Nat} {us : List Value} (h : o + us.length ≤ c.size) (p : Nat) : (YI c o us)[p]? = if o ≤ p ∧ p < o + us.length then us[p - o]? else c[p]? := by
  unfold YI
  simp only [List.getElem?_toArray]
  have hl : (c.toList.take o).length = o := by simp; omega
  by_cases h1 : p < o
  · rw [if_neg (by omega), List.append_assoc, List.getElem?_append_left (by rw [hl]; exact h1), List.getElem?_take, if_pos h1]; simp
  · by_cases h2 : p < o + us.length
    · rw [if_pos ⟨by omega, h2⟩, List.getElem?_append_left (by rw [List.length_append, hl]; exact h2), List.getElem?_append_right (by rw [hl]; omega), hl]
    · rw [if_neg (by omega), List.getElem?_append_right (by rw [List.length_append, hl]; omega), List.length_append, hl, List.getElem?_drop, show o + us.length + (p - (o + us.length)) = p by omega]; simp
section
variable {P : Program} {d : Option Tmp} {ty : TypeId} {pos : String} {af : Array Edge} {gd : Option (Nat × Bool)} {σ : Env} {w w0 : World} {K : Value → World → Prop} {G : Nat → Prop} {W : World} {As : List HP} {f0 : Nat → Prop} {X X' : Nat → Nat → Prop}
theorem xY {t : TypeId} {b o : Nat} {x y : Operand} {u : Value} {us cs : List Value} (h : Sep G W (ML w0 f0 X :: As) w) (hS : ∀ w, (sizeOf t).run P w = .ok us.length w) (hx : ev σ x = .pointer (some ⟨b, o, none⟩)) (hb : f0 b)
    (hy : ev σ y = u) (hu : u.cells.toList = us) (h1 : ∀ u ∈ us, u.oneCell' = true) (hc : CellsAt w0 b o cs) (hl : cs.length = us.length) (hpos : 0 < us.length)
    (hm : ∀ (j : Nat) v v', cs[j]? = some v → us[j]? = some v' → X' b (o + j) ∨ MildV v v') (hXX : ∀ b o, X b o → X' b o) (hK : ∀ w', Sep G W (ML w0 f0 X' :: As) w' → K undef w') : opV P ⟨d, .store t x y, ty, pos, af, gd⟩ σ w K := by
  obtain ⟨f, hA, hfl⟩ := h.get (i := 0) rfl
  obtain ⟨hfb, ⟨c, T, hbk⟩, h3⟩ := hA b hb
  have hfit : o + us.length ≤ c.size := by
    obtain ⟨v', h4, _⟩ := h3 _ _ (hc (us.length - 1) (by omega))
    rw [WL hbk] at h4
    obtain ⟨h5, _⟩ := Array.getElem?_eq_some_iff.1 h4
    omega
  refine zp (v := u) (c := c) (T := T) (by intro w; rw [hS, ← hu]; simp) hx hy hbk (by rw [hu]; exact h1) (by rw [hu]; exact hfit) rfl (fun w1 hp => hK w1 ?_)
  refine h.upd (i := 0) (B := ML w0 f0 X') rfl (fun f hA hl9 => ?_)
  refine ⟨hp.chg.weak (fun i _ hi => by subst hi; exact (hA _ hb).1), f, fun b' hb' => ?_, fun _ hb => .inl hb⟩
  obtain ⟨h5, h6, h7⟩ := hA b' hb'
  by_cases e : b' = b
  · subst e
    refine ⟨h5, ⟨_, _, hp.at_⟩, fun p v hv => ?_⟩
    obtain ⟨v', h8, h9⟩ := h7 p v hv
    rw [WL hbk] at h8
    rw [WL hp.at_, hu, UL hfit]
    by_cases hr : o ≤ p ∧ p < o + us.length
    · rw [if_pos hr]
      have hlt : p - o < us.length := by omega
      refine ⟨us[p - o], List.getElem?_eq_getElem hlt, ?_⟩
      have h10 := hc (p - o) (by omega)
      rw [show o + (p - o) = p by omega, hv] at h10
      have h11 := hm (p - o) v us[p - o] (by rw [List.getElem?_eq_getElem (by omega)]; exact h10.symm) (List.getElem?_eq_getElem hlt)
      rw [show o + (p - o) = p by omega] at h11
      exact h11
    · rw [if_neg hr]
      exact ⟨v', h8, h9.imp (hXX _ _) id⟩
  · have e2 := hp.chg.block b' (by obtain ⟨c, T, hc⟩ := h6; exact xp hc) e
    refine ⟨h5, h6.keep e2, fun p v hv => ?_⟩
    obtain ⟨v', h8, h9⟩ := h7 p v hv
    exact ⟨v', by rw [Zt e2]; exact h8, h9.imp (hXX _ _) id⟩
end
def MildAll : List Value → List Value → Prop
  | a :: xs, b :: ys => MildV a b ∧ MildAll xs ys
  | _, _ => True
theorem MildAll.at_ : ∀ {xs ys : List Value}, MildAll xs ys → ∀ (j : Nat) v v', xs[j]? = some v → ys[j]? = some v' → MildV v v'
  | _ :: _, _ :: _, h, 0, _, _, h1, h2 => by
    simp only [List.getElem?_cons_zero, Option.some.injEq] at h1 h2
    subst h1; subst h2; exact h.1
  | _ :: _, _ :: _, h, j + 1, _, _, h1, h2 => MildAll.at_ h.2 j _ _ (by simpa using h1) (by simpa using h2)
  | [], _, _, j, _, _, h1, _ => by simp at h1
  | _ :: _, [], _, j, _, _, _, h2 => by simp at h2
theorem MildV.num {m n : Int} (h : InR n) : MildV (.int .i64 m) (.int .i64 n) := .inr ⟨m, n, rfl, rfl, h⟩
end Go.Proofs.YtlblilbmpdejgaaDoor
set_option maxRecDepth 8000
set_option maxHeartbeats 4000000
namespace Go.Proofs.YtlblilbmpdejgaaDoor
open Go.Proofs Go.RowKit

theorem VG {G : Nat → Prop} {W w : World} {Rs : List HP} {i : Int} (hi : InR i) (hS0 : Sep G W Rs w) : Ret Tryd.prog 62 [.int .i64 (i)] w (fun r w' => ∃ (m : Int), r = (.int .i64 (m) : Value) ∧ (InR m) ∧ Sep G W Rs w') := by
 refine zl (args := [Iv i]) Tryd.func62 rfl rfl ?_
 refine za (R0 fun _ => st (aS (Iv 0) (zb (za (R0 fun _ => st (mV (Iv i) (st (Jw (r := IntKind.i64.wrap (13 * i)) (k := .i64) (a := 13) (b := i) rfl rfl rfl (st (zH (r := IntKind.i64.wrap (7001 + (IntKind.i64.wrap (13 * i)))) (k := .i64) (a := 7001) (b := IntKind.i64.wrap (13 * i)) rfl rfl rfl (st (aS (Iv (IntKind.i64.wrap (7001 + (IntKind.i64.wrap (13 * i))))) (zb (zm (zL Tryd.results62 (show _ = (Iv (IntKind.i64.wrap (7001 + (IntKind.i64.wrap (13 * i)))) : Value) from rfl) ?_)))))))))))))))
 refine ⟨IntKind.i64.wrap (7001 + (IntKind.i64.wrap (13 * i))), rfl, ?_, hS0⟩
 exact ZC _

theorem Za {G : Nat → Prop} {W w : World} {Rs : List HP} {w0 : World} {f0 : Nat → Prop} {X : Nat → Nat → Prop} {vl : Value} {l : List Int} (hl9 : RdS w0 f0 vl l) (hS0 : Sep G W ((ML w0 f0 X) :: Rs) w) : Ret Tryd.prog 30 [vl] w (fun r w' => r = (.tuple #[] : Value) ∧ Sep G W ((ML w0 f0 X) :: Rs) w') := by
 have hl9s : _ * 8 ≤ _ := hl9.small
 refine zl (args := [vl]) Tryd.func30 rfl rfl ?_
 refine za (R0 fun _ => st (aS (Iv 0) (zb (zn (zX (fun mq σ t => ∃ (k : Nat) (ρ : Env), mq = l.length - k ∧ σ = yb ρ [(0, vl), (2, Iw k)] ∧ (k ≤ l.length) ∧ Sep G W ((ML w0 f0 X) :: Rs) t) ⟨0, _, rfl, sSf, Nat.zero_le _, hS0⟩ ?_)))))
 rintro m2 σ3 w1 ⟨k, ρl1, rfl, rfl, hkk, f⟩
 refine za (za (R0 fun _ => st (mV (Iw k) (st (mV vl (st (zA (n := l.length) rR rfl hl9.sl (st (zD (k := .i64) (a := ((k : Nat) : Int)) (b := ((l.length : Nat) : Int)) rfl rfl (zb ?_))))))))))
 cases c : decide (((k : Nat) : Int) < ((l.length : Nat) : Int))
 have c := fD c
 refine zi rfl (zU (zI (XO Tryd.results30 ?_)))
 refine ⟨rfl, f⟩
 have c := tD c
 refine zj rfl (zk (za (zn (R0 fun _ => st (mV vl (st (mV (Iw k) (st (mV (Iw k) ?_)))))))))
 have g : InR ((k + 7 : Nat) : Int) := bo
 refine st (zH (r := ((k + 7 : Nat) : Int)) (k := .i64) (a := ((k : Nat) : Int)) (b := 7) rfl rfl (by rw [show (((k : Nat) : Int) + 7 : Int) = ((k + 7 : Nat) : Int) from bo]; exact zz g) (st (cL Tryd.call62 (VG (i := ((k + 7 : Nat) : Int)) g f) ?_)))
 rintro _ w9 ⟨j, rfl, hr8, m⟩
 have p : k < l.length := bo
 refine st (ze (k := 1) (i := k) rR sR rfl hl9.sl rfl p ?_)
 have d : k < l.length := bo
 obtain ⟨e, _⟩ := hl9.int d
 refine stn (xY (b := sb vl) (o := so vl + k * 1) (u := Iv j) (us := [Iv j]) (X' := X) m sR rfl (hl9.foot (ne_of_lt d)) rfl rfl (zW ⟨rfl, trivial⟩) e rfl (Nat.zero_lt_succ _) (fun v x y z A => .inr (MildAll.at_ (show MildAll [Iv (l[k])] [Iv j] from ⟨MildV.num om, trivial⟩) v x y z A)) (fun _ _ h => h) ?_)
 intro w12 q
 refine zb (R0 fun _ => st (mV (Iw k) ?_))
 have s : InR ((k + 1 : Nat) : Int) := bo
 refine st (zH (r := ((k + 1 : Nat) : Int)) (k := .i64) (a := ((k : Nat) : Int)) (b := 1) rfl rfl (by rw [show (((k : Nat) : Int) + 1 : Int) = ((k + 1 : Nat) : Int) from bo]; exact zz s) (st (aS (Iw (k + 1)) (zb ?_))))
 exact ⟨_, by omega, k + 1, _, rfl, sSf, by omega, q⟩

theorem UJ {G : Nat → Prop} {W w : World} {Rs : List HP} {w0 : World} {f0 : Nat → Prop} {x : Sta} {vs : Value} (hs9 : RdS w0 f0 vs x.cls) (ox : x.Ok) (hS0 : Sep G W ((ML w0 f0 noX) :: Rs) w) : Ret Tryd.prog 35 [.agg (x.cells vs).toArray] w (fun r w' => r = (.tuple #[] : Value) ∧ Sep G W Rs w') := by
 have hs9s : _ * 32 ≤ _ := hs9.small
 refine zl (args := [.agg (x.cells vs).toArray]) Tryd.func35 rfl rfl ?_
 refine za (R0 fun _ => st (zR (v := .agg (x.cells vs).toArray) rfl ?_))
 intro w3 b2 z
 refine zb (za (R0 fun _ => st (aS (Iv 0) (zb (zn (zX (fun mq σ A => ∃ (k : Nat) (ρ : Env), mq = x.cls.length - k ∧ σ = yb ρ [(1, Ix b2 0), (2, Iw k)] ∧ (k ≤ x.cls.length) ∧ Sep G W ((Blk b2 (x.cells vs).toArray 68) :: (ML w0 f0 noX) :: Rs) A) ⟨0, _, rfl, sSf, Nat.zero_le _, (hS0.new z)⟩ ?_))))))
 rintro m6 σ7 w5 ⟨k, ρl1, rfl, rfl, hkk, d⟩
 refine za (za (R0 fun _ => st (mV (Iw k) (st (yw rfl (st (lD vs lY rfl (zd (d.b0) rfl) (st (zA (n := x.cls.length) mY rfl hs9.sl (st (zD (k := .i64) (a := ((k : Nat) : Int)) (b := ((x.cls.length : Nat) : Int)) rfl rfl (zb ?_))))))))))))
 cases e : decide (((k : Nat) : Int) < ((x.cls.length : Nat) : Int))
 have e := fD e
 refine zi rfl (zU (zI (XO Tryd.results35 ?_)))
 refine ⟨rfl, (d.s2_)⟩
 have e := tD e
 refine zj rfl (zk (za (zn (za (R0 fun _ => st (yw rfl (st (lD vs lY rfl (zd (d.b0) rfl) (st (mV (Iw k) ?_))))))))))
 have q : k < x.cls.length := bo
 refine st (ze (k := 2) (i := k) mY tY rfl hs9.sl rfl q (st (yC rfl ?_)))
 have f : k < x.cls.length := bo
 obtain ⟨m, c, _⟩ := hs9.celD f
 refine st (lD (zy w0 (sb vs) (so vs + k * 2 + 1)) uY rfl (d.mlHead (i := 1) rfl (hs9.foot (ne_of_lt f)) m (j := 1) rfl (fun h => h) (IsSl.num c.sl)) (st (cL Tryd.call30 (Za  c (d.mv1)) ?_)))
 rintro _ w15 ⟨rfl, g⟩
 refine zb (R0 fun _ => st (yw rfl (st (lD vs lY rfl (zd (g.b1) rfl) (st (mV (Iw k) ?_))))))
 have s : k < x.cls.length := bo
 refine st (ze (k := 2) (i := k) mY tY rfl hs9.sl rfl s (st (yL rfl ?_)))
 have l : k < x.cls.length := bo
 obtain ⟨p, hde19_0, _⟩ := hs9.celD l
 refine stn (xY (b := sb vs) (o := so vs + k * 2) (u := Iv (-77)) (us := [Iv (-77)]) (X' := noX) g sR rfl (hs9.foot (ne_of_lt l)) rfl rfl (zW ⟨rfl, trivial⟩) (CellsAt.sub p 0 (cs2 := [Iv ((x.cls.getD k default).n)]) rfl) rfl (Nat.zero_lt_succ _) (fun B C D E F => .inr (MildAll.at_ (show MildAll [Iv ((x.cls.getD k default).n)] [Iv (-77)] from ⟨MildV.num dc, trivial⟩) B C D E F)) (fun _ _ h => h) ?_)
 intro w18 t
 refine zb (R0 fun _ => st (mV (Iw k) ?_))
 have y : InR ((k + 1 : Nat) : Int) := bo
 refine st (zH (r := ((k + 1 : Nat) : Int)) (k := .i64) (a := ((k : Nat) : Int)) (b := 1) rfl rfl (by rw [show (((k : Nat) : Int) + 1 : Int) = ((k + 1 : Nat) : Int) from bo]; exact zz y) (st (aS (Iw (k + 1)) (zb ?_))))
 exact ⟨_, by omega, k + 1, _, rfl, sSf, by omega, (t.mv1)⟩

theorem Sep.mlX {G : Nat → Prop} {W w w0 : World} {As : List HP} {f0 : Nat → Prop} {X X' : Nat → Nat → Prop} (h : Sep G W (ML w0 f0 X :: As) w) (hX : ∀ b o, X b o → X' b o) : Sep G W (ML w0 f0 X' :: As) w :=
  h.impl (i := 0) rfl (fun f hA b hb => ⟨(hA b hb).1, (hA b hb).2.1, fun o v hv => by obtain ⟨v', h1, h2⟩ := (hA b hb).2.2 o v hv; exact ⟨v', h1, h2.imp (hX _ _) id⟩⟩)
def Xf (v : Value) (q : Nat) : Nat → Nat → Prop := fun b o => b = sb v ∧ o < so v + q * 4
theorem Ji {G : Nat → Prop} {W w w0 : World} {As : List HP} {f0 : Nat → Prop} {X : Nat → Nat → Prop} {v : Value} {l : List Fld} {q i : Nat} (h : Sep G W As w) (hi : As[i]? = some (ML w0 f0 (Xf v q))) (hv : RdS w0 f0 v l) (hq : q < l.length) : ∃ a c : Int, CellsAt w (sb v) (so v + q * 4) [.int .i64 a, .int .i64 c, .bool (l.getD q default).floor, zy w0 (sb v) (so v + q * 4 + 3)] := by
  obtain ⟨hc, hd, ho⟩ := hv.fld hq
  obtain ⟨cs', h1, h2, h3⟩ := h.mlCells hi (hv.foot (ne_of_lt hq)) hc (fun j hj hX => by have := hX.2; omega)
  obtain ⟨v0, e0, m0⟩ := h3 0 _ rfl
  obtain ⟨v1, e1, m1⟩ := h3 1 _ rfl
  obtain ⟨v2, e2, m2⟩ := h3 2 _ rfl
  obtain ⟨v3, e3, m3⟩ := h3 3 _ rfl
  have num : ∀ {n : Int} {u : Value}, MildV (.int .i64 n) u → ∃ m : Int, u = .int .i64 m := fun {n u} h => by
    rcases h with h | ⟨_, m, _, h, _⟩
    · exact ⟨n, h⟩
    · exact ⟨m, h⟩
  obtain ⟨a, rfl⟩ := num m0
  obtain ⟨c, rfl⟩ := num m1
  have q2 : v2 = .bool l[q].floor := by
    rcases m2 with h | ⟨m, n, h, _⟩
    · exact h
    · cases h
  have q3 : v3 = zy w0 (sb v) (so v + q * 4 + 3) := by
    rcases m3 with h | ⟨m, n, h, _⟩
    · exact h
    · exact absurd h (IsSl.num hd.sl m)
  subst q2 q3
  refine ⟨a, c, ?_⟩
  rw [zG default hq]
  have hl : cs'.length = 4 := h1
  match cs', hl, h2, e0, e1, e2, e3 with
  | [x0, x1, x2, x3], _, h2, e0, e1, e2, e3 =>
    cases Option.some.inj e0; cases Option.some.inj e1; cases Option.some.inj e2; cases Option.some.inj e3
    exact h2
def Xm (k : Nat) (Bs : List HP) : List HP := List.replicate k Emp ++ Bs.drop k
theorem QJ {k : Nat} {Bs : List HP} {B : HP} (h : Bs[k]? = some B) : (Xm k Bs)[k]? = some B := by
  unfold Xm
  rw [List.getElem?_append_right (by simp), List.length_replicate, Nat.sub_self, List.getElem?_drop]; exact h
theorem QR {k : Nat} {Bs : List HP} (h : k < Bs.length) : (Xm k Bs).set k Emp = Xm (k + 1) Bs := by
  unfold Xm
  rw [List.set_append_right _ _ (by simp), List.length_replicate, Nat.sub_self, List.drop_eq_getElem_cons h, List.set_cons_zero, List.replicate_succ', List.append_assoc]; rfl
theorem Vt {G : Nat → Prop} {W w : World} {Rs : List HP} {d : Dcl} {v1 v2 : Value} (hS0 : Sep G W ((TypW v1 33 79 d.types) :: (RowE (α := Prj) own 107 v2 d.projs) :: Rs) w) : Ret Tryd.prog 26 [.agg (d.cells v1 v2).toArray] w (fun r w' => r = (.tuple #[] : Value) ∧ Sep G W Rs w') := by
 refine zl (args := [.agg (d.cells v1 v2).toArray]) Tryd.func26 rfl rfl ?_
 have aH := hS0.r1
 have hr1s : _ * 40 ≤ _ := aH.2
 refine za (R0 fun _ => st (zR (v := .agg (d.cells v1 v2).toArray) rfl ?_))
 intro J t aI
 refine zb (za (za ?_))
 obtain ⟨c, K, aJ⟩ := TypW.open ((hS0.new aI).mv1)
 have L : Sep G W ((RowE (α := TypS) own 33 v1 c) :: (Star (FldRows 79 c d.types)) :: (Blk t (d.cells v1 v2).toArray 25) :: (RowE (α := Prj) own 107 v2 d.projs) :: Rs) J := aJ
 have s := L.r0
 have hr10s : _ * 24 ≤ _ := s.2
 have hsh8l : c.length = d.types.length := K
 obtain ⟨D, x, M⟩ := (L.mv3).toML
 refine R0 fun _ => st (aS (Iv 0) (zb (zn ?_)))
 rw [show FldRows 79 c d.types = Xm 0 (FldRows 79 c d.types) from rfl] at M
 refine zX (fun mq σ E => ∃ (k : Nat) (ρ : Env), mq = d.types.length - k ∧ σ = yb ρ [(1, Ix t 0), (2, Iw k)] ∧ (k ≤ d.types.length) ∧ Sep G W ((ML J D noX) :: (RowE (α := TypS) own 33 v1 c) :: (Star (Xm k (FldRows 79 c d.types))) :: (Blk t (d.cells v1 v2).toArray 25) :: Rs) E) ⟨0, _, rfl, sSf, Nat.zero_le _, M⟩ ?_
 rintro m16 σ17 e ⟨k, ρl1, rfl, rfl, hkk, F⟩
 refine za (za (R0 fun _ => st (mV (Iw k) (st (yn rfl (st (lD v1 oT rfl (zd (F.b3) rfl) (st (zA (n := c.length) pT rfl s.1 (st (zD (k := .i64) (a := ((k : Nat) : Int)) (b := ((c.length : Nat) : Int)) rfl rfl (zb ?_))))))))))))
 cases y : decide (((k : Nat) : Int) < ((c.length : Nat) : Int))
 have y := fD y
 refine zi rfl (zU (zI (za (R0 fun _ => st (aS (Iv 0) (zb (zn (zX (fun mq σ E => ∃ (p : Nat) (ρ : Env), mq = d.projs.length - p ∧ σ = yb ρ [(1, Ix t 0), (6, Iw p)] ∧ (p ≤ d.projs.length) ∧ Sep G W ((ML J D noX) :: (RowE (α := TypS) own 33 v1 c) :: (Star (Xm k (FldRows 79 c d.types))) :: (Blk t (d.cells v1 v2).toArray 25) :: Rs) E) ⟨0, _, rfl, sSf, Nat.zero_le _, F⟩ ?_))))))))
 rintro m21 σ22 w20 ⟨p, ρl2, rfl, rfl, hkp, z⟩
 refine za (za (R0 fun _ => st (mV (Iw p) (st (xW rfl (st (lD v2 mR rfl (zd (z.b3) rfl) (st (zA (n := d.projs.length) pR rfl x.sl (st (zD (k := .i64) (a := ((p : Nat) : Int)) (b := ((d.projs.length : Nat) : Int)) rfl rfl (zb ?_))))))))))))
 cases A : decide (((p : Nat) : Int) < ((d.projs.length : Nat) : Int))
 have A := fD A
 refine zi rfl (zU (zI (XO Tryd.results26 ?_)))
 refine ⟨rfl, (z.s4_)⟩
 have A := tD A
 refine zj rfl (zk (za (zn (yD (by kernel_rfl) (fun _ => (st (xW rfl (st (lD v2 mR rfl (zd (z.b3) rfl) (st (mV (Iw p) (st (zQ (parts' := [(0, Iv 77)]) (v := .agg #[Iv 77, Iv 0, Iv 0, Iv 0, Iv 0]) rfl yqf ?_)))))))))))))
 have ad : p < d.projs.length := bo
 refine st (ze (k := 5) (i := p) pR qR rfl x.sl rfl ad ?_)
 have N : p < d.projs.length := bo
 obtain ⟨T, _⟩ := x.prjD N
 refine stn (xY (b := sb v2) (o := so v2 + p * 5) (u := .agg #[Iv 77, Iv 0, Iv 0, Iv 0, Iv 0]) (us := [Iv 77, Iv 0, Iv 0, Iv 0, Iv 0]) (X' := noX) z qR rfl (x.foot (ne_of_lt N)) rfl rfl (zW ⟨rfl, rfl, rfl, rfl, rfl, trivial⟩) T rfl (Nat.zero_lt_succ _) (fun j9 v9 u9 a9 b9 => .inr (MildAll.at_ (show MildAll [Iv ((d.projs.getD p default).ptyp), Iv ((d.projs.getD p default).pfield), Iv ((d.projs.getD p default).pgroup), Iv ((d.projs.getD p default).pby), Iv ((d.projs.getD p default).pmake)] [Iv 77, Iv 0, Iv 0, Iv 0, Iv 0] from ⟨MildV.num dc, MildV.num dc, MildV.num dc, MildV.num dc, MildV.num dc, trivial⟩) j9 v9 u9 a9 b9)) (fun _ _ h => h) ?_)
 intro w27 aj
 refine zb (R0 fun _ => st (mV (Iw p) ?_))
 have ak : InR ((p + 1 : Nat) : Int) := bo
 refine st (zH (r := ((p + 1 : Nat) : Int)) (k := .i64) (a := ((p : Nat) : Int)) (b := 1) rfl rfl (by rw [show (((p : Nat) : Int) + 1 : Int) = ((p + 1 : Nat) : Int) from bo]; exact zz ak) (st (aS (Iw (p + 1)) (zb ?_))))
 exact ⟨_, by omega, p + 1, _, rfl, sSf, by omega, aj⟩
 have y := tD y
 refine zj rfl (zk (za (zn (za ?_))))
 have O : Sep G W ((RowE (α := Fld) own 79 ((c.getD k default).v) ((d.types.getD k default).fields)) :: (Star ((Xm k (FldRows 79 c d.types)).set k Emp)) :: (ML J D noX) :: (RowE (α := TypS) own 33 v1 c) :: (Blk t (d.cells v1 v2).toArray 25) :: Rs) e := Sep.takeStar (F.mv2) (QJ (FldRows.get (i := k) om om))
 rw [QR (by rw [FldRows.len K]; omega)] at O
 obtain ⟨ab, f, al⟩ := O.toML
 have am := al.mlX (X' := (Xf ((c.getD k default).v) 0)) (fun _ _ h => h.elim)
 have hm9s : _ * 48 ≤ _ := f.small
 refine R0 fun _ => st (aS (Iv 0) (zb (zn (zX (fun mq σ E => ∃ (q : Nat) (ρ : Env), mq = ((d.types.getD k default).fields).length - q ∧ σ = yb ρ [(1, Ix t 0), (2, Iw k), (3, Iw q)] ∧ (q ≤ ((d.types.getD k default).fields).length) ∧ Sep G W ((ML e ab (Xf ((c.getD k default).v) q)) :: (Star (Xm (k + 1) (FldRows 79 c d.types))) :: (ML J D noX) :: (RowE (α := TypS) own 33 v1 c) :: (Blk t (d.cells v1 v2).toArray 25) :: Rs) E) ⟨0, _, rfl, sSf, Nat.zero_le _, am⟩ ?_))))
 rintro m39 σ40 w38 ⟨q, ρl3, rfl, rfl, hqq, g⟩
 let ae := zy e (sb ((c.getD k default).v)) (so ((c.getD k default).v) + q * 4 + 3)
 refine za (za (R0 fun _ => st (mV (Iw q) (st (yn rfl (st (lD v1 oT rfl (zd (g.b4) rfl) (st (mV (Iw k) ?_)))))))))
 have an : k < c.length := bo
 refine st (ze (k := 1) (i := k) pT qT rfl s.1 rfl an (st (yv rfl ?_)))
 have ao : k < c.length := bo
 obtain ⟨_, _, U, rfl, hoke43⟩ := g.rowAtD (i := 3) (j := k) rfl ao
 refine st (lD ((c.getD k default).v) rT rfl (U.get (j := 0) rfl) (st (zA (n := ((d.types.getD k default).fields).length) vT rfl f.sl (st (zD (k := .i64) (a := ((q : Nat) : Int)) (b := ((((d.types.getD k default).fields).length : Nat) : Int)) rfl rfl (zb ?_))))))
 cases B : decide (((q : Nat) : Int) < ((((d.types.getD k default).fields).length : Nat) : Int))
 have B := fD B
 refine zi rfl (zU (zI (R0 fun _ => st (mV (Iw k) ?_))))
 have ap : InR ((k + 1 : Nat) : Int) := bo
 refine st (zH (r := ((k + 1 : Nat) : Int)) (k := .i64) (a := ((k : Nat) : Int)) (b := 1) rfl rfl (by rw [show (((k : Nat) : Int) + 1 : Int) = ((k + 1 : Nat) : Int) from bo]; exact zz ap) (st (aS (Iw (k + 1)) (zb ?_))))
 exact ⟨_, by omega, k + 1, _, rfl, sSf, by omega, (g.s5_cdbe)⟩
 have B := tD B
 refine zj rfl (zk (za (zn (za (R0 fun _ => st (yn rfl (st (lD v1 oT rfl (zd (g.b4) rfl) (st (mV (Iw k) ?_))))))))))
 have aq : k < c.length := bo
 refine st (ze (k := 1) (i := k) pT qT rfl s.1 rfl aq (st (yv rfl ?_)))
 have ar : k < c.length := bo
 obtain ⟨_, _, V, rfl, hoke49⟩ := g.rowAtD (i := 3) (j := k) rfl ar
 refine st (lD ((c.getD k default).v) rT rfl (V.get (j := 0) rfl) (st (mV (Iw q) ?_)))
 have au : q < ((d.types.getD k default).fields).length := bo
 refine st (ze (k := 4) (i := q) vT mT rfl f.sl rfl au ?_)
 have P : q < ((d.types.getD k default).fields).length := by omega
 obtain ⟨H, I, av⟩ := Ji (X := noX) g (i := 0) rfl f P
 obtain ⟨_, l, _⟩ := f.fldD P
 have hd56s : _ * 32 ≤ _ := l.small
 refine st (zg (k := 4) (cs := [Iv H, Iv I, .bool ((((d.types.getD k default).fields).getD q default).floor), ae]) tT mT rfl rfl av (st (zr lR ?_)))
 intro w59 ac aw
 have Q := g.new aw
 refine stn (zp (v := .agg #[Iv H, Iv I, .bool ((((d.types.getD k default).fields).getD q default).floor), ae]) (c' := #[Iv H, Iv I, .bool ((((d.types.getD k default).fields).getD q default).floor), ae]) mT rfl rfl (Q.b0) (zW ⟨rfl, rfl, rfl, l.sl.one, trivial⟩) yqc rfl ?_)
 intro w61 ax
 refine zb (za (za (R0 fun _ => st (aS (Iv 0) (zb (zn (zX (fun mq σ E => ∃ (j : Nat) (ρ : Env), mq = (((d.types.getD k default).fields).getD q default).moves.length - j ∧ σ = yb ρ [(1, Ix t 0), (2, Iw k), (3, Iw q), (4, Ix ac 0), (5, Iw j)] ∧ (j ≤ (((d.types.getD k default).fields).getD q default).moves.length) ∧ Sep G W ((Blk ac #[Iv H, Iv I, .bool ((((d.types.getD k default).fields).getD q default).floor), (zy e (sb ((c.getD k default).v)) (so ((c.getD k default).v) + q * 4 + 3))] 79) :: (ML e ab (Xf ((c.getD k default).v) q)) :: (Star (Xm (k + 1) (FldRows 79 c d.types))) :: (ML J D noX) :: (RowE (α := TypS) own 33 v1 c) :: (Blk t (d.cells v1 v2).toArray 25) :: Rs) E) ⟨0, _, rfl, sSf, Nat.zero_le _, (Q.pt0 ax)⟩ ?_)))))))
 rintro m65 σ66 w64 ⟨j, ρl4, rfl, rfl, hkj, m⟩
 refine za (za (R0 fun _ => st (mV (Iw j) (st (yu rfl (st (lD ae wT rfl (zd (m.b0) rfl) (st (zA (n := ((((d.types.getD k default).fields).getD q default).moves).length) sT rfl l.sl (st (zD (k := .i64) (a := ((j : Nat) : Int)) (b := ((((((d.types.getD k default).fields).getD q default).moves).length : Nat) : Int)) rfl rfl (zb ?_))))))))))))
 cases C : decide (((j : Nat) : Int) < ((((((d.types.getD k default).fields).getD q default).moves).length : Nat) : Int))
 have C := fD C
 refine zi rfl (zU (zI (R0 fun _ => st (yn rfl (st (lD v1 oT rfl (zd (m.b5) rfl) (st (mV (Iw k) ?_))))))))
 have ay : k < c.length := bo
 refine st (ze (k := 1) (i := k) pT qT rfl s.1 rfl ay (st (yv rfl ?_)))
 have az : k < c.length := bo
 obtain ⟨_, _, Y, rfl, hoke70⟩ := m.rowAtD (i := 4) (j := k) rfl az
 refine st (lD ((c.getD k default).v) rT rfl (Y.get (j := 0) rfl) (st (mV (Iw q) (st (zQ (parts' := [(0, Iv 77)]) (v := .agg #[Iv 77, Iv 0, .bool false, (Iz)]) rfl yqf ?_)))))
 have aA : q < ((d.types.getD k default).fields).length := bo
 refine st (ze (k := 4) (i := q) vT mT rfl f.sl rfl aA ?_)
 have R : q < ((d.types.getD k default).fields).length := bo
 obtain ⟨Z, hde74_0, _⟩ := f.fldD R
 have aB := m.mv1
 refine stn (xY (b := sb ((c.getD k default).v)) (o := so ((c.getD k default).v) + q * 4) (u := .agg #[Iv 77, Iv 0, .bool false, (Iz)]) (us := [Iv 77, Iv 0, .bool false, (Iz)]) (X' := (Xf ((c.getD k default).v) (q + 1))) aB mT rfl (f.foot (ne_of_lt R)) rfl rfl (zW ⟨rfl, rfl, rfl, rfl, trivial⟩) Z rfl (Nat.zero_lt_succ _) (fun j v v' a b => .inl ⟨rfl, by have := (List.getElem?_eq_some_iff.1 b).1; simp at this; omega⟩) (fun b o h => ⟨h.1, by have := h.2; omega⟩) ?_)
 intro w73 aC
 refine zb (R0 fun _ => st (mV (Iw q) ?_))
 have aD : InR ((q + 1 : Nat) : Int) := bo
 refine st (zH (r := ((q + 1 : Nat) : Int)) (k := .i64) (a := ((q : Nat) : Int)) (b := 1) rfl rfl (by rw [show (((q : Nat) : Int) + 1 : Int) = ((q + 1 : Nat) : Int) from bo]; exact zz aD) (st (aS (Iw (q + 1)) (zb ?_))))
 exact ⟨_, by omega, q + 1, _, rfl, sSf, by omega, (aC.s6_acdef)⟩
 have C := tD C
 refine zj rfl (zk (za (zn (yD (by kernel_rfl) (fun _ => (st (yu rfl (st (lD ae wT rfl (zd (m.b0) rfl) (st (mV (Iw j) (st (zQ (parts' := [(0, Iv 77), (1, Iv 78), (2, Iv (-7))]) (v := .agg #[Iv 77, Iv 78, Iv (-7), Iv 0]) rfl yqf ?_)))))))))))))
 have aE : j < ((((d.types.getD k default).fields).getD q default).moves).length := bo
 refine st (ze (k := 4) (i := j) sT uT rfl l.sl rfl aE ?_)
 have S : j < ((((d.types.getD k default).fields).getD q default).moves).length := bo
 obtain ⟨aa, _⟩ := l.mvD S
 refine stn (xY (b := sb ae) (o := so ae + j * 4) (u := .agg #[Iv 77, Iv 78, Iv (-7), Iv 0]) (us := [Iv 77, Iv 78, Iv (-7), Iv 0]) (X' := (Xf ((c.getD k default).v) q)) (m.mv1) uT rfl (l.foot (ne_of_lt S)) rfl rfl (zW ⟨rfl, rfl, rfl, rfl, trivial⟩) aa rfl (Nat.zero_lt_succ _) (fun j9 v9 u9 a9 b9 => .inr (MildAll.at_ (show MildAll [Iv ((((((d.types.getD k default).fields).getD q default).moves).getD j default).frm), Iv ((((((d.types.getD k default).fields).getD q default).moves).getD j default).to), Iv ((((((d.types.getD k default).fields).getD q default).moves).getD j default).need), Iv ((((((d.types.getD k default).fields).getD q default).moves).getD j default).least)] [Iv 77, Iv 78, Iv (-7), Iv 0] from ⟨MildV.num dc, MildV.num dc, MildV.num dc, MildV.num dc, trivial⟩) j9 v9 u9 a9 b9)) (fun _ _ h => h) ?_)
 intro w81 aF
 refine zb (R0 fun _ => st (mV (Iw j) ?_))
 have aG : InR ((j + 1 : Nat) : Int) := bo
 refine st (zH (r := ((j + 1 : Nat) : Int)) (k := .i64) (a := ((j : Nat) : Int)) (b := 1) rfl rfl (by rw [show (((j : Nat) : Int) + 1 : Int) = ((j + 1 : Nat) : Int) from bo]; exact zz aG) (st (aS (Iw (j + 1)) (zb ?_))))
 exact ⟨_, by omega, j + 1, _, rfl, sSf, by omega, (aF.mv1)⟩

theorem yQ (d : Dcl) (ty f op arg : Int) : yE d ty f op arg = if yo d ty f = false then 8 else if op = 1 then (if ¬ (zK d ty f).kind = 1 then 2 else if arg = 0 then 1 else 0) else if op = 2 then (if ¬ (zK d ty f).kind = 2 then 2 else 0)
    else if op = 3 ∨ op = 4 then (if ¬ (zK d ty f).kind = 3 then 2 else 0) else if op = 5 then (if ¬ (zK d ty f).kind = 4 then 2 else if arg < 0 ∨ ((zK d ty f).moves.length : Int) ≤ arg then 1 else 0) else 2 := by
  unfold yE
  cases hB : yo d ty f
  · rfl
  · generalize zK d ty f = F
    by_cases h1 : op = 1
    · subst h1
      simp only [show kindsL.getD (1 : Int).toNat 0 = 1 from rfl]
      by_cases h : F.kind = 1 <;> by_cases h2 : arg = 0 <;> simp [h, h2, eq_comm]
    by_cases h2 : op = 2
    · subst h2
      simp only [show kindsL.getD (2 : Int).toNat 0 = 2 from rfl]
      by_cases h : F.kind = 2 <;> simp [h, eq_comm]
    by_cases h3 : op = 3
    · subst h3
      simp only [show kindsL.getD (3 : Int).toNat 0 = 3 from rfl]
      by_cases h : F.kind = 3 <;> simp [h, eq_comm]
    by_cases h4 : op = 4
    · subst h4
      simp only [show kindsL.getD (4 : Int).toNat 0 = 3 from rfl]
      by_cases h : F.kind = 3 <;> simp [h, eq_comm]
    by_cases h5 : op = 5
    · subst h5
      simp only [show kindsL.getD (5 : Int).toNat 0 = 4 from rfl]
      by_cases h : F.kind = 4
      · by_cases h6 : arg < 0 ∨ (F.moves.length : Int) ≤ arg
        · have : (decide (0 ≤ arg) && decide (arg ≤ (F.moves.length : Int) - 1)) = false := by
            rw [Bool.and_eq_false_iff]
            rcases h6 with h6 | h6
            · exact .inl (decide_eq_false (by omega))
            · exact .inr (decide_eq_false (by omega))
          rw [this, if_pos h6]; simp [h]
        · have : (decide (0 ≤ arg) && decide (arg ≤ (F.moves.length : Int) - 1)) = true := by
            rw [decide_eq_true (by omega), decide_eq_true (by omega)]; rfl
          rw [this, if_neg h6]; simp [h]
      · simp [h, eq_comm]
    · have : (decide (1 ≤ op) && decide (op ≤ 5)) = false := by
        rw [Bool.and_eq_false_iff]
        rcases Int.lt_or_le op 1 with h6 | h6
        · exact .inl (decide_eq_false (by omega))
        · exact .inr (decide_eq_false (by omega))
      simp [this, h1, h2, h3, h4, h5]
theorem WO {v : List Int} {o : Int} (h : ¬ ((0 ≤ o ∧ o < v.length) ∧ 0 < v.getD o.toNat 0)) : xy v o = 0 := by
  unfold xy; split
  · rfl
  · omega
theorem Ur {v : List Int} {o : Int} (h : (0 ≤ o ∧ o < v.length) ∧ 0 < v.getD o.toNat 0) : xy v o = v.getD o.toNat 0 := by
  unfold xy; rw [if_neg (by omega)]; omega
theorem ZL {f : Fld} {x e : Ev} : yA f x e = if ((!xk x e) || (!ZD f.kind x.op x.arg e.op e.arg)) = true then false else if decide (f.policy = 3) = true then decide (e.arg < x.arg) else decide (f.policy = 2) := by
  unfold yA
  cases xk x e <;> cases ZD f.kind x.op x.arg e.op e.arg <;> simp
  by_cases h : f.policy = 3
  · simp [h]
  · simp [h]
theorem Ys {a b : Ev} : xk a b = if (decide (a.origin = b.origin) && decide (a.seq = b.seq)) = true then false else ((!Zf a b) && (!Zf b a)) := by
  unfold xk
  by_cases h : a.origin = b.origin <;> by_cases h2 : a.seq = b.seq <;> simp [h, h2]
theorem YQ {k oA aA oB aB : Int} : ZD k oA aA oB aB = if decide (k = 2) = true then ((decide (oA = 2) && decide (oB = 2)) && !decide (aA = aB)) else if decide (k = 4) = true then ((decide (oA = 5) && decide (oB = 5)) && !decide (aA = aB))
    else if (decide (k = 3) && decide (aA = aB)) = true then ((decide (oA = 3) && decide (oB = 4)) || (decide (oA = 4) && decide (oB = 3))) else false := by
  unfold ZD
  by_cases h2 : k = 2
  · subst h2
    by_cases ha : oA = 2 <;> by_cases hb : oB = 2 <;> simp [ha, hb]
  by_cases h4 : k = 4
  · subst h4
    by_cases ha : oA = 5 <;> by_cases hb : oB = 5 <;> simp [ha, hb]
  by_cases h3 : k = 3
  · subst h3
    by_cases ha : aA = aB
    · subst ha; simp
    · have ha' : ¬ aB = aA := fun e => ha e.symm
      simp [ha, ha']
  · simp [h2, h3, h4]
theorem QC {G : Nat → Prop} {W w : World} {Rs : List HP} {vv : Value} {v : List Int} (hv : RdS W G vv v) {o : Int} (ho : InR o) (hS0 : Sep G W Rs w) : Ret Tryd.prog 108 [vv, .int .i64 (o)] w (fun r w' => r = (.int .i64 (xy v o) : Value) ∧ (InR (xy v o)) ∧ Sep G W Rs w') := by
 have hvs : _ * 8 ≤ _ := hv.small
 refine zl (args := [vv, Iv o]) Tryd.func108 rfl rfl ?_
 refine za (R0 fun _ => st (aS (Iv 0) (zb (za (za (zw kr (st (mV (Iv o) (st (yV (k := .i64) (a := o) (b := 0) rfl rfl (st (mV (.bool (decide (0 ≤ o))) (stc (V := Iv o) rfl rfl (fun C => ?_) ?_)))))))))))))
 have hl2 := tD C
 exact mV (Iv o) ⟨rfl, rfl⟩
 refine stc (V := vv) rfl rfl (fun D => ?_) ?_
 have hl4 := tD D
 exact mV vv ⟨rfl, rfl⟩
 refine stc (V := Iw v.length) rfl rfl (fun t => ?_) ?_
 have hl6 := tD t
 exact zA (n := v.length) rR (if_pos t) hv.sl ⟨rfl, rfl⟩
 refine stc (V := .bool (decide (o < ((v.length : Nat) : Int)))) rfl rfl (fun d => ?_) ?_
 have hl8 := tD d
 exact zD (k := .i64) (a := o) (b := ((v.length : Nat) : Int)) (if_pos d) (if_pos d) ⟨rfl, rfl⟩
 refine st (zo (b := decide (0 ≤ o)) (b' := decide (o < ((v.length : Nat) : Int))) rfl (fun hbp => (if_pos hbp)) (st (mV (.bool ((decide (0 ≤ o)) && (decide (o < ((v.length : Nat) : Int))))) (stc (V := vv) rfl rfl (fun E => ?_) ?_))))
 have u := E
 try simp only [zf] at u
 exact mV vv ⟨rfl, rfl⟩
 refine stc (V := Iv o) rfl rfl (fun x => ?_) ?_
 have y := x
 try simp only [zf] at y
 exact mV (Iv o) ⟨rfl, rfl⟩
 refine stc (V := Ix (sb vv) (so vv + o.toNat * 1)) rfl rfl (fun c => ?_) ?_
 have z := c
 try simp only [zf] at z
 have hi15 : o.toNat < v.length := bo
 exact zq (k := 1) (i := o) rR sR (if_pos c) hv.sl (if_pos c) ⟨by omega, by omega⟩ ⟨rfl, rfl⟩
 refine stc (V := Iv ((v.getD o.toNat 0))) rfl rfl (fun e => ?_) ?_
 have A := e
 try simp only [zf] at A
 have f : o.toNat < v.length := bo
 obtain ⟨m, hxe18⟩ := hv.intD f
 have p := hS0.cells m (hv.foot (ne_of_lt f))
 exact lD (Iv ((v.getD o.toNat 0))) lT (if_pos e) (p.get (j := 0) rfl) ⟨rfl, rfl⟩
 refine stc (V := .bool (decide (0 < (v.getD o.toNat 0)))) rfl rfl (fun g => ?_) ?_
 have B := g
 try simp only [zf] at B
 exact yM (k := .i64) (a := (v.getD o.toNat 0)) (b := 0) (if_pos g) rfl ⟨rfl, rfl⟩
 refine st (zo (b := (decide (0 ≤ o)) && (decide (o < ((v.length : Nat) : Int)))) (b' := decide (0 < (v.getD o.toNat 0))) rfl (fun hbp => (if_pos hbp)) (zb ?_))
 cases h : ((decide (0 ≤ o)) && (decide (o < ((v.length : Nat) : Int)))) && (decide (0 < (v.getD o.toNat 0)))
 try simp only [zf] at h
 refine zi rfl (zk (za (R0 fun _ => st (aS (Iv 0) (zb (zm (zL vY (show _ = (Iv 0 : Value) from rfl) ?_)))))))
 refine ⟨?_, ?_, hS0⟩
 congr 1; exact (WO om).symm
 rw [WO (by omega)]; decide
 try simp only [zf] at h
 refine zj rfl (za (R0 fun _ => st (mV vv (st (mV (Iv o) ?_)))))
 have hi24 : o.toNat < v.length := bo
 refine st (zq (k := 1) (i := o) rR sR rfl hv.sl rfl ⟨by omega, by omega⟩ ?_)
 have l : o.toNat < v.length := bo
 obtain ⟨q, hxe25⟩ := hv.intD l
 have s := hS0.cells q (hv.foot (ne_of_lt l))
 refine st (lD (Iv ((v.getD o.toNat 0))) lT rfl (s.get (j := 0) rfl) (st (aS (Iv ((v.getD o.toNat 0))) (zb (zm (zL vY (show _ = (Iv ((v.getD o.toNat 0)) : Value) from rfl) ?_))))))
 refine ⟨?_, ?_, hS0⟩
 congr 1; exact (Ur om).symm
 rw [Ur (by omega)]; assumption

theorem YC {G : Nat → Prop} {W w : World} {Rs : List HP} {a : Ev} {da0 : Value} (hda0 : RdS W G da0 a.deps) (oa : a.Ok) {b : Ev} {db0 : Value} (hdb0 : RdS W G db0 b.deps) (ob : b.Ok) (hS0 : Sep G W Rs w) : Ret Tryd.prog 105 [.agg (a.cells da0).toArray, .agg (b.cells db0).toArray] w (fun r w' => r = (.bool ((Zf a b)) : Value) ∧ Sep G W Rs w') := by
 have hda0s : _ * 8 ≤ _ := hda0.small
 have hdb0s : _ * 8 ≤ _ := hdb0.small
 refine zl (args := [.agg (a.cells da0).toArray, .agg (b.cells db0).toArray]) Tryd.func105 rfl rfl ?_
 refine za (R0 fun _ => st (zR (v := .agg (a.cells da0).toArray) rfl ?_))
 intro w3 b2 L
 refine st (zR (v := .agg (b.cells db0).toArray) rfl ?_)
 intro w7 D M
 refine st (aS (.bool false) (zb (za ?_)))
 refine WD4 ((fun TT C => WF [fun vals E => Sep G W (C :: TT) E, fun vals E => (vals 5 = (Iv (xy b.deps a.origin) : Value)) ∧ (InR (xy b.deps a.origin)) ∧ Sep G W (C :: TT) E]) ((Blk b2 (a.cells da0).toArray 59) :: Rs) (Blk D (b.cells db0).toArray 59)) (AF [Vl 0 (Ix D 3), Vl 1 (db0), Vl 2 (Ix b2 0), Vl 3 (Ix b2 0), Vl 4 (Iv (a.origin)), fun _ => True, Vl 6 (Ix b2 0), Vl 7 (Ix b2 1), Vl 8 (Iv (a.seq)), Vl 9 (.bool (decide (a.seq ≤ (xy b.deps a.origin)))), Vl 10 (.bool (decide (a.seq ≤ (xy b.deps a.origin))))]) [[], [0], [], [2], [2, 3], (rg 5), [], [6], [6, 7], (rg 9), (rg 10)] [5] [(0, 0), (0, 0), (0, 0), (0, 0), (0, 0), (0, 0), (0, 1), (0, 1), (0, 1), (1, 1), (1, 1)] ((hS0.new L).new M) ⟨fun _ _ _ _ _ _ _ => obl rfl (xo rfl dR), ob1 0 fun _ _ (j : Sep _ _ _ _) l => obl rfl (lD db0 uY (l 0 dc) (zd (j.b0) rfl) dR), fun _ _ _ _ _ _ _ => obl rfl (yP rfl dR), fun _ _ _ _ _ _ m => obl rfl (Yb (m 2 dc) dR), ob1 0 fun _ _ (n : Sep _ _ _ _) p => obl rfl (lD (Iv (a.origin)) lT (p 3 dc) (zd (n.b1) rfl) dR), ?_, fun _ _ _ _ _ _ _ => obl rfl (yP rfl dR), fun _ _ _ _ _ _ q => obl rfl (YA (q 6 dc) dR), ?_, ?_, fun _ _ _ _ _ _ s => obl rfl (ym (v := .bool (decide (a.seq ≤ (xy b.deps a.origin)))) (s 9 dc) dR), trivial⟩ ?_
 refine ob1 0 fun vals _ (F : Sep _ _ _ _) i => (obl rfl ((zV (f := 108) (vals := [db0, Iv (a.origin)]) (cap := []) rfl (yH ⟨(i 1 dc), (i 4 dc), trivial⟩) Tryd.call108 (QC (v := b.deps) (vv := db0) (o := a.origin) hdb0 oa.origin F) ?_)))
 rintro _ w54 ⟨rfl, c, H⟩
 exact fun vals' N hv' => ⟨(And.intro N (And.intro c H)), trivial⟩
 refine fun d _ _ I J g h => ?_
 have hkk : d = 0 ∨ d = 1 := by have h1 : 0 ≤ d := I; have h2 : d ≤ 1 := J; omega
 rcases hkk with rfl | rfl
 have t : Sep _ _ _ _ := g
 exact obl rfl (lD (Iv (a.seq)) lT (h 7 dc) (zd (t.b1) rfl) dR)
 obtain ⟨e, c, u⟩ := g
 exact obl rfl (lD (Iv (a.seq)) lT (h 7 dc) (zd (u.b1) rfl) dR)
 refine ob1 1 fun _ _ x y => ?_
 obtain ⟨e, c, hS157⟩ := x
 exact obl rfl (yV (k := .i64) (a := xy b.deps a.origin) (b := a.seq) e (y 8 dc) dR)
 intro vals w166 z A
 obtain ⟨e, c, B⟩ := z
 have K := A 10 dc
 refine zZ (kv := [(0, .agg (a.cells da0).toArray), (1, .agg (b.cells db0).toArray), (2, Ix b2 0), (3, Ix D 0), (4, .bool (decide (a.seq ≤ (xy b.deps a.origin))))]) ⟨rfl, rfl, rfl, rfl, (by exact K), trivial⟩ (fun ρw166 => (zb (zm (zL Tryd.results105 (show _ = (.bool (decide (a.seq ≤ (xy b.deps a.origin))) : Value) from rfl) ?_))))
 refine ⟨rfl, (B.s2_)⟩

theorem VW {G : Nat → Prop} {W w : World} {Rs : List HP} {a : Ev} {da0 : Value} (hda0 : RdS W G da0 a.deps) (oa : a.Ok) {b : Ev} {db0 : Value} (hdb0 : RdS W G db0 b.deps) (ob : b.Ok) (hS0 : Sep G W Rs w) : Ret Tryd.prog 97 [.agg (a.cells da0).toArray, .agg (b.cells db0).toArray] w (fun r w' => r = (.bool ((xk a b)) : Value) ∧ Sep G W Rs w') := by
 have hda0s : _ * 8 ≤ _ := hda0.small
 have hdb0s : _ * 8 ≤ _ := hdb0.small
 refine zl (args := [.agg (a.cells da0).toArray, .agg (b.cells db0).toArray]) Tryd.func97 rfl rfl ?_
 refine za (R0 fun _ => st (zR (v := .agg (a.cells da0).toArray) rfl ?_))
 intro w3 b2 x
 refine st (zR (v := .agg (b.cells db0).toArray) rfl ?_)
 intro w7 y z
 have e := (hS0.new x).new z
 refine st (aS (.bool false) (zb (za (za (zw kr (st (yP rfl (st (Yb rfl (st (lD (Iv (a.origin)) lT rfl (zd (e.b1) rfl) (st (yP rfl (st (Yb rfl (st (lD (Iv (b.origin)) lT rfl (zd (e.b0) rfl) (st (zF (k := .i64) (a := a.origin) (b := b.origin) rfl rfl (st (mV (.bool (decide (a.origin = b.origin))) (stc (V := Ix b2 0) rfl rfl (fun A => ?_) ?_))))))))))))))))))))))
 have hl10 := tD A
 exact yP rfl ⟨rfl, rfl⟩
 refine stc (V := Ix b2 1) rfl rfl (fun j => ?_) ?_
 have hl12 := tD j
 exact YA (if_pos j) ⟨rfl, rfl⟩
 refine stc (V := Iv (a.seq)) rfl rfl (fun l => ?_) ?_
 have hl14 := tD l
 exact lD (Iv (a.seq)) lT (if_pos l) (zd (e.b1) rfl) ⟨rfl, rfl⟩
 refine stc (V := Ix y 0) rfl rfl (fun o => ?_) ?_
 have hl16 := tD o
 exact yP rfl ⟨rfl, rfl⟩
 refine stc (V := Ix y 1) rfl rfl (fun m => ?_) ?_
 have hl18 := tD m
 exact YA (if_pos m) ⟨rfl, rfl⟩
 refine stc (V := Iv (b.seq)) rfl rfl (fun n => ?_) ?_
 have hl20 := tD n
 exact lD (Iv (b.seq)) lT (if_pos n) (zd (e.b0) rfl) ⟨rfl, rfl⟩
 refine stc (V := .bool (decide (a.seq = b.seq))) rfl rfl (fun i => ?_) ?_
 have hl22 := tD i
 exact zF (k := .i64) (a := a.seq) (b := b.seq) (if_pos i) (if_pos i) ⟨rfl, rfl⟩
 refine st (zo (b := decide (a.origin = b.origin)) (b' := decide (a.seq = b.seq)) rfl (fun hbp => (if_pos hbp)) (zb ?_))
 cases f : (decide (a.origin = b.origin)) && (decide (a.seq = b.seq))
 have c := f
 try simp only [zf] at f
 refine zi rfl (zk (za (zw kr (st (zg (k := 10) nR oR rfl rfl (CellsAt.all (e.b1)) (st (zg (k := 10) nR oR rfl rfl (CellsAt.all (e.b0)) (st (cL wY (YC (a := a) (b := b) hda0 oa hdb0 ob e) ?_)))))))))
 rintro _ w24 ⟨rfl, g⟩
 refine st (yc (a := (Zf a b)) rfl (st (mV (.bool (!(Zf a b))) (stc (V := .agg (b.cells db0).toArray) rfl rfl (fun p => ?_) ?_))))
 have q := p
 try simp only [zf] at q
 exact zg (k := 10) nR oR rfl rfl (CellsAt.all (g.b0)) ⟨rfl, rfl⟩
 refine stc (V := .agg (a.cells da0).toArray) rfl rfl (fun s => ?_) ?_
 have t := s
 try simp only [zf] at t
 exact zg (k := 10) nR oR rfl rfl (CellsAt.all (g.b1)) ⟨rfl, rfl⟩
 cases h : !(Zf a b)
 have d := h
 try simp only [zf] at h
 refine stx rfl rfl (stx rfl rfl (st (zO (v := .bool false) rfl rfl (st (aS (.bool false) (zb (zm (zL nY (show _ = (.bool false : Value) from rfl) ?_))))))))
 refine ⟨?_, (g.s2_)⟩
 rw [Ys]
 ·first | rfl | (simp only [c, d, Bool.not_true, Bool.not_false, Bool.false_and, Bool.true_and, Bool.and_false, Bool.and_true, Bool.false_or, Bool.or_false, Bool.true_or, Bool.or_true, Bool.false_eq_true, ↓reduceIte]; done) | (simp only [c, d, Bool.not_true, Bool.not_false, Bool.false_and, Bool.true_and, Bool.and_false, Bool.and_true, Bool.false_or, Bool.or_false, Bool.true_or, Bool.or_true, Bool.false_eq_true, ↓reduceIte]; rfl)
 have d := h
 try simp only [zf] at h
 refine sty rfl rfl (cL wY (YC (a := b) (b := a) hdb0 ob hda0 oa g) ?_)
 rintro _ w32 ⟨rfl, u⟩
 refine sty rfl rfl (yc (a := (Zf b a)) rfl (st (zN (v := .bool (!(Zf b a))) rfl rfl (st (aS (.bool (!(Zf b a))) (zb (zm (zL nY (show _ = (.bool (!(Zf b a)) : Value) from rfl) ?_))))))))
 refine ⟨?_, (u.s2_)⟩
 rw [Ys]
 ·first | rfl | (simp only [c, d, Bool.not_true, Bool.not_false, Bool.false_and, Bool.true_and, Bool.and_false, Bool.and_true, Bool.false_or, Bool.or_false, Bool.true_or, Bool.or_true, Bool.false_eq_true, ↓reduceIte]; done) | (simp only [c, d, Bool.not_true, Bool.not_false, Bool.false_and, Bool.true_and, Bool.and_false, Bool.and_true, Bool.false_or, Bool.or_false, Bool.true_or, Bool.or_true, Bool.false_eq_true, ↓reduceIte]; rfl)
 have c := f
 try simp only [zf] at f
 refine zj rfl (za (R0 fun _ => st (aS (.bool false) (zb (zm (zL nY (show _ = (.bool false : Value) from rfl) ?_))))))
 refine ⟨?_, (e.s2_)⟩
 rw [Ys]
 ·first | rfl | (simp only [c, Bool.not_true, Bool.not_false, Bool.false_and, Bool.true_and, Bool.and_false, Bool.and_true, Bool.false_or, Bool.or_false, Bool.true_or, Bool.or_true, Bool.false_eq_true, ↓reduceIte]; done) | (simp only [c, Bool.not_true, Bool.not_false, Bool.false_and, Bool.true_and, Bool.and_false, Bool.and_true, Bool.false_or, Bool.or_false, Bool.true_or, Bool.or_true, Bool.false_eq_true, ↓reduceIte]; rfl)

theorem Ws {G : Nat → Prop} {W w : World} {Rs : List HP} {f : Fld} {df0 : Value} (hdf0 : RdS W G df0 f.moves) (of : f.Ok) {oA : Int} (hoA : InR oA) {aA : Int} (haA : InR aA) {oB : Int} (hoB : InR oB) {aB : Int} (haB : InR aB) (hS0 : Sep G W Rs w) : Ret Tryd.prog 98 [.agg (f.cells df0).toArray, .int .i64 (oA), .int .i64 (aA), .int .i64 (oB), .int .i64 (aB)] w (fun r w' => r = (.bool ((ZD f.kind oA aA oB aB)) : Value) ∧ Sep G W Rs w') := by
 have hdf0s : _ * 32 ≤ _ := hdf0.small
 refine zl (args := [.agg (f.cells df0).toArray, Iv oA, Iv aA, Iv oB, Iv aB]) Tryd.func98 rfl rfl ?_
 refine za (R0 fun _ => st (zR (v := .agg (f.cells df0).toArray) rfl ?_))
 intro w3 b2 U
 have g := hS0.new U
 refine st (aS (.bool false) (zb (za (za (R0 fun _ => st (yX rfl (st (lD (Iv (f.kind)) lT rfl (zd (g.b0) rfl) (st (zF (k := .i64) (a := f.kind) (b := 2) rfl rfl (zb ?_)))))))))))
 cases h : decide (f.kind = 2)
 have c := h
 have h := fD h
 refine zi rfl (zk (za (za (R0 fun _ => st (yX rfl (st (lD (Iv (f.kind)) lT rfl (zd (g.b0) rfl) (st (zF (k := .i64) (a := f.kind) (b := 4) rfl rfl (zb ?_))))))))))
 cases i : decide (f.kind = 4)
 have d := i
 have i := fD i
 refine zi rfl (zk (za (za (zw kr (st (yX rfl (st (lD (Iv (f.kind)) lT rfl (zd (g.b0) rfl) (st (zF (k := .i64) (a := f.kind) (b := 3) rfl rfl (st (mV (.bool (decide (f.kind = 3))) (stc (V := Iv aA) rfl rfl (fun X => ?_) ?_)))))))))))))
 have hl8 := tD X
 exact mV (Iv aA) ⟨rfl, rfl⟩
 refine stc (V := Iv aB) rfl rfl (fun Y => ?_) ?_
 have hl10 := tD Y
 exact mV (Iv aB) ⟨rfl, rfl⟩
 refine stc (V := .bool (decide (aA = aB))) rfl rfl (fun m => ?_) ?_
 have hl12 := tD m
 exact zF (k := .i64) (a := aA) (b := aB) (if_pos m) (if_pos m) ⟨rfl, rfl⟩
 refine st (zo (b := decide (f.kind = 3)) (b' := decide (aA = aB)) rfl (fun hbp => (if_pos hbp)) (zb ?_))
 cases j : (decide (f.kind = 3)) && (decide (aA = aB))
 have e := j
 try simp only [zf] at j
 refine zi rfl (zk (za (R0 fun _ => st (aS (.bool false) (zb (zm (zL uR (show _ = (.bool false : Value) from rfl) ?_)))))))
 refine ⟨?_, (g.s1_)⟩
 rw [YQ]
 ·first | rfl | (simp only [c, d, e, Bool.not_true, Bool.not_false, Bool.false_and, Bool.true_and, Bool.and_false, Bool.and_true, Bool.false_or, Bool.or_false, Bool.true_or, Bool.or_true, Bool.false_eq_true, ↓reduceIte]; done) | (simp only [c, d, e, Bool.not_true, Bool.not_false, Bool.false_and, Bool.true_and, Bool.and_false, Bool.and_true, Bool.false_or, Bool.or_false, Bool.true_or, Bool.or_true, Bool.false_eq_true, ↓reduceIte]; rfl)
 have e := j
 try simp only [zf] at j
 refine zj rfl (za (zw kr (st (mV (Iv oA) (st (zF (k := .i64) (a := oA) (b := 3) rfl rfl (st (mV (.bool (decide (oA = 3))) (stc (V := Iv oB) rfl rfl (fun z => ?_) ?_)))))))))
 have hl16 := tD z
 exact mV (Iv oB) ⟨rfl, rfl⟩
 refine stc (V := .bool (decide (oB = 4))) rfl rfl (fun q => ?_) ?_
 have hl18 := tD q
 exact zF (k := .i64) (a := oB) (b := 4) (if_pos q) rfl ⟨rfl, rfl⟩
 refine st (zo (b := decide (oA = 3)) (b' := decide (oB = 4)) rfl (fun hbp => (if_pos hbp)) (st (mV (.bool ((decide (oA = 3)) && (decide (oB = 4)))) (stc (V := Iv oA) rfl rfl (fun A => ?_) ?_))))
 have B := A
 try simp only [zf] at B
 exact mV (Iv oA) ⟨rfl, rfl⟩
 refine stc (V := .bool (decide (oA = 4))) rfl rfl (fun s => ?_) ?_
 have C := s
 try simp only [zf] at C
 exact zF (k := .i64) (a := oA) (b := 4) (if_pos s) rfl ⟨rfl, rfl⟩
 refine stc (V := .bool (decide (oA = 4))) rfl rfl (fun t => ?_) ?_
 have D := t
 try simp only [zf] at D
 exact zP (v := .bool (decide (oA = 4))) (if_pos t) ⟨rfl, rfl⟩
 refine yz (V := Iv oB) rfl rfl (fun u => ?_) ?_
 have E := u.1
 try simp only [zf] at E
 have hl27 := tD u.2
 exact mV (Iv oB) ⟨rfl, rfl⟩
 refine yz (V := .bool (decide (oB = 3))) rfl rfl (fun l => ?_) ?_
 have F := l.1
 try simp only [zf] at F
 have hl30 := tD l.2
 exact zF (k := .i64) (a := oB) (b := 3) (if_pos ⟨l.1, l.2⟩) rfl ⟨rfl, rfl⟩
 refine stc (V := .bool ((decide (oA = 4)) && (decide (oB = 3)))) rfl rfl (fun n => ?_) ?_
 have H := n
 try simp only [zf] at H
 exact zo (b := decide (oA = 4)) (b' := decide (oB = 3)) (if_pos n) (fun hbp => (if_pos ⟨n, hbp⟩)) ⟨rfl, rfl⟩
 refine st (zx (b := (decide (oA = 3)) && (decide (oB = 4))) (b' := (decide (oA = 4)) && (decide (oB = 3))) rfl (fun hbp => (if_pos hbp)) (st (aS (.bool (((decide (oA = 3)) && (decide (oB = 4))) || ((decide (oA = 4)) && (decide (oB = 3))))) (zb (zm (zL uR (show _ = (.bool (((decide (oA = 3)) && (decide (oB = 4))) || ((decide (oA = 4)) && (decide (oB = 3)))) : Value) from rfl) ?_))))))
 refine ⟨?_, (g.s1_)⟩
 rw [YQ]
 ·first | rfl | (simp only [c, d, e, Bool.not_true, Bool.not_false, Bool.false_and, Bool.true_and, Bool.and_false, Bool.and_true, Bool.false_or, Bool.or_false, Bool.true_or, Bool.or_true, Bool.false_eq_true, ↓reduceIte]; done) | (simp only [c, d, e, Bool.not_true, Bool.not_false, Bool.false_and, Bool.true_and, Bool.and_false, Bool.and_true, Bool.false_or, Bool.or_false, Bool.true_or, Bool.or_true, Bool.false_eq_true, ↓reduceIte]; rfl)
 have d := i
 have i := tD i
 refine zj rfl (za (zw kr (st (mV (Iv oA) (st (zF (k := .i64) (a := oA) (b := 5) rfl rfl (st (mV (.bool (decide (oA = 5))) (stc (V := Iv oB) rfl rfl (fun I => ?_) ?_)))))))))
 have hl35 := tD I
 exact mV (Iv oB) ⟨rfl, rfl⟩
 refine stc (V := .bool (decide (oB = 5))) rfl rfl (fun x => ?_) ?_
 have hl37 := tD x
 exact zF (k := .i64) (a := oB) (b := 5) (if_pos x) rfl ⟨rfl, rfl⟩
 refine st (zo (b := decide (oA = 5)) (b' := decide (oB = 5)) rfl (fun hbp => (if_pos hbp)) (st (mV (.bool ((decide (oA = 5)) && (decide (oB = 5)))) (stc (V := Iv aA) rfl rfl (fun J => ?_) ?_))))
 have K := J
 try simp only [zf] at K
 exact mV (Iv aA) ⟨rfl, rfl⟩
 refine stc (V := Iv aB) rfl rfl (fun L => ?_) ?_
 have M := L
 try simp only [zf] at M
 exact mV (Iv aB) ⟨rfl, rfl⟩
 refine stc (V := .bool (!decide (aA = aB))) rfl rfl (fun o => ?_) ?_
 have N := o
 try simp only [zf] at N
 exact yh (k := .i64) (a := aA) (b := aB) (if_pos o) (if_pos o) ⟨rfl, rfl⟩
 refine st (zo (b := (decide (oA = 5)) && (decide (oB = 5))) (b' := !decide (aA = aB)) rfl (fun hbp => (if_pos hbp)) (st (aS (.bool (((decide (oA = 5)) && (decide (oB = 5))) && (!decide (aA = aB)))) (zb (zm (zL uR (show _ = (.bool (((decide (oA = 5)) && (decide (oB = 5))) && (!decide (aA = aB))) : Value) from rfl) ?_))))))
 refine ⟨?_, (g.s1_)⟩
 rw [YQ]
 ·first | rfl | (simp only [c, d, Bool.not_true, Bool.not_false, Bool.false_and, Bool.true_and, Bool.and_false, Bool.and_true, Bool.false_or, Bool.or_false, Bool.true_or, Bool.or_true, Bool.false_eq_true, ↓reduceIte]; done) | (simp only [c, d, Bool.not_true, Bool.not_false, Bool.false_and, Bool.true_and, Bool.and_false, Bool.and_true, Bool.false_or, Bool.or_false, Bool.true_or, Bool.or_true, Bool.false_eq_true, ↓reduceIte]; rfl)
 have c := h
 have h := tD h
 refine zj rfl (za (zw kr (st (mV (Iv oA) (st (zF (k := .i64) (a := oA) (b := 2) rfl rfl (st (mV (.bool (decide (oA = 2))) (stc (V := Iv oB) rfl rfl (fun O => ?_) ?_)))))))))
 have hl46 := tD O
 exact mV (Iv oB) ⟨rfl, rfl⟩
 refine stc (V := .bool (decide (oB = 2))) rfl rfl (fun y => ?_) ?_
 have hl48 := tD y
 exact zF (k := .i64) (a := oB) (b := 2) (if_pos y) rfl ⟨rfl, rfl⟩
 refine st (zo (b := decide (oA = 2)) (b' := decide (oB = 2)) rfl (fun hbp => (if_pos hbp)) (st (mV (.bool ((decide (oA = 2)) && (decide (oB = 2)))) (stc (V := Iv aA) rfl rfl (fun P => ?_) ?_))))
 have Q := P
 try simp only [zf] at Q
 exact mV (Iv aA) ⟨rfl, rfl⟩
 refine stc (V := Iv aB) rfl rfl (fun R => ?_) ?_
 have S := R
 try simp only [zf] at S
 exact mV (Iv aB) ⟨rfl, rfl⟩
 refine stc (V := .bool (!decide (aA = aB))) rfl rfl (fun p => ?_) ?_
 have T := p
 try simp only [zf] at T
 exact yh (k := .i64) (a := aA) (b := aB) (if_pos p) (if_pos p) ⟨rfl, rfl⟩
 refine st (zo (b := (decide (oA = 2)) && (decide (oB = 2))) (b' := !decide (aA = aB)) rfl (fun hbp => (if_pos hbp)) (st (aS (.bool (((decide (oA = 2)) && (decide (oB = 2))) && (!decide (aA = aB)))) (zb (zm (zL uR (show _ = (.bool (((decide (oA = 2)) && (decide (oB = 2))) && (!decide (aA = aB))) : Value) from rfl) ?_))))))
 refine ⟨?_, (g.s1_)⟩
 rw [YQ]
 ·first | rfl | (simp only [c, Bool.not_true, Bool.not_false, Bool.false_and, Bool.true_and, Bool.and_false, Bool.and_true, Bool.false_or, Bool.or_false, Bool.true_or, Bool.or_true, Bool.false_eq_true, ↓reduceIte]; done) | (simp only [c, Bool.not_true, Bool.not_false, Bool.false_and, Bool.true_and, Bool.and_false, Bool.and_true, Bool.false_or, Bool.or_false, Bool.true_or, Bool.or_true, Bool.false_eq_true, ↓reduceIte]; rfl)

theorem VI {G : Nat → Prop} {W w : World} {Rs : List HP} {f : Fld} {df0 : Value} (hdf0 : RdS W G df0 f.moves) (of : f.Ok) {x : Ev} {dx0 : Value} (hdx0 : RdS W G dx0 x.deps) (ox : x.Ok) {e : Ev} {de0 : Value} (hde0 : RdS W G de0 e.deps) (oe : e.Ok) (hS0 : Sep G W Rs w) : Ret Tryd.prog 90 [.agg (f.cells df0).toArray, .agg (x.cells dx0).toArray, .agg (e.cells de0).toArray] w (fun r w' => r = (.bool ((yA f x e)) : Value) ∧ Sep G W Rs w') := by
 have hdf0s : _ * 32 ≤ _ := hdf0.small
 have hdx0s : _ * 8 ≤ _ := hdx0.small
 have hde0s : _ * 8 ≤ _ := hde0.small
 refine zl (args := [.agg (f.cells df0).toArray, .agg (x.cells dx0).toArray, .agg (e.cells de0).toArray]) Tryd.func90 rfl rfl ?_
 refine za (R0 fun _ => st (zR (v := .agg (f.cells df0).toArray) rfl ?_))
 intro w3 b2 M
 refine st (zR (v := .agg (x.cells dx0).toArray) rfl ?_)
 intro w7 N O
 refine st (zR (v := .agg (e.cells de0).toArray) rfl ?_)
 intro w11 t P
 have n := ((hS0.new M).new O).new P
 refine st (aS (.bool false) (zb (za (za (zw kr (st (zg (k := 10) nR oR rfl rfl (CellsAt.all (n.b1)) (st (zg (k := 10) nR oR rfl rfl (CellsAt.all (n.b0)) (st (cL Tryd.call97 (VW (a := x) (b := e) hdx0 ox hde0 oe n) ?_)))))))))))
 rintro _ w13 ⟨rfl, g⟩
 refine st (yc (a := (xk x e)) rfl (st (mV (.bool (!(xk x e))) (stc (V := .agg (f.cells df0).toArray) rfl rfl (fun u => ?_) ?_))))
 have y := u
 try simp only [zf] at y
 exact zg (k := 4) tT mT rfl rfl (CellsAt.all (g.b2)) ⟨rfl, rfl⟩
 refine stc (V := Ix N 7) rfl rfl (fun z => ?_) ?_
 have A := z
 try simp only [zf] at A
 exact xh rfl ⟨rfl, rfl⟩
 refine stc (V := Iv (x.op)) rfl rfl (fun o => ?_) ?_
 have B := o
 try simp only [zf] at B
 exact lD (Iv (x.op)) lT (if_pos o) (zd (g.b1) rfl) ⟨rfl, rfl⟩
 refine stc (V := Ix N 8) rfl rfl (fun C => ?_) ?_
 have D := C
 try simp only [zf] at D
 exact xg rfl ⟨rfl, rfl⟩
 refine stc (V := Iv (x.arg)) rfl rfl (fun p => ?_) ?_
 have E := p
 try simp only [zf] at E
 exact lD (Iv (x.arg)) lT (if_pos p) (zd (g.b1) rfl) ⟨rfl, rfl⟩
 refine stc (V := Ix t 7) rfl rfl (fun F => ?_) ?_
 have H := F
 try simp only [zf] at H
 exact xh rfl ⟨rfl, rfl⟩
 refine stc (V := Iv (e.op)) rfl rfl (fun q => ?_) ?_
 have I := q
 try simp only [zf] at I
 exact lD (Iv (e.op)) lT (if_pos q) (zd (g.b0) rfl) ⟨rfl, rfl⟩
 refine stc (V := Ix t 8) rfl rfl (fun J => ?_) ?_
 have K := J
 try simp only [zf] at K
 exact xg rfl ⟨rfl, rfl⟩
 refine stc (V := Iv (e.arg)) rfl rfl (fun s => ?_) ?_
 have L := s
 try simp only [zf] at L
 exact lD (Iv (e.arg)) lT (if_pos s) (zd (g.b0) rfl) ⟨rfl, rfl⟩
 cases l : !(xk x e)
 have c := l
 try simp only [zf] at l
 refine sty rfl rfl (cL Tryd.call98 (Ws (f := f) (oA := x.op) (aA := x.arg) (oB := e.op) (aB := e.arg) hdf0 of ox.op ox.arg oe.op oe.arg g) ?_)
 rintro _ w34 ⟨rfl, h⟩
 refine sty rfl rfl (yc (a := (ZD f.kind x.op x.arg e.op e.arg)) rfl (st (zO (v := .bool (!(ZD f.kind x.op x.arg e.op e.arg))) rfl rfl (zb ?_))))
 cases m : !(ZD f.kind x.op x.arg e.op e.arg)
 have d := m
 try simp only [zf] at m
 refine zi rfl (zk (za (za (R0 fun _ => st (Ya rfl (st (lD (Iv (f.policy)) lT rfl (zd (h.b2) rfl) (st (zF (k := .i64) (a := f.policy) (b := 3) rfl rfl (zb ?_))))))))))
 cases j : decide (f.policy = 3)
 have i := j
 have j := fD j
 refine zi rfl (zk (za (R0 fun _ => st (Ya rfl (st (lD (Iv (f.policy)) lT rfl (zd (h.b2) rfl) (st (zF (k := .i64) (a := f.policy) (b := 2) rfl rfl (st (aS (.bool (decide (f.policy = 2))) (zb (zm (zL vR (show _ = (.bool (decide (f.policy = 2)) : Value) from rfl) ?_)))))))))))))
 refine ⟨?_, (h.s3_)⟩
 rw [ZL]
 ·first | rfl | (simp only [c, d, i, Bool.not_true, Bool.not_false, Bool.false_and, Bool.true_and, Bool.and_false, Bool.and_true, Bool.false_or, Bool.or_false, Bool.true_or, Bool.or_true, Bool.false_eq_true, ↓reduceIte]; done) | (simp only [c, d, i, Bool.not_true, Bool.not_false, Bool.false_and, Bool.true_and, Bool.and_false, Bool.and_true, Bool.false_or, Bool.or_false, Bool.true_or, Bool.or_true, Bool.false_eq_true, ↓reduceIte]; rfl)
 have i := j
 have j := tD j
 refine zj rfl (za (R0 fun _ => st (xg rfl (st (lD (Iv (x.arg)) lT rfl (zd (h.b1) rfl) (st (xg rfl (st (lD (Iv (e.arg)) lT rfl (zd (h.b0) rfl) (st (yM (k := .i64) (a := x.arg) (b := e.arg) rfl rfl (st (aS (.bool (decide (e.arg < x.arg))) (zb (zm (zL vR (show _ = (.bool (decide (e.arg < x.arg)) : Value) from rfl) ?_))))))))))))))))
 refine ⟨?_, (h.s3_)⟩
 rw [ZL]
 ·first | rfl | (simp only [c, d, i, Bool.not_true, Bool.not_false, Bool.false_and, Bool.true_and, Bool.and_false, Bool.and_true, Bool.false_or, Bool.or_false, Bool.true_or, Bool.or_true, Bool.false_eq_true, ↓reduceIte]; done) | (simp only [c, d, i, Bool.not_true, Bool.not_false, Bool.false_and, Bool.true_and, Bool.and_false, Bool.and_true, Bool.false_or, Bool.or_false, Bool.true_or, Bool.or_true, Bool.false_eq_true, ↓reduceIte]; rfl)
 have d := m
 try simp only [zf] at m
 refine zj rfl (za (R0 fun _ => st (aS (.bool false) (zb (zm (zL vR (show _ = (.bool false : Value) from rfl) ?_))))))
 refine ⟨?_, (h.s3_)⟩
 rw [ZL]
 ·first | rfl | (simp only [c, d, Bool.not_true, Bool.not_false, Bool.false_and, Bool.true_and, Bool.and_false, Bool.and_true, Bool.false_or, Bool.or_false, Bool.true_or, Bool.or_true, Bool.false_eq_true, ↓reduceIte]; done) | (simp only [c, d, Bool.not_true, Bool.not_false, Bool.false_and, Bool.true_and, Bool.and_false, Bool.and_true, Bool.false_or, Bool.or_false, Bool.true_or, Bool.or_true, Bool.false_eq_true, ↓reduceIte]; rfl)
 have c := l
 try simp only [zf] at l
 refine stx rfl rfl (stx rfl rfl (st (zN (v := .bool true) rfl rfl (zb (zj rfl (za (R0 fun _ => st (aS (.bool false) (zb (zm (zL vR (show _ = (.bool false : Value) from rfl) ?_)))))))))))
 refine ⟨?_, (g.s3_)⟩
 rw [ZL]
 ·first | rfl | (simp only [c, Bool.not_true, Bool.not_false, Bool.false_and, Bool.true_and, Bool.and_false, Bool.and_true, Bool.false_or, Bool.or_false, Bool.true_or, Bool.or_true, Bool.false_eq_true, ↓reduceIte]; done) | (simp only [c, Bool.not_true, Bool.not_false, Bool.false_and, Bool.true_and, Bool.and_false, Bool.and_true, Bool.false_or, Bool.or_false, Bool.true_or, Bool.or_true, Bool.false_eq_true, ↓reduceIte]; rfl)

theorem VA {G : Nat → Prop} {W w : World} {Rs : List HP} {d : Dcl} {dd0 : Value} (hdd0 : RdS W G dd0 d.types) {dd1 : Value} (hdd1 : RdS W G dd1 d.projs) (od : d.Ok) {ty : Int} (hty : InR ty) {f : Int} (hf : InR f) (hS0 : Sep G W Rs w) : Ret Tryd.prog 72 [.agg (d.cells dd0 dd1).toArray, .int .i64 (ty), .int .i64 (f)] w (fun r w' => ∃ (v : Value), r = (.tuple #[.agg ((zK d ty f).cells v).toArray, .bool ((yo d ty f))] : Value) ∧ ((zK d ty f).Ok) ∧ Sep G W ((RowE (α := Mv) own 115 v ((zK d ty f).moves)) :: Rs) w') := by
 let aU := zy W (sb dd0) (so dd0 + ty.toNat * 1 + 0)
 let aV := zy W (sb aU) (so aU + f.toNat * 4 + 3)
 have hdd0s : _ * 24 ≤ _ := hdd0.small
 have hdd1s : _ * 40 ≤ _ := hdd1.small
 refine zl (args := [.agg (d.cells dd0 dd1).toArray, Iv ty, Iv f]) Tryd.func72 rfl rfl ?_
 refine za (R0 fun _ => st (zR (v := .agg (d.cells dd0 dd1).toArray) rfl ?_))
 intro w3 b2 aQ
 refine st (zr lR ?_)
 intro w7 U aR
 have l := (hS0.new aQ).new aR
 refine st (aS (.bool false) (zb (za (za (zw kr (st (mV (Iv ty) (st (zD (k := .i64) (a := ty) (b := 0) rfl rfl (st (mV (.bool (decide (ty < 0))) (stc (V := Iv ty) rfl rfl (fun aT => ?_) ?_))))))))))))
 have hl10 := fD aT
 exact mV (Iv ty) ⟨rfl, rfl⟩
 refine stc (V := Ix b2 0) rfl rfl (fun an => ?_) ?_
 have hl12 := fD an
 exact yn rfl ⟨rfl, rfl⟩
 refine stc (V := dd0) rfl rfl (fun B => ?_) ?_
 have hl14 := fD B
 exact lD dd0 oT (if_pos B) (zd (l.b1) rfl) ⟨rfl, rfl⟩
 refine stc (V := Iw d.types.length) rfl rfl (fun C => ?_) ?_
 have hl16 := fD C
 exact zA (n := d.types.length) pT (if_pos C) hdd0.sl ⟨rfl, rfl⟩
 refine stc (V := .bool (decide (((d.types.length : Nat) : Int) ≤ ty))) rfl rfl (fun q => ?_) ?_
 have hl18 := fD q
 exact yV (k := .i64) (a := ty) (b := ((d.types.length : Nat) : Int)) (if_pos q) (if_pos q) ⟨rfl, rfl⟩
 refine st (zx (b := decide (ty < 0)) (b' := decide (((d.types.length : Nat) : Int) ≤ ty)) rfl (fun hbp => (if_pos hbp)) (st (mV (.bool ((decide (ty < 0)) || (decide (((d.types.length : Nat) : Int) ≤ ty)))) (stc (V := Iv f) rfl rfl (fun ao => ?_) ?_))))
 have ap := ao
 try simp only [zf] at ap
 exact mV (Iv f) ⟨rfl, rfl⟩
 refine stc (V := .bool (decide (f < 0))) rfl rfl (fun D => ?_) ?_
 have aq := D
 try simp only [zf] at aq
 exact zD (k := .i64) (a := f) (b := 0) (if_pos D) rfl ⟨rfl, rfl⟩
 refine st (zx (b := (decide (ty < 0)) || (decide (((d.types.length : Nat) : Int) ≤ ty))) (b' := decide (f < 0)) rfl (fun hbp => (if_pos hbp)) (st (mV (.bool (((decide (ty < 0)) || (decide (((d.types.length : Nat) : Int) ≤ ty))) || (decide (f < 0)))) (stc (V := Iv f) rfl rfl (fun ar => ?_) ?_))))
 have au := ar
 try simp only [zf] at au
 exact mV (Iv f) ⟨rfl, rfl⟩
 refine stc (V := Ix b2 0) rfl rfl (fun av => ?_) ?_
 have aw := av
 try simp only [zf] at aw
 exact yn rfl ⟨rfl, rfl⟩
 refine stc (V := dd0) rfl rfl (fun E => ?_) ?_
 have ax := E
 try simp only [zf] at ax
 exact lD dd0 oT (if_pos E) (zd (l.b1) rfl) ⟨rfl, rfl⟩
 refine stc (V := Iv ty) rfl rfl (fun ay => ?_) ?_
 have az := ay
 try simp only [zf] at az
 exact mV (Iv ty) ⟨rfl, rfl⟩
 refine stc (V := Ix (sb dd0) (so dd0 + ty.toNat * 1)) rfl rfl (fun s => ?_) ?_
 have aA := s
 try simp only [zf] at aA
 have hi33 : ty.toNat < d.types.length := bo
 exact zq (k := 1) (i := ty) pT qT (if_pos s) hdd0.sl (if_pos s) ⟨by omega, by omega⟩ ⟨rfl, rfl⟩
 refine stc (V := Ix (sb dd0) (so dd0 + ty.toNat * 1)) rfl rfl (fun F => ?_) ?_
 have aB := F
 try simp only [zf] at aB
 exact yv (if_pos F) ⟨rfl, rfl⟩
 refine stc (V := aU) rfl rfl (fun H => ?_) ?_
 have aC := H
 try simp only [zf] at aC
 have I : ty.toNat < d.types.length := bo
 obtain ⟨X, A, hoke38⟩ := hdd0.typD I
 have hsm40 : ((d.types.getD ty.toNat default).fields).length * 48 ≤ 140737488355328 := A.small
 have Y := l.cells X (hdd0.foot (ne_of_lt I))
 exact lD aU rT (if_pos H) (Y.get (j := 0) rfl) ⟨rfl, rfl⟩
 refine stc (V := Iw (((d.types.getD ty.toNat default).fields).length)) rfl rfl (fun J => ?_) ?_
 have aD := J
 try simp only [zf] at aD
 have K : ty.toNat < d.types.length := bo
 obtain ⟨Z, m, hoke44⟩ := hdd0.typD K
 have hsm46 : ((d.types.getD ty.toNat default).fields).length * 48 ≤ 140737488355328 := m.small
 have hcw47 := l.cells Z (hdd0.foot (ne_of_lt K))
 exact zA (n := ((d.types.getD ty.toNat default).fields).length) vT (if_pos J) m.sl ⟨rfl, rfl⟩
 refine stc (V := .bool (decide (((((d.types.getD ty.toNat default).fields).length : Nat) : Int) ≤ f))) rfl rfl (fun t => ?_) ?_
 have aE := t
 try simp only [zf] at aE
 exact yV (k := .i64) (a := f) (b := ((((d.types.getD ty.toNat default).fields).length : Nat) : Int)) (if_pos t) (if_pos t) ⟨rfl, rfl⟩
 refine st (zx (b := ((decide (ty < 0)) || (decide (((d.types.length : Nat) : Int) ≤ ty))) || (decide (f < 0))) (b' := decide (((((d.types.getD ty.toNat default).fields).length : Nat) : Int) ≤ f)) rfl (fun hbp => (if_pos hbp)) (zb ?_))
 cases L : (((decide (ty < 0)) || (decide (((d.types.length : Nat) : Int) ≤ ty))) || (decide (f < 0))) || (decide (((((d.types.getD ty.toNat default).fields).length : Nat) : Int) ≤ f))
 try simp only [zf] at L
 refine zi rfl (zk (za (R0 fun _ => st (yn rfl (st (lD dd0 oT rfl (zd (l.b1) rfl) (st (mV (Iv ty) ?_))))))))
 have hi51 : ty.toNat < d.types.length := bo
 refine st (zq (k := 1) (i := ty) pT qT rfl hdd0.sl rfl ⟨by omega, by omega⟩ (st (yv rfl ?_)))
 have M : ty.toNat < d.types.length := bo
 obtain ⟨aa, h, hoke52⟩ := hdd0.typD M
 have hsm54 : ((d.types.getD ty.toNat default).fields).length * 48 ≤ 140737488355328 := h.small
 have ab := l.cells aa (hdd0.foot (ne_of_lt M))
 refine st (lD aU rT rfl (ab.get (j := 0) rfl) (st (mV (Iv f) ?_)))
 have hi56 : f.toNat < ((d.types.getD ty.toNat default).fields).length := bo
 refine st (zq (k := 4) (i := f) vT mT rfl h.sl rfl ⟨by omega, by omega⟩ ?_)
 have N : f.toNat < ((d.types.getD ty.toNat default).fields).length := bo
 obtain ⟨ac, e, p⟩ := h.fldD N
 have hsm59 : ((((d.types.getD ty.toNat default).fields).getD f.toNat default).moves).length * 32 ≤ 140737488355328 := e.small
 have ad := l.cells ac (h.foot (ne_of_lt N))
 refine st (zg (k := 4) tT mT rfl rfl ad (st (zr lR ?_)))
 intro w63 al aF
 have O := l.new aF
 refine stn (zp (v := .agg ((((d.types.getD ty.toNat default).fields).getD f.toNat default).cells aV).toArray) (c' := ((((d.types.getD ty.toNat default).fields).getD f.toNat default).cells aV).toArray) mT rfl rfl (O.b0) (zW ⟨rfl, rfl, rfl, e.sl.one, trivial⟩) yqc rfl ?_)
 intro w65 aG
 refine zb (za (R0 fun _ => st (aS (Iz) (zb (za (za (R0 fun _ => st (aS (Iv 0) (zb (zn ?_))))))))))
 have aH : Sep _ _ ((RowE (α := Mv) own 115 (Iz) ([] : List Mv)) :: _) _ := (O.pt0 aG).rowNil own 115
 refine zX (fun mq σ wq => ∃ (k : Nat) (vm : Value) (ρ : Env), mq = ((d.types.getD ty.toNat default).fields.getD f.toNat default).moves.length - k ∧ σ = yb ρ [(3, Ix b2 0), (6, Ix U 0), (8, Ix al 0), (10, Iw k), (9, vm)] ∧ (k ≤ ((d.types.getD ty.toNat default).fields.getD f.toNat default).moves.length) ∧ Sep G W ((RowE (α := Mv) own 115 vm (((d.types.getD ty.toNat default).fields.getD f.toNat default).moves.take k)) :: (Blk al ((((d.types.getD ty.toNat default).fields).getD f.toNat default).cells (zy W (sb (zy W (sb dd0) (so dd0 + ty.toNat * 1 + 0))) (so (zy W (sb dd0) (so dd0 + ty.toNat * 1 + 0)) + f.toNat * 4 + 3))).toArray 79) :: (Blk U #[Iv 0, Iv 0, .bool false, (Iz)] 79) :: (Blk b2 (d.cells dd0 dd1).toArray 25) :: Rs) wq) ⟨0, (Iz), _, rfl, sSf, Nat.zero_le _, aH⟩ ?_
 rintro m70 σ71 w69 ⟨k, vm, ρl1, rfl, rfl, hkk, g⟩
 have aI := g.r0
 have hr73s : _ * 32 ≤ _ := aI.2
 refine za (za (R0 fun _ => st (mV (Iw k) (st (yu rfl (st (lD aV wT rfl (zd (g.b1) rfl) (st (zA (n := ((((d.types.getD ty.toNat default).fields).getD f.toNat default).moves).length) sT rfl e.sl (st (zD (k := .i64) (a := ((k : Nat) : Int)) (b := ((((((d.types.getD ty.toNat default).fields).getD f.toNat default).moves).length : Nat) : Int)) rfl rfl (zb ?_))))))))))))
 cases o : decide (((k : Nat) : Int) < ((((((d.types.getD ty.toNat default).fields).getD f.toNat default).moves).length : Nat) : Int))
 have o := fD o
 have hkn : k = ((d.types.getD ty.toNat default).fields.getD f.toNat default).moves.length := by omega
 rw [hkn, List.take_of_length_le (Nat.le_refl ((d.types.getD ty.toNat default).fields.getD f.toNat default).moves.length)] at g
 have u := g.r0
 have hr75s : _ * 32 ≤ _ := u.2
 refine zi rfl (zU (zI (za (R0 fun _ => st (mV vm (st (yu rfl (stn (yp (v := vm) (c := [Iv ((((d.types.getD ty.toNat default).fields).getD f.toNat default).kind), Iv ((((d.types.getD ty.toNat default).fields).getD f.toNat default).policy), .bool ((((d.types.getD ty.toNat default).fields).getD f.toNat default).floor), aV]) (c' := [Iv ((((d.types.getD ty.toNat default).fields).getD f.toNat default).kind), Iv ((((d.types.getD ty.toNat default).fields).getD f.toNat default).policy), .bool ((((d.types.getD ty.toNat default).fields).getD f.toNat default).floor), vm]) oY rfl rfl (g.b1) u.1.one rfl rfl ?_)))))))))
 intro w76 aJ
 have aK : Fld.Ok (⟨(((d.types.getD ty.toNat default).fields).getD f.toNat default).kind, (((d.types.getD ty.toNat default).fields).getD f.toNat default).policy, (((d.types.getD ty.toNat default).fields).getD f.toNat default).floor, ((d.types.getD ty.toNat default).fields.getD f.toNat default).moves⟩ : Fld) := ⟨(show InR ((((d.types.getD ty.toNat default).fields).getD f.toNat default).kind) from p.kind), (show InR ((((d.types.getD ty.toNat default).fields).getD f.toNat default).policy) from p.policy)⟩
 have x := g.pt1 aJ
 refine zb (za (R0 fun _ => st (zg (k := 4) tT mT rfl rfl (CellsAt.all (x.b1)) (stn (zp (v := .agg ((⟨(((d.types.getD ty.toNat default).fields).getD f.toNat default).kind, (((d.types.getD ty.toNat default).fields).getD f.toNat default).policy, (((d.types.getD ty.toNat default).fields).getD f.toNat default).floor, ((d.types.getD ty.toNat default).fields.getD f.toNat default).moves⟩ : Fld).cells vm).toArray) (c' := ((⟨(((d.types.getD ty.toNat default).fields).getD f.toNat default).kind, (((d.types.getD ty.toNat default).fields).getD f.toNat default).policy, (((d.types.getD ty.toNat default).fields).getD f.toNat default).floor, ((d.types.getD ty.toNat default).fields.getD f.toNat default).moves⟩ : Fld).cells vm).toArray) mT rfl rfl (x.b2) (zW ⟨rfl, rfl, rfl, u.1.one, trivial⟩) yqc rfl ?_)))))
 intro w80 aL
 have P := x.pt2 aL
 refine st (aS (.bool true) (zb (zm (ZA (b := U) lA tT mT rfl rfl (CellsAt.all (P.b2)) (show _ = (.bool true : Value) from rfl) ?_))))
 have Q : yo d ty f = true := by unfold yo; simp only [Bool.and_eq_true, decide_eq_true_eq]; omega
 have hz : zK d ty f = (⟨(((d.types.getD ty.toNat default).fields).getD f.toNat default).kind, (((d.types.getD ty.toNat default).fields).getD f.toNat default).policy, (((d.types.getD ty.toNat default).fields).getD f.toNat default).floor, ((d.types.getD ty.toNat default).fields.getD f.toNat default).moves⟩ : Fld) := by unfold zK; rw [Q]; rfl
 rw [hz, Q]
 refine ⟨vm, rfl, ?_, (P.s4_a)⟩
 exact aK
 have o := tD o
 refine zj rfl (zk (za (zn (R0 fun _ => st (mV vm (st (yu rfl (st (lD aV wT rfl (zd (g.b1) rfl) (st (mV (Iw k) ?_)))))))))))
 have aM : k < ((((d.types.getD ty.toNat default).fields).getD f.toNat default).moves).length := bo
 refine st (ze (k := 4) (i := k) sT uT rfl e.sl rfl aM ?_)
 have R : k < ((((d.types.getD ty.toNat default).fields).getD f.toNat default).moves).length := bo
 obtain ⟨ae, S⟩ := e.mvD R
 have af := g.cells ae (e.foot (ne_of_lt R))
 refine st (zg (k := 4) pY uT rfl rfl af (st (zu (k := 4) (parts' := [(0, .agg ((((((d.types.getD ty.toNat default).fields).getD f.toNat default).moves).getD k default).cells).toArray)]) (c := ((((((d.types.getD ty.toNat default).fields).getD f.toNat default).moves).getD k default).cells).toArray) sT uT qY dc rfl kr ?_)))
 intro w90 b89 aN
 have T := g.new aN
 have ag := T.b0
 refine st (yj (src := own) (bytes := 32) (x1 := (((((d.types.getD ty.toNat default).fields).getD f.toNat default).moves).getD k default)) ((T.s5_bcde).emp1) Kx rfl rfl ag (fun _ _ _ => (show _ from ⟨rfl, S⟩)) yqb rfl ?_)
 intro am w92 y
 have aO := y.r0
 have hr98s : _ * 32 ≤ _ := aO.2
 refine st (aS am (zb (R0 fun _ => st (mV (Iw k) ?_))))
 have aP : InR ((k + 1 : Nat) : Int) := bo
 refine st (zH (r := ((k + 1 : Nat) : Int)) (k := .i64) (a := ((k : Nat) : Int)) (b := 1) rfl rfl (by rw [show (((k : Nat) : Int) + 1 : Int) = ((k + 1 : Nat) : Int) from bo]; exact zz aP) (st (aS (Iw (k + 1)) (zb ?_))))
 have ah : (((d.types.getD ty.toNat default).fields.getD f.toNat default).moves.take (k + 1)) = (((d.types.getD ty.toNat default).fields.getD f.toNat default).moves.take k) ++ [(((((d.types.getD ty.toNat default).fields).getD f.toNat default).moves).getD k default)] := (List.take_getD om)
 rw [← ah] at y
 exact ⟨_, by omega, k + 1, am, _, rfl, sSf, by omega, y⟩
 try simp only [zf] at L
 refine zj rfl (za (R0 fun _ => ?_))
 have ai : Fld.Ok (⟨0, 0, false, []⟩ : Fld) := ⟨(show InR (0) from dc), (show InR (0) from dc)⟩
 refine st (zQ (parts' := []) (v := .agg ((⟨0, 0, false, []⟩ : Fld).cells (Iz)).toArray) rfl yqf (stn (zp (v := .agg ((⟨0, 0, false, []⟩ : Fld).cells (Iz)).toArray) (c' := ((⟨0, 0, false, []⟩ : Fld).cells (Iz)).toArray) mT rfl rfl (l.b0) (zW ⟨rfl, rfl, rfl, rfl, trivial⟩) yqc rfl ?_)))
 intro w102 aj
 have z := l.pt0 aj
 refine st (aS (.bool false) (zb (zm (ZA (b := U) lA tT mT rfl rfl (CellsAt.all (z.b0)) (show _ = (.bool false : Value) from rfl) ?_))))
 have ak : Sep _ _ ((RowE (α := Mv) own 115 (Iz) ([] : List Mv)) :: _) _ := z.rowNil own 115
 have Q : yo d ty f = false := by unfold yo; rw [Bool.eq_false_iff]; intro h9; simp only [Bool.and_eq_true, decide_eq_true_eq] at h9; omega
 have hz : zK d ty f = (⟨0, 0, false, []⟩ : Fld) := by unfold zK; rw [Q]; rfl
 rw [hz, Q]
 refine ⟨(Iz), rfl, ?_, (ak.s3_a)⟩
 exact ai

theorem UC {G : Nat → Prop} {W w : World} {Rs : List HP} {d : Dcl} {dd0 : Value} (hdd0 : RdS W G dd0 d.types) {dd1 : Value} (hdd1 : RdS W G dd1 d.projs) (od : d.Ok) {ty : Int} (hty : InR ty) {f : Int} (hf : InR f) {op : Int} (hop : InR op) {arg : Int} (harg : InR arg) (hS0 : Sep G W Rs w) : Ret Tryd.prog 89 [.agg (d.cells dd0 dd1).toArray, .int .i64 (ty), .int .i64 (f), .int .i64 (op), .int .i64 (arg)] w (fun r w' => r = (.int .i64 (yE d ty f op arg) : Value) ∧ Sep G W Rs w') := by
 have hdd0s : _ * 24 ≤ _ := hdd0.small
 have hdd1s : _ * 40 ≤ _ := hdd1.small
 refine zl (args := [.agg (d.cells dd0 dd1).toArray, Iv ty, Iv f, Iv op, Iv arg]) Tryd.func89 rfl rfl ?_
 refine za (R0 fun _ => st (zR (v := .agg (d.cells dd0 dd1).toArray) rfl ?_))
 intro w3 b2 L
 have E := hS0.new L
 refine st (aS (Iv 0) (zb (za (R0 fun _ => st (zg (k := 2) wR tR rfl rfl (CellsAt.all (E.b0)) (st (mV (Iv ty) (st (mV (Iv f) (st (cL Tryd.call72 (VA (d := d) (ty := ty) (f := f) hdd0 hdd1 od hty hf E) ?_)))))))))))
 rintro _ w7 ⟨u, rfl, hfok6, F⟩
 let N := (zK d ty f).cells u
 have y := F.r0
 have hr9s : _ * 32 ≤ _ := y.2
 refine st (mV (.tuple #[.agg N.toArray, .bool ((yo d ty f))]) (st (zt (vs := [.agg N.toArray, .bool ((yo d ty f))]) (i := 0) (v := .agg N.toArray) rfl rfl (st (zt (vs := [.agg N.toArray, .bool ((yo d ty f))]) (i := 1) (v := .bool ((yo d ty f))) rfl rfl (st (zr lR ?_)))))))
 intro w12 M H
 have z := F.new H
 refine stn (zp (v := .agg N.toArray) (c' := N.toArray) mT rfl rfl (z.b0) (zW ⟨rfl, rfl, rfl, y.1.one, trivial⟩) yqc rfl ?_)
 intro w14 I
 have c := z.pt0 I
 refine st (aS (.bool ((yo d ty f))) (zb (za (za (R0 fun _ => st (mV (.bool ((yo d ty f))) (st (yc (a := (yo d ty f)) rfl (zb ?_)))))))))
 cases A : !(yo d ty f)
 try simp only [zf] at A
 refine zi rfl (zk (za (za (R0 fun _ => st (mV (Iv op) (zb (zn (za (R0 fun _ => st (zF (k := .i64) (a := op) (b := 1) rfl rfl (st (aS (.bool (decide (op = 1))) (zb ?_)))))))))))))
 cases e : decide (op = 1)
 have e := fD e
 refine zi rfl (za (R0 fun _ => st (zF (k := .i64) (a := op) (b := 2) rfl rfl (st (aS (.bool (decide (op = 2))) (zb ?_))))))
 cases g : decide (op = 2)
 have g := fD g
 refine zi rfl (za (za (R0 fun _ => st (zF (k := .i64) (a := op) (b := 3) rfl rfl (st (aS (.bool (decide (op = 3))) (zb ?_)))))))
 cases h : decide (op = 3)
 have h := fD h
 refine zi rfl (R0 fun _ => st (zF (k := .i64) (a := op) (b := 4) rfl rfl (st (aS (.bool (decide (op = 4))) (zb ?_)))))
 cases j : decide (op = 4)
 have j := fD j
 refine zi rfl (za (R0 fun _ => st (zF (k := .i64) (a := op) (b := 5) rfl rfl (st (aS (.bool (decide (op = 5))) (zb ?_))))))
 cases l : decide (op = 5)
 have l := fD l
 refine zi rfl (za (R0 fun _ => st (aS (Iv 2) (zb (zm (zL nT (show _ = (Iv 2 : Value) from rfl) ?_))))))
 refine ⟨?_, (c.s3_)⟩
 congr 1
 rw [yQ]
 ·repeat first | rfl | rw [if_pos (by first | assumption | omega)] | rw [if_neg (by first | assumption | omega | simp_all)]
 have l := tD l
 refine zj rfl (za (za (R0 fun _ => st (yX rfl (st (lD (Iv ((zK d ty f).kind)) lT rfl (zd (c.b0) rfl) (st (yh (k := .i64) (a := (zK d ty f).kind) (b := 4) rfl rfl (zb ?_)))))))))
 cases m : !decide (((zK d ty f).kind) = 4)
 have m := zB m
 refine zi rfl (zk (za (zw kr (st (mV (Iv arg) (st (zD (k := .i64) (a := arg) (b := 0) rfl rfl (st (mV (.bool (decide (arg < 0))) (stc (V := Iv arg) rfl rfl (fun J => ?_) ?_))))))))))
 have hl26 := fD J
 exact mV (Iv arg) ⟨rfl, rfl⟩
 refine stc (V := Ix M 3) rfl rfl (fun K => ?_) ?_
 have hl28 := fD K
 exact yu rfl ⟨rfl, rfl⟩
 refine stc (V := u) rfl rfl (fun B => ?_) ?_
 have hl30 := fD B
 exact lD u wT (if_pos B) (zd (c.b0) rfl) ⟨rfl, rfl⟩
 refine stc (V := Iw (((zK d ty f).moves).length)) rfl rfl (fun C => ?_) ?_
 have hl32 := fD C
 exact zA (n := ((zK d ty f).moves).length) sT (if_pos C) y.1 ⟨rfl, rfl⟩
 refine stc (V := .bool (decide (((((zK d ty f).moves).length : Nat) : Int) ≤ arg))) rfl rfl (fun x => ?_) ?_
 have hl34 := fD x
 exact yV (k := .i64) (a := arg) (b := ((((zK d ty f).moves).length : Nat) : Int)) (if_pos x) (if_pos x) ⟨rfl, rfl⟩
 refine st (zx (b := decide (arg < 0)) (b' := decide (((((zK d ty f).moves).length : Nat) : Int) ≤ arg)) rfl (fun hbp => (if_pos hbp)) (zb ?_))
 cases D : (decide (arg < 0)) || (decide (((((zK d ty f).moves).length : Nat) : Int) ≤ arg))
 try simp only [zf] at D
 refine zi rfl (zk (za (R0 fun _ => st (aS (Iv 0) (zb (zm (zL nT (show _ = (Iv 0 : Value) from rfl) ?_)))))))
 refine ⟨?_, (c.s3_)⟩
 congr 1
 rw [yQ]
 ·repeat first | rfl | rw [if_pos (by first | assumption | omega)] | rw [if_neg (by first | assumption | omega | simp_all)]
 try simp only [zf] at D
 refine zj rfl (za (R0 fun _ => st (aS (Iv 1) (zb (zm (zL nT (show _ = (Iv 1 : Value) from rfl) ?_))))))
 refine ⟨?_, (c.s3_)⟩
 congr 1
 rw [yQ]
 ·repeat first | rfl | rw [if_pos (by first | assumption | omega)] | rw [if_neg (by first | assumption | omega | simp_all)]
 have m := zM m
 refine zj rfl (za (R0 fun _ => st (aS (Iv 2) (zb (zm (zL nT (show _ = (Iv 2 : Value) from rfl) ?_))))))
 refine ⟨?_, (c.s3_)⟩
 congr 1
 rw [yQ]
 ·repeat first | rfl | rw [if_pos (by first | assumption | omega)] | rw [if_neg (by first | assumption | omega | simp_all)]
 have j := tD j
 refine zj rfl (za (R0 fun _ => st (yX rfl (st (lD (Iv ((zK d ty f).kind)) lT rfl (zd (c.b0) rfl) (st (yh (k := .i64) (a := (zK d ty f).kind) (b := 3) rfl rfl (zb ?_))))))))
 cases o : !decide (((zK d ty f).kind) = 3)
 have o := zB o
 refine zi rfl (zk (za (R0 fun _ => st (aS (Iv 0) (zb (zm (zL nT (show _ = (Iv 0 : Value) from rfl) ?_)))))))
 refine ⟨?_, (c.s3_)⟩
 congr 1
 rw [yQ]
 ·repeat first | rfl | rw [if_pos (by first | assumption | omega)] | rw [if_neg (by first | assumption | omega | simp_all)]
 have o := zM o
 refine zj rfl (za (R0 fun _ => st (aS (Iv 2) (zb (zm (zL nT (show _ = (Iv 2 : Value) from rfl) ?_))))))
 refine ⟨?_, (c.s3_)⟩
 congr 1
 rw [yQ]
 ·repeat first | rfl | rw [if_pos (by first | assumption | omega)] | rw [if_neg (by first | assumption | omega | simp_all)]
 have h := tD h
 refine zj rfl (zk (zj rfl (za (R0 fun _ => st (yX rfl (st (lD (Iv ((zK d ty f).kind)) lT rfl (zd (c.b0) rfl) (st (yh (k := .i64) (a := (zK d ty f).kind) (b := 3) rfl rfl (zb ?_))))))))))
 cases p : !decide (((zK d ty f).kind) = 3)
 have p := zB p
 refine zi rfl (zk (za (R0 fun _ => st (aS (Iv 0) (zb (zm (zL nT (show _ = (Iv 0 : Value) from rfl) ?_)))))))
 refine ⟨?_, (c.s3_)⟩
 congr 1
 rw [yQ]
 ·repeat first | rfl | rw [if_pos (by first | assumption | omega)] | rw [if_neg (by first | assumption | omega | simp_all)]
 have p := zM p
 refine zj rfl (za (R0 fun _ => st (aS (Iv 2) (zb (zm (zL nT (show _ = (Iv 2 : Value) from rfl) ?_))))))
 refine ⟨?_, (c.s3_)⟩
 congr 1
 rw [yQ]
 ·repeat first | rfl | rw [if_pos (by first | assumption | omega)] | rw [if_neg (by first | assumption | omega | simp_all)]
 have g := tD g
 refine zj rfl (za (R0 fun _ => st (yX rfl (st (lD (Iv ((zK d ty f).kind)) lT rfl (zd (c.b0) rfl) (st (yh (k := .i64) (a := (zK d ty f).kind) (b := 2) rfl rfl (zb ?_))))))))
 cases q : !decide (((zK d ty f).kind) = 2)
 have q := zB q
 refine zi rfl (zk (za (R0 fun _ => st (aS (Iv 0) (zb (zm (zL nT (show _ = (Iv 0 : Value) from rfl) ?_)))))))
 refine ⟨?_, (c.s3_)⟩
 congr 1
 rw [yQ]
 ·repeat first | rfl | rw [if_pos (by first | assumption | omega)] | rw [if_neg (by first | assumption | omega | simp_all)]
 have q := zM q
 refine zj rfl (za (R0 fun _ => st (aS (Iv 2) (zb (zm (zL nT (show _ = (Iv 2 : Value) from rfl) ?_))))))
 refine ⟨?_, (c.s3_)⟩
 congr 1
 rw [yQ]
 ·repeat first | rfl | rw [if_pos (by first | assumption | omega)] | rw [if_neg (by first | assumption | omega | simp_all)]
 have e := tD e
 refine zj rfl (za (za (R0 fun _ => st (yX rfl (st (lD (Iv ((zK d ty f).kind)) lT rfl (zd (c.b0) rfl) (st (yh (k := .i64) (a := (zK d ty f).kind) (b := 1) rfl rfl (zb ?_)))))))))
 cases s : !decide (((zK d ty f).kind) = 1)
 have s := zB s
 refine zi rfl (zk (za (R0 fun _ => st (mV (Iv arg) (st (zF (k := .i64) (a := arg) (b := 0) rfl rfl (zb ?_)))))))
 cases t : decide (arg = 0)
 have t := fD t
 refine zi rfl (zk (za (R0 fun _ => st (aS (Iv 0) (zb (zm (zL nT (show _ = (Iv 0 : Value) from rfl) ?_)))))))
 refine ⟨?_, (c.s3_)⟩
 congr 1
 rw [yQ]
 ·repeat first | rfl | rw [if_pos (by first | assumption | omega)] | rw [if_neg (by first | assumption | omega | simp_all)]
 have t := tD t
 refine zj rfl (za (R0 fun _ => st (aS (Iv 1) (zb (zm (zL nT (show _ = (Iv 1 : Value) from rfl) ?_))))))
 refine ⟨?_, (c.s3_)⟩
 congr 1
 rw [yQ]
 ·repeat first | rfl | rw [if_pos (by first | assumption | omega)] | rw [if_neg (by first | assumption | omega | simp_all)]
 have s := zM s
 refine zj rfl (za (R0 fun _ => st (aS (Iv 2) (zb (zm (zL nT (show _ = (Iv 2 : Value) from rfl) ?_))))))
 refine ⟨?_, (c.s3_)⟩
 congr 1
 rw [yQ]
 ·repeat first | rfl | rw [if_pos (by first | assumption | omega)] | rw [if_neg (by first | assumption | omega | simp_all)]
 try simp only [zf] at A
 refine zj rfl (za (R0 fun _ => st (aS (Iv 8) (zb (zm (zL nT (show _ = (Iv 8 : Value) from rfl) ?_))))))
 refine ⟨?_, (c.s3_)⟩
 congr 1
 rw [yQ]
 ·repeat first | rfl | rw [if_pos (by first | assumption | omega)] | rw [if_neg (by first | assumption | omega | simp_all)]

end Go.Proofs.YtlblilbmpdejgaaDoor
