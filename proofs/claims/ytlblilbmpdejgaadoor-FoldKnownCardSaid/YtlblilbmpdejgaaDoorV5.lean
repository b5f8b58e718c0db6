import Derived.Test.YtlblilbmpdejgaaDoorV4
import Derived.Test.YtlblilbmpdejgaaDoorV1
import Derived.Test.YtlblilbmpdejgaaDoorRows
import Derived.OpenShut
import Derived.Stop.Joined
import Derived.LaidMore
import Derived.MakeChecks
import Derived.Test.YtlblilbmpdejgaaDoorV2
set_option linter.unusedSimpArgs false
set_option linter.unusedVariables false
set_option linter.unusedSectionVars false
set_option linter.deprecated false
set_option maxRecDepth 8000
set_option maxHeartbeats 4000000
open Go.Proofs.Tryd renaming isAgg3 → lT, sizeOf79 → mT, sizeOf135 → nT, isAgg135 → oT, isAgg79 → pT, results15 → qT, isAgg59 → rT, sizeOf59 → sT, call51 → tT, results68 → uT, underlying77 → vT, zeroValue79 → wT, isAgg22 → lR, underlying22 → mR, results40 → nR, results69 → oR, results41 → pR, results67 → qR, sizeOf33 → rR, isAgg31 → sR, underlying31 → tR, isAgg77 → uR, underlying92 → vR, sizeOf3 → wR, underlying3 → lY, underlying40 → mY, results100 → nY, isAgg57 → oY, sizeOf57 → pY, call92 → qY, zeroValue135 → rY
namespace Go.Proofs.YtlblilbmpdejgaaDoor
open Go.Proofs Go.RowKit

def kindsL : List Int := [0, 1, 2, 3, 3, 4]
theorem VR : kindsL.length = 6 := rfl
def yo (d : Dcl) (ty f : Int) : Bool := (decide (0 ≤ ty) && decide (ty ≤ ((d.types.length : Nat) : Int) - 1)) && (decide (0 ≤ f) && decide (f ≤ (((d.types.getD ty.toNat default).fields.length : Nat) : Int) - 1))
def zK (d : Dcl) (ty f : Int) : Fld := if yo d ty f = true then (d.types.getD ty.toNat default).fields.getD f.toNat default else ⟨0, 0, false, []⟩
def yE (d : Dcl) (ty f op arg : Int) : Int :=
  if (!yo d ty f) = true then 8 else if (!(decide (1 ≤ op) && decide (op ≤ 5)) || !decide (kindsL.getD op.toNat 0 = (zK d ty f).kind)) = true then 2
  else if (decide (op = 1) && decide (arg = 0)) = true then 1 else if (decide (op = 5) && !(decide (0 ≤ arg) && decide (arg ≤ (((zK d ty f).moves.length : Nat) : Int) - 1))) = true then 1 else 0
theorem ZK {d : Dcl} {ty f op arg : Int} (h : yE d ty f op arg = 0) : 0 ≤ ty ∧ ty < d.types.length ∧ Fits (d.types.getD ty.toNat default) f op arg := by
  unfold yE at h
  split at h
  · cases h
  rename_i h1
  split at h
  · cases h
  rename_i h2
  split at h
  · cases h
  rename_i h3
  split at h
  · cases h
  rename_i h4
  have hB : yo d ty f = true := by simpa using h1
  have hz : zK d ty f = (d.types.getD ty.toNat default).fields.getD f.toNat default := by unfold zK; rw [hB]; rfl
  rw [hz] at h2 h4
  unfold yo at hB
  simp only [Bool.and_eq_true, decide_eq_true_eq] at hB
  simp only [Bool.or_eq_true, Bool.not_eq_true', Bool.and_eq_false_iff, Bool.and_eq_true, decide_eq_true_eq, decide_eq_false_iff_not, not_or, Decidable.not_not, not_and] at h2 h3 h4
  refine ⟨hB.1.1, by omega, ⟨hB.2.1, by omega, ?_⟩⟩
  have h5 : op = 1 ∨ op = 2 ∨ op = 3 ∨ op = 4 ∨ op = 5 := by omega
  have h6 := h2.2
  unfold yK
  rcases h5 with rfl | rfl | rfl | rfl | rfl
  · exact .inl ⟨rfl, h6.symm⟩
  · exact .inr (.inl ⟨rfl, h6.symm⟩)
  · exact .inr (.inr (.inl ⟨.inl rfl, h6.symm⟩))
  · exact .inr (.inr (.inl ⟨.inr rfl, h6.symm⟩))
  · have := h4 rfl
    exact .inr (.inr (.inr ⟨rfl, h6.symm, by omega, by omega⟩))
instance : Flat Mv := ⟨fun h => h⟩
theorem Yp {G : Nat → Prop} {W w : World} {Rs : List HP} {x : Int} (hx : InR x) {lo : Int} (hlo : InR lo) {hi : Int} (hhi : InR hi) (hS0 : Sep G W Rs w) : Ret Tryd.prog 51 [.int .i64 (x), .int .i64 (lo), .int .i64 (hi)] w (fun r w' => r = (.bool ((decide (lo ≤ x) && decide (x ≤ hi))) : Value) ∧ Sep G W Rs w') := by
 refine zl (args := [Iv x, Iv lo, Iv hi]) Tryd.func51 rfl rfl ?_
 refine za (R0 fun _ => st (aS (.bool false) (zb (za (zw kr (st (mV (Iv x) (st (mV (Iv lo) (st (yV (k := .i64) (a := x) (b := lo) rfl rfl (st (mV (.bool (decide (lo ≤ x))) (stc (V := Iv x) rfl rfl (fun d => ?_) ?_))))))))))))))
 have hl2 := tD d
 exact mV (Iv x) ⟨rfl, rfl⟩
 refine stc (V := Iv hi) rfl rfl (fun e => ?_) ?_
 have hl4 := tD e
 exact mV (Iv hi) ⟨rfl, rfl⟩
 refine stc (V := .bool (decide (x ≤ hi))) rfl rfl (fun c => ?_) ?_
 have hl6 := tD c
 exact Jk (k := .i64) (a := x) (b := hi) (if_pos c) (if_pos c) ⟨rfl, rfl⟩
 refine st (zo (b := decide (lo ≤ x)) (b' := decide (x ≤ hi)) rfl (fun hbp => (if_pos hbp)) (st (aS (.bool ((decide (lo ≤ x)) && (decide (x ≤ hi)))) (zb (zm (zL Tryd.results51 (show _ = (.bool ((decide (lo ≤ x)) && (decide (x ≤ hi))) : Value) from rfl) ?_))))))
 refine ⟨rfl, hS0⟩

theorem Wd {G : Nat → Prop} {W w : World} {Rs : List HP} {vl : Value} {l : List Mv} (hl : RdS W G vl l) (hS0 : Sep G W Rs w) : Ret Tryd.prog 67 [vl] w (fun r w' => ∃ (v : Value), r = (v : Value) ∧ Sep G W ((RowE (α := Mv) own 115 v l) :: Rs) w') := by
 have hls : _ * 32 ≤ _ := hl.small
 refine zl (args := [vl]) Tryd.func67 rfl rfl ?_
 refine za (R0 fun _ => st (aS (Iz) (zb (za (za (R0 fun _ => st (mV vl (st (xU (v := vl) vT rfl hl.sl (zb ?_))))))))))
 cases i : xP vl
 refine zi rfl (zk (za (R0 fun _ => st (zu (k := 4) (parts' := []) (c := #[]) vT Tryd.sizeOf115 Tryd.zeroValue115 dc rfl kr ?_))))
 intro o p j
 refine st (mV vl ?_)
 have d : Sep G W ((RowE (α := Mv) own 115 (Iy p 0 0) ([] : List Mv)) :: Rs) o := Sep.blkRow (src := own) (l := ([] : List Mv)) (css := []) (hS0.new j) rfl trivial yqa
 have e := d.r0
 have hr10s : _ * 32 ≤ _ := e.2
 refine st (xD (src := own) (bytes := 32) d Kx rfl rfl hl yqb rfl (hq' := fun _ _ h _ _ => Xo h) ?_)
 intro b q a
 have a : Sep G W ((RowE (α := Mv) own 115 b l) :: Rs) q := a
 have f := a.r0
 have hr11s : _ * 32 ≤ _ := f.2
 refine st (aS b (zb (zm (zL qR (show _ = (b : Value) from rfl) ?_))))
 refine ⟨b, rfl, a⟩
 have m := ZP hl.sl i
 refine zj rfl (za (R0 fun _ => st (aS (Iz) (zb (zm (zL qR (show _ = ((Iz) : Value) from rfl) ?_))))))
 have g : Sep G W ((RowE (α := Mv) own 115 (Iz) ([] : List Mv)) :: Rs) w := hS0.rowNil own 115
 have n : l = [] := List.length_eq_zero_iff.1 m
 subst n
 refine ⟨(Iz), rfl, g⟩

theorem Ul {G : Nat → Prop} {W w : World} {Rs : List HP} {d : Dcl} {dd0 : Value} (hdd0 : RdS W G dd0 d.types) {dd1 : Value} (hdd1 : RdS W G dd1 d.projs) (od : d.Ok) {ty : Int} (hty : InR ty) {f : Int} (hf : InR f) (hS0 : Sep G W Rs w) : Ret Tryd.prog 40 [.agg (d.cells dd0 dd1).toArray, .int .i64 (ty), .int .i64 (f)] w (fun r w' => ∃ (v : Value), r = (.tuple #[.agg ((zK d ty f).cells v).toArray, .bool ((yo d ty f))] : Value) ∧ ((zK d ty f).Ok) ∧ Sep G W ((RowE (α := Mv) own 115 v ((zK d ty f).moves)) :: Rs) w') := by
 let ag := zy W (sb dd0) (so dd0 + ty.toNat * 1 + 0)
 let aE := zy W (sb ag) (so ag + f.toNat * 4 + 3)
 have hdd0s : _ * 24 ≤ _ := hdd0.small
 have hdd1s : _ * 40 ≤ _ := hdd1.small
 refine zl (args := [.agg (d.cells dd0 dd1).toArray, Iv ty, Iv f]) Tryd.func40 rfl rfl ?_
 refine za (R0 fun _ => st (zR (v := .agg (d.cells dd0 dd1).toArray) rfl ?_))
 intro w3 b2 aI
 refine st (zr wT ?_)
 intro w7 b6 aJ
 have ae := (hS0.new aI).new aJ
 refine st (aS (.bool false) (zb (za (za (zw kr (st (mV (Iv ty) (st (yn rfl (st (lD dd0 lR rfl (zd (ae.b1) rfl) (st (zA (n := d.types.length) mR rfl hdd0.sl ?_)))))))))))))
 have af : InR (((d.types.length : Nat) : Int) - 1) := by omega
 refine st (Zu (r := ((d.types.length : Nat) : Int) - 1) (k := .i64) (a := ((d.types.length : Nat) : Int)) (b := 1) rfl rfl (zz af) (st (cL tT (Yp (x := ty) (lo := 0) (hi := ((d.types.length : Nat) : Int) - 1) hty dc af ae) ?_)))
 rintro _ w10 ⟨rfl, e⟩
 refine st (yc (a := (decide (0 ≤ ty) && decide (ty ≤ (((d.types.length : Nat) : Int) - 1)))) rfl (st (mV (.bool (!(decide (0 ≤ ty) && decide (ty ≤ (((d.types.length : Nat) : Int) - 1))))) (stc (V := Iv f) rfl rfl (fun ah => ?_) ?_))))
 have ai := ah
 try simp only [zf] at ai
 exact mV (Iv f) ⟨rfl, rfl⟩
 refine stc (V := Ix b2 0) rfl rfl (fun aj => ?_) ?_
 have ak := aj
 try simp only [zf] at ak
 exact yn rfl ⟨rfl, rfl⟩
 refine stc (V := dd0) rfl rfl (fun F => ?_) ?_
 have al := F
 try simp only [zf] at al
 exact lD dd0 lR (if_pos F) (zd (e.b1) rfl) ⟨rfl, rfl⟩
 refine stc (V := Iv ty) rfl rfl (fun am => ?_) ?_
 have an := am
 try simp only [zf] at an
 exact mV (Iv ty) ⟨rfl, rfl⟩
 refine stc (V := Ix (sb dd0) (so dd0 + ty.toNat * 1)) rfl rfl (fun t => ?_) ?_
 have ao := t
 try simp only [zf] at ao
 have hi22 : ty.toNat < d.types.length := bo
 exact zq (k := 1) (i := ty) mR rR (if_pos t) hdd0.sl (if_pos t) ⟨by omega, by omega⟩ ⟨rfl, rfl⟩
 refine stc (V := Ix (sb dd0) (so dd0 + ty.toNat * 1)) rfl rfl (fun H => ?_) ?_
 have ap := H
 try simp only [zf] at ap
 exact yv (if_pos H) ⟨rfl, rfl⟩
 refine stc (V := ag) rfl rfl (fun I => ?_) ?_
 have aq := I
 try simp only [zf] at aq
 have J : ty.toNat < d.types.length := bo
 obtain ⟨X, D, hoke27⟩ := hdd0.typD J
 have hsm29 : ((d.types.getD ty.toNat default).fields).length * 48 ≤ 140737488355328 := D.small
 have Y := e.cells X (hdd0.foot (ne_of_lt J))
 exact lD ag sR (if_pos I) (Y.get (j := 0) rfl) ⟨rfl, rfl⟩
 refine stc (V := Iw (((d.types.getD ty.toNat default).fields).length)) rfl rfl (fun K => ?_) ?_
 have ar := K
 try simp only [zf] at ar
 have L : ty.toNat < d.types.length := bo
 obtain ⟨Z, o, hoke33⟩ := hdd0.typD L
 have hsm35 : ((d.types.getD ty.toNat default).fields).length * 48 ≤ 140737488355328 := o.small
 have hcw36 := e.cells Z (hdd0.foot (ne_of_lt L))
 exact zA (n := ((d.types.getD ty.toNat default).fields).length) tR (if_pos K) o.sl ⟨rfl, rfl⟩
 refine stc (V := Iv (((((d.types.getD ty.toNat default).fields).length : Nat) : Int) - 1)) rfl rfl (fun M => ?_) ?_
 have au := M
 try simp only [zf] at au
 have N : ty.toNat < d.types.length := bo
 obtain ⟨aa, E, hoke39⟩ := hdd0.typD N
 have hsm41 : ((d.types.getD ty.toNat default).fields).length * 48 ≤ 140737488355328 := E.small
 have hcw42 := e.cells aa (hdd0.foot (ne_of_lt N))
 have av : InR (((((d.types.getD ty.toNat default).fields).length : Nat) : Int) - 1) := by omega
 exact Zu (r := ((((d.types.getD ty.toNat default).fields).length : Nat) : Int) - 1) (k := .i64) (a := ((((d.types.getD ty.toNat default).fields).length : Nat) : Int)) (b := 1) (if_pos M) rfl (zz av) ⟨rfl, rfl⟩
 cases u : !(decide (0 ≤ ty) && decide (ty ≤ (((d.types.length : Nat) : Int) - 1)))
 have hg44r := u
 try simp only [zf] at u
 have y : ty.toNat < d.types.length := bo
 obtain ⟨C, g, hoke45⟩ := hdd0.typD y
 have hsm47 : ((d.types.getD ty.toNat default).fields).length * 48 ≤ 140737488355328 := g.small
 have hcw48 := e.cells C (hdd0.foot (ne_of_lt y))
 refine sty rfl rfl (cL tT (Yp (x := f) (lo := 0) (hi := ((((d.types.getD ty.toNat default).fields).length : Nat) : Int) - 1) hf dc om e) ?_)
 rintro _ w49 ⟨rfl, h⟩
 refine sty rfl rfl (yc (a := (decide (0 ≤ f) && decide (f ≤ (((((d.types.getD ty.toNat default).fields).length : Nat) : Int) - 1)))) rfl (st (zO (v := .bool (!(decide (0 ≤ f) && decide (f ≤ (((((d.types.getD ty.toNat default).fields).length : Nat) : Int) - 1))))) rfl rfl (zb ?_))))
 cases O : !(decide (0 ≤ f) && decide (f ≤ (((((d.types.getD ty.toNat default).fields).length : Nat) : Int) - 1)))
 try simp only [zf] at O
 refine zi rfl (zk (za (R0 fun _ => st (yn rfl (st (lD dd0 lR rfl (zd (h.b1) rfl) (st (mV (Iv ty) ?_))))))))
 have hi52 : ty.toNat < d.types.length := bo
 refine st (zq (k := 1) (i := ty) mR rR rfl hdd0.sl rfl ⟨by omega, by omega⟩ (st (yv rfl ?_)))
 have ab := h.cells C (hdd0.foot (ne_of_lt y))
 refine st (lD ag sR rfl (ab.get (j := 0) rfl) (st (mV (Iv f) ?_)))
 have hi55 : f.toNat < ((d.types.getD ty.toNat default).fields).length := bo
 refine st (zq (k := 4) (i := f) tR mT rfl g.sl rfl ⟨by omega, by omega⟩ ?_)
 have P : f.toNat < ((d.types.getD ty.toNat default).fields).length := bo
 obtain ⟨ac, m, p⟩ := g.fldD P
 have hsm58 : ((((d.types.getD ty.toNat default).fields).getD f.toNat default).moves).length * 32 ≤ 140737488355328 := m.small
 have ad := h.cells ac (g.foot (ne_of_lt P))
 refine st (zg (k := 4) pT mT rfl rfl ad (st (zr wT ?_)))
 intro w62 b61 aw
 have Q := h.new aw
 refine stn (zp (v := .agg ((((d.types.getD ty.toNat default).fields).getD f.toNat default).cells aE).toArray) (c' := ((((d.types.getD ty.toNat default).fields).getD f.toNat default).cells aE).toArray) mT rfl rfl (Q.b0) (zW ⟨rfl, rfl, rfl, m.sl.one, trivial⟩) yqc rfl ?_)
 intro w64 ax
 have R := Q.pt0 ax
 refine zb (za (R0 fun _ => st (yu rfl (st (lD aE uR rfl (zd (R.b0) rfl) (st (cL Tryd.call67 (Wd (l := (((d.types.getD ty.toNat default).fields).getD f.toNat default).moves) (vl := aE) m R) ?_)))))))
 rintro q w68 ⟨_, rfl, z⟩
 have A := z.r0
 have hr70s : _ * 32 ≤ _ := A.2
 refine st (yu rfl (stn (yp (v := q) (c := [Iv ((((d.types.getD ty.toNat default).fields).getD f.toNat default).kind), Iv ((((d.types.getD ty.toNat default).fields).getD f.toNat default).policy), .bool ((((d.types.getD ty.toNat default).fields).getD f.toNat default).floor), aE]) (c' := [Iv ((((d.types.getD ty.toNat default).fields).getD f.toNat default).kind), Iv ((((d.types.getD ty.toNat default).fields).getD f.toNat default).policy), .bool ((((d.types.getD ty.toNat default).fields).getD f.toNat default).floor), q]) Tryd.sizeOf77 rfl rfl (z.b1) A.1.one rfl rfl ?_)))
 intro w71 ay
 have az : Fld.Ok (((d.types.getD ty.toNat default).fields).getD f.toNat default) := ⟨(show InR ((((d.types.getD ty.toNat default).fields).getD f.toNat default).kind) from p.kind), (show InR ((((d.types.getD ty.toNat default).fields).getD f.toNat default).policy) from p.policy)⟩
 have B := z.pt1 ay
 refine zb (za (R0 fun _ => st (zg (k := 4) pT mT rfl rfl (CellsAt.all (B.b1)) (stn (zp (v := .agg ((((d.types.getD ty.toNat default).fields).getD f.toNat default).cells q).toArray) (c' := ((((d.types.getD ty.toNat default).fields).getD f.toNat default).cells q).toArray) mT rfl rfl (B.b2) (zW ⟨rfl, rfl, rfl, A.1.one, trivial⟩) yqc rfl ?_)))))
 intro w75 aA
 have S := B.pt2 aA
 refine st (aS (.bool true) (zb (zm (ZA (b := b6) nR pT mT rfl rfl (CellsAt.all (S.b2)) (show _ = (.bool true : Value) from rfl) ?_))))
 have s : yo d ty f = true := by unfold yo; simp only [Bool.and_eq_true, decide_eq_true_eq]; omega
 have hz : zK d ty f = (((d.types.getD ty.toNat default).fields).getD f.toNat default) := by unfold zK; rw [s]; rfl
 rw [hz, s]
 refine ⟨q, rfl, ?_, (S.s4_a)⟩
 exact az
 try simp only [zf] at O
 refine zj rfl (za (R0 fun _ => ?_))
 have aB : Fld.Ok (⟨0, 0, false, []⟩ : Fld) := ⟨(show InR (0) from dc), (show InR (0) from dc)⟩
 refine st (zQ (parts' := []) (v := .agg ((⟨0, 0, false, []⟩ : Fld).cells (Iz)).toArray) rfl yqd (stn (zp (v := .agg ((⟨0, 0, false, []⟩ : Fld).cells (Iz)).toArray) (c' := ((⟨0, 0, false, []⟩ : Fld).cells (Iz)).toArray) mT rfl rfl (h.b0) (zW ⟨rfl, rfl, rfl, rfl, trivial⟩) yqc rfl ?_)))
 intro w80 aC
 have T := h.pt0 aC
 refine st (aS (.bool false) (zb (zm (ZA (b := b6) nR pT mT rfl rfl (CellsAt.all (T.b0)) (show _ = (.bool false : Value) from rfl) ?_))))
 have aD : Sep _ _ ((RowE (α := Mv) own 115 (Iz) ([] : List Mv)) :: _) _ := T.rowNil own 115
 have s : yo d ty f = false := by unfold yo; rw [Bool.eq_false_iff]; intro h9; simp only [Bool.and_eq_true, decide_eq_true_eq] at h9; omega
 have hz : zK d ty f = (⟨0, 0, false, []⟩ : Fld) := by unfold zK; rw [s]; rfl
 rw [hz, s]
 refine ⟨(Iz), rfl, ?_, (aD.s3_a)⟩
 exact aB
 try simp only [zf] at u
 refine stx rfl rfl (stx rfl rfl (st (zN (v := .bool true) rfl rfl (zb (zj rfl (za (R0 fun _ => ?_)))))))
 have aF : Fld.Ok (⟨0, 0, false, []⟩ : Fld) := ⟨(show InR (0) from dc), (show InR (0) from dc)⟩
 refine st (zQ (parts' := []) (v := .agg ((⟨0, 0, false, []⟩ : Fld).cells (Iz)).toArray) rfl yqd (stn (zp (v := .agg ((⟨0, 0, false, []⟩ : Fld).cells (Iz)).toArray) (c' := ((⟨0, 0, false, []⟩ : Fld).cells (Iz)).toArray) mT rfl rfl (e.b0) (zW ⟨rfl, rfl, rfl, rfl, trivial⟩) yqc rfl ?_)))
 intro w86 aG
 have U := e.pt0 aG
 refine st (aS (.bool false) (zb (zm (ZA (b := b6) nR pT mT rfl rfl (CellsAt.all (U.b0)) (show _ = (.bool false : Value) from rfl) ?_))))
 have aH : Sep _ _ ((RowE (α := Mv) own 115 (Iz) ([] : List Mv)) :: _) _ := U.rowNil own 115
 have s : yo d ty f = false := by unfold yo; rw [Bool.eq_false_iff]; intro h9; simp only [Bool.and_eq_true, decide_eq_true_eq] at h9; omega
 have hz : zK d ty f = (⟨0, 0, false, []⟩ : Fld) := by unfold zK; rw [s]; rfl
 rw [hz, s]
 refine ⟨(Iz), rfl, ?_, (aH.s3_a)⟩
 exact aF

theorem QZ {G : Nat → Prop} {W w : World} {Rs : List HP} {d : Dcl} {dd0 : Value} (hdd0 : RdS W G dd0 d.types) {dd1 : Value} (hdd1 : RdS W G dd1 d.projs) (od : d.Ok) {ty : Int} (hty : InR ty) {f : Int} (hf : InR f) {op : Int} (hop : InR op) {arg : Int} (harg : InR arg) (hKN : RdS W G (.slice (some ⟨0, 0, none⟩) 6 6) kindsL) (hS0 : Sep G W Rs w) : Ret Tryd.prog 15 [.agg (d.cells dd0 dd1).toArray, .int .i64 (ty), .int .i64 (f), .int .i64 (op), .int .i64 (arg)] w (fun r w' => r = (.int .i64 (yE d ty f op arg) : Value) ∧ Sep G W Rs w') := by
 have hdd0s : _ * 24 ≤ _ := hdd0.small
 have hdd1s : _ * 40 ≤ _ := hdd1.small
 have hKNs : _ * 8 ≤ _ := hKN.small
 refine zl (args := [.agg (d.cells dd0 dd1).toArray, Iv ty, Iv f, Iv op, Iv arg]) Tryd.func15 rfl rfl ?_
 refine za (R0 fun _ => st (zR (v := .agg (d.cells dd0 dd1).toArray) rfl ?_))
 intro w3 b2 aL
 have aB := hS0.new aL
 refine st (aS (Iv 0) (zb (za (R0 fun _ => st (zg (k := 2) Tryd.isAgg25 Tryd.sizeOf25 rfl rfl (CellsAt.all (aB.b0)) (st (mV (Iv ty) (st (mV (Iv f) (st (cL Tryd.call40 (Ul (d := d) (ty := ty) (f := f) hdd0 hdd1 od hty hf aB) ?_)))))))))))
 rintro _ w7 ⟨z, rfl, hfok6, aC⟩
 let aG := (zK d ty f).cells z
 have X := aC.r0
 have hr9s : _ * 32 ≤ _ := X.2
 refine st (mV (.tuple #[.agg aG.toArray, .bool ((yo d ty f))]) (st (zt (vs := [.agg aG.toArray, .bool ((yo d ty f))]) (i := 0) (v := .agg aG.toArray) rfl rfl (st (zt (vs := [.agg aG.toArray, .bool ((yo d ty f))]) (i := 1) (v := .bool ((yo d ty f))) rfl rfl (st (zr wT ?_)))))))
 intro w12 K aE
 have Y := aC.new aE
 refine stn (zp (v := .agg aG.toArray) (c' := aG.toArray) mT rfl rfl (Y.b0) (zW ⟨rfl, rfl, rfl, X.1.one, trivial⟩) yqc rfl ?_)
 intro w14 aF
 have Z := Y.pt0 aF
 refine st (aS (.bool ((yo d ty f))) (zb (za (zn (za (R0 fun _ => st (mV (.bool ((yo d ty f))) (st (yc (a := (yo d ty f)) rfl (st (aS (.bool (!(yo d ty f))) (zb ?_))))))))))))
 cases I : !(yo d ty f)
 have h := I
 try simp only [zf] at I
 refine zi rfl (za ?_)
 refine WD4 ((fun TT aD => WF [fun vals wq => Sep G W (aD :: TT) wq, fun vals wq => (vals 1 = (.bool ((decide (1 ≤ op) && decide (op ≤ 5))) : Value)) ∧ Sep G W (aD :: TT) wq]) ((RowE (α := Mv) own 115 z ((zK d ty f).moves)) :: (Blk b2 (d.cells dd0 dd1).toArray 25) :: Rs) (Blk K aG.toArray 79)) (AF [Vl 0 (Iv op), fun _ => True, Vl 2 (.bool (!(decide (1 ≤ op) && decide (op ≤ 5)))), Vl 3 (.bool (!(decide (1 ≤ op) && decide (op ≤ 5)))), Vl 4 (if (!(decide (1 ≤ op) && decide (op ≤ 5))) = false then Iv op else undef), Vl 5 (if (!(decide (1 ≤ op) && decide (op ≤ 5))) = false then Ix (sb (Iy 0 6 6)) (so (Iy 0 6 6) + op.toNat * 1) else undef), Vl 6 (if (!(decide (1 ≤ op) && decide (op ≤ 5))) = false then Iv ((kindsL.getD op.toNat 0)) else undef), Vl 7 (if (!(decide (1 ≤ op) && decide (op ≤ 5))) = false then Ix K 0 else undef), Vl 8 (if (!(decide (1 ≤ op) && decide (op ≤ 5))) = false then Iv ((zK d ty f).kind) else undef), Vl 9 (if (!(decide (1 ≤ op) && decide (op ≤ 5))) = false then .bool (!decide ((kindsL.getD op.toNat 0) = ((zK d ty f).kind))) else undef), Vl 10 (.bool ((!(decide (1 ≤ op) && decide (op ≤ 5))) || (!decide ((kindsL.getD op.toNat 0) = ((zK d ty f).kind))))), Vl 11 (.bool ((!(decide (1 ≤ op) && decide (op ≤ 5))) || (!decide ((kindsL.getD op.toNat 0) = ((zK d ty f).kind)))))]) [[], [0], [0, 1], [0, 1, 2], (rg 4), (rg 5), (rg 6), (rg 4), [0, 1, 2, 3, 7], (rg 9), (rg 10), (rg 11)] [1] [(0, 0), (0, 0), (1, 1), (1, 1), (1, 1), (1, 1), (1, 1), (1, 1), (1, 1), (1, 1), (1, 1), (1, 1)] Z ⟨fun _ _ _ _ _ _ _ => obl rfl (mV (Iv op) dR), ?_, ?_, fun _ _ _ _ _ _ ac => obl rfl (zP (v := .bool (!(decide (1 ≤ op) && decide (op ≤ 5)))) (ac 2 dc) dR), ?_, ?_, ?_, ?_, ?_, ?_, fun _ _ _ _ _ _ L => obl rfl (zx (b := !(decide (1 ≤ op) && decide (op ≤ 5))) (b' := !decide ((kindsL.getD op.toNat 0) = ((zK d ty f).kind))) (L 3 dc) (fun hbp => (Eq.trans (L 9 dc) (if_pos hbp))) dR), fun _ _ _ _ _ _ ad => obl rfl (ym (v := .bool ((!(decide (1 ≤ op) && decide (op ≤ 5))) || (!decide ((kindsL.getD op.toNat 0) = ((zK d ty f).kind))))) (ad 10 dc) dR), trivial⟩ ?_
 refine ob1 0 fun vals _ (aH : Sep _ _ _ _) aI => (obl rfl ((zV (f := 51) (vals := [Iv op, Iv 1, Iv 5]) (cap := []) rfl (yH ⟨(aI 0 dc), rfl, rfl, trivial⟩) tT (Yp (x := op) (lo := 1) (hi := 5) om dc dc aH) ?_)))
 rintro _ w32 ⟨rfl, aJ⟩
 exact fun c e hv' => ⟨(And.intro e aJ), trivial⟩
 refine ob1 1 fun _ _ ae _ => ?_
 obtain ⟨A, hS142⟩ := ae
 exact obl rfl (yc (a := (decide (1 ≤ op) && decide (op ≤ 5))) A dR)
 refine fun _ _ _ _ _ _ af => (zC rfl rfl (af 3 dc) (fun B => ?_) (fun B => fun c e _ => ⟨trivial, e.trans (if_neg B).symm⟩))
 have ag := B
 try simp only [zf] at ag
 exact mV (Iv op) (fun c e _ => ⟨rfl, e.trans (if_pos B).symm⟩)
 refine ob1 1 fun _ _ ah M => ?_
 obtain ⟨A, hS165⟩ := ah
 refine zC rfl rfl (M 3 dc) (fun q => ?_) (fun q => fun c e _ => ⟨trivial, e.trans (if_neg q).symm⟩)
 have ai := q
 try simp only [zf] at ai
 exact XN (b := sb (Iy 0 6 6)) (o := so (Iy 0 6 6)) (k := 1) (n := 6) (i := op) (off := op.toNat * 1) vR wR rfl (Eq.trans (M 4 dc) (if_pos q)) om rfl (fun c e _ => ⟨rfl, e.trans (if_pos q).symm⟩)
 refine ob1 1 fun _ _ aj N => ?_
 obtain ⟨A, ak⟩ := aj
 refine zC rfl rfl (N 3 dc) (fun s => ?_) (fun s => fun c e _ => ⟨trivial, e.trans (if_neg s).symm⟩)
 have al := s
 try simp only [zf] at al
 have O : op.toNat < kindsL.length := (by first | omega | (rw [VR]; omega))
 obtain ⟨aa, hxe181⟩ := hKN.intD O
 have ab := ak.cells aa (hKN.foot (ne_of_lt O))
 exact lD (Iv ((kindsL.getD op.toNat 0))) lT (Eq.trans (N 5 dc) (if_pos s)) (ab.get (j := 0) rfl) (fun c e _ => ⟨rfl, e.trans (if_pos s).symm⟩)
 refine fun _ _ _ _ _ _ am => (zC rfl rfl (am 3 dc) (fun C => ?_) (fun C => fun c e _ => ⟨trivial, e.trans (if_neg C).symm⟩))
 have an := C
 try simp only [zf] at an
 exact yX rfl (fun c e _ => ⟨rfl, e.trans (if_pos C).symm⟩)
 refine ob1 1 fun _ _ ao P => ?_
 obtain ⟨A, ap⟩ := ao
 refine zC rfl rfl (P 3 dc) (fun t => ?_) (fun t => fun c e _ => ⟨trivial, e.trans (if_neg t).symm⟩)
 have aq := t
 try simp only [zf] at aq
 exact lD (Iv ((zK d ty f).kind)) lT (Eq.trans (P 7 dc) (if_pos t)) (zd (ap.b0) rfl) (fun c e _ => ⟨rfl, e.trans (if_pos t).symm⟩)
 refine ob1 1 fun _ _ ar J => ?_
 obtain ⟨A, hS210⟩ := ar
 refine zC rfl rfl (J 3 dc) (fun m => ?_) (fun m => fun c e _ => ⟨trivial, e.trans (if_neg m).symm⟩)
 have au := m
 try simp only [zf] at au
 exact yh (k := .i64) (a := (kindsL.getD op.toNat 0)) (b := (zK d ty f).kind) (Eq.trans (J 6 dc) (if_pos m)) (Eq.trans (J 8 dc) (if_pos m)) (fun c e _ => ⟨rfl, e.trans (if_pos m).symm⟩)
 intro vals w231 av aw
 obtain ⟨A, u⟩ := av
 have aK := aw 11 dc
 refine zZ (kv := [(0, .agg (d.cells dd0 dd1).toArray), (1, Iv ty), (2, Iv f), (3, Iv op), (4, Iv arg), (5, Ix b2 0), (10, Iv 0), (14, .agg (d.cells dd0 dd1).toArray), (15, Iv ty), (16, Iv f), (17, .tuple #[.agg ((zK d ty f).cells z).toArray, .bool ((yo d ty f))]), (13, .tuple #[.agg ((zK d ty f).cells z).toArray, .bool ((yo d ty f))]), (18, .agg ((zK d ty f).cells z).toArray), (19, .bool ((yo d ty f))), (11, Ix K 0), (12, .bool ((yo d ty f))), (21, .bool ((yo d ty f))), (22, .bool false), (20, .bool false), (23, .bool ((!(decide (1 ≤ op) && decide (op ≤ 5))) || (!decide ((kindsL.getD op.toNat 0) = ((zK d ty f).kind)))))]) ⟨rfl, rfl, rfl, rfl, rfl, rfl, rfl, rfl, rfl, rfl, rfl, rfl, rfl, rfl, rfl, rfl, rfl, rfl, rfl, (by exact aK), trivial⟩ (fun ρw231 => (zb ?_))
 cases D : (!(decide (1 ≤ op) && decide (op ≤ 5))) || (!decide ((kindsL.getD op.toNat 0) = ((zK d ty f).kind)))
 have g := D
 try simp only [zf] at D
 refine zi rfl (za (za (zw kr (st (mV (Iv op) (st (zF (k := .i64) (a := op) (b := 1) rfl rfl (st (mV (.bool (decide (op = 1))) (stc (V := Iv arg) rfl rfl (fun ax => ?_) ?_))))))))))
 have hl238 := tD ax
 exact mV (Iv arg) ⟨rfl, rfl⟩
 refine stc (V := .bool (decide (arg = 0))) rfl rfl (fun Q => ?_) ?_
 have hl240 := tD Q
 exact zF (k := .i64) (a := arg) (b := 0) (if_pos Q) rfl ⟨rfl, rfl⟩
 refine st (zo (b := decide (op = 1)) (b' := decide (arg = 0)) rfl (fun hbp => (if_pos hbp)) (st (aS (.bool ((decide (op = 1)) && (decide (arg = 0)))) (zb ?_))))
 cases E : (decide (op = 1)) && (decide (arg = 0))
 have l := E
 try simp only [zf] at E
 refine zi rfl (zw kr (st (mV (Iv op) (st (zF (k := .i64) (a := op) (b := 5) rfl rfl (st (mV (.bool (decide (op = 5))) (stc (V := Iv arg) rfl rfl (fun ay => ?_) ?_))))))))
 have hl243 := tD ay
 exact mV (Iv arg) ⟨rfl, rfl⟩
 refine stc (V := Ix K 3) rfl rfl (fun az => ?_) ?_
 have hl245 := tD az
 exact yu rfl ⟨rfl, rfl⟩
 refine stc (V := z) rfl rfl (fun R => ?_) ?_
 have hl247 := tD R
 exact lD z uR (if_pos R) (zd (u.b0) rfl) ⟨rfl, rfl⟩
 refine stc (V := Iw (((zK d ty f).moves).length)) rfl rfl (fun S => ?_) ?_
 have hl249 := tD S
 exact zA (n := ((zK d ty f).moves).length) vT (if_pos S) X.1 ⟨rfl, rfl⟩
 refine stc (V := Iv (((((zK d ty f).moves).length : Nat) : Int) - 1)) rfl rfl (fun T => ?_) ?_
 have hl251 := tD T
 have aA : InR (((((zK d ty f).moves).length : Nat) : Int) - 1) := by omega
 exact Zu (r := ((((zK d ty f).moves).length : Nat) : Int) - 1) (k := .i64) (a := ((((zK d ty f).moves).length : Nat) : Int)) (b := 1) (if_pos T) rfl (zz aA) ⟨rfl, rfl⟩
 cases p : decide (op = 5)
 have y := p
 have p := fD p
 refine stx rfl rfl (stx rfl rfl (st (zO (v := .bool false) rfl rfl (st (aS (.bool false) (zb (zi rfl (zk (za (R0 fun _ => st (aS (Iv 0) (zb (zm (zL qT (show _ = (Iv 0 : Value) from rfl) ?_))))))))))))))
 refine ⟨?_, (u.s3_)⟩
 unfold yE
 simp only [h, g, l, y, Bool.not_false, Bool.not_true, Bool.true_and, Bool.false_and, Bool.or_true, if_true, if_false, Bool.false_eq_true, ↓reduceIte]
 have y := p
 have p := tD p
 refine sty rfl rfl (cL tT (Yp (x := arg) (lo := 0) (hi := ((((zK d ty f).moves).length : Nat) : Int) - 1) harg dc om u) ?_)
 rintro _ w255 ⟨rfl, U⟩
 refine sty rfl rfl (yc (a := (decide (0 ≤ arg) && decide (arg ≤ (((((zK d ty f).moves).length : Nat) : Int) - 1)))) rfl (st (zN (v := .bool (!(decide (0 ≤ arg) && decide (arg ≤ (((((zK d ty f).moves).length : Nat) : Int) - 1))))) rfl rfl (st (aS (.bool (!(decide (0 ≤ arg) && decide (arg ≤ (((((zK d ty f).moves).length : Nat) : Int) - 1))))) (zb ?_))))))
 cases F : !(decide (0 ≤ arg) && decide (arg ≤ (((((zK d ty f).moves).length : Nat) : Int) - 1)))
 have H := F
 try simp only [zf] at F
 refine zi rfl (zk (za (R0 fun _ => st (aS (Iv 0) (zb (zm (zL qT (show _ = (Iv 0 : Value) from rfl) ?_)))))))
 refine ⟨?_, (U.s3_)⟩
 unfold yE
 simp only [h, g, l, y, H, Bool.not_false, Bool.not_true, Bool.true_and, Bool.false_and, Bool.or_true, if_true, if_false, Bool.false_eq_true, ↓reduceIte]
 have H := F
 try simp only [zf] at F
 refine zj rfl (za (R0 fun _ => st (aS (Iv 1) (zb (zm (zL qT (show _ = (Iv 1 : Value) from rfl) ?_))))))
 refine ⟨?_, (U.s3_)⟩
 unfold yE
 simp only [h, g, l, y, H, Bool.not_false, Bool.not_true, Bool.true_and, Bool.false_and, Bool.or_true, if_true, if_false, Bool.false_eq_true, ↓reduceIte]
 have l := E
 try simp only [zf] at E
 refine zj rfl (zk (zj rfl (za (R0 fun _ => st (aS (Iv 1) (zb (zm (zL qT (show _ = (Iv 1 : Value) from rfl) ?_))))))))
 refine ⟨?_, (u.s3_)⟩
 unfold yE
 simp only [h, g, l, Bool.not_false, Bool.not_true, Bool.true_and, Bool.false_and, Bool.or_true, if_true, if_false, Bool.false_eq_true, ↓reduceIte]
 have g := D
 try simp only [zf] at D
 refine zj rfl (za (R0 fun _ => st (aS (Iv 2) (zb (zm (zL qT (show _ = (Iv 2 : Value) from rfl) ?_))))))
 refine ⟨?_, (u.s3_)⟩
 unfold yE
 simp only [h, g, Bool.not_false, Bool.not_true, Bool.true_and, Bool.false_and, Bool.or_true, if_true, if_false, Bool.false_eq_true, ↓reduceIte]
 have h := I
 try simp only [zf] at I
 refine zj rfl (za (R0 fun _ => st (aS (Iv 8) (zb (zm (zL qT (show _ = (Iv 8 : Value) from rfl) ?_))))))
 refine ⟨?_, (Z.s3_)⟩
 unfold yE
 simp only [h, Bool.not_false, Bool.not_true, Bool.true_and, Bool.false_and, Bool.or_true, if_true, if_false, Bool.false_eq_true, ↓reduceIte]

end Go.Proofs.YtlblilbmpdejgaaDoor
set_option maxRecDepth 100000
namespace Go.Proofs.YtlblilbmpdejgaaDoor
open Go.ChangeShapes Go.WideShapes Go.ChangeAt Go.RowKit

theorem Tryd.own : ownKnob Tryd.prog.godebug = none := by kernel_rfl
theorem Tryd.laidOut : laidOutB Tryd.prog = true := by kernel_rfl
theorem UX : Tryd.prog.globalNamed "quayside/schema.kinds" = some 0 := by kernel_rfl
theorem KV : (Tryd.prog.globals[0]?).map (·.type) = some 92 := by kernel_rfl
theorem UU {W : World} (h : laidMetH Tryd.prog [("quayside/schema.kinds", Rows.laid_quayside_schema_kinds)] W) : RdS W (XD W) (.slice (some ⟨0, 0, none⟩) 6 6) kindsL := by
  rw [MakeChecks.laidMetH_plain _ _ _ (by kernel_rfl)] at h
  exact KD UX (Lib.tabIs_of_head (k := .i64) (zs := kindsL) UX KV vR lY (by kernel_rfl) (by kernel_rfl) h) (by decide) (by decide)
theorem QL (os : Os) (args : Array Value) : laidMetH Tryd.prog [("quayside/schema.kinds", Rows.laid_quayside_schema_kinds)] ((World.doorLaid Tryd.prog 14 os).forCall (fun _ _ => 0) ⟨#[], args, []⟩).memory :=
  laidMetH_of_parts3 (fuel := 8) (laidMet_of_run' 8 (by kernel_rfl) (by kernel_rfl)) (by kernel_rfl) (by kernel_rfl)
end Go.Proofs.YtlblilbmpdejgaaDoor
set_option maxRecDepth 8000
set_option maxHeartbeats 4000000
namespace Go.Proofs.YtlblilbmpdejgaaDoor
open Go.Proofs Go.RowKit

theorem Ky {t : Typ} {c : List Cel} {f op arg : Int} (h : yY t c f op arg = 0) : yZ (yK t f) c (yi c f) op arg = true := by
  unfold yY at h
  split at h
  · assumption
  · cases h
end Go.Proofs.YtlblilbmpdejgaaDoor
namespace Go.Proofs.YtlblilbmpdejgaaDoor
open Go.RowKit Go.MapKept

structure KLaw (P : Program) (kt : TypeId) {κ : Type} [DecidableEq κ] (enc : κ → Value) : Prop where
  inj : ∀ {a b : κ}, enc a = enc b → a = b
  desc : ∃ d, P.underlying kt = some d ∧ ∀ a b, Instr.sameNow d (enc a) (enc b) = none
  check : ∀ (w : World) (e : Bool) (k : κ), (Instr.checkKey e 10000 kt (enc k)).run P w = .ok () w
  eql : ∀ (w : World) (a b : κ), (Op.equal kt (enc a) (enc b)).run P w = .ok (decide (a = b)) w
  stays : ∀ k, Instr.sameBits 10000 (enc k) (enc k) = true

def yG {κ β : Type} [DecidableEq κ] (L : List (κ × β)) (k : κ) : Option β := (L.find? fun p => decide (p.1 = k)).map (·.2)
def Wv {κ β : Type} [DecidableEq κ] (L : List (κ × β)) (k : κ) (x : β) : List (κ × β) := match L.findIdx? fun p => decide (p.1 = k) with
  | some j => L.set j (k, x)
  | none => L ++ [(k, x)]
def Vb {κ β : Type} [DecidableEq κ] (L : List (κ × β)) (k : κ) (z : β) : List (κ × β) := match L.findIdx? fun p => decide (p.1 = k) with
  | some _ => L
  | none => L ++ [(k, z)]

section
variable {P : Program} {kt : TypeId} {κ : Type} [DecidableEq κ] {enc : κ → Value}
theorem KLaw.ask (K : KLaw P kt enc) (k : κ) (w : World) : ∀ (es : List MapEntry) (i : Nat), (∀ e ∈ es, ∃ q, e.key = enc q) →
    ((Instr.findAsking kt (enc k) es i).run P w = .ok none w ∧ ∀ e ∈ es, e.key ≠ enc k) ∨ ∃ j e, (Instr.findAsking kt (enc k) es i).run P w = .ok (some (i + j, e.val)) w ∧ es[j]? = some e ∧ e.key = enc k
  | [], i, _ => .inl ⟨rfl, by simp⟩
  | e :: es, i, h => by
    obtain ⟨q, hq⟩ := h e (.head _)
    by_cases hk : k = q
    · subst hk
      refine .inr ⟨0, e, ?_, rfl, hq⟩
      simp [Instr.findAsking, hq, K.eql, go_sem]
    · rcases KLaw.ask K k w es (i + 1) (fun x hx => h x (.tail _ hx)) with ⟨h1, h2⟩ | ⟨j, e', h1, h2, h3⟩
      · refine .inl ⟨?_, fun x hx => ?_⟩
        · simp [Instr.findAsking, hq, K.eql, hk, h1, go_sem]
        · rcases List.mem_cons.1 hx with rfl | hx
          · rw [hq]; exact fun e => hk (K.inj e).symm
          · exact h2 x hx
      · refine .inr ⟨j + 1, e', ?_, by simpa using h2, h3⟩
        have e9 : i + 1 + j = i + (j + 1) := by omega
        rw [e9] at h1
        simp [Instr.findAsking, hq, K.eql, hk, h1, go_sem]
theorem KLaw.find (K : KLaw P kt enc) (k : κ) (w : World) (es : List MapEntry) (h : ∀ e ∈ es, ∃ q, e.key = enc q) :
    ((Instr.findKey kt (enc k) es).run P w = .ok none w ∧ ∀ e ∈ es, e.key ≠ enc k) ∨ ∃ j e, (Instr.findKey kt (enc k) es).run P w = .ok (some (j, e.val)) w ∧ es[j]? = some e ∧ e.key = enc k := by
  obtain ⟨d, hd, hs⟩ := K.desc
  match es, h with
  | [], h => exact .inl ⟨by simp [Instr.findKey, run_underlying hd, Instr.findNow, go_sem], by simp⟩
  | e :: es, h =>
    obtain ⟨q, hq⟩ := h e (.head _)
    have hn : Instr.findNow d (enc k) (e :: es) 0 = none := by simp [Instr.findNow, hq, hs]
    have hr : ∀ r, (Instr.findAsking kt (enc k) (e :: es) 0).run P w = .ok r w → (Instr.findKey kt (enc k) (e :: es)).run P w = .ok r w := by
      intro r hr
      simp [Instr.findKey, run_underlying hd, hn, go_sem]
      exact hr
    rcases K.ask k w (e :: es) 0 h with ⟨h1, h2⟩ | ⟨j, e', h1, h2, h3⟩
    · exact .inl ⟨hr _ h1, h2⟩
    · exact .inr ⟨j, e', hr _ (by rw [h1, Nat.zero_add]), h2, h3⟩
theorem KLaw.keeps (K : KLaw P kt enc) (k : κ) (w : World) : (Instr.keyThatStays (enc k) (enc k)).run P w = .ok (enc k) w := by
  simp [Instr.keyThatStays, K.stays]

def EntsV (enc : κ → Value) (es : List MapEntry) (L : List (κ × Value)) : Prop := es.map (fun e => (e.key, e.val)) = L.map (fun p => (enc p.1, p.2))
theorem EntsV.len {es : List MapEntry} {L : List (κ × Value)} (h : EntsV enc es L) : es.length = L.length := by have := congrArg List.length h; simpa using this
theorem EntsV.at_ {es : List MapEntry} {L : List (κ × Value)} (h : EntsV enc es L) {j : Nat} {e : MapEntry} (he : es[j]? = some e) : ∃ p, L[j]? = some p ∧ e.key = enc p.1 ∧ e.val = p.2 := by
  have h1 : (es.map (fun e => (e.key, e.val)))[j]? = (L.map (fun p => (enc p.1, p.2)))[j]? := by rw [show es.map _ = L.map _ from h]
  rw [List.getElem?_map, List.getElem?_map, he] at h1
  cases hp : L[j]? with
  | none => rw [hp] at h1; cases h1
  | some p => rw [hp] at h1; simp only [Option.map_some, Option.some.injEq, Prod.mk.injEq] at h1; exact ⟨p, rfl, h1.1, h1.2⟩
theorem EntsV.keys {es : List MapEntry} {L : List (κ × Value)} (h : EntsV enc es L) : ∀ e ∈ es, ∃ q, e.key = enc q := by
  intro e he
  obtain ⟨j, hj, rfl⟩ := List.getElem_of_mem he
  obtain ⟨p, _, h1, _⟩ := h.at_ (List.getElem?_eq_getElem hj)
  exact ⟨p.1, h1⟩
theorem EntsV.nodup {es : List MapEntry} {L : List (κ × Value)} (h : EntsV enc es L) (hp : (es.map (·.key)).Nodup) : (L.map (·.1)).Nodup := by
  have h1 : (es.map (·.key)) = (L.map (·.1)).map enc := by
    have := congrArg (List.map Prod.fst) h
    simpa [Function.comp_def] using this
  have h2 : ((L.map (·.1)).map enc).Nodup := by rw [← h1]; exact hp
  exact (List.pairwise_map.1 h2).imp (fun hne e => hne (by rw [e]))
theorem EntsV.none {es : List MapEntry} {L : List (κ × Value)} (h : EntsV enc es L) {k : κ} (hk : ∀ e ∈ es, e.key ≠ enc k) : (L.findIdx? fun p => decide (p.1 = k)) = none ∧ yG L k = none := by
  have key : ∀ p ∈ L, ¬ p.1 = k := by
    intro p hp e
    obtain ⟨j, hj, rfl⟩ := List.getElem_of_mem hp
    have hje : j < es.length := by rw [h.len]; exact hj
    obtain ⟨q, h1, h2, _⟩ := h.at_ (List.getElem?_eq_getElem hje)
    rw [List.getElem?_eq_getElem hj] at h1
    cases h1
    exact hk _ (List.getElem_mem hje) (by rw [h2, e])
  refine ⟨by rw [List.findIdx?_eq_none_iff]; intro p hp; simpa using key p hp, ?_⟩
  unfold yG
  rw [Option.map_eq_none_iff, List.find?_eq_none]
  intro p hp
  simpa using key p hp
theorem EntsV.some {es : List MapEntry} {L : List (κ × Value)} (h : EntsV enc es L) (hi : ∀ {a b : κ}, enc a = enc b → a = b) (hp : (es.map (·.key)).Nodup) {k : κ} {j : Nat} {e : MapEntry} (he : es[j]? = some e) (hk : e.key = enc k) :
    j < L.length ∧ (L.findIdx? fun p => decide (p.1 = k)) = some j ∧ yG L k = some e.val := by
  obtain ⟨p, h1, h2, h3⟩ := h.at_ he
  have hjl := (List.getElem?_eq_some_iff.1 h1).1
  have hpe : L[j] = p := (List.getElem?_eq_some_iff.1 h1).2
  have hpk : p.1 = k := hi (by rw [← h2, hk])
  have hn := h.nodup hp
  have first : ∀ i (hij : i < j), ¬ (L[i]'(by omega)).1 = k := fun i hij => by
    have := List.pairwise_iff_getElem.1 (List.pairwise_map.1 hn) i j (by omega) hjl hij
    intro e; exact this (by rw [e, hpe, hpk])
  refine ⟨hjl, ?_, ?_⟩
  · rw [List.findIdx?_eq_some_iff_getElem]
    exact ⟨hjl, by simp [hpe, hpk], fun i hi => by simpa using first i hi⟩
  · unfold yG
    have : (L.find? fun p => decide (p.1 = k)) = Option.some p := by
      rw [List.find?_eq_some_iff_getElem]
      exact ⟨by simp [hpk], j, hjl, hpe, fun i hi => by simpa using first i hi⟩
    rw [this, Option.map_some, h3]

def IsMap (enc : κ → Value) (w : World) (m : Nat) (L : List (κ × Value)) : Prop := ∃ es clock, w.heap[m]? = some (.map es clock) ∧ Stamped es clock ∧ EntsV enc es.toList L ∧ clock = es.size
def IsMapE (enc : κ → Value) (w : World) (m : Nat) (L : List (κ × Value)) (j : Nat) (s : Int) : Prop := ∃ es clock, w.heap[m]? = some (.map es clock) ∧ Stamped es clock ∧ EntsV enc es.toList L ∧ clock = es.size ∧ ∃ e, es[j]? = some e ∧ (e.born : Int) = s
theorem IsMapE.is {w : World} {m j : Nat} {s : Int} {L : List (κ × Value)} (h : IsMapE enc w m L j s) : IsMap enc w m L := by obtain ⟨es, c, h1, h2, h3, h4, _⟩ := h; exact ⟨es, c, h1, h2, h3, h4⟩
theorem IsMap.lt {w : World} {m : Nat} {L : List (κ × Value)} (h : IsMap enc w m L) : m < w.heap.size := by obtain ⟨es, c, hb, _⟩ := h; exact xp hb
end

section
variable {P : Program} {d : Option Tmp} {ty : TypeId} {pos : String} {af : Array Edge} {gd : Option (Nat × Bool)} {σ : Env} {w : World} {K : Value → World → Prop} {κ : Type} [DecidableEq κ] {enc : κ → Value} {G : Nat → Prop} {W : World} {As : List HP} {m : Nat} {L : List (κ × Value)}

theorem ZE {m : Nat} {es es' : Array MapEntry} {c c' : Nat} (hb : w.heap[m]? = some (.map es c)) : Chg (fun i => i = m) w { w with heap := w.heap.setIfInBounds m (.map es' c') } := by
  refine ⟨rfl, rfl, rfl, by simp, fun i hi hne => (heap_set hb).2 i hne, ?_, Nat.le_refl _⟩
  rintro i ⟨c, T, hc⟩
  have hne : i ≠ m := fun e => by subst e; rw [hb] at hc; cases hc
  exact ⟨c, T, by rw [(heap_set hb).2 i hne]; exact hc⟩
theorem XA {es : Array MapEntry} (h : EntsV enc es.toList L) (k : κ) (v : Value) (n : Nat) : EntsV enc (es.push { key := enc k, val := v, born := n }).toList (L ++ [(k, v)]) := by
  unfold EntsV at *
  rw [Array.toList_push, List.map_append, List.map_append, h]
  rfl
theorem Yz {es : Array MapEntry} (h : EntsV enc es.toList L) {k : κ} {v : Value} {j : Nat} {e : MapEntry} (he : es.toList[j]? = some e) (f : MapEntry → MapEntry) (hk : (f e).key = enc k) (hv : (f e).val = v) : EntsV enc (es.modify j f).toList (L.set j (k, v)) := by
  unfold EntsV at *
  rw [Array.toList_modify, List.modify_eq_set, he]
  simp only [Option.map_some, Option.getD_some, List.map_set, h, hk, hv]

theorem Ud {t kt et : TypeId} {x y : Operand} {k : κ} {z : Value} (hK : KLaw P kt enc) (hU : P.underlying t = some (.map kt et)) (hZ : ∀ w, (zeroValue et).run P w = .ok z w)
    (hx : ev σ x = .map (some m)) (hy : ev σ y = enc k) (hm : IsMap enc w m L) (h : K ((yG L k).getD z) w) : opV P ⟨d, .lookup t x y false, ty, pos, af, gd⟩ σ w K := by
  obtain ⟨es, clock, hb, hs, he, _⟩ := hm
  rcases hK.find k w es.toList he.keys with ⟨h1, h2⟩ | ⟨j, e, h1, h2, h3⟩
  · rw [(he.none h2).2] at h
    refine yg (v := z) (w' := w) ?_ h
    simp [execOp, hx, hy, Instr.lookup, run_underlying hU, MapKept.run_getObj_map hb, hK.check, h1, hZ, go_sem]
  · rw [(he.some hK.inj hs.2.2 h2 h3).2.2] at h
    refine yg (v := e.val) (w' := w) ?_ h
    simp [execOp, hx, hy, Instr.lookup, run_underlying hU, MapKept.run_getObj_map hb, hK.check, h1, go_sem]
theorem WZ {t kt et : TypeId} {x y : Operand} {k : κ} {z : Value} (hK : KLaw P kt enc) (hU : P.underlying t = some (.map kt et)) (hZ : ∀ w, (zeroValue et).run P w = .ok z w)
    (hx : ev σ x = .map (some m)) (hy : ev σ y = enc k) (hm : IsMap enc w m L) (h : K (.tuple #[(yG L k).getD z, .bool (yG L k).isSome]) w) : opV P ⟨d, .lookup t x y true, ty, pos, af, gd⟩ σ w K := by
  obtain ⟨es, clock, hb, hs, he, _⟩ := hm
  rcases hK.find k w es.toList he.keys with ⟨h1, h2⟩ | ⟨j, e, h1, h2, h3⟩
  · rw [(he.none h2).2] at h
    refine yg (v := .tuple #[z, .bool false]) (w' := w) ?_ h
    simp [execOp, hx, hy, Instr.lookup, run_underlying hU, MapKept.run_getObj_map hb, hK.check, h1, hZ, go_sem]
  · rw [(he.some hK.inj hs.2.2 h2 h3).2.2] at h
    refine yg (v := .tuple #[e.val, .bool true]) (w' := w) ?_ h
    simp [execOp, hx, hy, Instr.lookup, run_underlying hU, MapKept.run_getObj_map hb, hK.check, h1, go_sem]
theorem XQ {t kt et : TypeId} {x y z : Operand} {k : κ} {v : Value} (hK : KLaw P kt enc) (hU : P.underlying t = some (.map kt et)) (hx : ev σ x = .map (some m)) (hy : ev σ y = enc k) (hz : ev σ z = v) (hm : IsMap enc w m L)
    (h : ∀ w1, IsMap enc w1 m (Wv L k v) → Chg (fun i => i = m) w w1 → K undef w1) : opV P ⟨d, .mapUpdate t x y z, ty, pos, af, gd⟩ σ w K := by
  obtain ⟨es, clock, hb, hs, he, hcl⟩ := hm
  rcases hK.find k w es.toList he.keys with ⟨h1, h2⟩ | ⟨j, e, h1, h2, h3⟩
  · refine ZJ (w' := { w with heap := w.heap.setIfInBounds m (.map (es.push { key := enc k, val := v, born := clock }) (clock + 1)) }) ?_ (h _ ?_ (ZE hb))
    · simp [execOp, hx, hy, hz, Instr.mapUpdate, run_underlying hU, MapKept.run_getObj_map hb, hK.check, h1, MapKept.run_setObj_map _ hb, go_sem]
    · unfold Wv
      rw [(he.none h2).1]
      exact ⟨_, _, (heap_set hb).1, stamped_push hs h2, XA he k v clock, by simp [hcl]⟩
  · have hja : es[j]? = some e := by simpa using h2
    obtain ⟨hjl, hfi, _⟩ := he.some hK.inj hs.2.2 h2 h3
    refine ZJ (w' := { w with heap := w.heap.setIfInBounds m (.map (es.modify j fun e => { e with key := enc k, val := v }) clock) }) ?_ (h _ ?_ (ZE hb))
    · simp [execOp, hx, hy, hz, Instr.mapUpdate, run_underlying hU, MapKept.run_getObj_map hb, hK.check, h1, hja, h3, hK.keeps, MapKept.run_setObj_map _ hb, go_sem]
    · unfold Wv
      rw [hfi]
      exact ⟨_, _, (heap_set hb).1, stamped_modify hs _ _ (fun _ _ => rfl) (fun e' _ he' => by rw [hja] at he'; cases he'; exact h3.symm), Yz he h2 _ rfl rfl, by simp [hcl]⟩
theorem Wu {t kt et : TypeId} {x y : Operand} {k : κ} {z : Value} (hK : KLaw P kt enc) (hU : P.underlying t = some (.map kt et)) (hZ : ∀ w, (zeroValue et).run P w = .ok z w) (hx : ev σ x = .map (some m)) (hy : ev σ y = enc k) (hm : IsMap enc w m L)
    (h : ∀ w1 j s, IsMapE enc w1 m (Vb L k z) j s → (∀ v, (Vb L k z).set j (k, v) = Wv L k v) → (∃ p, (Vb L k z)[j]? = some p ∧ p.1 = k) → Chg (fun i => i = m) w w1 → K (.tuple #[(yG L k).getD z, .int .i64 s]) w1) : opV P ⟨d, .mapEntry t x y, ty, pos, af, gd⟩ σ w K := by
  obtain ⟨es, clock, hb, hs, he, hcl⟩ := hm
  rcases hK.find k w es.toList he.keys with ⟨h1, h2⟩ | ⟨j, e, h1, h2, h3⟩
  · have h0 := h { w with heap := w.heap.setIfInBounds m (.map (es.push { key := enc k, val := z, born := clock }) (clock + 1)) } es.size (clock : Int)
    unfold Vb Wv at h0
    rw [(he.none h2).1, (he.none h2).2] at h0
    refine yg (v := .tuple #[z, .int .i64 (clock : Int)]) (w' := { w with heap := w.heap.setIfInBounds m (.map (es.push { key := enc k, val := z, born := clock }) (clock + 1)) }) ?_ (h0 ⟨_, _, (heap_set hb).1, stamped_push hs h2, XA he k z clock, by simp [hcl], { key := enc k, val := z, born := clock }, by simp, rfl⟩ ?_ ?_ (ZE hb))
    · simp [execOp, hx, hy, Instr.mapEntry, run_underlying hU, MapKept.run_getObj_map hb, hK.check, h1, hZ, MapKept.run_setObj_map _ hb, goInt, go_sem]
    · intro v
      have hl : es.size = L.length := by have := he.len; simpa using this
      simp only [hl]
      rw [List.set_append_right _ _ (Nat.le_refl _), Nat.sub_self]; rfl
    · have hl : es.size = L.length := by have := he.len; simpa using this
      exact ⟨(k, z), by rw [hl]; simp, rfl⟩
  · have hja : es[j]? = some e := by simpa using h2
    obtain ⟨hjl, hfi, hlk⟩ := he.some hK.inj hs.2.2 h2 h3
    have h0 := h { w with heap := w.heap.setIfInBounds m (.map (es.modify j fun e => { e with key := enc k }) clock) } j (e.born : Int)
    unfold Vb Wv at h0
    rw [hfi, hlk] at h0
    have hes : EntsV enc (es.modify j fun e => { e with key := enc k }).toList L := by
      have h9 := Yz he (k := k) (v := e.val) h2 (fun e => { e with key := enc k }) rfl rfl
      obtain ⟨p, q1, q2, q3⟩ := he.at_ h2
      have : L.set j (k, e.val) = L := by
        obtain ⟨hj9, q4⟩ := List.getElem?_eq_some_iff.1 q1
        have hpk : p.1 = k := hK.inj (by rw [← q2, h3])
        rw [q3, show (k, p.2) = L[j] by rw [q4, ← hpk]]
        exact List.set_getElem_self hj9
      rwa [this] at h9
    refine yg (v := .tuple #[e.val, .int .i64 (e.born : Int)]) (w' := { w with heap := w.heap.setIfInBounds m (.map (es.modify j fun e => { e with key := enc k }) clock) }) ?_ (h0 ⟨_, _, (heap_set hb).1, stamped_modify hs _ _ (fun _ _ => rfl) (fun e' _ he' => by rw [hja] at he'; cases he'; exact h3.symm), hes, by simp [hcl], { e with key := enc k }, by simp [Array.getElem?_modify, hja], rfl⟩ (fun v => rfl) ((he.at_ h2).elim fun p hp => ⟨p, hp.1, hK.inj (by rw [← hp.2.1, h3])⟩) (ZE hb))
    simp [execOp, hx, hy, Instr.mapEntry, run_underlying hU, MapKept.run_getObj_map hb, hK.check, h1, hja, h3, hK.keeps, MapKept.run_setObj_map _ hb, goInt, go_sem]
theorem XC {t : TypeId} {x y z : Operand} {j : Nat} {s : Int} {v : Value} {p : κ × Value} (hx : ev σ x = .map (some m)) (hy : ev σ y = .int .i64 s) (hz : ev σ z = v) (hm : IsMapE enc w m L j s) (hp : L[j]? = some p)
    (h : ∀ w1, IsMap enc w1 m (L.set j (p.1, v)) → Chg (fun i => i = m) w w1 → K undef w1) : opV P ⟨d, .entryStore t x y z, ty, pos, af, gd⟩ σ w K := by
  obtain ⟨es, clock, hb, hs, he, hcl, e, hja, hbn⟩ := hm
  have h2 : es.toList[j]? = some e := by simpa using hja
  have hjs : j < es.size := (Array.getElem?_eq_some_iff.1 hja).1
  have hej : es[j] = e := (Array.getElem?_eq_some_iff.1 hja).2
  have hfi : es.findIdx? (fun e => (e.born : Int) == s) = some j := by
    rw [Array.findIdx?_eq_some_iff_getElem]
    refine ⟨hjs, by simp [hej, hbn], fun i hi => ?_⟩
    have := List.pairwise_iff_getElem.1 (List.pairwise_map.1 hs.2.1) i j (by simp; omega) (by simpa using hjs) hi
    simp only [Array.getElem_toList] at this
    rw [hej] at this
    have h9 : ¬ ((es[i].born : Int) = s) := fun e9 => this (by omega)
    simpa using h9
  obtain ⟨q, q1, q2, q3⟩ := he.at_ h2
  rw [hp] at q1
  cases q1
  refine ZJ (w' := { w with heap := w.heap.setIfInBounds m (.map (es.modify j fun e => { e with val := v }) clock) }) ?_ (h _ ?_ (ZE hb))
  · simp [execOp, hx, hy, hz, Instr.entryStore, MapKept.run_getObj_map hb, asInt, hfi, MapKept.run_setObj_map _ hb, go_sem]
  · exact ⟨_, _, (heap_set hb).1, stamped_modify hs _ _ (fun _ _ => rfl) (fun e' _ he' => rfl), Yz he h2 _ q2 rfl, by simp [hcl]⟩
end
end Go.Proofs.YtlblilbmpdejgaaDoor
namespace Go.Proofs.YtlblilbmpdejgaaDoor
open Go.RowKit Go.MapKept

section
variable {κ β : Type} [DecidableEq κ]
theorem Yj {L : List (κ × β)} {k q : κ} {v : β} : yG (L ++ [(k, v)]) q = (yG L q).or (if k = q then some v else none) := by
  unfold yG
  rw [List.find?_append]
  cases h : L.find? fun p => decide (p.1 = q) with
  | some p => simp
  | none => by_cases e : k = q <;> simp [List.find?, e]
theorem XR {L : List (κ × β)} {k : κ} (h : (L.findIdx? fun p => decide (p.1 = k)) = none) : yG L k = none := by
  rw [List.findIdx?_eq_none_iff] at h
  unfold yG
  rw [Option.map_eq_none_iff, List.find?_eq_none]
  intro p hp
  simp [h p hp]
theorem UK {L : List (κ × β)} {k q : κ} {v : β} {j : Nat} {p : κ × β} (hj : L[j]? = some p) (hp : p.1 = k) (hf : ∀ i, i < j → ∀ r, L[i]? = some r → r.1 ≠ k) : yG (L.set j (k, v)) q = if k = q then some v else yG L q := by
  induction L generalizing j with
  | nil => simp at hj
  | cons a L ih =>
    cases j with
    | zero =>
      simp only [List.getElem?_cons_zero, Option.some.injEq] at hj
      subst hj
      unfold yG
      by_cases e : k = q
      · subst e; simp
      · simp [e, hp]
    | succ j =>
      have h1 := ih (j := j) (by simpa using hj) (fun i hi r hr => hf (i + 1) (by omega) r (by simpa using hr))
      have h0 := hf 0 (by omega) a rfl
      unfold yG at h1 ⊢
      rw [List.set_cons_succ, List.find?_cons, List.find?_cons]
      by_cases e : a.1 = q
      · have : ¬ k = q := fun e2 => h0 (by rw [e, e2])
        simp [e, this]
      · simp only [e, decide_false]
        exact h1
theorem XS {L : List (κ × β)} {k : κ} {j : Nat} (h : (L.findIdx? fun p => decide (p.1 = k)) = some j) : (∃ p, L[j]? = some p ∧ p.1 = k) ∧ ∀ i, i < j → ∀ r, L[i]? = some r → r.1 ≠ k := by
  rw [List.findIdx?_eq_some_iff_getElem] at h
  obtain ⟨hj, h1, h2⟩ := h
  refine ⟨⟨L[j], List.getElem?_eq_getElem hj, by simpa using h1⟩, fun i hi r hr => ?_⟩
  have := h2 i hi
  obtain ⟨hil, e⟩ := List.getElem?_eq_some_iff.1 hr
  rw [← e]; simpa using this
theorem Xy (L : List (κ × β)) (k q : κ) (v : β) : yG (Wv L k v) q = if k = q then some v else yG L q := by
  unfold Wv
  split
  · rename_i j hj
    obtain ⟨⟨p, h1, h2⟩, h3⟩ := XS hj
    exact UK h1 h2 h3
  · rename_i hj
    rw [Yj]
    by_cases e : k = q
    · subst e; rw [XR hj]; simp
    · simp [e]
theorem ZS (L : List (κ × β)) (k q : κ) (z : β) (h : ¬ k = q) : yG (Vb L k z) q = yG L q := by
  unfold Vb
  split
  · rfl
  · rw [Yj]; simp [h]
end

def ZW {κ α : Type} [DecidableEq κ] (X : κ → Option α) (k : κ) (x : α) : κ → Option α := fun q => if k = q then some x else X q

section
variable {κ α : Type} [DecidableEq κ]
def ValAt (E : Value → α → HP) (w : World) (F : Nat → Prop) : Option Value → Option α → Prop
  | some v, some x => (E v x).p w F
  | none, none => True
  | _, _ => False
theorem ValAt.loc {E : Value → α → HP} {w w' : World} {F F' : Nat → Prop} : ∀ {v : Option Value} {x : Option α}, ValAt E w F v x → (∀ b, F b → b < w.heap.size → w'.heap[b]? = w.heap[b]? ∧ F' b) → ValAt E w' F' v x
  | some v, some x, h, hf => (E v x).loc h hf
  | none, none, _, _ => trivial
  | some _, none, h, _ => h.elim
  | none, some _, h, _ => h.elim
theorem ValAt.isSome {E : Value → α → HP} {w : World} {F : Nat → Prop} : ∀ {v : Option Value} {x : Option α}, ValAt E w F v x → v.isSome = x.isSome
  | some _, some _, _ => rfl
  | none, none, _ => rfl
  | some _, none, h => h.elim
  | none, some _, h => h.elim
structure Spread (w : World) (m : Nat) (f : Nat → Prop) (g : κ → Nat → Prop) : Prop where
  sub : ∀ k b, g k b → f b ∧ b < w.heap.size ∧ b ≠ m
  apart : ∀ k k', k ≠ k' → ∀ b, g k b → ¬ g k' b
theorem Spread.loc {w w' : World} {m : Nat} {f f' : Nat → Prop} {g : κ → Nat → Prop} (h : Spread w m f g) (hf : ∀ b, f b → b < w.heap.size → w'.heap[b]? = w.heap[b]? ∧ f' b) : Spread w' m f' g :=
  ⟨fun k b hb => ⟨(hf b (h.sub k b hb).1 (h.sub k b hb).2.1).2, by
    obtain ⟨h1, h2, _⟩ := h.sub k b hb
    have := (hf b h1 h2).1
    rw [Array.getElem?_eq_getElem h2] at this
    exact (Array.getElem?_eq_some_iff.1 this).1, (h.sub k b hb).2.2⟩, h.apart⟩
theorem Spread.loc2 {w w' : World} {m : Nat} {f : Nat → Prop} {g : κ → Nat → Prop} (h : Spread w m f g) (hz : w.heap.size ≤ w'.heap.size) : Spread w' m f g := ⟨fun k b hb => ⟨(h.sub k b hb).1, Nat.lt_of_lt_of_le (h.sub k b hb).2.1 hz, (h.sub k b hb).2.2⟩, h.apart⟩
def yO (enc : κ → Value) (E : Value → α → HP) (m : Nat) (X : κ → Option α) : HP := ⟨fun w f => ∃ (R : List (κ × Value)) (g : κ → Nat → Prop), f m ∧ IsMap enc w m R ∧ (∀ k, ValAt E w (g k) (yG R k) (X k)) ∧ Spread w m f g, fun {w w' f f'} h hf => by
  obtain ⟨R, g, hm, ⟨es, c, hb, r⟩, hv, hs⟩ := h
  exact ⟨R, g, (hf m hm (xp hb)).2, ⟨es, c, ((hf m hm (xp hb)).1).trans hb, r⟩, fun k => (hv k).loc (fun b hg hlt => ⟨(hf b (hs.sub k b hg).1 hlt).1, hg⟩), hs.loc hf⟩⟩
def Zi (enc : κ → Value) (E : Value → α → HP) (z : Value) (m : Nat) (X : κ → Option α) (k : κ) (v : Value) : HP := ⟨fun w f => ∃ (R : List (κ × Value)) (g : κ → Nat → Prop), f m ∧ IsMap enc w m R ∧ (yG R k).getD z = v ∧ (yG R k).isSome = (X k).isSome ∧ (∀ q, q ≠ k → ValAt E w (g q) (yG R q) (X q)) ∧ Spread w m f g, fun {w w' f f'} h hf => by
  obtain ⟨R, g, hm, ⟨es, c, hb, r⟩, h1, h2, hv, hs⟩ := h
  exact ⟨R, g, (hf m hm (xp hb)).2, ⟨es, c, ((hf m hm (xp hb)).1).trans hb, r⟩, h1, h2, fun q hq => (hv q hq).loc (fun b hg hlt => ⟨(hf b (hs.sub q b hg).1 hlt).1, hg⟩), hs.loc hf⟩⟩
def Wi (enc : κ → Value) (E : Value → α → HP) (m : Nat) (X : κ → Option α) (k : κ) (s : Int) : HP := ⟨fun w f => ∃ (R : List (κ × Value)) (g : κ → Nat → Prop) (j : Nat), f m ∧ IsMapE enc w m R j s ∧ (∀ v q, yG (R.set j (k, v)) q = if k = q then some v else yG R q) ∧ (∃ p, R[j]? = some p ∧ p.1 = k) ∧ (∀ q, q ≠ k → ValAt E w (g q) (yG R q) (X q)) ∧ Spread w m f g, fun {w w' f f'} h hf => by
  obtain ⟨R, g, j, hm, ⟨es, c, hb, r⟩, h1, h2, hv, hs⟩ := h
  exact ⟨R, g, j, (hf m hm (xp hb)).2, ⟨es, c, ((hf m hm (xp hb)).1).trans hb, r⟩, h1, h2, fun q hq => (hv q hq).loc (fun b hg hlt => ⟨(hf b (hs.sub q b hg).1 hlt).1, hg⟩), hs.loc hf⟩⟩
def Yr (E : Value → α → HP) (v : Value) : Option α → HP
  | some x => E v x
  | none => Emp
end

section
variable {κ α : Type} [DecidableEq κ] {enc : κ → Value} {E : Value → α → HP} {z : Value} {m : Nat} {X : κ → Option α} {k : κ} {v : Value} {G : Nat → Prop} {W w : World} {As : List HP}
theorem Sep.mapoNew {w' : World} (h : Sep G W As w) (hn : New w w' w.heap.size (.map #[] 0)) : Sep G W (yO enc E w.heap.size (fun _ : κ => (none : Option α)) :: As) w' :=
  h.push hn.ext (f := fun i => i = w.heap.size) ⟨[], fun _ _ => False, rfl, ⟨#[], 0, hn.at_, stamped_empty 0, rfl, rfl⟩, fun _ => trivial, ⟨fun _ _ h => h.elim, fun _ _ _ _ h => h.elim⟩⟩ (fun i hi => by omega)
theorem Sep.mapoTake (h : Sep G W (yO enc E m X :: As) w) (z : Value) (k : κ) : ∃ v, (X k = none → v = z) ∧ Sep G W (Zi enc E z m X k v :: Yr E v (X k) :: As) w := by
  obtain ⟨fs, q1, q2⟩ := h.parts
  obtain ⟨⟨R, g, hm, hM, hv, hs⟩, hl⟩ := q1 0 _ rfl
  refine ⟨(yG R k).getD z, fun hx => ?_, ?_⟩
  · have := (hv k).isSome
    rw [hx] at this
    cases hR : yG R k with
    | none => rfl
    | some u => rw [hR] at this; cases this
  · have h1 : Sep G W (Star [Zi enc E z m X k ((yG R k).getD z), Yr E ((yG R k).getD z) (X k)] :: As) w := by
      refine ⟨h.kept, fs, fun i C hC => ?_, fun i j hi hj => q2 i j (by simpa using hi) (by simpa using hj)⟩
      cases i with
      | succ i => exact q1 (i + 1) C (by simpa using hC)
      | zero =>
        simp only [List.getElem?_cons_zero, Option.some.injEq] at hC
        subst hC
        refine ⟨⟨fun i b => if i = 0 then fs 0 b ∧ ¬ g k b ∧ b < w.heap.size else g k b, fun i C hC => ?_, fun i j hi hj hne b hb => ?_⟩, hl⟩
        · match i, hC with
          | 0, hC =>
            simp only [List.getElem?_cons_zero, Option.some.injEq] at hC
            subst hC
            refine ⟨⟨R, fun q b => if q = k then False else g q b, ⟨hm, fun hg => (hs.sub k m hg).2.2 rfl, hM.lt⟩, hM, rfl, (hv k).isSome, fun q hq => ?_, ⟨fun q b hb => ?_, fun q q' hne b hb hb' => ?_⟩⟩, fun b hb => ⟨hb.1, hb.2.2⟩⟩
            · simp only [if_neg hq]; exact hv q
            · by_cases e : q = k
              · rw [if_pos e] at hb; exact hb.elim
              · rw [if_neg e] at hb
                have := hs.sub q b hb
                exact ⟨⟨this.1, fun h9 => hs.apart q k e b hb h9, this.2.1⟩, this.2.1, this.2.2⟩
            · by_cases e : q = k
              · rw [if_pos e] at hb; exact hb.elim
              · by_cases e' : q' = k
                · rw [if_pos e'] at hb'; exact hb'.elim
                · rw [if_neg e] at hb; rw [if_neg e'] at hb'; exact hs.apart q q' hne b hb hb'
          | 1, hC =>
            simp only [List.getElem?_cons_succ, List.getElem?_cons_zero, Option.some.injEq] at hC
            subst hC
            refine ⟨?_, fun b hb => ⟨(hs.sub k b hb).1, (hs.sub k b hb).2.1⟩⟩
            have := hv k
            cases hR : yG R k with
            | none =>
              rw [hR] at this
              cases hX : X k with
              | none => exact trivial
              | some x => rw [hX] at this; exact this.elim
            | some u =>
              rw [hR] at this
              cases hX : X k with
              | none => rw [hX] at this; exact this.elim
              | some x => rw [hX] at this; exact this
          | i + 2, hC => simp at hC
        · simp only [List.length_cons, List.length_nil] at hi hj
          match i, j, hb with
          | 0, 0, _ => exact absurd rfl hne
          | 0, 1, hb => exact hb.2.1
          | 1, 0, hb => exact fun h9 => h9.2.1 hb
          | 1, 1, _ => exact absurd rfl hne
          | i + 2, _, _ => omega
          | 0, j + 2, _ => omega
          | 1, j + 2, _ => omega
    exact h1.openStar
theorem Yd {f : Nat → Prop} {g : κ → Nat → Prop} {f0 f1 : Nat → Prop} {w1 : World} (hs : Spread w m f0 g) (h0 : ∀ b, f0 b → f b ∧ b < w.heap.size) (h1 : ∀ b, f1 b → f b ∧ b < w.heap.size) (hd : ∀ b, f0 b → ¬ f1 b) (hm : f0 m) (hz : w.heap.size ≤ w1.heap.size) : Spread w1 m f (fun q b => if q = k then f1 b else g q b) := by
  refine ⟨fun q b hb => ?_, fun q q' hne b hb hb' => ?_⟩
  · by_cases e : q = k
    · simp only [if_pos e] at hb
      exact ⟨(h1 b hb).1, Nat.lt_of_lt_of_le (h1 b hb).2 hz, fun e2 => hd m hm (e2 ▸ hb)⟩
    · simp only [if_neg e] at hb
      have := hs.sub q b hb
      exact ⟨(h0 b this.1).1, Nat.lt_of_lt_of_le this.2.1 hz, this.2.2⟩
  · by_cases e : q = k
    · simp only [if_pos e] at hb
      have e' : ¬ q' = k := fun e2 => hne (e.trans e2.symm)
      simp only [if_neg e'] at hb'
      exact hd b (hs.sub q' b hb').1 hb
    · simp only [if_neg e] at hb
      by_cases e' : q' = k
      · simp only [if_pos e'] at hb'
        exact hd b (hs.sub q b hb).1 hb'
      · simp only [if_neg e'] at hb'
        exact hs.apart q q' hne b hb hb'
theorem Sep.mapoPut (h : Sep G W (Zi enc E z m X k v :: Yr E v (X k) :: As) w) : Sep G W (yO enc E m X :: As) w := by
  have hst := h.closeStar (Bs := [Zi enc E z m X k v, Yr E v (X k)])
  refine hst.impl (i := 0) rfl (fun f hA => ?_)
  obtain ⟨gs, r1, r2⟩ := hA
  obtain ⟨⟨R, g, hm, hM, hz, hi, hv, hs⟩, hf0⟩ := r1 0 _ rfl
  obtain ⟨hN, hf1⟩ := r1 1 _ rfl
  have r2' := r2 0 1 (by simp) (by simp) (by simp)
  refine ⟨R, fun q b => if q = k then gs 1 b else g q b, (hf0 m hm).1, hM, fun q => ?_, Yd hs hf0 hf1 r2' hm (Nat.le_refl _)⟩
  by_cases e : q = k
  · subst e
    simp only [if_true]
    cases hR : yG R q with
    | none =>
      rw [hR] at hi
      cases hX : X q with
      | none => exact trivial
      | some x => rw [hX] at hi; cases hi
    | some u =>
      rw [hR] at hi hz
      cases hX : X q with
      | none => rw [hX] at hi; cases hi
      | some x => rw [hX] at hN; simp only [Option.getD_some] at hz; subst hz; exact hN
  · simp only [if_neg e]
    exact hv q e
theorem Sep.mapo1 (h : Sep G W As w) {i : Nat} (hi : As[i]? = some (Zi enc E z m X k v)) : ∃ R, IsMap enc w m R ∧ (yG R k).getD z = v ∧ (yG R k).isSome = (X k).isSome := by
  obtain ⟨f, ⟨R, g, hm, hM, hz, hi, _⟩, _⟩ := h.get hi; exact ⟨R, hM, hz, hi⟩
end

section
variable {P : Program} {d : Option Tmp} {ty : TypeId} {pos : String} {af : Array Edge} {gd : Option (Nat × Bool)} {σ : Env} {w : World} {K : Value → World → Prop} {κ α : Type} [DecidableEq κ] {enc : κ → Value} {E : Value → α → HP} {z : Value} {m : Nat} {X : κ → Option α} {k : κ} {v : Value} {G : Nat → Prop} {W : World} {As : List HP}
theorem VP {t kt et : TypeId} {x y : Operand} {i : Nat} (h : Sep G W As w) (hi : As[i]? = some (Zi enc E z m X k v)) (hK : KLaw P kt enc) (hU : P.underlying t = some (.map kt et)) (hZ : ∀ w, (zeroValue et).run P w = .ok z w)
    (hx : ev σ x = .map (some m)) (hy : ev σ y = enc k) (hk : K v w) : opV P ⟨d, .lookup t x y false, ty, pos, af, gd⟩ σ w K := by
  obtain ⟨R, hM, e, _⟩ := h.mapo1 hi
  exact Ud hK hU hZ hx hy hM (by rw [e]; exact hk)
theorem Zz {t kt et : TypeId} {x y : Operand} {i : Nat} (h : Sep G W As w) (hi : As[i]? = some (Zi enc E z m X k v)) (hK : KLaw P kt enc) (hU : P.underlying t = some (.map kt et)) (hZ : ∀ w, (zeroValue et).run P w = .ok z w)
    (hx : ev σ x = .map (some m)) (hy : ev σ y = enc k) (hk : K (.tuple #[v, .bool (X k).isSome]) w) : opV P ⟨d, .lookup t x y true, ty, pos, af, gd⟩ σ w K := by
  obtain ⟨R, hM, e, e2⟩ := h.mapo1 hi
  exact WZ hK hU hZ hx hy hM (by rw [e, e2]; exact hk)
theorem XT {t kt et : TypeId} {x y u : Operand} {v' : Value} {x' : α} (h : Sep G W (Zi enc E z m X k v :: E v' x' :: As) w) (hK : KLaw P kt enc) (hU : P.underlying t = some (.map kt et)) (hx : ev σ x = .map (some m)) (hy : ev σ y = enc k) (hu : ev σ u = v')
    (hk : ∀ w1, Sep G W (yO enc E m (ZW X k x') :: As) w1 → K undef w1) : opV P ⟨d, .mapUpdate t x y u, ty, pos, af, gd⟩ σ w K := by
  have hst := h.closeStar (Bs := [Zi enc E z m X k v, E v' x'])
  obtain ⟨ff, q1, q2⟩ := hst.parts
  obtain ⟨⟨gs, r1, r2⟩, hl⟩ := q1 0 _ rfl
  obtain ⟨⟨R, g, hm, hM, hz, hi, hv, hs⟩, hf0⟩ := r1 0 _ rfl
  obtain ⟨hN, hf1⟩ := r1 1 _ rfl
  have r2' := r2 0 1 (by simp) (by simp) (by simp)
  refine XQ hK hU hx hy hu hM (fun w1 hM1 hc => hk w1 ?_)
  have keep : ∀ b, b ≠ m → b < w.heap.size → w1.heap[b]? = w.heap[b]? := fun b hb hlt => hc.block b hlt hb
  have key : (yO enc E m (ZW X k x')).p w1 (ff 0) := by
    refine ⟨Wv R k v', fun q b => if q = k then gs 1 b else g q b, (hf0 m hm).1, hM1, fun q => ?_, Yd hs hf0 hf1 r2' hm hc.size⟩
    rw [Xy]
    unfold ZW
    by_cases e : q = k
    · subst e
      simp only [if_true]
      exact (E v' x').loc hN (fun b hb hlt => ⟨keep b (fun e2 => r2' m hm (e2 ▸ hb)) hlt, hb⟩)
    · simp only [if_neg e, if_neg (Ne.symm e)]
      exact (hv q e).loc (fun b hb hlt => ⟨keep b (hs.sub q b hb).2.2 hlt, hb⟩)
  refine ⟨hst.kept.chg hc (fun b hb => by subst hb; exact (hl _ (hf0 _ hm).1).1), ff, fun i C hC => ?_, fun i j hi hj => q2 i j (by simpa using hi) (by simpa using hj)⟩
  cases i with
  | zero =>
    simp only [List.getElem?_cons_zero, Option.some.injEq] at hC
    subst hC
    exact ⟨key, fun b hb => ⟨(hl b hb).1, Nat.lt_of_lt_of_le (hl b hb).2 hc.size⟩⟩
  | succ i =>
    obtain ⟨hp, hlp⟩ := q1 (i + 1) C (by simpa using hC)
    have hne : ∀ b, ff (i + 1) b → b ≠ m := fun b hb e2 => by
      subst e2
      exact q2 0 (i + 1) (by simp) (by have := (List.getElem?_eq_some_iff.1 hC).1; simpa using this) (by omega) _ (hf0 _ hm).1 hb
    exact ⟨C.loc hp (fun b hb hlt => ⟨keep b (hne b hb) hlt, hb⟩), fun b hb => ⟨(hlp b hb).1, Nat.lt_of_lt_of_le (hlp b hb).2 hc.size⟩⟩
theorem Wq {t kt et : TypeId} {x y : Operand} (h : Sep G W (Zi enc E z m X k v :: As) w) (hK : KLaw P kt enc) (hU : P.underlying t = some (.map kt et)) (hZ : ∀ w, (zeroValue et).run P w = .ok z w) (hx : ev σ x = .map (some m)) (hy : ev σ y = enc k)
    (hk : ∀ w1 s, Sep G W (Wi enc E m X k s :: As) w1 → K (.tuple #[v, .int .i64 s]) w1) : opV P ⟨d, .mapEntry t x y, ty, pos, af, gd⟩ σ w K := by
  obtain ⟨ff, q1, q2⟩ := h.parts
  obtain ⟨⟨R, g, hm, hM, hz, hi, hv, hs⟩, hl⟩ := q1 0 _ rfl
  refine Wu hK hU hZ hx hy hM (fun w1 j s hM1 hset hp hc => ?_)
  rw [hz]
  refine hk w1 s ?_
  have keep : ∀ b, b ≠ m → b < w.heap.size → w1.heap[b]? = w.heap[b]? := fun b hb hlt => hc.block b hlt hb
  have key : (Wi enc E m X k s).p w1 (ff 0) := by
    refine ⟨Vb R k z, g, j, hm, hM1, fun u q => ?_, hp, fun q hq => ?_, hs.loc2 hc.size⟩
    · rw [hset u, Xy]
      by_cases e : k = q
      · rw [if_pos e, if_pos e]
      · rw [if_neg e, if_neg e, ZS _ _ _ _ e]
    · rw [ZS _ _ _ _ (Ne.symm hq)]
      exact (hv q hq).loc (fun b hb hlt => ⟨keep b (hs.sub q b hb).2.2 hlt, hb⟩)
  refine ⟨h.kept.chg hc (fun b hb => by subst hb; exact (hl _ hm).1), ff, fun i C hC => ?_, fun i j hi hj => q2 i j (by simpa using hi) (by simpa using hj)⟩
  cases i with
  | zero =>
    simp only [List.getElem?_cons_zero, Option.some.injEq] at hC
    subst hC
    exact ⟨key, fun b hb => ⟨(hl b hb).1, Nat.lt_of_lt_of_le (hl b hb).2 hc.size⟩⟩
  | succ i =>
    obtain ⟨hp, hlp⟩ := q1 (i + 1) C (by simpa using hC)
    have hne : ∀ b, ff (i + 1) b → b ≠ m := fun b hb e2 => by
      subst e2
      exact q2 0 (i + 1) (by simp) (by have := (List.getElem?_eq_some_iff.1 hC).1; simpa using this) (by omega) _ hm hb
    exact ⟨C.loc hp (fun b hb hlt => ⟨keep b (hne b hb) hlt, hb⟩), fun b hb => ⟨(hlp b hb).1, Nat.lt_of_lt_of_le (hlp b hb).2 hc.size⟩⟩
theorem XJ {t : TypeId} {x y u : Operand} {s : Int} {v' : Value} {x' : α} (h : Sep G W (Wi enc E m X k s :: E v' x' :: As) w) (hx : ev σ x = .map (some m)) (hy : ev σ y = .int .i64 s) (hu : ev σ u = v')
    (hk : ∀ w1, Sep G W (yO enc E m (ZW X k x') :: As) w1 → K undef w1) : opV P ⟨d, .entryStore t x y u, ty, pos, af, gd⟩ σ w K := by
  have hst := h.closeStar (Bs := [Wi enc E m X k s, E v' x'])
  obtain ⟨ff, q1, q2⟩ := hst.parts
  obtain ⟨⟨gs, r1, r2⟩, hl⟩ := q1 0 _ rfl
  obtain ⟨⟨R, g, j, hm, hM, hset, ⟨p, hp, hpk⟩, hv, hs⟩, hf0⟩ := r1 0 _ rfl
  obtain ⟨hN, hf1⟩ := r1 1 _ rfl
  have r2' := r2 0 1 (by simp) (by simp) (by simp)
  refine XC hx hy hu hM hp (fun w1 hM1 hc => hk w1 ?_)
  rw [hpk] at hM1
  have keep : ∀ b, b ≠ m → b < w.heap.size → w1.heap[b]? = w.heap[b]? := fun b hb hlt => hc.block b hlt hb
  have key : (yO enc E m (ZW X k x')).p w1 (ff 0) := by
    refine ⟨R.set j (k, v'), fun q b => if q = k then gs 1 b else g q b, (hf0 m hm).1, hM1, fun q => ?_, Yd hs hf0 hf1 r2' hm hc.size⟩
    rw [hset v' q]
    unfold ZW
    by_cases e : q = k
    · subst e
      simp only [if_true]
      exact (E v' x').loc hN (fun b hb hlt => ⟨keep b (fun e2 => r2' m hm (e2 ▸ hb)) hlt, hb⟩)
    · simp only [if_neg e, if_neg (Ne.symm e)]
      exact (hv q e).loc (fun b hb hlt => ⟨keep b (hs.sub q b hb).2.2 hlt, hb⟩)
  refine ⟨hst.kept.chg hc (fun b hb => by subst hb; exact (hl _ (hf0 _ hm).1).1), ff, fun i C hC => ?_, fun i j hi hj => q2 i j (by simpa using hi) (by simpa using hj)⟩
  cases i with
  | zero =>
    simp only [List.getElem?_cons_zero, Option.some.injEq] at hC
    subst hC
    exact ⟨key, fun b hb => ⟨(hl b hb).1, Nat.lt_of_lt_of_le (hl b hb).2 hc.size⟩⟩
  | succ i =>
    obtain ⟨hp, hlp⟩ := q1 (i + 1) C (by simpa using hC)
    have hne : ∀ b, ff (i + 1) b → b ≠ m := fun b hb e2 => by
      subst e2
      exact q2 0 (i + 1) (by simp) (by have := (List.getElem?_eq_some_iff.1 hC).1; simpa using this) (by omega) _ (hf0 _ hm).1 hb
    exact ⟨C.loc hp (fun b hb hlt => ⟨keep b (hne b hb) hlt, hb⟩), fun b hb => ⟨(hlp b hb).1, Nat.lt_of_lt_of_le (hlp b hb).2 hc.size⟩⟩
end
end Go.Proofs.YtlblilbmpdejgaaDoor
namespace Go.Proofs.YtlblilbmpdejgaaDoor
open Go.RowKit

structure Ent where
  ev : Ev
  void : Bool
  byO : Int
  byS : Int
  deriving DecidableEq, Inhabited
structure Ent.Ok (e : Ent) : Prop where
  ev : e.ev.Ok
  byO : InR e.byO
  byS : InR e.byS
def Ent.cells (e : Ent) (d1 : Value) : List Value := e.ev.cells d1 ++ [.bool e.void, .int .i64 e.byO, .int .i64 e.byS]
instance : Rep Ent where
  k := 13
  bytes := 120
  bpos := by decide
  kpos := by decide
  rd w F cs e := ∃ d1, cs = e.cells d1 ∧ RdS w F d1 e.ev.deps ∧ e.Ok
  len h := by obtain ⟨d1, rfl, h1, ho⟩ := h; rfl
  one h := by obtain ⟨d1, rfl, h1, ho⟩ := h; exact zW ⟨rfl, rfl, rfl, h1.sl.one, rfl, rfl, rfl, rfl, rfl, rfl, rfl, rfl, rfl, trivial⟩
  mono h hF := by obtain ⟨d1, rfl, h1, ho⟩ := h; exact ⟨d1, rfl, h1.mono hF, ho⟩
theorem RdS.ent {w : World} {F : Nat → Prop} {v : Value} {l : List Ent} (h : RdS w F v l) {i : Nat} (hi : i < l.length) :
    CellsAt w (sb v) (so v + i * 13) (l[i].cells (zy w (sb v) (so v + i * 13 + 3))) ∧ RdS w F (zy w (sb v) (so v + i * 13 + 3)) l[i].ev.deps ∧ l[i].Ok := by
  obtain ⟨cs, hc, d1, rfl, h1, ho⟩ := h.at_ i hi
  have ed1 : (zy w (sb v) (so v + i * 13 + 3)) = d1 := by
    have : w.cell? ⟨sb v, so v + i * 13 + 3, none⟩ = some d1 := hc.get (j := 3) rfl
    simp only [zy, this]; rfl
  rw [ed1]
  exact ⟨hc, h1, ho⟩
theorem Ent.eq_iff {a b : Ent} : a = b ↔ a.ev = b.ev ∧ a.void = b.void ∧ a.byO = b.byO ∧ a.byS = b.byS := by
  cases a; cases b; simp
structure Sta where
  ver : Int
  cls : List Cel
  deriving DecidableEq, Inhabited
structure Sta.Ok (e : Sta) : Prop where
  ver : InR e.ver
def Sta.cells (e : Sta) (d1 : Value) : List Value := [.int .i64 e.ver, d1]
instance : Rep Sta where
  k := 2
  bytes := 32
  bpos := by decide
  kpos := by decide
  rd w F cs e := ∃ d1, cs = e.cells d1 ∧ RdS w F d1 e.cls ∧ e.Ok
  len h := by obtain ⟨d1, rfl, h1, ho⟩ := h; rfl
  one h := by obtain ⟨d1, rfl, h1, ho⟩ := h; exact zW ⟨rfl, h1.sl.one, trivial⟩
  mono h hF := by obtain ⟨d1, rfl, h1, ho⟩ := h; exact ⟨d1, rfl, h1.mono hF, ho⟩
theorem RdS.entD {w : World} {F : Nat → Prop} {v : Value} {l : List Ent} (h : RdS w F v l) {i : Nat} (hi : i < l.length) :
    CellsAt w (sb v) (so v + i * 13) ((l.getD i default).cells (zy w (sb v) (so v + i * 13 + 3))) ∧ RdS w F (zy w (sb v) (so v + i * 13 + 3)) (l.getD i default).ev.deps ∧ (l.getD i default).Ok := by
  have h9 := h.ent hi
  rw [← zG default hi] at h9
  exact h9
end Go.Proofs.YtlblilbmpdejgaaDoor
namespace Go.Proofs.YtlblilbmpdejgaaDoor

theorem xI {α : Type} {P : List α → Prop} (h0 : P []) (h1 : ∀ l x, P l → P (l ++ [x])) (l : List α) : P l := by
  rw [← List.reverse_reverse l]
  induction l.reverse with
  | nil => exact h0
  | cons x l ih => rw [List.reverse_cons]; exact h1 _ _ ih
def xy (v : List Int) (o : Int) : Int := if o < 0 ∨ (v.length : Int) ≤ o then 0 else max (v.getD o.toNat 0) 0
def Zf (a b : Ev) : Bool := decide (a.seq ≤ xy b.deps a.origin)
def xk (a b : Ev) : Bool := !decide (a.origin = b.origin ∧ a.seq = b.seq) && !Zf a b && !Zf b a
def ZD (k oA aA oB aB : Int) : Bool :=
  if k = 2 then decide (oA = 2) && decide (oB = 2) && !decide (oA = oB ∧ aA = aB)
  else if k = 4 then decide (oA = 5) && decide (oB = 5) && !decide (oA = oB ∧ aA = aB)
  else if k = 3 then (decide (oA = 3 ∧ aA = aB) && decide (oB = 4 ∧ aB = aA)) || (decide (oA = 4 ∧ aA = aB) && decide (oB = 3 ∧ aB = aA))
  else false
def yA (f : Fld) (x e : Ev) : Bool := (decide (f.policy = 2) || (decide (f.policy = 3) && decide (e.arg < x.arg))) && ZD f.kind x.op x.arg e.op e.arg && xk x e

def onL (k : Int × Int) (x : Ent) : Bool := !x.void && decide (x.ev.typ = k.1 ∧ x.ev.agg = k.2)
def on3 (k : Int × Int × Int) (x : Ent) : Bool := !x.void && decide (x.ev.typ = k.1 ∧ x.ev.agg = k.2.1 ∧ x.ev.field = k.2.2)
def xB (d : Dcl) (ty : Int) : Typ := d.types.getD ty.toNat default
def WW (t : Typ) : List Cel := List.replicate t.fields.length (⟨0, []⟩ : Cel)
def zT (d : Dcl) (k : Int × Int) (L : List Ent) : List Cel := L.foldl (fun c x => if onL k x then doL (xB d k.1) c x.ev.field x.ev.op x.ev.arg else c) (WW (xB d k.1))
def yd (k : Int × Int) (L : List Ent) : Nat := (L.filter (onL k)).length
def yf (k : Int × Int × Int) (L : List Ent) : List Ev := (L.filter (on3 k)).map (·.ev)
def zJ (d : Dcl) (L : List Ent) (e : Ev) : Bool × Int × Int :=
  if ¬ yE d e.typ e.field e.op e.arg = 0 then (true, 0, 0)
  else match (yf (e.typ, e.agg, e.field) L).find? (fun x => yA ((xB d e.typ).fields.getD e.field.toNat default) x e) with
    | some x => (true, x.origin, x.seq)
    | none => if ¬ yY (xB d e.typ) (zT d (e.typ, e.agg) L) e.field e.op e.arg = 0 then (true, 0, 0) else (false, 0, 0)
def ya (d : Dcl) (L : List Ent) (e : Ev) : Ent := ⟨e, (zJ d L e).1, (zJ d L e).2.1, (zJ d L e).2.2⟩
def zY (d : Dcl) (l : List Ev) : List Ent := l.foldl (fun L e => L ++ [ya d L e]) []
def zh (d : Dcl) (L : List Ent) : Int × Int → Option (Nat × List Cel) := fun k => if yd k L = 0 then none else some (yd k L, zT d k L)
def yt (L : List Ent) : Int × Int × Int → Option (List Ev) := fun k => if (yf k L).isEmpty then none else some (yf k L)
def Inv (d : Dcl) (L : List Ent) : Prop := ∀ ty ag : Int, 0 ≤ ty → ty < d.types.length → Right (xB d ty) (zT d (ty, ag) L)

theorem xe (d : Dcl) (l : List Ev) (e : Ev) : zY d (l ++ [e]) = zY d l ++ [ya d (zY d l) e] := by unfold zY; rw [List.foldl_append]; rfl
theorem yR (d : Dcl) (k : Int × Int) (L : List Ent) (x : Ent) : zT d k (L ++ [x]) = if onL k x then doL (xB d k.1) (zT d k L) x.ev.field x.ev.op x.ev.arg else zT d k L := by unfold zT; rw [List.foldl_append]; rfl
theorem xS (k : Int × Int) (L : List Ent) (x : Ent) : yd k (L ++ [x]) = if onL k x then yd k L + 1 else yd k L := by
  unfold yd
  rw [List.filter_append, List.length_append, List.filter_cons]
  split <;> simp
theorem Xq (k : Int × Int × Int) (L : List Ent) (x : Ent) : yf k (L ++ [x]) = if on3 k x then yf k L ++ [x.ev] else yf k L := by
  unfold yf
  rw [List.filter_append, List.filter_cons]
  split <;> simp
theorem YX (k : Int × Int) (L : List Ent) : yd k L ≤ L.length := List.length_filter_le _ _
theorem Kg {d : Dcl} {k : Int × Int} : ∀ {L : List Ent}, yd k L = 0 → zT d k L = WW (xB d k.1) := by
  intro L
  induction L using xI with
  | h0 => intro _; rfl
  | h1 L x ih =>
    intro h
    rw [xS] at h
    rw [yR]
    split
    · rename_i hx; rw [if_pos hx] at h; omega
    · rename_i hx; rw [if_neg hx] at h; exact ih h
theorem xu {d : Dcl} {L : List Ent} {x : Ent} (h : x.void = true) : zh d (L ++ [x]) = zh d L ∧ yt (L ++ [x]) = yt L := by
  constructor
  · funext k
    have : onL k x = false := by unfold onL; rw [h]; rfl
    unfold zh
    rw [xS, yR, this]
    rfl
  · funext k
    have : on3 k x = false := by unfold on3; rw [h]; rfl
    unfold yt
    rw [Xq, this]
    rfl
theorem Vd {d : Dcl} {L : List Ent} {x : Ent} (h : x.void = false) : zh d (L ++ [x]) = ZW (zh d L) (x.ev.typ, x.ev.agg) (yd (x.ev.typ, x.ev.agg) L + 1, doL (xB d x.ev.typ) (zT d (x.ev.typ, x.ev.agg) L) x.ev.field x.ev.op x.ev.arg) := by
  funext k
  unfold zh ZW
  rw [xS, yR]
  by_cases e : (x.ev.typ, x.ev.agg) = k
  · subst e
    have : onL (x.ev.typ, x.ev.agg) x = true := by unfold onL; rw [h]; simp
    rw [this]
    simp
  · have : onL k x = false := by
      unfold onL
      rw [h]
      have : ¬ (x.ev.typ = k.1 ∧ x.ev.agg = k.2) := fun h9 => e (by obtain ⟨a, b⟩ := k; obtain ⟨rfl, rfl⟩ := h9; rfl)
      simp [this]
    rw [this]
    simp [e]
theorem UD {L : List Ent} {x : Ent} (h : x.void = false) : yt (L ++ [x]) = ZW (yt L) (x.ev.typ, x.ev.agg, x.ev.field) (yf (x.ev.typ, x.ev.agg, x.ev.field) L ++ [x.ev]) := by
  funext k
  unfold yt ZW
  rw [Xq]
  by_cases e : (x.ev.typ, x.ev.agg, x.ev.field) = k
  · subst e
    have : on3 (x.ev.typ, x.ev.agg, x.ev.field) x = true := by unfold on3; rw [h]; simp
    rw [this]
    simp
  · have : on3 k x = false := by
      unfold on3
      rw [h]
      have : ¬ (x.ev.typ = k.1 ∧ x.ev.agg = k.2.1 ∧ x.ev.field = k.2.2) := fun h9 => e (by obtain ⟨a, b, c⟩ := k; obtain ⟨rfl, rfl, rfl⟩ := h9; rfl)
      simp [this]
    rw [this]
    simp [e]
theorem WU (t : Typ) : Right t (WW t) := Uc
theorem Inv.nil (d : Dcl) : Inv d [] := fun ty ag _ _ => WU _
theorem ZI {d : Dcl} {L : List Ent} {e : Ev} (h : (zJ d L e).1 = false) : yE d e.typ e.field e.op e.arg = 0 ∧ yY (xB d e.typ) (zT d (e.typ, e.agg) L) e.field e.op e.arg = 0 := by
  unfold zJ at h
  split at h
  · cases h
  rename_i h1
  split at h
  · cases h
  split at h
  · cases h
  rename_i h2
  exact ⟨Decidable.not_not.1 h1, Decidable.not_not.1 h2⟩
theorem Inv.snoc {d : Dcl} {L : List Ent} {e : Ev} (hd : DclOk d) (h : Inv d L) : Inv d (L ++ [ya d L e]) := by
  intro ty ag h0 h1
  rw [yR]
  split
  · rename_i hx
    unfold onL at hx
    simp only [Bool.and_eq_true, Bool.not_eq_true', decide_eq_true_eq] at hx
    obtain ⟨hv, ht, ha⟩ := hx
    obtain ⟨hf, hm⟩ := ZI (d := d) (L := L) (e := e) hv
    obtain ⟨f1, f2, hft⟩ := ZK hf
    have ht' : e.typ = ty := ht
    have ha' : e.agg = ag := ha
    subst ht' ha'
    exact Qj hft (hd.typ _ (by omega)) (h e.typ e.agg h0 h1) (Ky hm)
  · exact h ty ag h0 h1
theorem Inv.run {d : Dcl} (hd : DclOk d) (l : List Ev) : Inv d (zY d l) := by
  induction l using xI with
  | h0 => exact Inv.nil d
  | h1 l e ih => rw [xe]; exact ih.snoc hd
end Go.Proofs.YtlblilbmpdejgaaDoor
namespace Go.Proofs.YtlblilbmpdejgaaDoor
open Go.RowKit

instance {α : Type} [Rep α] : Rep (Bool × α) where
  k := Rep.k α
  rd w F cs x := Rep.rd w F cs x.2
  bytes := Rep.bytes α
  bpos := Rep.bpos
  kpos := Rep.kpos
  len h := Rep.len h
  one h := Rep.one h
  mono h hF := Rep.mono h hF
def mix {α : Type} [Rep α] (G : Nat → Prop) (W : World) : Src (Bool × α) :=
  ⟨fun cs x => if x.1 then (own (α := α)).el cs x.2 else (shr (α := α) G W).el cs x.2, fun {w f cs x} h => by
    split at h
    · exact (own (α := α)).len h
    · exact (shr (α := α) G W).len h, fun {w f cs x} h => by
    split at h
    · exact (own (α := α)).one h
    · exact (shr (α := α) G W).one h⟩
def xX {α : Type} (k : Nat) (l : List α) : List (Bool × α) := (l.take k).map (Prod.mk true) ++ (l.drop k).map (Prod.mk false)
theorem xx {α : Type} (k : Nat) (l : List α) : (xX k l).length = l.length := by unfold xX; simp; omega
theorem Vm {α : Type} {k i : Nat} {l : List α} (hk : k ≤ i) (hi : i < l.length) : (xX k l)[i]? = some (false, l[i]) := by
  unfold xX
  rw [List.getElem?_append_right (by simp; omega)]
  simp only [List.length_map, List.length_take, List.getElem?_map, List.getElem?_drop]
  rw [show k + (i - min k l.length) = i by omega, List.getElem?_eq_getElem hi]; rfl
theorem UH {α : Type} {k : Nat} {l : List α} (hk : k < l.length) : (xX k l).set k (true, l[k]) = xX (k + 1) l := by
  unfold xX
  rw [List.take_succ_eq_append_getElem hk, List.map_append, List.append_assoc, List.set_append_right _ _ (by simp only [List.length_map, List.length_take]; omega), List.drop_eq_getElem_cons hk]
  simp only [List.length_map, List.length_take, List.map_cons, List.map_nil, List.singleton_append]
  rw [show k - min k l.length = 0 by omega, List.set_cons_zero]
section
variable {α : Type} [Rep α] {G : Nat → Prop} {W w : World} {As : List HP} {T : TypeId} {v : Value} {l : List α}
theorem EP.mapIn {β : Type} {q : List Value → α → Prop} {q' : List Value → β → Prop} (g : α → β) (h : ∀ cs x, q cs x → q' cs (g x)) : ∀ {css : List (List Value)} {l : List α}, EP q css l → EP q' css (l.map g)
  | [], [], _ => trivial
  | _ :: _, _ :: _, hh => ⟨h _ _ hh.1, EP.mapIn g h hh.2⟩
  | [], _ :: _, hh => hh.elim
  | _ :: _, [], hh => hh.elim
theorem EP.mapOut {β : Type} {q : List Value → α → Prop} {q' : List Value → β → Prop} (g : α → β) (h : ∀ cs x, q' cs (g x) → q cs x) : ∀ {css : List (List Value)} {l : List α}, EP q' css (l.map g) → EP q css l
  | [], [], _ => trivial
  | _ :: _, _ :: _, hh => ⟨h _ _ hh.1, EP.mapOut g h hh.2⟩
  | [], _ :: _, hh => hh.elim
  | _ :: _, [], hh => hh.elim
theorem Sep.toMix (h : Sep G W (RowE (shr G W) T v l :: As) w) : Sep G W (RowE (mix (α := α) G W) T v (xX 0 l) :: As) w := by
  refine h.impl (i := 0) rfl (fun f hA => ?_)
  obtain ⟨css, hE, hown, hrow, hsm⟩ := hA
  have e : xX 0 l = l.map (Prod.mk false) := by unfold xX; simp
  rw [e]
  exact ⟨css, EP.mapIn (Prod.mk false) (fun cs x hx => hx) hE, by rw [List.length_map]; exact hown, hrow, by rw [List.length_map]; exact hsm⟩
theorem Sep.ofMix {n : Nat} (h : Sep G W (RowE (mix (α := α) G W) T v (xX n l) :: As) w) (hn : l.length ≤ n) : Sep G W (RowE (own (α := α)) T v l :: As) w := by
  refine h.impl (i := 0) rfl (fun f hA => ?_)
  have e : xX n l = l.map (Prod.mk true) := by unfold xX; rw [List.take_of_length_le hn, List.drop_of_length_le hn]; simp
  rw [e] at hA
  obtain ⟨css, hE, hown, hrow, hsm⟩ := hA
  exact ⟨css, EP.mapOut (Prod.mk true) (fun cs x hx => hx) hE, by rw [List.length_map] at hown; exact hown, hrow, by rw [List.length_map] at hsm; exact hsm⟩
theorem Sep.mixAt {i k j : Nat} (h : Sep G W As w) (hi : As[i]? = some (RowE (mix (α := α) G W) T v (xX k l))) (hk : k ≤ j) (hj : j < l.length) : ∃ cs, CellsAt w (sb v) (so v + j * Rep.k α) cs ∧ Rep.rd W G cs l[j] := by
  obtain ⟨cs, f, h1, h2⟩ := h.rowAt hi (j := j) (by rw [xx]; exact hj)
  have e : (xX k l)[j]'(by rw [xx]; exact hj) = (false, l[j]) := by
    have := Vm hk hj
    rw [List.getElem?_eq_getElem (by rw [xx]; exact hj)] at this
    exact Option.some.inj this
  rw [e] at h2
  exact ⟨cs, h1, h2⟩
end
section
variable {α : Type} [Rep α] {P : Program} {d : Option Tmp} {ty : TypeId} {pos : String} {af : Array Edge} {gd : Option (Nat × Bool)} {σ : Env} {w : World} {K : Value → World → Prop} {G : Nat → Prop} {W : World} {As : List HP} {N : HP} {T : TypeId} {v : Value} {l : List α}
theorem Yy {t : TypeId} {j o : Nat} {x y : Operand} {u : Value} {us : List Value} (h : Sep G W (RowE (mix (α := α) G W) T v (xX j l) :: N :: As) w) (hS : ∀ w, (sizeOf t).run P w = .ok us.length w) (hj : j < l.length)
    (hx : ev σ x = .pointer (some ⟨sb v, so v + j * Rep.k α + o, none⟩)) (hy : ev σ y = u) (hu : u.cells.toList = us) (ho : o + us.length ≤ Rep.k α) (h1 : ∀ u ∈ us, u.oneCell' = true)
    (hq : ∀ w f cs0, Rep.rd W G cs0 l[j] → N.p w f → ((own (α := α)).el (cs0.take o ++ us ++ cs0.drop (o + us.length)) l[j]).p w f)
    (hK : ∀ w', Sep G W (RowE (mix (α := α) G W) T v (xX (j + 1) l) :: As) w' → K undef w') : opV P ⟨d, .store t x y, ty, pos, af, gd⟩ σ w K := by
  have e : (xX j l)[j]'(by rw [xx]; exact hj) = (false, l[j]) := by
    have := Vm (Nat.le_refl j) hj
    rw [List.getElem?_eq_getElem (by rw [xx]; exact hj)] at this
    exact Option.some.inj this
  refine yJ (α := Bool × α) (j := j) (o := o) (u := u) (us := us) (x1 := (true, l[j])) h hS (by rw [xx]; exact hj) hx hy hu ho h1 (fun w f cs0 hel hN => ?_) (fun w' h' => hK w' (by rw [UH hj] at h'; exact h'))
  rw [e] at hel
  exact hq w f cs0 hel hN
end
end Go.Proofs.YtlblilbmpdejgaaDoor
namespace Go.Proofs.YtlblilbmpdejgaaDoor

section
variable {P : Program} {n : Nat} {Q : ZV} {σ : Env} {w : World} {ops : List Oper} {pre : List (List Nat)}

def yN : List Nat → (Nat → Bool) → Nat
  | [], _ => 0
  | s :: r, d => (if d s = true then 1 else 0) + 2 * yN r d
theorem Ve : ∀ (ss : List Nat) (d : Nat → Bool), yN ss d < 2 ^ ss.length
  | [], _ => Nat.one_pos
  | s :: r, d => by
    have := Ve r d
    simp only [yN, List.length_cons, Nat.pow_succ]
    split <;> omega
theorem XW : ∀ (ss : List Nat) (d : Nat → Bool) (p s : Nat), ss[p]? = some s → (yN ss d).testBit p = d s
  | [], _, _, _, h => by simp at h
  | x :: r, d, 0, s, h => by
    simp only [List.getElem?_cons_zero, Option.some.injEq] at h
    subst h
    rw [Nat.testBit_zero, yN]
    cases h : d x <;> simp <;> omega
  | x :: r, d, p + 1, s, h => by
    have := XW r d p s (by simpa using h)
    rw [Nat.testBit_succ, yN, show ((if d x = true then 1 else 0) + 2 * yN r d) / 2 = yN r d by split <;> omega]
    exact this
theorem Wk {ss : List Nat} {d : Nat → Bool} {i : Nat} (h : i ∉ ss) : yN ss (fun j => d j || j == i) = yN ss d := by
  induction ss with
  | nil => rfl
  | cons s r ih =>
    have hs : ¬ s = i := fun e => h (e ▸ List.mem_cons_self)
    simp only [yN]
    rw [ih (fun hm => h (List.mem_cons_of_mem _ hm))]
    simp [hs]
theorem UR {ss : List Nat} {d : Nat → Bool} {i : Nat} (hnd : ss.Nodup) (h : i ∈ ss) (hd : d i = false) : yN ss (fun j => d j || j == i) = yN ss d + 2 ^ ss.idxOf i := by
  induction ss with
  | nil => cases h
  | cons s r ih =>
    obtain ⟨h1, h2⟩ := List.nodup_cons.1 hnd
    by_cases e : s = i
    · subst e
      simp only [yN, List.idxOf_cons_self]
      rw [Wk h1]
      simp [hd]
      omega
    · have hm : i ∈ r := by
        rcases List.mem_cons.1 h with e2 | hm
        · exact absurd e2.symm e
        · exact hm
      simp only [yN]
      rw [ih h2 hm, show (s :: r).idxOf i = r.idxOf i + 1 by rw [List.idxOf_cons, show (s == i) = false from beq_eq_false_iff_ne.2 e]; rfl, Nat.pow_succ]
      simp [e]
      omega
theorem Wj : ∀ {ss : List Nat} {d : Nat → Bool}, (∀ s ∈ ss, d s = true) → yN ss d = 2 ^ ss.length - 1
  | [], _, _ => rfl
  | s :: r, d, h => by
    have := Wj (ss := r) (d := d) (fun q hq => h q (List.mem_cons_of_mem _ hq))
    have h2 : 0 < 2 ^ r.length := Nat.two_pow_pos _
    simp only [yN, List.length_cons, Nat.pow_succ, h s List.mem_cons_self, if_true, this]
    omega
theorem Xc : ∀ {ss : List Nat} {d : Nat → Bool}, (∀ s ∈ ss, d s = false) → yN ss d = 0
  | [], _, _ => rfl
  | s :: r, d, h => by
    have := Xc (ss := r) (d := d) (fun q hq => h q (List.mem_cons_of_mem _ hq))
    simp [yN, h s List.mem_cons_self, this]
def QH (pre : List (List Nat)) (ss : List Nat) (m i : Nat) : Bool := (List.range ss.length).all fun p => match ss.getD p 0 with
  | s => (!(pre.getD i []).contains s || m.testBit p) && (!(Nat.beq s i || (pre.getD s []).contains i) || !m.testBit p) && (!m.testBit p || (List.range ss.length).all fun r => !(pre.getD s []).contains (ss.getD r 0) || m.testBit r)
def maskOk (pre : List (List Nat)) (ss : List Nat) (sees : List (List Nat)) : Bool := (List.range sees.length).all fun i => (List.range (2 ^ ss.length)).all fun m => !QH pre ss m i || (sees.getD i []).contains m
theorem maskOk.mem {ss : List Nat} {sees : List (List Nat)} (h : maskOk pre ss sees = true) {i : Nat} (hi : i < sees.length) {done : Nat → Bool} (hc : closed pre done) (hd : done i = false) (hp : ∀ j ∈ pre.getD i [], done j = true) : yN ss done ∈ sees.getD i [] := by
  simp only [maskOk, List.all_eq_true, List.mem_range] at h
  have h1 := h i hi (yN ss done) (Ve _ _)
  have hcons : QH pre ss (yN ss done) i = true := by
    simp only [QH, List.all_eq_true, List.mem_range]
    intro p hp'
    have hb : ∀ r, r < ss.length → (yN ss done).testBit r = done (ss.getD r 0) := fun r hr => XW ss done r _ (by rw [List.getD_eq_getElem?_getD, List.getElem?_eq_getElem hr]; rfl)
    simp only [Bool.and_eq_true, Bool.or_eq_true, Bool.not_eq_true', List.all_eq_true, List.mem_range]
    rw [hb p hp']
    refine ⟨⟨?_, ?_⟩, ?_⟩
    · cases hk : (pre.getD i []).contains (ss.getD p 0) with
      | false => exact .inl rfl
      | true => exact .inr (hp _ (List.contains_iff_mem.1 hk))
    · cases hk : (Nat.beq (ss.getD p 0) i || (pre.getD (ss.getD p 0) []).contains i) with
      | false => exact .inl rfl
      | true =>
        right
        rcases Bool.or_eq_true _ _ ▸ hk with h2 | h2
        · rw [Nat.eq_of_beq_eq_true h2]; exact hd
        · cases hds : done (ss.getD p 0) with
          | false => rfl
          | true => have := hc _ hds i (List.contains_iff_mem.1 h2); rw [hd] at this; cases this
    · cases hds : done (ss.getD p 0) with
      | false => exact .inl rfl
      | true =>
        right
        intro r hr
        rw [hb r hr]
        cases hk : (pre.getD (ss.getD p 0) []).contains (ss.getD r 0) with
        | false => exact .inl rfl
        | true => exact .inr (hc _ hds _ (List.contains_iff_mem.1 hk))
  rw [hcons] at h1
  simpa using h1

def Vy (P : Program) (ops : List Oper) (pre : List (List Nat)) (ss : List Nat) (sees : List (List Nat)) (W : Nat → (Nat → Value) → World → Prop) (A : Nat → (Nat → Value) → Prop) (σ : Env) : Nat → List Oper → Prop
  | _, [] => True
  | i, o :: rest => (∀ k vals w, k ∈ sees.getD i [] → W k vals w → (∀ j, j ∈ pre.getD i [] → A j vals) →
      if Region.wanted o (yl ops.toArray (YN ops (pre.getD i []) σ vals)) then opV P o (YN ops (pre.getD i []) σ vals) w (fun v w' => ∀ vals', vals' i = v → (∀ j, j ≠ i → vals' j = vals j) → (if ss.contains i then W (k + 2 ^ ss.idxOf i) vals' w' else w' = w) ∧ A i vals')
      else ∀ vals', vals' i = undef → (∀ j, j ≠ i → vals' j = vals j) → (if ss.contains i then W (k + 2 ^ ss.idxOf i) vals' w else True) ∧ A i vals') ∧
    Vy P ops pre ss sees W A σ (i + 1) rest

theorem QG {ss : List Nat} {sees : List (List Nat)} {W : Nat → (Nat → Value) → World → Prop} {A : Nat → (Nat → Value) → Prop} {i0 : Nat} : ∀ {l : List Oper}, Vy P ops pre ss sees W A σ i0 l → ∀ i o, l[i]? = some o → ∀ k vals w, k ∈ sees.getD (i0 + i) [] → W k vals w → (∀ j, j ∈ pre.getD (i0 + i) [] → A j vals) →
      if Region.wanted o (yl ops.toArray (YN ops (pre.getD (i0 + i) []) σ vals)) then opV P o (YN ops (pre.getD (i0 + i) []) σ vals) w (fun v w' => ∀ vals', vals' (i0 + i) = v → (∀ j, j ≠ i0 + i → vals' j = vals j) → (if ss.contains (i0 + i) then W (k + 2 ^ ss.idxOf (i0 + i)) vals' w' else w' = w) ∧ A (i0 + i) vals')
      else ∀ vals', vals' (i0 + i) = undef → (∀ j, j ≠ i0 + i → vals' j = vals j) → (if ss.contains (i0 + i) then W (k + 2 ^ ss.idxOf (i0 + i)) vals' w else True) ∧ A (i0 + i) vals' := by
  intro l
  induction l generalizing i0 with
  | nil => intro _ i o h; simp at h
  | cons x l ih =>
    intro h i o ho
    obtain ⟨h1, h2⟩ := h
    cases i with
    | zero => simp only [List.getElem?_cons_zero, Option.some.injEq] at ho; subst ho; exact h1
    | succ i =>
      have := ih h2 i o (by simpa using ho)
      rw [show i0 + 1 + i = i0 + (i + 1) by omega] at this
      exact this

theorem KZ {ss : List Nat} {sees : List (List Nat)} {W : Nat → (Nat → Value) → World → Prop} {A : Nat → (Nat → Value) → Prop} (hf : Fit ops pre ops.length) (hd : xz n ops = true) (hkl : sees.length = ops.length) (hk : maskOk pre ss sees = true) (hsl : ∀ s ∈ ss, s < ops.length) (hnd : ss.Nodup)
    (hloc : ∀ k vals vals' w, (∀ s ∈ ss, vals' s = vals s) → W k vals w → W k vals' w)
    (hlocA : ∀ i vals vals', (∀ j, j = i ∨ j ∈ pre.getD i [] → vals' j = vals j) → A i vals → A i vals') (hob : Vy P ops pre ss sees W A σ 0 ops)
    (hfin : ∀ vals w', W (2 ^ ss.length - 1) vals w' → (∀ j, j < ops.length → A j vals) → Q .normal (behind ops vals σ ops.length) w') :
    ∀ (fuel : Nat) (listed : Array Bool) (a : Act) (vals : Nat → Value) (w : World), listed.size = ops.length → closed pre (dn listed) → (∀ j, dn listed j = true → j < ops.length) →
    ops.length ≤ cnt (dn listed) ops.length + fuel → Sim n (mixed ops (dn listed) vals σ) a → W (yN ss (dn listed)) vals w → (∀ j, dn listed j = true → A j vals) →
    wpAny P .any ops.toArray (fun e a' w' => ∃ σ'', Sim n σ'' a' ∧ Q e σ'' w') fuel listed a w := by
  have hend : ∀ (listed : Array Bool) (a : Act) (vals : Nat → Value) (w : World), (∀ j, j < ops.length → dn listed j = true) → (∀ j, dn listed j = true → j < ops.length) → Sim n (mixed ops (dn listed) vals σ) a → W (yN ss (dn listed)) vals w → (∀ j, dn listed j = true → A j vals) →
      ∃ σ'', Sim n σ'' a ∧ Q .normal σ'' w := by
    intro listed a vals w hall hlt hsim hW hA
    have hdn : dn listed = fun j => decide (j < ops.length) := by
      funext j
      rw [Bool.eq_iff_iff, decide_eq_true_eq]
      exact ⟨hlt j, hall j⟩
    have hst : yN ss (dn listed) = 2 ^ ss.length - 1 := Wj fun s hs => hall s (hsl s hs)
    rw [hdn, ← Zs hf ops.length (Nat.le_refl _)] at hsim
    exact ⟨_, hsim, hfin vals w (hst ▸ hW) fun j hj => hA j (hall j hj)⟩
  intro fuel
  induction fuel with
  | zero =>
    intro listed a vals w hs hc hlt hfu hsim hW hA
    have hall := Xd (done := dn listed) (m := ops.length) (by omega)
    refine ⟨?_, hend listed a vals w hall hlt hsim hW hA⟩
    cases hr : Region.ready .any ops.toArray listed with
    | nil => rfl
    | cons i r =>
      have hi : i ∈ Region.ready .any ops.toArray listed := by rw [hr]; exact List.mem_cons_self
      obtain ⟨h1, o, ho, _⟩ := (ZN hs).1 hi
      have := hall i (List.getElem?_eq_some_iff.1 ho).1
      rw [h1] at this; cases this
  | succ fuel ih =>
    intro listed a vals w hs hc hlt hfu hsim hW hA
    refine ⟨fun hr => hend listed a vals w (Wf hf hs hr) hlt hsim hW hA, fun i hi => ?_⟩
    obtain ⟨o, ho, hni, hpre⟩ := Wg hf hs hc hi
    have hilen := (List.getElem?_eq_some_iff.1 ho).1
    have hdst : ∀ d, o.dst = some d → d < n := by
      intro d hd'
      simp only [xz, List.all_eq_true] at hd
      have := hd o (List.mem_of_getElem? ho)
      rw [hd'] at this
      simpa [Nat.blt_eq] using this
    have hv := Xg (σ := σ) (vals := vals) hf ho hc hni hpre
    have hbd := maskOk.mem hk (i := i) (by omega) hc hni hpre
    have hO := QG hob i o ho (yN ss (dn listed)) vals w
    simp only [Nat.zero_add] at hO
    have hO' := hO hbd hW (fun j hj => hA j (hpre j hj))
    have hset := QI hs ho
    have hnext : ∀ v a' w', (∀ vals', vals' i = v → (∀ j, j ≠ i → vals' j = vals j) → (if ss.contains i then W (yN ss (dn listed) + 2 ^ ss.idxOf i) vals' w' else W (yN ss (dn listed)) vals w') ∧ A i vals') → Sim n (ZY (mixed ops (dn listed) vals σ) o.dst v) a' →
        wpAny P .any ops.toArray (fun e a' w' => ∃ σ'', Sim n σ'' a' ∧ Q e σ'' w') fuel (listed.setIfInBounds i true) a' w' := by
      intro v a' w' hn hs'
      rw [Xu hf ho hni v] at hs'
      obtain ⟨hWn, hAn⟩ := hn (fun j => if j = i then v else vals j) (if_pos rfl) (fun j hj => if_neg hj)
      refine ih _ a' (fun j => if j = i then v else vals j) w' (by simpa using hs) ?_ ?_ ?_ ?_ ?_ ?_
      · intro j hj j' hj'
        rw [hset] at hj ⊢
        simp only [Bool.or_eq_true, beq_iff_eq] at hj ⊢
        rcases hj with hj | rfl
        · exact .inl (hc j hj j' hj')
        · exact .inl (hpre j' hj')
      · intro j hj
        rw [hset] at hj
        simp only [Bool.or_eq_true, beq_iff_eq] at hj
        rcases hj with hj | rfl
        · exact hlt j hj
        · exact hilen
      · rw [hset, Wn hni, if_pos hilen]; omega
      · rw [hset]; exact hs'
      · rw [hset]
        by_cases hm : i ∈ ss
        · rw [if_pos (List.contains_iff_mem.2 hm)] at hWn
          rw [UR hnd hm hni]
          exact hWn
        · rw [if_neg (fun h => hm (List.contains_iff_mem.1 h))] at hWn
          rw [Wk hm]
          exact hloc _ _ _ _ (fun s hs => if_neg (fun e : s = i => hm (e ▸ hs))) hWn
      · intro j hj
        rw [hset] at hj
        simp only [Bool.or_eq_true, beq_iff_eq] at hj
        by_cases hji : j = i
        · subst hji; exact hAn
        · rcases hj with hj | hj
          · refine hlocA j vals _ (fun q hq => if_neg (fun e : q = i => ?_)) (hA j hj)
            subst e
            rcases hq with hq | hq
            · exact hji hq.symm
            · have := hc j hj q hq; rw [hni] at this; cases this
          · exact (hji hj).elim
    unfold wpOp
    simp only [List.getElem?_toArray, ho]
    rw [hsim.yielded, Yq (σ := YN ops (pre.getD i []) σ vals) hv]
    split
    · rename_i hw
      rw [if_pos hw] at hO'
      refine .inl (VC hsim (K := fun σ'' w' => ∃ v, (∀ vals', vals' i = v → (∀ j, j ≠ i → vals' j = vals j) → (if ss.contains i then W (yN ss (dn listed) + 2 ^ ss.idxOf i) vals' w' else W (yN ss (dn listed)) vals w') ∧ A i vals') ∧ σ'' = ZY (mixed ops (dn listed) vals σ) o.dst v) ?_ hdst ?_)
      · rintro a' σ'' w' hs' ⟨v, h1, rfl⟩
        exact hnext v a' w' h1 hs'
      · unfold opP
        rw [Wh (hf.sel i o ho) hv]
        refine Vj (fun v w' h => ⟨v, fun vals' h1 h2 => ?_, rfl⟩) hO'
        obtain ⟨h3, h4⟩ := h vals' h1 h2
        refine ⟨?_, h4⟩
        split
        · rename_i hm; rw [if_pos hm] at h3; exact h3
        · rename_i hm; rw [if_neg hm] at h3; subst h3; exact hW
    · rename_i hw
      rw [if_neg hw] at hO'
      refine hnext undef _ w (fun vals' h1 h2 => ?_) (hsim.put hdst undef)
      obtain ⟨h3, h4⟩ := hO' vals' h1 h2
      refine ⟨?_, h4⟩
      split
      · rename_i hm; rw [if_pos hm] at h3; exact h3
      · exact hW

theorem Qn {id : Nat} (W : Nat → (Nat → Value) → World → Prop) (A : Nat → (Nat → Value) → Prop) (pre : List (List Nat)) (ss : List Nat) (sees : List (List Nat)) (hm : P.follows .mixedOrders = true) (hd : xz n ops = true) (hok : drawOk ops pre ops.length = true)
    (hkl : sees.length = ops.length) (hk : maskOk pre ss sees = true) (hsl : (ss.all fun s => Nat.blt s ops.length) = true) (hnd : ss.Nodup)
    (hW : ∀ w0 : World, w0.heap = w.heap → w0.os = w.os → w0.tape = w.tape → w0.output = w.output ∧ w.drawn ≤ w0.drawn → ∀ vals, W 0 vals w0)
    (hloc : ∀ k vals vals' w, (∀ s ∈ ss, vals' s = vals s) → W k vals w → W k vals' w)
    (hlocA : ∀ i vals vals', (∀ j, j = i ∨ j ∈ pre.getD i [] → vals' j = vals j) → A i vals → A i vals')
    (hob : Vy P ops pre ss sees W A σ 0 ops)
    (hfin : ∀ vals w', W (2 ^ ss.length - 1) vals w' → (∀ j, j < ops.length → A j vals) → WPs P ops.toArray (Q .normal) [] (behind ops vals σ ops.length) w') :
    WP P n (.region id ops.toArray true) Q σ w := by
  intro a hs
  have hf := drawOk.fit hok
  have hz : dn (Array.replicate ops.toArray.size false) = fun _ => false := by
    funext i
    simp [dn, Array.getElem?_replicate]
    split <;> rfl
  refine wp_region_any hm ?_
  refine KZ (ss := ss) (vals := fun _ => undef) hf hd hkl hk (fun s hs => by
    have := (List.all_eq_true.1 hsl) s hs; simpa [Nat.blt_eq] using this) hnd hloc hlocA hob hfin _ _ a _ (by simp) ?_ ?_ ?_ ?_ ?_ ?_
  · intro i hi; rw [hz] at hi; cases hi
  · intro i hi; rw [hz] at hi; cases hi
  · simp
  · have : mixed ops (dn (Array.replicate ops.toArray.size false)) (fun _ => undef) σ = σ := by
      funext t
      exact xE fun j _ => by rw [hz]
    rw [this]; exact hs
  · have : yN ss (dn (Array.replicate ops.toArray.size false)) = 0 := Xc fun s _ => by rw [hz]
    rw [this]; exact hW { w with drawn := w.drawn + 1 } rfl rfl rfl ⟨rfl, Nat.le_succ _⟩ _
  · intro i hi; rw [hz] at hi; cases hi
end
theorem WD6 {P : Program} {n : Nat} {Q : ZV} {σ : Env} {w W0 : World} {G0 : Nat → Prop} {As : List HP} {ops : List Oper} {id : Nat} (W : Nat → (Nat → Value) → World → Prop) (A : Nat → (Nat → Value) → Prop) (pre : List (List Nat)) (ss : List Nat) (sees : List (List Nat)) (hS : Sep G0 W0 As w)
    (hob : Vy P ops pre ss sees W A σ 0 ops)
    (hfin : ∀ vals w', W (2 ^ ss.length - 1) vals w' → (∀ j, j < ops.length → A j vals) → WPs P ops.toArray (Q .normal) [] (behind ops vals σ ops.length) w')
    (hlocA : ∀ i vals vals', (∀ j, j = i ∨ j ∈ pre.getD i [] → vals' j = vals j) → A i vals → A i vals' := by exact yT (by repeat first | exact trivial | refine ⟨dA, ?_⟩ | refine ⟨dT, ?_⟩))
    (hm : P.follows .mixedOrders = true := by kernel_rfl) (hd : xz n ops = true := by kernel_rfl) (hok : drawOk ops pre ops.length = true := by kernel_rfl) (hkl : sees.length = ops.length := by rfl) (hk : maskOk pre ss sees = true := by kernel_rfl) (hsl : (ss.all fun s => Nat.blt s ops.length) = true := by kernel_rfl) (hnd : ss.Nodup := by decide)
    (h0 : ∀ vals w, Sep G0 W0 As w → W 0 vals w := by exact fun _ _ h => h)
    (hloc : ∀ k vals vals' w, (∀ s ∈ ss, vals' s = vals s) → W k vals w → W k vals' w := by
      intro k vals u w H h
      try simp only [List.mem_cons, List.not_mem_nil, forall_eq_or_imp, or_false, forall_eq] at H
      rcases k with _ | _ | _ | _ | _ | _ | _ | _ | _ | _ | _ | _ | _ | _ | _ | _ | _ | _
      all_goals first | exact h | exact trivial | (simp only [WF, List.getElem?_cons_zero, List.getElem?_cons_succ, H] at h ⊢; exact h)) :
    WP P n (.region id ops.toArray true) Q σ w := Qn W A pre ss sees hm hd hok hkl hk hsl hnd (fun _ h1 h2 h3 h4 _ => h0 _ _ (hS.same h1 h2 h3 h4)) hloc hlocA hob hfin
end Go.Proofs.YtlblilbmpdejgaaDoor
set_option maxRecDepth 8000
set_option maxHeartbeats 4000000
namespace Go.Proofs.YtlblilbmpdejgaaDoor
open Go.Proofs Go.RowKit

theorem Vf (a b c d : Int) : (decide (a = c ∧ b = d)) = (a == c && b == d) := by
  by_cases h1 : a = c <;> by_cases h2 : b = d <;> simp [h1, h2]
theorem ck3 (w : World) (e : Bool) (n : Nat) (a : Int) : (Instr.checkKey e (n + 1) 3 (.int .i64 a)).run Tryd.prog w = .ok () w := MapKept.run_checkKey lY (show MapKept.IsKey (.int .i64) (.int .i64 a) from rfl) e n
def xL (k : Int × Int) : Value := .agg #[.int .i64 k.1, .int .i64 k.2]
def xG (k : Int × Int × Int) : Value := .agg #[.int .i64 k.1, .int .i64 k.2.1, .int .i64 k.2.2]
theorem K2 : KLaw Tryd.prog 120 xL where
  inj := by
    rintro ⟨a, b⟩ ⟨c, d⟩ h
    simp only [xL, Value.agg.injEq, Array.mk.injEq, List.cons.injEq, Value.int.injEq, true_and, and_true] at h
    rw [h.1, h.2]
  desc := ⟨_, Tryd.underlying120, fun _ _ => rfl⟩
  check := by
    intro w e k
    show (Instr.checkKey e 10000 120 (.agg #[.int .i64 k.1, .int .i64 k.2])).run Tryd.prog w = .ok () w
    rw [show (10000 : Nat) = 9998 + 1 + 1 from rfl, Instr.checkKey]
    simp [go_sem, ck3]
  eql := by
    rintro w ⟨a, b⟩ ⟨c, d⟩
    rw [show decide ((a, b) = (c, d)) = (a == c && b == d) by rw [← Vf]; simp]
    unfold Op.equal Op.maxDepth xL
    simp [go_sem]
    by_cases h1 : a = c <;> by_cases h2 : b = d <;> simp [h1, h2]
  stays := by intro k; simp [Instr.sameBits, xL]
theorem K3 : KLaw Tryd.prog 133 xG where
  inj := by
    rintro ⟨a, b, c⟩ ⟨d, e, f⟩ h
    simp only [xG, Value.agg.injEq, Array.mk.injEq, List.cons.injEq, Value.int.injEq, true_and, and_true] at h
    rw [h.1, h.2.1, h.2.2]
  desc := ⟨_, Tryd.underlying133, fun _ _ => rfl⟩
  check := by
    intro w e k
    show (Instr.checkKey e 10000 133 (.agg #[.int .i64 k.1, .int .i64 k.2.1, .int .i64 k.2.2])).run Tryd.prog w = .ok () w
    rw [show (10000 : Nat) = 9997 + 1 + 1 + 1 from rfl, Instr.checkKey]
    simp [go_sem, ck3]
    rw [Instr.checkKey]
    simp [go_sem, ck3]
  eql := by
    rintro w ⟨a, b, c⟩ ⟨d, e, f⟩
    rw [show decide ((a, b, c) = (d, e, f)) = (a == d && b == e && c == f) by by_cases h1 : a = d <;> by_cases h2 : b = e <;> by_cases h3 : c = f <;> simp [h1, h2, h3]]
    unfold Op.equal Op.maxDepth xG
    simp [go_sem]
    by_cases h1 : a = d <;> by_cases h2 : b = e <;> by_cases h3 : c = f <;> simp [h1, h2, h3]
  stays := by intro k; simp [Instr.sameBits, xG]

def E1 (v : Value) (x : Nat × List Cel) : HP := ⟨fun w f => ∃ vc, v = .agg #[.int .i64 ((x.1 : Nat) : Int), vc] ∧ (RowE (α := Cel) own 42 vc x.2).p w f, fun h hf => by
  obtain ⟨vc, h1, h2⟩ := h
  exact ⟨vc, h1, HP.loc _ h2 hf⟩⟩
def E2 (v : Value) (l : List Ev) : HP := RowE (α := Ev) own 59 v l
def Vr : Value := .agg #[.int .i64 0, .slice none 0 0]
def ViewO (b : Nat) (d : Dcl) (L M : List Ent) : HP := Ex1 fun vt => Ex1 fun vp => Ex1 fun ve => Ex1 fun m1 => Ex1 fun m2 => Star [Blk b #[vt, vp, ve, .map (some m1), .map (some m2)] 111, RowE (α := Typ) own 33 vt d.types, RowE (α := Prj) own 107 vp d.projs, RowE (α := Ent) own 62 ve L, yO xL E1 m1 (zh d M), yO xG E2 m2 (yt M)]
section
variable {G : Nat → Prop} {W w : World} {As : List HP} {b : Nat} {d : Dcl} {L M : List Ent}
theorem ViewO.open (h : Sep G W (ViewO b d L M :: As) w) : ∃ vt vp ve m1 m2, Sep G W (Blk b #[vt, vp, ve, .map (some m1), .map (some m2)] 111 :: RowE (α := Typ) own 33 vt d.types :: RowE (α := Prj) own 107 vp d.projs :: RowE (α := Ent) own 62 ve L :: yO xL E1 m1 (zh d M) :: yO xG E2 m2 (yt M) :: As) w := by
  obtain ⟨vt, h⟩ := h.openEx
  obtain ⟨vp, h⟩ := h.openEx
  obtain ⟨ve, h⟩ := h.openEx
  obtain ⟨m1, h⟩ := h.openEx
  obtain ⟨m2, h⟩ := h.openEx
  exact ⟨vt, vp, ve, m1, m2, h.openStar⟩
theorem ViewO.close {vt vp ve : Value} {m1 m2 : Nat} (h : Sep G W (Blk b #[vt, vp, ve, .map (some m1), .map (some m2)] 111 :: RowE (α := Typ) own 33 vt d.types :: RowE (α := Prj) own 107 vp d.projs :: RowE (α := Ent) own 62 ve L :: yO xL E1 m1 (zh d M) :: yO xG E2 m2 (yt M) :: As) w) : Sep G W (ViewO b d L M :: As) w := by
  have h := Sep.closeStar (Bs := [Blk b #[vt, vp, ve, .map (some m1), .map (some m2)] 111, RowE (α := Typ) own 33 vt d.types, RowE (α := Prj) own 107 vp d.projs, RowE (α := Ent) own 62 ve L, yO xL E1 m1 (zh d M), yO xG E2 m2 (yt M)]) h
  exact Sep.closeEx (A := fun vt => Ex1 fun vp => Ex1 fun ve => Ex1 fun m1 => Ex1 fun m2 => Star [Blk b #[vt, vp, ve, .map (some m1), .map (some m2)] 111, RowE (α := Typ) own 33 vt d.types, RowE (α := Prj) own 107 vp d.projs, RowE (α := Ent) own 62 ve L, yO xL E1 m1 (zh d M), yO xG E2 m2 (yt M)]) vt (Sep.closeEx (A := fun vp => Ex1 fun ve => Ex1 fun m1 => Ex1 fun m2 => Star [Blk b #[vt, vp, ve, .map (some m1), .map (some m2)] 111, RowE (α := Typ) own 33 vt d.types, RowE (α := Prj) own 107 vp d.projs, RowE (α := Ent) own 62 ve L, yO xL E1 m1 (zh d M), yO xG E2 m2 (yt M)]) vp (Sep.closeEx (A := fun ve => Ex1 fun m1 => Ex1 fun m2 => Star [Blk b #[vt, vp, ve, .map (some m1), .map (some m2)] 111, RowE (α := Typ) own 33 vt d.types, RowE (α := Prj) own 107 vp d.projs, RowE (α := Ent) own 62 ve L, yO xL E1 m1 (zh d M), yO xG E2 m2 (yt M)]) ve (Sep.closeEx (A := fun m1 => Ex1 fun m2 => Star [Blk b #[vt, vp, ve, .map (some m1), .map (some m2)] 111, RowE (α := Typ) own 33 vt d.types, RowE (α := Prj) own 107 vp d.projs, RowE (α := Ent) own 62 ve L, yO xL E1 m1 (zh d M), yO xG E2 m2 (yt M)]) m1 (Sep.closeEx (A := fun m2 => Star [Blk b #[vt, vp, ve, .map (some m1), .map (some m2)] 111, RowE (α := Typ) own 33 vt d.types, RowE (α := Prj) own 107 vp d.projs, RowE (α := Ent) own 62 ve L, yO xL E1 m1 (zh d M), yO xG E2 m2 (yt M)]) m2 h))))
theorem UY {v : Value} {k : Int × Int × Int} (h : Sep G W (Yr E2 v (yt M k) :: As) w) (hv : yt M k = none → v = .slice none 0 0) : Sep G W (RowE (α := Ev) own 59 v (yf k M) :: As) w := by
  refine h.impl (i := 0) rfl (fun f hA => ?_)
  unfold yt at hA hv
  split at hA
  · rename_i he
    rw [if_pos he] at hv
    rw [hv rfl, List.isEmpty_iff.1 he]
    exact RowE.nil _ _ _ _
  · exact hA
theorem XY {v : Value} {k : Int × Int × Int} (h : Sep G W (RowE (α := Ev) own 59 v (yf k M) :: As) w) : Sep G W (Yr E2 v (yt M k) :: As) w := by
  refine h.impl (i := 0) rfl (fun f hA => ?_)
  unfold yt
  split
  · exact trivial
  · exact hA
def stL (d : Dcl) (k : Int × Int) (M : List Ent) : List Cel := if yd k M = 0 then [] else zT d k M
theorem Wb {v : Value} {k : Int × Int} (h : Sep G W (Yr E1 v (zh d M k) :: As) w) (hv : zh d M k = none → v = Vr) : ∃ vc, v = .agg #[.int .i64 ((yd k M : Nat) : Int), vc] ∧ Sep G W (RowE (α := Cel) own 42 vc (stL d k M) :: As) w := by
  unfold zh at h hv
  unfold stL
  by_cases he : yd k M = 0
  · rw [if_pos he] at hv h
    rw [if_pos he]
    refine ⟨.slice none 0 0, by rw [hv rfl, he]; rfl, h.impl (i := 0) rfl (fun f _ => RowE.nil _ _ _ _)⟩
  · rw [if_neg he] at h
    rw [if_neg he]
    obtain ⟨f, ⟨vc, h1, h2⟩, _⟩ := h.get (i := 0) rfl
    refine ⟨vc, h1, h.impl (i := 0) rfl (fun f hA => ?_)⟩
    obtain ⟨vc', h3, h4⟩ := hA
    rw [h1] at h3
    simp only [Value.agg.injEq, Array.mk.injEq, List.cons.injEq, and_true, true_and] at h3
    rw [h3]
    exact h4
theorem VY {vc : Value} {k : Int × Int} (h : Sep G W (RowE (α := Cel) own 42 vc (stL d k M) :: As) w) : Sep G W (Yr E1 (.agg #[.int .i64 ((yd k M : Nat) : Int), vc]) (zh d M k) :: As) w := by
  refine h.impl (i := 0) rfl (fun f hA => ?_)
  unfold zh
  unfold stL at hA
  by_cases he : yd k M = 0
  · rw [if_pos he]; exact trivial
  · rw [if_neg he] at hA ⊢; exact ⟨vc, rfl, hA⟩
theorem UQ {vc : Value} {n : Nat} {c : List Cel} (h : Sep G W (RowE (α := Cel) own 42 vc c :: As) w) : Sep G W (E1 (.agg #[.int .i64 ((n : Nat) : Int), vc]) (n, c) :: As) w := h.impl (i := 0) rfl (fun f hA => ⟨vc, rfl, hA⟩)
end

end Go.Proofs.YtlblilbmpdejgaaDoor
set_option maxRecDepth 8000
set_option maxHeartbeats 4000000
namespace Go.Proofs.YtlblilbmpdejgaaDoor
open Go.Proofs Go.RowKit
theorem yqf {p : Prop} (h : p := by simp [Instr.build, Instr.fill, Ev.cells, go_sem, Mv.cells, Fld.cells, Typ.cells, Prj.cells, Dcl.cells, Cel.cells, AskR.cells, Ask.cells, CelS.cells, Ev.cells, Ent.cells, Sta.cells]) : p := h

theorem KW {G : Nat → Prop} {W w : World} {Rs : List HP} {vv : Value} {v : List Int} (hv : RdS W G vv v) {o : Int} (ho : InR o) (hS0 : Sep G W Rs w) : Ret Tryd.prog 100 [vv, .int .i64 (o)] w (fun r w' => r = (.int .i64 (xy v o) : Value) ∧ (InR (xy v o)) ∧ Sep G W Rs w') := by
 have hvs : _ * 8 ≤ _ := hv.small
 refine zl (args := [vv, Iv o]) Tryd.func100 rfl rfl ?_
 refine za (R0 fun _ => st (aS (Iv 0) (zb (za (za (zw kr (st (mV (Iv o) (st (zD (k := .i64) (a := o) (b := 0) rfl rfl (st (mV (.bool (decide (o < 0))) (stc (V := Iv o) rfl rfl (fun l => ?_) ?_)))))))))))))
 have hl2 := fD l
 exact mV (Iv o) ⟨rfl, rfl⟩
 refine stc (V := vv) rfl rfl (fun m => ?_) ?_
 have hl4 := fD m
 exact mV vv ⟨rfl, rfl⟩
 refine stc (V := Iw v.length) rfl rfl (fun g => ?_) ?_
 have hl6 := fD g
 exact zA (n := v.length) mY (if_pos g) hv.sl ⟨rfl, rfl⟩
 refine stc (V := .bool (decide (((v.length : Nat) : Int) ≤ o))) rfl rfl (fun c => ?_) ?_
 have hl8 := fD c
 exact yV (k := .i64) (a := o) (b := ((v.length : Nat) : Int)) (if_pos c) (if_pos c) ⟨rfl, rfl⟩
 refine st (zx (b := decide (o < 0)) (b' := decide (((v.length : Nat) : Int) ≤ o)) rfl (fun hbp => (if_pos hbp)) (zb ?_))
 cases h : (decide (o < 0)) || (decide (((v.length : Nat) : Int) ≤ o))
 try simp only [zf] at h
 refine zi rfl (zk (za (R0 fun _ => st (mV vv (st (mV (Iv o) ?_))))))
 have hi10 : o.toNat < v.length := bo
 refine st (zq (k := 1) (i := o) mY wR rfl hv.sl rfl ⟨by omega, by omega⟩ ?_)
 have d : o.toNat < v.length := bo
 obtain ⟨e, hxe11⟩ := hv.intD d
 have f := hS0.cells e (hv.foot (ne_of_lt d))
 refine st (lD (Iv ((v.getD o.toNat 0))) lT rfl (f.get (j := 0) rfl) (st (Jt (k := .i64) (a := (v.getD o.toNat 0)) (b := 0) rfl rfl (st (aS (Iv (max (v.getD o.toNat 0) 0)) (zb (zm (zL nY (show _ = (Iv (max (v.getD o.toNat 0) 0) : Value) from rfl) ?_))))))))
 refine ⟨?_, ?_, hS0⟩
 unfold xy; rw [if_neg (by omega)]
 unfold xy; rw [if_neg (by omega)]; omega
 try simp only [zf] at h
 refine zj rfl (za (R0 fun _ => st (aS (Iv 0) (zb (zm (zL nY (show _ = (Iv 0 : Value) from rfl) ?_))))))
 refine ⟨?_, ?_, hS0⟩
 unfold xy; rw [if_pos (by omega)]
 unfold xy; rw [if_pos (by omega)]; omega

theorem WN {G : Nat → Prop} {W w : World} {Rs : List HP} {a : Ev} {da0 : Value} (hda0 : RdS W G da0 a.deps) (oa : a.Ok) {b : Ev} {db0 : Value} (hdb0 : RdS W G db0 b.deps) (ob : b.Ok) (hS0 : Sep G W Rs w) : Ret Tryd.prog 92 [.agg (a.cells da0).toArray, .agg (b.cells db0).toArray] w (fun r w' => r = (.bool ((Zf a b)) : Value) ∧ Sep G W Rs w') := by
 have hda0s : _ * 8 ≤ _ := hda0.small
 have hdb0s : _ * 8 ≤ _ := hdb0.small
 refine zl (args := [.agg (a.cells da0).toArray, .agg (b.cells db0).toArray]) Tryd.func92 rfl rfl ?_
 refine za (R0 fun _ => st (zR (v := .agg (a.cells da0).toArray) rfl ?_))
 intro w3 b2 L
 refine st (zR (v := .agg (b.cells db0).toArray) rfl ?_)
 intro w7 D M
 refine st (aS (.bool false) (zb (za ?_)))
 refine WD4 ((fun TT C => WF [fun vals E => Sep G W (C :: TT) E, fun vals E => (vals 5 = (Iv (xy b.deps a.origin) : Value)) ∧ (InR (xy b.deps a.origin)) ∧ Sep G W (C :: TT) E]) ((Blk b2 (a.cells da0).toArray 59) :: Rs) (Blk D (b.cells db0).toArray 59)) (AF [Vl 0 (Ix D 3), Vl 1 (db0), Vl 2 (Ix b2 0), Vl 3 (Ix b2 0), Vl 4 (Iv (a.origin)), fun _ => True, Vl 6 (Ix b2 0), Vl 7 (Ix b2 1), Vl 8 (Iv (a.seq)), Vl 9 (.bool (decide (a.seq ≤ (xy b.deps a.origin)))), Vl 10 (.bool (decide (a.seq ≤ (xy b.deps a.origin))))]) [[], [0], [], [2], [2, 3], (rg 5), [], [6], [6, 7], (rg 9), (rg 10)] [5] [(0, 0), (0, 0), (0, 0), (0, 0), (0, 0), (0, 0), (0, 1), (0, 1), (0, 1), (1, 1), (1, 1)] ((hS0.new L).new M) ⟨fun _ _ _ _ _ _ _ => obl rfl (xo rfl dR), ob1 0 fun _ _ (j : Sep _ _ _ _) l => obl rfl (lD db0 Tryd.isAgg40 (l 0 dc) (zd (j.b0) rfl) dR), fun _ _ _ _ _ _ _ => obl rfl (yP rfl dR), fun _ _ _ _ _ _ m => obl rfl (Yb (m 2 dc) dR), ob1 0 fun _ _ (n : Sep _ _ _ _) p => obl rfl (lD (Iv (a.origin)) lT (p 3 dc) (zd (n.b1) rfl) dR), ?_, fun _ _ _ _ _ _ _ => obl rfl (yP rfl dR), fun _ _ _ _ _ _ q => obl rfl (YA (q 6 dc) dR), ?_, ?_, fun _ _ _ _ _ _ s => obl rfl (ym (v := .bool (decide (a.seq ≤ (xy b.deps a.origin)))) (s 9 dc) dR), trivial⟩ ?_
 refine ob1 0 fun vals _ (F : Sep _ _ _ _) i => (obl rfl ((zV (f := 100) (vals := [db0, Iv (a.origin)]) (cap := []) rfl (yH ⟨(i 1 dc), (i 4 dc), trivial⟩) Tryd.call100 (KW (v := b.deps) (vv := db0) (o := a.origin) hdb0 oa.origin F) ?_)))
 rintro _ w54 ⟨rfl, c, H⟩
 exact fun vals' N hv' => ⟨(And.intro N (And.intro c H)), trivial⟩
 refine fun d _ _ I J g h => ?_
 have hkk : d = 0 ∨ d = 1 := by have h1 : 0 ≤ d := I; have h2 : d ≤ 1 := J; omega
 rcases hkk with rfl | rfl
 have t : Sep _ _ _ _ := g
 exact obl rfl (lD (Iv (a.seq)) lT (h 7 dc) (zd (t.b1) rfl) dR)
 obtain ⟨e, c, u⟩ := g
 exact obl rfl (lD (Iv (a.seq)) lT (h 7 dc) (zd (u.b1) rfl) dR)
 refine ob1 1 fun _ _ x y => ?_
 obtain ⟨e, c, hS157⟩ := x
 exact obl rfl (yV (k := .i64) (a := xy b.deps a.origin) (b := a.seq) e (y 8 dc) dR)
 intro vals w166 z A
 obtain ⟨e, c, B⟩ := z
 have K := A 10 dc
 refine zZ (kv := [(0, .agg (a.cells da0).toArray), (1, .agg (b.cells db0).toArray), (2, Ix b2 0), (3, Ix D 0), (4, .bool (decide (a.seq ≤ (xy b.deps a.origin))))]) ⟨rfl, rfl, rfl, rfl, (by exact K), trivial⟩ (fun ρw166 => (zb (zm (zL Tryd.results92 (show _ = (.bool (decide (a.seq ≤ (xy b.deps a.origin))) : Value) from rfl) ?_))))
 refine ⟨rfl, (B.s2_)⟩

theorem Wa {x y : Operand} {a0 a1 b0 b1 : Int} : ∀ w, (do eqGuard .eql 57 x y (.agg #[.int .i64 a0, .int .i64 a1]) (.agg #[.int .i64 b0, .int .i64 b1]); binOp .eql 57 (.agg #[.int .i64 a0, .int .i64 a1]) (.agg #[.int .i64 b0, .int .i64 b1]) : Sem Value).run Tryd.prog w = .ok (.bool (decide (a0 = b0 ∧ a1 = b1))) w := by
  intro w
  have h : ∀ w, (Op.equal 57 (.agg #[.int .i64 a0, .int .i64 a1]) (.agg #[.int .i64 b0, .int .i64 b1])).run Tryd.prog w = .ok (decide (a0 = b0 ∧ a1 = b1)) w := by
    intro w
    unfold Op.equal Op.maxDepth; rw [Vf]; simp [go_sem]; (try (by_cases h1 : a0 = b0 <;> by_cases h2 : a1 = b1 <;> simp [h1, h2]))
  simp [eqGuard, binOp, h, go_sem]
theorem WG {x y : Operand} {a0 a1 b0 b1 : Int} : ∀ w, (do eqGuard .neq 57 x y (.agg #[.int .i64 a0, .int .i64 a1]) (.agg #[.int .i64 b0, .int .i64 b1]); binOp .neq 57 (.agg #[.int .i64 a0, .int .i64 a1]) (.agg #[.int .i64 b0, .int .i64 b1]) : Sem Value).run Tryd.prog w = .ok (.bool (!decide (a0 = b0 ∧ a1 = b1))) w := by
  intro w
  have h : ∀ w, (Op.equal 57 (.agg #[.int .i64 a0, .int .i64 a1]) (.agg #[.int .i64 b0, .int .i64 b1])).run Tryd.prog w = .ok (decide (a0 = b0 ∧ a1 = b1)) w := by
    intro w
    unfold Op.equal Op.maxDepth; rw [Vf]; simp [go_sem]; (try (by_cases h1 : a0 = b0 <;> by_cases h2 : a1 = b1 <;> simp [h1, h2]))
  simp [eqGuard, binOp, h, go_sem]
theorem Kr {G : Nat → Prop} {W w : World} {Rs : List HP} {a : Ev} {da0 : Value} (hda0 : RdS W G da0 a.deps) (oa : a.Ok) {b : Ev} {db0 : Value} (hdb0 : RdS W G db0 b.deps) (ob : b.Ok) (hS0 : Sep G W Rs w) : Ret Tryd.prog 69 [.agg (a.cells da0).toArray, .agg (b.cells db0).toArray] w (fun r w' => r = (.bool ((xk a b)) : Value) ∧ Sep G W Rs w') := by
 have hda0s : _ * 8 ≤ _ := hda0.small
 have hdb0s : _ * 8 ≤ _ := hdb0.small
 refine zl (args := [.agg (a.cells da0).toArray, .agg (b.cells db0).toArray]) Tryd.func69 rfl rfl ?_
 refine za (R0 fun _ => st (zR (v := .agg (a.cells da0).toArray) rfl ?_))
 intro w3 b2 q
 refine st (zR (v := .agg (b.cells db0).toArray) rfl ?_)
 intro w7 b6 s
 have f := (hS0.new q).new s
 refine st (aS (.bool false) (zb (za (zw kr (st (yP rfl (st (zg (k := 2) (cs := [Iv (a.origin), Iv (a.seq)]) oY pY rfl rfl (CellsAt.sub (CellsAt.all (f.b1)) 0 (cs2 := [Iv (a.origin), Iv (a.seq)]) rfl) (st (yP rfl (st (zg (k := 2) (cs := [Iv (b.origin), Iv (b.seq)]) oY pY rfl rfl (CellsAt.sub (CellsAt.all (f.b0)) 0 (cs2 := [Iv (b.origin), Iv (b.seq)]) rfl) (st (ZH (e := decide (a.origin = b.origin ∧ a.seq = b.seq)) (xs := #[Iv (a.origin), Iv (a.seq)]) (ys := #[Iv (b.origin), Iv (b.seq)]) WG rfl rfl (st (mV (.bool (!decide (a.origin = b.origin ∧ a.seq = b.seq))) (stc (V := .agg (a.cells da0).toArray) rfl rfl (fun t => ?_) ?_)))))))))))))))))
 have hl10 := zM t
 exact zg (k := 10) rT sT rfl rfl (CellsAt.all (f.b1)) ⟨rfl, rfl⟩
 refine stc (V := .agg (b.cells db0).toArray) rfl rfl (fun j => ?_) ?_
 have hl12 := zM j
 exact zg (k := 10) rT sT rfl rfl (CellsAt.all (f.b0)) ⟨rfl, rfl⟩
 cases c : !decide (a.origin = b.origin ∧ a.seq = b.seq)
 have d := c
 have c := zB c
 refine stx rfl rfl (stx rfl rfl (st (zO (v := .bool false) rfl rfl (st (mV (.bool false) (stx rfl rfl (stx rfl rfl (stx rfl rfl (stx rfl rfl (st (zO (v := .bool false) rfl rfl (st (aS (.bool false) (zb (zm (zL oR (show _ = (.bool false : Value) from rfl) ?_))))))))))))))))
 refine ⟨?_, (f.s2_)⟩
 unfold xk
 first | rfl | simp only [d, Bool.not_true, Bool.not_false, Bool.false_and, Bool.true_and, Bool.and_false]
 have d := c
 have c := zM c
 refine sty rfl rfl (cL qY (WN (a := a) (b := b) hda0 oa hdb0 ob f) ?_)
 rintro _ w15 ⟨rfl, g⟩
 refine sty rfl rfl (yc (a := (Zf a b)) rfl (st (zN (v := .bool (!(Zf a b))) rfl rfl (st (mV (.bool (!(Zf a b))) (stc (V := .agg (b.cells db0).toArray) rfl rfl (fun l => ?_) ?_))))))
 have m := l
 try simp only [zf] at m
 exact zg (k := 10) rT sT rfl rfl (CellsAt.all (g.b0)) ⟨rfl, rfl⟩
 refine stc (V := .agg (a.cells da0).toArray) rfl rfl (fun n => ?_) ?_
 have o := n
 try simp only [zf] at o
 exact zg (k := 10) rT sT rfl rfl (CellsAt.all (g.b1)) ⟨rfl, rfl⟩
 cases h : !(Zf a b)
 have i := h
 try simp only [zf] at h
 refine stx rfl rfl (stx rfl rfl (st (zO (v := .bool false) rfl rfl (st (aS (.bool false) (zb (zm (zL oR (show _ = (.bool false : Value) from rfl) ?_))))))))
 refine ⟨?_, (g.s2_)⟩
 unfold xk
 first | rfl | simp only [d, i, Bool.not_true, Bool.not_false, Bool.false_and, Bool.true_and, Bool.and_false]
 have i := h
 try simp only [zf] at h
 refine sty rfl rfl (cL qY (WN (a := b) (b := a) hdb0 ob hda0 oa g) ?_)
 rintro _ w23 ⟨rfl, p⟩
 refine sty rfl rfl (yc (a := (Zf b a)) rfl (st (zN (v := .bool (!(Zf b a))) rfl rfl (st (aS (.bool (!(Zf b a))) (zb (zm (zL oR (show _ = (.bool (!(Zf b a)) : Value) from rfl) ?_))))))))
 refine ⟨?_, (p.s2_)⟩
 unfold xk
 first | rfl | simp only [d, i, Bool.not_true, Bool.not_false, Bool.false_and, Bool.true_and, Bool.and_false]

theorem WJ {x y : Operand} {a0 a1 b0 b1 : Int} : ∀ w, (do eqGuard .eql 135 x y (.agg #[.int .i64 a0, .int .i64 a1]) (.agg #[.int .i64 b0, .int .i64 b1]); binOp .eql 135 (.agg #[.int .i64 a0, .int .i64 a1]) (.agg #[.int .i64 b0, .int .i64 b1]) : Sem Value).run Tryd.prog w = .ok (.bool (decide (a0 = b0 ∧ a1 = b1))) w := by
  intro w
  have h : ∀ w, (Op.equal 135 (.agg #[.int .i64 a0, .int .i64 a1]) (.agg #[.int .i64 b0, .int .i64 b1])).run Tryd.prog w = .ok (decide (a0 = b0 ∧ a1 = b1)) w := by
    intro w
    unfold Op.equal Op.maxDepth; rw [Vf]; simp [go_sem]; (try (by_cases h1 : a0 = b0 <;> by_cases h2 : a1 = b1 <;> simp [h1, h2]))
  simp [eqGuard, binOp, h, go_sem]
theorem Uv {x y : Operand} {a0 a1 b0 b1 : Int} : ∀ w, (do eqGuard .neq 135 x y (.agg #[.int .i64 a0, .int .i64 a1]) (.agg #[.int .i64 b0, .int .i64 b1]); binOp .neq 135 (.agg #[.int .i64 a0, .int .i64 a1]) (.agg #[.int .i64 b0, .int .i64 b1]) : Sem Value).run Tryd.prog w = .ok (.bool (!decide (a0 = b0 ∧ a1 = b1))) w := by
  intro w
  have h : ∀ w, (Op.equal 135 (.agg #[.int .i64 a0, .int .i64 a1]) (.agg #[.int .i64 b0, .int .i64 b1])).run Tryd.prog w = .ok (decide (a0 = b0 ∧ a1 = b1)) w := by
    intro w
    unfold Op.equal Op.maxDepth; rw [Vf]; simp [go_sem]; (try (by_cases h1 : a0 = b0 <;> by_cases h2 : a1 = b1 <;> simp [h1, h2]))
  simp [eqGuard, binOp, h, go_sem]
theorem UM {G : Nat → Prop} {W w : World} {Rs : List HP} {f : Fld} {df0 : Value} (hdf0 : RdS W G df0 f.moves) (of : f.Ok) {oA : Int} (hoA : InR oA) {aA : Int} (haA : InR aA) {oB : Int} (hoB : InR oB) {aB : Int} (haB : InR aB) (hS0 : Sep G W Rs w) : Ret Tryd.prog 68 [.agg (f.cells df0).toArray, .int .i64 (oA), .int .i64 (aA), .int .i64 (oB), .int .i64 (aB)] w (fun r w' => r = (.bool ((ZD f.kind oA aA oB aB)) : Value) ∧ Sep G W Rs w') := by
 have hdf0s : _ * 32 ≤ _ := hdf0.small
 refine zl (args := [.agg (f.cells df0).toArray, Iv oA, Iv aA, Iv oB, Iv aB]) Tryd.func68 rfl rfl ?_
 refine za (R0 fun _ => st (zR (v := .agg (f.cells df0).toArray) rfl ?_))
 intro w3 b2 ak
 refine st (aS (.bool false) (zb (za (yD (by kernel_rfl) (fun _ => (st (mV (Iv oA) (st (mV (Iv aA) (st (zQ (parts' := [(0, Iv oA), (1, Iv aA)]) (v := .agg #[Iv oA, Iv aA]) rfl yqf (st (mV (Iv oB) (st (mV (Iv aB) (st (zQ (parts' := [(0, Iv oB), (1, Iv aB)]) (v := .agg #[Iv oB, Iv aB]) rfl yqf (st (zr rY ?_)))))))))))))))))))
 intro w7 b6 al
 refine st (zr rY ?_)
 intro w11 E am
 have q := ((hS0.new ak).new al).new am
 refine stn (zp (v := .agg #[Iv oA, Iv aA]) (c' := #[Iv oA, Iv aA]) nT rfl rfl (q.b1) (zW ⟨rfl, rfl, trivial⟩) yqc rfl ?_)
 intro w13 F
 have s := q.pt1 F
 refine stn (zp (v := .agg #[Iv oB, Iv aB]) (c' := #[Iv oB, Iv aB]) nT rfl rfl (s.b0) (zW ⟨rfl, rfl, trivial⟩) yqc rfl ?_)
 intro w16 H
 have c := s.pt0 H
 refine zb (za (za (R0 fun _ => st (yX rfl (st (lD (Iv (f.kind)) lT rfl (zd (c.b2) rfl) (zb (zn (za (R0 fun _ => st (zF (k := .i64) (a := f.kind) (b := 2) rfl rfl (st (aS (.bool (decide (f.kind = 2))) (zb ?_))))))))))))))
 cases g : decide (f.kind = 2)
 have hc19r := g
 have g := fD g
 refine zi rfl (za (R0 fun _ => st (zF (k := .i64) (a := f.kind) (b := 4) rfl rfl (st (aS (.bool (decide (f.kind = 4))) (zb ?_))))))
 cases h : decide (f.kind = 4)
 have hc20r := h
 have h := fD h
 refine zi rfl (za (R0 fun _ => st (zF (k := .i64) (a := f.kind) (b := 3) rfl rfl (st (aS (.bool (decide (f.kind = 3))) (zb ?_))))))
 cases i : decide (f.kind = 3)
 have hc21r := i
 have i := fD i
 refine zi rfl (zk (za (R0 fun _ => st (aS (.bool false) (zb (zm (zL uT (show _ = (.bool false : Value) from rfl) ?_)))))))
 refine ⟨?_, (c.s3_)⟩
 unfold ZD
 (first | rw [if_pos (by omega)] | rw [if_neg (by omega), if_pos (by omega)] | rw [if_neg (by omega), if_neg (by omega), if_pos (by omega)] | rw [if_neg (by omega), if_neg (by omega), if_neg (by omega)]) <;> (first | rfl | simp_all)
 have i := tD i
 refine zj rfl (za (zw (by kernel_rfl) (st (zg (k := 2) oT nT rfl rfl (CellsAt.all (c.b1)) (st (mV (Iv aB) (st (zQ (parts' := [(0, Iv 3), (1, Iv aB)]) (v := .agg #[Iv 3, Iv aB]) rfl yqf (st (xH (e := decide (oA = 3 ∧ aA = aB)) (xs := #[Iv oA, Iv aA]) (ys := #[Iv 3, Iv aB]) WJ rfl rfl (st (mV (.bool (decide (oA = 3 ∧ aA = aB))) (stc (V := .agg #[Iv oB, Iv aB]) rfl rfl (fun I => ?_) ?_)))))))))))))
 have hl24 := tD I
 exact zg (k := 2) oT nT rfl rfl (CellsAt.all (c.b0)) ⟨rfl, rfl⟩
 refine stc (V := Iv aA) rfl rfl (fun J => ?_) ?_
 have hl26 := tD J
 exact mV (Iv aA) ⟨rfl, rfl⟩
 refine stc (V := .agg #[Iv 4, Iv aA]) rfl rfl (fun t => ?_) ?_
 have hl28 := tD t
 exact zQ (parts' := [(0, Iv 4), (1, Iv aA)]) (v := .agg #[Iv 4, Iv aA]) (xF ⟨rfl, rfl, rfl, (if_pos t), trivial⟩) yqf ⟨rfl, rfl⟩
 refine stc (V := .bool (decide (oB = 4 ∧ aB = aA))) rfl rfl (fun l => ?_) ?_
 have hl30 := tD l
 exact xH (e := decide (oB = 4 ∧ aB = aA)) (xs := #[Iv oB, Iv aB]) (ys := #[Iv 4, Iv aA]) WJ (if_pos l) (if_pos l) ⟨rfl, rfl⟩
 refine st (zo (b := decide (oA = 3 ∧ aA = aB)) (b' := decide (oB = 4 ∧ aB = aA)) rfl (fun hbp => (if_pos hbp)) (st (mV (.bool ((decide (oA = 3 ∧ aA = aB)) && (decide (oB = 4 ∧ aB = aA)))) (stc (V := .agg #[Iv oA, Iv aA]) rfl rfl (fun K => ?_) ?_))))
 have L := K
 try simp only [zf] at L
 exact zg (k := 2) oT nT rfl rfl (CellsAt.all (c.b1)) ⟨rfl, rfl⟩
 refine stc (V := Iv aB) rfl rfl (fun M => ?_) ?_
 have N := M
 try simp only [zf] at N
 exact mV (Iv aB) ⟨rfl, rfl⟩
 refine stc (V := .agg #[Iv 4, Iv aB]) rfl rfl (fun u => ?_) ?_
 have O := u
 try simp only [zf] at O
 exact zQ (parts' := [(0, Iv 4), (1, Iv aB)]) (v := .agg #[Iv 4, Iv aB]) (xF ⟨rfl, rfl, rfl, (if_pos u), trivial⟩) yqf ⟨rfl, rfl⟩
 refine stc (V := .bool (decide (oA = 4 ∧ aA = aB))) rfl rfl (fun m => ?_) ?_
 have P := m
 try simp only [zf] at P
 exact xH (e := decide (oA = 4 ∧ aA = aB)) (xs := #[Iv oA, Iv aA]) (ys := #[Iv 4, Iv aB]) WJ (if_pos m) (if_pos m) ⟨rfl, rfl⟩
 refine stc (V := .bool (decide (oA = 4 ∧ aA = aB))) rfl rfl (fun x => ?_) ?_
 have Q := x
 try simp only [zf] at Q
 exact zP (v := .bool (decide (oA = 4 ∧ aA = aB))) (if_pos x) ⟨rfl, rfl⟩
 refine yz (V := .agg #[Iv oB, Iv aB]) rfl rfl (fun y => ?_) ?_
 have R := y.1
 try simp only [zf] at R
 have hl43 := tD y.2
 exact zg (k := 2) oT nT rfl rfl (CellsAt.all (c.b0)) ⟨rfl, rfl⟩
 refine yz (V := Iv aA) rfl rfl (fun z => ?_) ?_
 have S := z.1
 try simp only [zf] at S
 have hl46 := tD z.2
 exact mV (Iv aA) ⟨rfl, rfl⟩
 refine yz (V := .agg #[Iv 3, Iv aA]) rfl rfl (fun j => ?_) ?_
 have T := j.1
 try simp only [zf] at T
 have hl49 := tD j.2
 exact zQ (parts' := [(0, Iv 3), (1, Iv aA)]) (v := .agg #[Iv 3, Iv aA]) (xF ⟨rfl, rfl, rfl, (if_pos ⟨j.1, j.2⟩), trivial⟩) yqf ⟨rfl, rfl⟩
 refine yz (V := .bool (decide (oB = 3 ∧ aB = aA))) rfl rfl (fun d => ?_) ?_
 have U := d.1
 try simp only [zf] at U
 have hl52 := tD d.2
 exact xH (e := decide (oB = 3 ∧ aB = aA)) (xs := #[Iv oB, Iv aB]) (ys := #[Iv 3, Iv aA]) WJ (if_pos ⟨d.1, d.2⟩) (if_pos ⟨d.1, d.2⟩) ⟨rfl, rfl⟩
 refine stc (V := .bool ((decide (oA = 4 ∧ aA = aB)) && (decide (oB = 3 ∧ aB = aA)))) rfl rfl (fun n => ?_) ?_
 have X := n
 try simp only [zf] at X
 exact zo (b := decide (oA = 4 ∧ aA = aB)) (b' := decide (oB = 3 ∧ aB = aA)) (if_pos n) (fun hbp => (if_pos ⟨n, hbp⟩)) ⟨rfl, rfl⟩
 refine st (zx (b := (decide (oA = 3 ∧ aA = aB)) && (decide (oB = 4 ∧ aB = aA))) (b' := (decide (oA = 4 ∧ aA = aB)) && (decide (oB = 3 ∧ aB = aA))) rfl (fun hbp => (if_pos hbp)) (st (aS (.bool (((decide (oA = 3 ∧ aA = aB)) && (decide (oB = 4 ∧ aB = aA))) || ((decide (oA = 4 ∧ aA = aB)) && (decide (oB = 3 ∧ aB = aA))))) (zb (zm (zL uT (show _ = (.bool (((decide (oA = 3 ∧ aA = aB)) && (decide (oB = 4 ∧ aB = aA))) || ((decide (oA = 4 ∧ aA = aB)) && (decide (oB = 3 ∧ aB = aA)))) : Value) from rfl) ?_))))))
 refine ⟨?_, (c.s3_)⟩
 unfold ZD
 (first | rw [if_pos (by omega)] | rw [if_neg (by omega), if_pos (by omega)] | rw [if_neg (by omega), if_neg (by omega), if_pos (by omega)] | rw [if_neg (by omega), if_neg (by omega), if_neg (by omega)]) <;> (first | rfl | simp_all)
 have h := tD h
 refine zj rfl (za (zw kr (st (YY rfl (st (lD (Iv oA) lT rfl (zd (c.b1) rfl) (st (zF (k := .i64) (a := oA) (b := 5) rfl rfl (st (mV (.bool (decide (oA = 5))) (stc (V := Ix E 0) rfl rfl (fun Y => ?_) ?_)))))))))))
 have hl57 := tD Y
 exact YY rfl ⟨rfl, rfl⟩
 refine stc (V := Iv oB) rfl rfl (fun A => ?_) ?_
 have hl59 := tD A
 exact lD (Iv oB) lT (if_pos A) (zd (c.b0) rfl) ⟨rfl, rfl⟩
 refine stc (V := .bool (decide (oB = 5))) rfl rfl (fun B => ?_) ?_
 have hl61 := tD B
 exact zF (k := .i64) (a := oB) (b := 5) (if_pos B) rfl ⟨rfl, rfl⟩
 refine st (zo (b := decide (oA = 5)) (b' := decide (oB = 5)) rfl (fun hbp => (if_pos hbp)) (st (mV (.bool ((decide (oA = 5)) && (decide (oB = 5)))) (stc (V := .agg #[Iv oA, Iv aA]) rfl rfl (fun Z => ?_) ?_))))
 have aa := Z
 try simp only [zf] at aa
 exact zg (k := 2) oT nT rfl rfl (CellsAt.all (c.b1)) ⟨rfl, rfl⟩
 refine stc (V := .agg #[Iv oB, Iv aB]) rfl rfl (fun ab => ?_) ?_
 have ac := ab
 try simp only [zf] at ac
 exact zg (k := 2) oT nT rfl rfl (CellsAt.all (c.b0)) ⟨rfl, rfl⟩
 refine stc (V := .bool (!decide (oA = oB ∧ aA = aB))) rfl rfl (fun o => ?_) ?_
 have ad := o
 try simp only [zf] at ad
 exact ZH (e := decide (oA = oB ∧ aA = aB)) (xs := #[Iv oA, Iv aA]) (ys := #[Iv oB, Iv aB]) Uv (if_pos o) (if_pos o) ⟨rfl, rfl⟩
 refine st (zo (b := (decide (oA = 5)) && (decide (oB = 5))) (b' := !decide (oA = oB ∧ aA = aB)) rfl (fun hbp => (if_pos hbp)) (st (aS (.bool (((decide (oA = 5)) && (decide (oB = 5))) && (!decide (oA = oB ∧ aA = aB)))) (zb (zm (zL uT (show _ = (.bool (((decide (oA = 5)) && (decide (oB = 5))) && (!decide (oA = oB ∧ aA = aB))) : Value) from rfl) ?_))))))
 refine ⟨?_, (c.s3_)⟩
 unfold ZD
 (first | rw [if_pos (by omega)] | rw [if_neg (by omega), if_pos (by omega)] | rw [if_neg (by omega), if_neg (by omega), if_pos (by omega)] | rw [if_neg (by omega), if_neg (by omega), if_neg (by omega)]) <;> (first | rfl | simp_all)
 have g := tD g
 refine zj rfl (za (zw kr (st (YY rfl (st (lD (Iv oA) lT rfl (zd (c.b1) rfl) (st (zF (k := .i64) (a := oA) (b := 2) rfl rfl (st (mV (.bool (decide (oA = 2))) (stc (V := Ix E 0) rfl rfl (fun ae => ?_) ?_)))))))))))
 have hl70 := tD ae
 exact YY rfl ⟨rfl, rfl⟩
 refine stc (V := Iv oB) rfl rfl (fun C => ?_) ?_
 have hl72 := tD C
 exact lD (Iv oB) lT (if_pos C) (zd (c.b0) rfl) ⟨rfl, rfl⟩
 refine stc (V := .bool (decide (oB = 2))) rfl rfl (fun D => ?_) ?_
 have hl74 := tD D
 exact zF (k := .i64) (a := oB) (b := 2) (if_pos D) rfl ⟨rfl, rfl⟩
 refine st (zo (b := decide (oA = 2)) (b' := decide (oB = 2)) rfl (fun hbp => (if_pos hbp)) (st (mV (.bool ((decide (oA = 2)) && (decide (oB = 2)))) (stc (V := .agg #[Iv oA, Iv aA]) rfl rfl (fun af => ?_) ?_))))
 have ag := af
 try simp only [zf] at ag
 exact zg (k := 2) oT nT rfl rfl (CellsAt.all (c.b1)) ⟨rfl, rfl⟩
 refine stc (V := .agg #[Iv oB, Iv aB]) rfl rfl (fun ah => ?_) ?_
 have ai := ah
 try simp only [zf] at ai
 exact zg (k := 2) oT nT rfl rfl (CellsAt.all (c.b0)) ⟨rfl, rfl⟩
 refine stc (V := .bool (!decide (oA = oB ∧ aA = aB))) rfl rfl (fun p => ?_) ?_
 have aj := p
 try simp only [zf] at aj
 exact ZH (e := decide (oA = oB ∧ aA = aB)) (xs := #[Iv oA, Iv aA]) (ys := #[Iv oB, Iv aB]) Uv (if_pos p) (if_pos p) ⟨rfl, rfl⟩
 refine st (zo (b := (decide (oA = 2)) && (decide (oB = 2))) (b' := !decide (oA = oB ∧ aA = aB)) rfl (fun hbp => (if_pos hbp)) (st (aS (.bool (((decide (oA = 2)) && (decide (oB = 2))) && (!decide (oA = oB ∧ aA = aB)))) (zb (zm (zL uT (show _ = (.bool (((decide (oA = 2)) && (decide (oB = 2))) && (!decide (oA = oB ∧ aA = aB))) : Value) from rfl) ?_))))))
 refine ⟨?_, (c.s3_)⟩
 unfold ZD
 (first | rw [if_pos (by omega)] | rw [if_neg (by omega), if_pos (by omega)] | rw [if_neg (by omega), if_neg (by omega), if_pos (by omega)] | rw [if_neg (by omega), if_neg (by omega), if_neg (by omega)]) <;> (first | rfl | simp_all)

theorem Uz {G : Nat → Prop} {W w : World} {Rs : List HP} {f : Fld} {df0 : Value} (hdf0 : RdS W G df0 f.moves) (of : f.Ok) {x : Ev} {dx0 : Value} (hdx0 : RdS W G dx0 x.deps) (ox : x.Ok) {e : Ev} {de0 : Value} (hde0 : RdS W G de0 e.deps) (oe : e.Ok) (hS0 : Sep G W Rs w) : Ret Tryd.prog 41 [.agg (f.cells df0).toArray, .agg (x.cells dx0).toArray, .agg (e.cells de0).toArray] w (fun r w' => r = (.bool ((yA f x e)) : Value) ∧ Sep G W Rs w') := by
 have hdf0s : _ * 32 ≤ _ := hdf0.small
 have hdx0s : _ * 8 ≤ _ := hdx0.small
 have hde0s : _ * 8 ≤ _ := hde0.small
 refine zl (args := [.agg (f.cells df0).toArray, .agg (x.cells dx0).toArray, .agg (e.cells de0).toArray]) Tryd.func41 rfl rfl ?_
 refine za (R0 fun _ => st (zR (v := .agg (f.cells df0).toArray) rfl ?_))
 intro w3 b2 X
 refine st (zR (v := .agg (x.cells dx0).toArray) rfl ?_)
 intro w7 D Y
 refine st (zR (v := .agg (e.cells de0).toArray) rfl ?_)
 intro w11 o Z
 have c := ((hS0.new X).new Y).new Z
 refine st (aS (.bool false) (zb (za (zw kr (st (Ya rfl (st (lD (Iv (f.policy)) lT rfl (zd (c.b2) rfl) (st (zF (k := .i64) (a := f.policy) (b := 2) rfl rfl (st (mV (.bool (decide (f.policy = 2))) (stc (V := Ix b2 1) rfl rfl (fun E => ?_) ?_)))))))))))))
 have hl14 := fD E
 exact Ya rfl ⟨rfl, rfl⟩
 refine stc (V := Iv (f.policy)) rfl rfl (fun p => ?_) ?_
 have hl16 := fD p
 exact lD (Iv (f.policy)) lT (if_pos p) (zd (c.b2) rfl) ⟨rfl, rfl⟩
 refine stc (V := .bool (decide (f.policy = 3))) rfl rfl (fun q => ?_) ?_
 have hl18 := fD q
 exact zF (k := .i64) (a := f.policy) (b := 3) (if_pos q) rfl ⟨rfl, rfl⟩
 refine stc (V := .bool (decide (f.policy = 3))) rfl rfl (fun s => ?_) ?_
 have hl20 := fD s
 exact zP (v := .bool (decide (f.policy = 3))) (if_pos s) ⟨rfl, rfl⟩
 refine yz (V := Ix D 8) rfl rfl (fun t => ?_) ?_
 have hl22 := fD t.1
 have hl23 := tD t.2
 exact xg rfl ⟨rfl, rfl⟩
 refine yz (V := Iv (x.arg)) rfl rfl (fun h => ?_) ?_
 have hl25 := fD h.1
 have hl26 := tD h.2
 exact lD (Iv (x.arg)) lT (if_pos ⟨h.1, h.2⟩) (zd (c.b1) rfl) ⟨rfl, rfl⟩
 refine yz (V := Ix o 8) rfl rfl (fun u => ?_) ?_
 have hl28 := fD u.1
 have hl29 := tD u.2
 exact xg rfl ⟨rfl, rfl⟩
 refine yz (V := Iv (e.arg)) rfl rfl (fun i => ?_) ?_
 have hl31 := fD i.1
 have hl32 := tD i.2
 exact lD (Iv (e.arg)) lT (if_pos ⟨i.1, i.2⟩) (zd (c.b0) rfl) ⟨rfl, rfl⟩
 refine yz (V := .bool (decide (e.arg < x.arg))) rfl rfl (fun d => ?_) ?_
 have hl34 := fD d.1
 have hl35 := tD d.2
 exact yM (k := .i64) (a := x.arg) (b := e.arg) (if_pos ⟨d.1, d.2⟩) (if_pos ⟨d.1, d.2⟩) ⟨rfl, rfl⟩
 refine stc (V := .bool ((decide (f.policy = 3)) && (decide (e.arg < x.arg)))) rfl rfl (fun n => ?_) ?_
 have hl37 := fD n
 exact zo (b := decide (f.policy = 3)) (b' := decide (e.arg < x.arg)) (if_pos n) (fun hbp => (if_pos ⟨n, hbp⟩)) ⟨rfl, rfl⟩
 refine st (zx (b := decide (f.policy = 2)) (b' := (decide (f.policy = 3)) && (decide (e.arg < x.arg))) rfl (fun hbp => (if_pos hbp)) (st (aS (.bool ((decide (f.policy = 2)) || ((decide (f.policy = 3)) && (decide (e.arg < x.arg))))) (zb (za (zw kr (st (mV (.bool ((decide (f.policy = 2)) || ((decide (f.policy = 3)) && (decide (e.arg < x.arg))))) (st (mV (.bool ((decide (f.policy = 2)) || ((decide (f.policy = 3)) && (decide (e.arg < x.arg))))) (stc (V := .agg (f.cells df0).toArray) rfl rfl (fun F => ?_) ?_)))))))))))
 have H := F
 try simp only [zf] at H
 exact zg (k := 4) pT mT rfl rfl (CellsAt.all (c.b2)) ⟨rfl, rfl⟩
 refine stc (V := Ix D 7) rfl rfl (fun I => ?_) ?_
 have J := I
 try simp only [zf] at J
 exact xh rfl ⟨rfl, rfl⟩
 refine stc (V := Iv (x.op)) rfl rfl (fun y => ?_) ?_
 have K := y
 try simp only [zf] at K
 exact lD (Iv (x.op)) lT (if_pos y) (zd (c.b1) rfl) ⟨rfl, rfl⟩
 refine stc (V := Ix D 8) rfl rfl (fun L => ?_) ?_
 have M := L
 try simp only [zf] at M
 exact xg rfl ⟨rfl, rfl⟩
 refine stc (V := Iv (x.arg)) rfl rfl (fun z => ?_) ?_
 have N := z
 try simp only [zf] at N
 exact lD (Iv (x.arg)) lT (if_pos z) (zd (c.b1) rfl) ⟨rfl, rfl⟩
 refine stc (V := Ix o 7) rfl rfl (fun O => ?_) ?_
 have P := O
 try simp only [zf] at P
 exact xh rfl ⟨rfl, rfl⟩
 refine stc (V := Iv (e.op)) rfl rfl (fun A => ?_) ?_
 have Q := A
 try simp only [zf] at Q
 exact lD (Iv (e.op)) lT (if_pos A) (zd (c.b0) rfl) ⟨rfl, rfl⟩
 refine stc (V := Ix o 8) rfl rfl (fun R => ?_) ?_
 have S := R
 try simp only [zf] at S
 exact xg rfl ⟨rfl, rfl⟩
 refine stc (V := Iv (e.arg)) rfl rfl (fun B => ?_) ?_
 have T := B
 try simp only [zf] at T
 exact lD (Iv (e.arg)) lT (if_pos B) (zd (c.b0) rfl) ⟨rfl, rfl⟩
 cases j : (decide (f.policy = 2)) || ((decide (f.policy = 3)) && (decide (e.arg < x.arg)))
 have g := j
 try simp only [zf] at j
 refine stx rfl rfl (st (zO (v := .bool false) rfl rfl (st (mV (.bool false) (stx rfl rfl (stx rfl rfl (stx rfl rfl (st (zO (v := .bool false) rfl rfl (st (aS (.bool false) (zb (zm (zL pR (show _ = (.bool false : Value) from rfl) ?_))))))))))))))
 refine ⟨?_, (c.s3_)⟩
 unfold yA
 first | rfl | simp only [g, Bool.false_and, Bool.true_and, Bool.and_false, Bool.and_true, Bool.true_or, Bool.or_true]
 have g := j
 try simp only [zf] at j
 refine sty rfl rfl (cL Tryd.call68 (UM (f := f) (oA := x.op) (aA := x.arg) (oB := e.op) (aB := e.arg) hdf0 of ox.op ox.arg oe.op oe.arg c) ?_)
 rintro _ w58 ⟨rfl, l⟩
 refine st (zN (v := .bool ((ZD f.kind x.op x.arg e.op e.arg))) rfl rfl (st (mV (.bool ((ZD f.kind x.op x.arg e.op e.arg))) (stc (V := .agg (x.cells dx0).toArray) rfl rfl (fun hb60 => ?_) ?_))))
 exact zg (k := 10) rT sT rfl rfl (CellsAt.all (l.b1)) ⟨rfl, rfl⟩
 refine stc (V := .agg (e.cells de0).toArray) rfl rfl (fun hb62 => ?_) ?_
 exact zg (k := 10) rT sT rfl rfl (CellsAt.all (l.b0)) ⟨rfl, rfl⟩
 cases C : (ZD f.kind x.op x.arg e.op e.arg)
 have m := C
 refine stx rfl rfl (st (zO (v := .bool false) rfl rfl (st (aS (.bool false) (zb (zm (zL pR (show _ = (.bool false : Value) from rfl) ?_)))))))
 refine ⟨?_, (l.s3_)⟩
 unfold yA
 first | rfl | simp only [g, m, Bool.false_and, Bool.true_and, Bool.and_false, Bool.and_true, Bool.true_or, Bool.or_true]
 have m := C
 refine sty rfl rfl (cL Tryd.call69 (Kr (a := x) (b := e) hdx0 ox hde0 oe l) ?_)
 rintro _ w66 ⟨rfl, U⟩
 refine st (zN (v := .bool ((xk x e))) rfl rfl (st (aS (.bool ((xk x e))) (zb (zm (zL pR (show _ = (.bool ((xk x e)) : Value) from rfl) ?_))))))
 refine ⟨?_, (U.s3_)⟩
 unfold yA
 first | rfl | simp only [g, m, Bool.false_and, Bool.true_and, Bool.and_false, Bool.and_true, Bool.true_or, Bool.or_true]

end Go.Proofs.YtlblilbmpdejgaaDoor
