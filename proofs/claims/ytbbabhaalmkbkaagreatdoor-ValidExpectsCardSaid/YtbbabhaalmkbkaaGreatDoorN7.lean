import Derived.Test.YtbbabhaalmkbkaaGreatDoorN6
import Derived.Test.YtbbabhaalmkbkaaGreatDoorN2
import Derived.Test.YtbbabhaalmkbkaaGreatDoorN5
import Derived.RangeFuncLeaves
import Derived.RangeFuncMany
import Derived.OrdersIn
import Derived.TacticsIn
import Derived.Test.YtbbabhaalmkbkaaGreatDoorN1
import Derived.Shelf.SlSortCmp.NoneTotal
import Derived.Test.YtbbabhaalmkbkaaGreatDoorProg
set_option linter.unusedSimpArgs false
set_option linter.unusedVariables false
set_option linter.unusedSectionVars false
set_option linter.deprecated false
set_option maxRecDepth 8000
set_option maxHeartbeats 4000000
open Go.Proofs.Tryz renaming isAgg3 → kT, sizeOf41 → lT, underlying39 → mT, sizeOf3 → nT, isAgg41 → oT, zeroValue41 → pT, isAgg39 → qT, results35 → rT, results36 → sT, isAgg26 → tT, results32 → uT, results79 → vT, call79 → wT, call54 → kR, call99 → lR, results78 → mR, call44 → nR, results74 → oR, isAgg87 → pR, underlying87 → qR, underlying26 → rR, sizeOf26 → sR, zeroValue3 → tR
namespace Go.Proofs.YtbbabhaalmkbkaaGreatDoor
open Go.Proofs Go.RowKit

theorem Vt {G : Nat → Prop} {W w : World} {Rs : List HP} {c : Cmd} (oc : c.Ok) {o : Int} (ho : InR o) {vv : Value} {v : List Int} (hv : RdS W G vv v) {lam : Int} (hlam : InR lam) (hS0 : Sep G W Rs w) : Ret Tryz.prog 32 [.agg (c.cells).toArray, .int .i64 (o), vv, .int .i64 (lam)] w (fun r w' => ∃ (vd : Value), r = (.tuple #[.agg ((evE c o v lam).cells vd).toArray, .int .i64 ((evN o v lam))] : Value) ∧ Sep G W ((RowE (α := Int) own 3 vd ((evE c o v lam).deps)) :: Rs) w') := by
 have hvs : _ * 8 ≤ _ := hv.small
 refine zi (args := [.agg (c.cells).toArray, Iv o, vv, Iv lam]) Tryz.func32 rfl rfl ?_
 refine za (R0 fun _ => st (zH (v := .agg (c.cells).toArray) rfl ?_))
 intro w3 b2 cl
 refine st (zr pT ?_)
 intro w7 b6 cm
 have az := (hS0.new cl).new cm
 refine st (aS (Iv 0) (zd (za (za (zv kr (st (mV (Iv o) (st (zF (k := .i64) (a := o) (b := 0) rfl rfl (st (mV (.bool (decide (o < 0))) (stc (V := Iv o) rfl rfl (fun cn => ?_) ?_))))))))))))
 have hl10 := fD cn
 exact mV (Iv o) ⟨rfl, rfl⟩
 refine stc (V := vv) rfl rfl (fun bS => ?_) ?_
 have hl12 := fD bS
 exact mV vv ⟨rfl, rfl⟩
 refine stc (V := Iw v.length) rfl rfl (fun aA => ?_) ?_
 have hl14 := fD aA
 exact zL (n := v.length) mT (if_pos aA) hv.sl ⟨rfl, rfl⟩
 refine stc (V := .bool (decide (((v.length : Nat) : Int) ≤ o))) rfl rfl (fun af => ?_) ?_
 have hl16 := fD af
 exact xo (k := .i64) (a := o) (b := ((v.length : Nat) : Int)) (if_pos af) (if_pos af) ⟨rfl, rfl⟩
 refine st (zo (b := decide (o < 0)) (b' := decide (((v.length : Nat) : Int) ≤ o)) rfl (fun hbp => (if_pos hbp)) (st (mV (.bool ((decide (o < 0)) || (decide (((v.length : Nat) : Int) ≤ o)))) (stc (V := Iv lam) rfl rfl (fun bT => ?_) ?_))))
 have bU := bT
 try simp only [ze] at bU
 exact mV (Iv lam) ⟨rfl, rfl⟩
 refine stc (V := .bool (decide (lam < 0))) rfl rfl (fun aB => ?_) ?_
 have bV := aB
 try simp only [ze] at bV
 exact zF (k := .i64) (a := lam) (b := 0) (if_pos aB) rfl ⟨rfl, rfl⟩
 refine st (zo (b := (decide (o < 0)) || (decide (((v.length : Nat) : Int) ≤ o))) (b' := decide (lam < 0)) rfl (fun hbp => (if_pos hbp)) (zd ?_))
 cases L : ((decide (o < 0)) || (decide (((v.length : Nat) : Int) ≤ o))) || (decide (lam < 0))
 have q := L
 try simp only [ze] at L
 refine zg rfl (zl (za (R0 fun _ => st (mV vv (st (mV (Iv o) (st (cL Tryz.call53 (WJ (v := v) (vv := vv) (o := o) hv ho az) ?_))))))))
 rintro _ w23 ⟨rfl, hg22, ag⟩
 refine st (aS (Iv (yx v o)) (zd (za (za (zv kr (st (mV (Iv (yx v o)) (st (zN (k := .i64) (a := yx v o) (b := 9223372036854775807) rfl rfl (st (mV (.bool (decide ((yx v o) = 9223372036854775807))) (stc (V := Iv lam) rfl rfl (fun bW => ?_) ?_))))))))))))
 have hl26 := fD bW
 exact mV (Iv lam) ⟨rfl, rfl⟩
 refine stc (V := .bool (decide (lam = 9223372036854775807))) rfl rfl (fun aC => ?_) ?_
 have hl28 := fD aC
 exact zN (k := .i64) (a := lam) (b := 9223372036854775807) (if_pos aC) rfl ⟨rfl, rfl⟩
 refine st (zo (b := decide ((yx v o) = 9223372036854775807)) (b' := decide (lam = 9223372036854775807)) rfl (fun hbp => (if_pos hbp)) (zd ?_))
 cases M : (decide ((yx v o) = 9223372036854775807)) || (decide (lam = 9223372036854775807))
 have N := M
 try simp only [ze] at M
 refine zg rfl (zl (za ?_))
 refine WD6 ((fun TT Q => WF [fun vals O => Sep G W (Q :: TT) O, fun vals O => ∃ (d : Value), (vals 3 = (d : Value)) ∧ Sep G W ((RowE (α := Int) own 3 d (zM v ([] : List Int))) :: Q :: TT) O, fun vals O => ∃ (e : Nat), (vals 17 = (Ix e 0 : Value)) ∧ Sep G W ((Blk e #[Iv 0, Iv 0, Iv 0, (Iz), Iv 0, Iv 0, Iv 0, Iv 0, Iv 0, Iv 0] 41) :: Q :: TT) O, fun vals O => ∃ (d : Value) (e : Nat), (vals 3 = (d : Value)) ∧ (vals 17 = (Ix e 0 : Value)) ∧ Sep G W ((Blk e #[Iv 0, Iv 0, Iv 0, (Iz), Iv 0, Iv 0, Iv 0, Iv 0, Iv 0, Iv 0] 41) :: (RowE (α := Int) own 3 d (zM v ([] : List Int))) :: Q :: TT) O, fun _ _ => True, fun _ _ => True, fun _ _ => True, fun vals O => ∃ (d : Value) (e : Nat), (vals 3 = (d : Value)) ∧ (vals 17 = (Ix e 0 : Value)) ∧ Sep G W ((Blk e ((⟨0, 0, lam + 1, zM v [], c.ctyp, c.cagg, c.cfield, c.cop, c.carg, c.ckey⟩ : Ev).cells d).toArray 41) :: (RowE (α := Int) own 3 d (zM v ([] : List Int))) :: Q :: TT) O]) ((Blk b2 (c.cells).toArray 28) :: Rs) (Blk b6 #[Iv 0, Iv 0, Iv 0, (Iz), Iv 0, Iv 0, Iv 0, Iv 0, Iv 0, Iv 0] 41)) (AF [Vl 0 (Iv lam), Vl 1 (Iv (lam + 1)), Vl 2 (vv), fun _ => True, Vl 4 (Ix b2 0), Vl 5 (Iv (c.ctyp)), Vl 6 (Ix b2 1), Vl 7 (Iv (c.cagg)), Vl 8 (Ix b2 2), Vl 9 (Iv (c.cfield)), Vl 10 (Ix b2 3), Vl 11 (Iv (c.cop)), Vl 12 (Ix b2 4), Vl 13 (Iv (c.carg)), Vl 14 (Ix b2 6), Vl 15 (Iv (c.ckey)), fun vals => ∀ (d : Value), vals 3 = (d : Value) → vals 16 = (.agg ((⟨0, 0, lam + 1, zM v [], c.ctyp, c.cagg, c.cfield, c.cop, c.carg, c.ckey⟩ : Ev).cells d).toArray : Value), fun _ => True, fun _ => True]) [[], [0], [], [2], [], [4], [], [6], [], [8], [], [10], [], [12], [], [14], (rg 16), [], (rg 18)] [3, 17, 18] [(rg 4), (rg 4), [0, 2], [0, 2], (rg 4), (rg 4), (rg 4), (rg 4), (rg 4), (rg 4), (rg 4), (rg 4), (rg 4), (rg 4), (rg 4), (rg 4), [1, 3], [0, 1], [3]] ag ⟨fun _ _ _ _ _ _ => obl rfl (mV (Iv lam) dR), ?_, fun _ _ _ _ _ _ => obl rfl (mV vv dR), ?_, fun _ _ _ _ _ _ => obl rfl (Xu rfl dR), ?_, fun _ _ _ _ _ _ => obl rfl (Wz rfl dR), ?_, fun _ _ _ _ _ _ => obl rfl (VY rfl dR), ?_, fun _ _ _ _ _ _ => obl rfl (Ul rfl dR), ?_, fun _ _ _ _ _ _ => obl rfl (WZ rfl dR), ?_, fun _ _ _ _ _ _ => obl rfl (Ur rfl dR), ?_, ?_, ?_, ?_, trivial⟩ ?_ (hlocA := yW ⟨dA, dA, dA, dT, dA, dA, dA, dA, dA, dA, dA, dA, dA, dA, dA, dA, fun vals l hv h => fun d K => (hv 16 (.inl rfl)).trans (h d ((hv 3 (.inr dc)).symm.trans K)), dT, dT, trivial⟩)
 intro bX vals w180 aD s t
 have R : bX ∈ [0, 1, 2, 3] := aD
 simp only [List.mem_cons, List.not_mem_nil, or_false] at R
 rcases R with rfl | rfl | rfl | rfl
 have hS184 : Sep _ _ _ _ := s
 refine obl rfl ?_
 have aE : InR (lam + 1) := by omega
 exact zV (r := lam + 1) (k := .i64) (a := lam) (b := 1) (t 0 dc) rfl (zJ aE) dR
 obtain ⟨d, i, hS187⟩ := s
 refine obl rfl ?_
 have aF : InR (lam + 1) := by omega
 exact zV (r := lam + 1) (k := .i64) (a := lam) (b := 1) (t 0 dc) rfl (zJ aF) dR
 obtain ⟨e, g, hS190⟩ := s
 refine obl rfl ?_
 have aG : InR (lam + 1) := by omega
 exact zV (r := lam + 1) (k := .i64) (a := lam) (b := 1) (t 0 dc) rfl (zJ aG) dR
 obtain ⟨d, e, i, g, hS193⟩ := s
 refine obl rfl ?_
 have aH : InR (lam + 1) := by omega
 exact zV (r := lam + 1) (k := .i64) (a := lam) (b := 1) (t 0 dc) rfl (zJ aH) dR
 intro bY vals w202 aI ah ai
 have S : bY ∈ [0, 2] := aI
 simp only [List.mem_cons, List.not_mem_nil, or_false] at S
 rcases S with rfl | rfl
 have aJ : Sep _ _ _ _ := ah
 refine obl rfl ((zB (f := 54) (vals := [vv, (Iz)]) (cap := []) rfl (yE ⟨(ai 2 dc), rfl, trivial⟩) kR (UQ (a := v) (va := vv) (b := ([] : List Int)) (vb := (Iz)) hv (RdS.nil _ _) aJ) ?_))
 rintro d w209 ⟨_, rfl, aj⟩
 have aK := aj.r0
 have hr211s : _ * 8 ≤ _ := aK.2
 exact fun l hv m => ⟨(Exists.intro d (And.intro hv aj)), trivial⟩
 obtain ⟨e, g, aL⟩ := ah
 refine obl rfl ((zB (f := 54) (vals := [vv, (Iz)]) (cap := []) rfl (yE ⟨(ai 2 dc), rfl, trivial⟩) kR (UQ (a := v) (va := vv) (b := ([] : List Int)) (vb := (Iz)) hv (RdS.nil _ _) aL) ?_))
 rintro d w215 ⟨_, rfl, ak⟩
 have aM := ak.r0
 have hr217s : _ * 8 ≤ _ := aM.2
 exact fun l hv m => ⟨(Exists.intro d (Exists.intro e (And.intro hv (And.intro ((m 17 dc).trans g) (ak.mv1))))), trivial⟩
 intro bZ vals w225 aN u x
 have T : bZ ∈ [0, 1, 2, 3] := aN
 simp only [List.mem_cons, List.not_mem_nil, or_false] at T
 rcases T with rfl | rfl | rfl | rfl
 have aO : Sep _ _ _ _ := u
 exact obl rfl (lD (Iv (c.ctyp)) kT (x 4 dc) (zb (aO.b1) rfl) dR)
 obtain ⟨d, i, aP⟩ := u
 exact obl rfl (lD (Iv (c.ctyp)) kT (x 4 dc) (zb (aP.b2) rfl) dR)
 obtain ⟨e, g, aQ⟩ := u
 exact obl rfl (lD (Iv (c.ctyp)) kT (x 4 dc) (zb (aQ.b2) rfl) dR)
 obtain ⟨d, e, i, g, aR⟩ := u
 exact obl rfl (lD (Iv (c.ctyp)) kT (x 4 dc) (zb (aR.b3) rfl) dR)
 intro ca vals w243 aT y z
 have U : ca ∈ [0, 1, 2, 3] := aT
 simp only [List.mem_cons, List.not_mem_nil, or_false] at U
 rcases U with rfl | rfl | rfl | rfl
 have aU : Sep _ _ _ _ := y
 exact obl rfl (lD (Iv (c.cagg)) kT (z 6 dc) (zb (aU.b1) rfl) dR)
 obtain ⟨d, i, aV⟩ := y
 exact obl rfl (lD (Iv (c.cagg)) kT (z 6 dc) (zb (aV.b2) rfl) dR)
 obtain ⟨e, g, aW⟩ := y
 exact obl rfl (lD (Iv (c.cagg)) kT (z 6 dc) (zb (aW.b2) rfl) dR)
 obtain ⟨d, e, i, g, aX⟩ := y
 exact obl rfl (lD (Iv (c.cagg)) kT (z 6 dc) (zb (aX.b3) rfl) dR)
 intro cb vals w261 aY A B
 have X : cb ∈ [0, 1, 2, 3] := aY
 simp only [List.mem_cons, List.not_mem_nil, or_false] at X
 rcases X with rfl | rfl | rfl | rfl
 have aZ : Sep _ _ _ _ := A
 exact obl rfl (lD (Iv (c.cfield)) kT (B 8 dc) (zb (aZ.b1) rfl) dR)
 obtain ⟨d, i, ba⟩ := A
 exact obl rfl (lD (Iv (c.cfield)) kT (B 8 dc) (zb (ba.b2) rfl) dR)
 obtain ⟨e, g, bb⟩ := A
 exact obl rfl (lD (Iv (c.cfield)) kT (B 8 dc) (zb (bb.b2) rfl) dR)
 obtain ⟨d, e, i, g, bc⟩ := A
 exact obl rfl (lD (Iv (c.cfield)) kT (B 8 dc) (zb (bc.b3) rfl) dR)
 intro cc vals w279 bd C D
 have Y : cc ∈ [0, 1, 2, 3] := bd
 simp only [List.mem_cons, List.not_mem_nil, or_false] at Y
 rcases Y with rfl | rfl | rfl | rfl
 have be : Sep _ _ _ _ := C
 exact obl rfl (lD (Iv (c.cop)) kT (D 10 dc) (zb (be.b1) rfl) dR)
 obtain ⟨d, i, bf⟩ := C
 exact obl rfl (lD (Iv (c.cop)) kT (D 10 dc) (zb (bf.b2) rfl) dR)
 obtain ⟨e, g, bg⟩ := C
 exact obl rfl (lD (Iv (c.cop)) kT (D 10 dc) (zb (bg.b2) rfl) dR)
 obtain ⟨d, e, i, g, bh⟩ := C
 exact obl rfl (lD (Iv (c.cop)) kT (D 10 dc) (zb (bh.b3) rfl) dR)
 intro cd vals w297 bi E F
 have Z : cd ∈ [0, 1, 2, 3] := bi
 simp only [List.mem_cons, List.not_mem_nil, or_false] at Z
 rcases Z with rfl | rfl | rfl | rfl
 have bj : Sep _ _ _ _ := E
 exact obl rfl (lD (Iv (c.carg)) kT (F 12 dc) (zb (bj.b1) rfl) dR)
 obtain ⟨d, i, bk⟩ := E
 exact obl rfl (lD (Iv (c.carg)) kT (F 12 dc) (zb (bk.b2) rfl) dR)
 obtain ⟨e, g, bl⟩ := E
 exact obl rfl (lD (Iv (c.carg)) kT (F 12 dc) (zb (bl.b2) rfl) dR)
 obtain ⟨d, e, i, g, bm⟩ := E
 exact obl rfl (lD (Iv (c.carg)) kT (F 12 dc) (zb (bm.b3) rfl) dR)
 intro ce vals w315 bn H I
 have aa : ce ∈ [0, 1, 2, 3] := bn
 simp only [List.mem_cons, List.not_mem_nil, or_false] at aa
 rcases aa with rfl | rfl | rfl | rfl
 have bp : Sep _ _ _ _ := H
 exact obl rfl (lD (Iv (c.ckey)) kT (I 14 dc) (zb (bp.b1) rfl) dR)
 obtain ⟨d, i, bq⟩ := H
 exact obl rfl (lD (Iv (c.ckey)) kT (I 14 dc) (zb (bq.b2) rfl) dR)
 obtain ⟨e, g, br⟩ := H
 exact obl rfl (lD (Iv (c.ckey)) kT (I 14 dc) (zb (br.b2) rfl) dR)
 obtain ⟨d, e, i, g, bs⟩ := H
 exact obl rfl (lD (Iv (c.ckey)) kT (I 14 dc) (zb (bs.b3) rfl) dR)
 intro cf vals w328 bt al j
 have ab : cf ∈ [1, 3] := bt
 simp only [List.mem_cons, List.not_mem_nil, or_false] at ab
 rcases ab with rfl | rfl
 obtain ⟨d, i, bu⟩ := al
 refine obl rfl ?_
 have am := bu.r0
 have hr341s : _ * 8 ≤ _ := am.2
 refine zI (parts' := [(1, Iv (lam + 1)), (2, d), (3, Iv (c.ctyp)), (4, Iv (c.cagg)), (5, Iv (c.cfield)), (6, Iv (c.cop)), (7, Iv (c.carg)), (8, Iv (c.ckey))]) (v := .agg ((⟨0, 0, lam + 1, zM v [], c.ctyp, c.cagg, c.cfield, c.cop, c.carg, c.ckey⟩ : Ev).cells d).toArray) (Zq ⟨rfl, (j 1 (by decide)), rfl, i, rfl, (j 5 (by decide)), rfl, (j 7 (by decide)), rfl, (j 9 (by decide)), rfl, (j 11 (by decide)), rfl, (j 13 (by decide)), rfl, (j 15 (by decide)), trivial⟩) (by obtain ⟨_, _, bv, _⟩ := am.1; rw [show d = Value.slice _ _ _ from bv]; simp [Instr.build, Instr.fill, go_sem, Ev.cells, ev0]) (fun l hv m => ⟨rfl, ?_⟩)
 intro cg K
 rw [m 3 (by decide)] at K; cases i.symm.trans K
 exact hv
 obtain ⟨d, e, i, g, bw⟩ := al
 refine obl rfl ?_
 have an := bw.r1
 have hr351s : _ * 8 ≤ _ := an.2
 refine zI (parts' := [(1, Iv (lam + 1)), (2, d), (3, Iv (c.ctyp)), (4, Iv (c.cagg)), (5, Iv (c.cfield)), (6, Iv (c.cop)), (7, Iv (c.carg)), (8, Iv (c.ckey))]) (v := .agg ((⟨0, 0, lam + 1, zM v [], c.ctyp, c.cagg, c.cfield, c.cop, c.carg, c.ckey⟩ : Ev).cells d).toArray) (Zq ⟨rfl, (j 1 (by decide)), rfl, i, rfl, (j 5 (by decide)), rfl, (j 7 (by decide)), rfl, (j 9 (by decide)), rfl, (j 11 (by decide)), rfl, (j 13 (by decide)), rfl, (j 15 (by decide)), trivial⟩) (by obtain ⟨_, _, bx, _⟩ := an.1; rw [show d = Value.slice _ _ _ from bx]; simp [Instr.build, Instr.fill, go_sem, Ev.cells, ev0]) (fun l hv m => ⟨rfl, ?_⟩)
 intro cg K
 rw [m 3 (by decide)] at K; cases i.symm.trans K
 exact hv
 intro ch vals w353 bz ao hA354
 have ac : ch ∈ [0, 1] := bz
 simp only [List.mem_cons, List.not_mem_nil, or_false] at ac
 rcases ac with rfl | rfl
 have bA : Sep _ _ _ _ := ao
 refine obl rfl ((zr pT ?_))
 intro w360 e bB
 exact fun l hv m => ⟨(Exists.intro e (And.intro hv (bA.new bB))), trivial⟩
 obtain ⟨d, i, bC⟩ := ao
 refine obl rfl ((zr pT ?_))
 intro w365 e bD
 exact fun l hv m => ⟨(Exists.intro d (Exists.intro e (And.intro ((m 3 dc).trans i) (And.intro hv (bC.new bD))))), trivial⟩
 intro ci vals w368 bE bF bG
 have ad : ci ∈ [3] := bE
 simp only [List.mem_cons, List.not_mem_nil, or_false] at ad
 subst ad
 obtain ⟨d, e, i, g, P⟩ := bF
 let ay := ((⟨0, 0, lam + 1, zM v [], c.ctyp, c.cagg, c.cfield, c.cop, c.carg, c.ckey⟩ : Ev).cells d)
 refine obl rfl ?_
 have cj : vals 16 = (.agg ay.toArray : Value) := bG 16 dc d i
 have ap := P.r1
 have hr376s : _ * 8 ≤ _ := ap.2
 refine (zp (v := .agg ay.toArray) (c' := ay.toArray) lT g cj (P.b0) (zW ⟨rfl, rfl, rfl, ap.1.one, rfl, rfl, rfl, rfl, rfl, rfl, trivial⟩) yqc rfl ?_)
 intro w374 bH
 exact fun l hv m => ⟨(Exists.intro d (Exists.intro e (And.intro ((m 3 dc).trans i) (And.intro ((m 17 dc).trans g) (P.pt0 bH))))), trivial⟩
 intro vals w378 bI hA380
 obtain ⟨d, e, i, g, aq⟩ := bI
 refine zT (kv := [(0, .agg (c.cells).toArray), (1, Iv o), (2, vv), (3, Iv lam), (4, Ix b2 0), (8, Ix b6 0), (9, Iv 0), (12, Iv o), (13, .bool (decide (o < 0))), (14, .bool (decide (o < 0))), (19, .bool ((decide (o < 0)) || (decide (((v.length : Nat) : Int) ≤ o)))), (20, .bool ((decide (o < 0)) || (decide (((v.length : Nat) : Int) ≤ o)))), (23, .bool false), (25, vv), (26, Iv o), (27, Iv (yx v o)), (10, Iv (yx v o)), (28, Iv (yx v o)), (29, .bool (decide ((yx v o) = 9223372036854775807))), (30, .bool (decide ((yx v o) = 9223372036854775807))), (33, .bool false), (11, Ix e 0)]) ⟨rfl, rfl, rfl, rfl, rfl, rfl, rfl, rfl, rfl, rfl, rfl, rfl, rfl, rfl, rfl, rfl, rfl, rfl, rfl, rfl, rfl, (by exact g), trivial⟩ (fun ρw378 => (zd (za (R0 fun _ => st (mV (Iv o) (st (mV (Iv (yx v o)) ?_)))))))
 have bJ : InR ((yx v o) + 1) := by omega
 refine st (zV (r := (yx v o) + 1) (k := .i64) (a := yx v o) (b := 1) rfl rfl (zJ bJ) (st (yy rfl (st (xz rfl ?_)))))
 refine stn (yn (v := Iv o) (c := [Iv ((⟨0, 0, lam + 1, zM v [], c.ctyp, c.cagg, c.cfield, c.cop, c.carg, c.ckey⟩ : Ev).origin), Iv ((⟨0, 0, lam + 1, zM v [], c.ctyp, c.cagg, c.cfield, c.cop, c.carg, c.ckey⟩ : Ev).seq), Iv ((⟨0, 0, lam + 1, zM v [], c.ctyp, c.cagg, c.cfield, c.cop, c.carg, c.ckey⟩ : Ev).lam), d, Iv ((⟨0, 0, lam + 1, zM v [], c.ctyp, c.cagg, c.cfield, c.cop, c.carg, c.ckey⟩ : Ev).typ), Iv ((⟨0, 0, lam + 1, zM v [], c.ctyp, c.cagg, c.cfield, c.cop, c.carg, c.ckey⟩ : Ev).agg), Iv ((⟨0, 0, lam + 1, zM v [], c.ctyp, c.cagg, c.cfield, c.cop, c.carg, c.ckey⟩ : Ev).field), Iv ((⟨0, 0, lam + 1, zM v [], c.ctyp, c.cagg, c.cfield, c.cop, c.carg, c.ckey⟩ : Ev).op), Iv ((⟨0, 0, lam + 1, zM v [], c.ctyp, c.cagg, c.cfield, c.cop, c.carg, c.ckey⟩ : Ev).arg), Iv ((⟨0, 0, lam + 1, zM v [], c.ctyp, c.cagg, c.cfield, c.cop, c.carg, c.ckey⟩ : Ev).key)]) (c' := [Iv o, Iv ((⟨0, 0, lam + 1, zM v [], c.ctyp, c.cagg, c.cfield, c.cop, c.carg, c.ckey⟩ : Ev).seq), Iv ((⟨0, 0, lam + 1, zM v [], c.ctyp, c.cagg, c.cfield, c.cop, c.carg, c.ckey⟩ : Ev).lam), d, Iv ((⟨0, 0, lam + 1, zM v [], c.ctyp, c.cagg, c.cfield, c.cop, c.carg, c.ckey⟩ : Ev).typ), Iv ((⟨0, 0, lam + 1, zM v [], c.ctyp, c.cagg, c.cfield, c.cop, c.carg, c.ckey⟩ : Ev).agg), Iv ((⟨0, 0, lam + 1, zM v [], c.ctyp, c.cagg, c.cfield, c.cop, c.carg, c.ckey⟩ : Ev).field), Iv ((⟨0, 0, lam + 1, zM v [], c.ctyp, c.cagg, c.cfield, c.cop, c.carg, c.ckey⟩ : Ev).op), Iv ((⟨0, 0, lam + 1, zM v [], c.ctyp, c.cagg, c.cfield, c.cop, c.carg, c.ckey⟩ : Ev).arg), Iv ((⟨0, 0, lam + 1, zM v [], c.ctyp, c.cagg, c.cfield, c.cop, c.carg, c.ckey⟩ : Ev).key)]) nT rfl rfl (aq.b0) rfl rfl rfl ?_)
 intro w383 bK
 have ar := aq.pt0 bK
 refine st (yy rfl (st (Zk rfl ?_)))
 refine stn (yn (v := Iv ((yx v o) + 1)) (c := [Iv o, Iv ((⟨0, 0, lam + 1, zM v [], c.ctyp, c.cagg, c.cfield, c.cop, c.carg, c.ckey⟩ : Ev).seq), Iv ((⟨0, 0, lam + 1, zM v [], c.ctyp, c.cagg, c.cfield, c.cop, c.carg, c.ckey⟩ : Ev).lam), d, Iv ((⟨0, 0, lam + 1, zM v [], c.ctyp, c.cagg, c.cfield, c.cop, c.carg, c.ckey⟩ : Ev).typ), Iv ((⟨0, 0, lam + 1, zM v [], c.ctyp, c.cagg, c.cfield, c.cop, c.carg, c.ckey⟩ : Ev).agg), Iv ((⟨0, 0, lam + 1, zM v [], c.ctyp, c.cagg, c.cfield, c.cop, c.carg, c.ckey⟩ : Ev).field), Iv ((⟨0, 0, lam + 1, zM v [], c.ctyp, c.cagg, c.cfield, c.cop, c.carg, c.ckey⟩ : Ev).op), Iv ((⟨0, 0, lam + 1, zM v [], c.ctyp, c.cagg, c.cfield, c.cop, c.carg, c.ckey⟩ : Ev).arg), Iv ((⟨0, 0, lam + 1, zM v [], c.ctyp, c.cagg, c.cfield, c.cop, c.carg, c.ckey⟩ : Ev).key)]) (c' := [Iv o, Iv ((yx v o) + 1), Iv ((⟨0, 0, lam + 1, zM v [], c.ctyp, c.cagg, c.cfield, c.cop, c.carg, c.ckey⟩ : Ev).lam), d, Iv ((⟨0, 0, lam + 1, zM v [], c.ctyp, c.cagg, c.cfield, c.cop, c.carg, c.ckey⟩ : Ev).typ), Iv ((⟨0, 0, lam + 1, zM v [], c.ctyp, c.cagg, c.cfield, c.cop, c.carg, c.ckey⟩ : Ev).agg), Iv ((⟨0, 0, lam + 1, zM v [], c.ctyp, c.cagg, c.cfield, c.cop, c.carg, c.ckey⟩ : Ev).field), Iv ((⟨0, 0, lam + 1, zM v [], c.ctyp, c.cagg, c.cfield, c.cop, c.carg, c.ckey⟩ : Ev).op), Iv ((⟨0, 0, lam + 1, zM v [], c.ctyp, c.cagg, c.cfield, c.cop, c.carg, c.ckey⟩ : Ev).arg), Iv ((⟨0, 0, lam + 1, zM v [], c.ctyp, c.cagg, c.cfield, c.cop, c.carg, c.ckey⟩ : Ev).key)]) nT rfl rfl (ar.b0) rfl rfl rfl ?_)
 intro w386 bL
 have J := ar.pt0 bL
 refine zd (za (R0 fun _ => st (zf (k := 10) oT lT rfl rfl (CellsAt.all (J.b0)) ?_)))
 have au := J.r1
 have hr391s : _ * 8 ≤ _ := au.2
 refine stn (zp (v := .agg ((⟨o, (yx v o) + 1, (⟨0, 0, lam + 1, zM v [], c.ctyp, c.cagg, c.cfield, c.cop, c.carg, c.ckey⟩ : Ev).lam, zM v [], (⟨0, 0, lam + 1, zM v [], c.ctyp, c.cagg, c.cfield, c.cop, c.carg, c.ckey⟩ : Ev).typ, (⟨0, 0, lam + 1, zM v [], c.ctyp, c.cagg, c.cfield, c.cop, c.carg, c.ckey⟩ : Ev).agg, (⟨0, 0, lam + 1, zM v [], c.ctyp, c.cagg, c.cfield, c.cop, c.carg, c.ckey⟩ : Ev).field, (⟨0, 0, lam + 1, zM v [], c.ctyp, c.cagg, c.cfield, c.cop, c.carg, c.ckey⟩ : Ev).op, (⟨0, 0, lam + 1, zM v [], c.ctyp, c.cagg, c.cfield, c.cop, c.carg, c.ckey⟩ : Ev).arg, (⟨0, 0, lam + 1, zM v [], c.ctyp, c.cagg, c.cfield, c.cop, c.carg, c.ckey⟩ : Ev).key⟩ : Ev).cells d).toArray) (c' := ((⟨o, (yx v o) + 1, (⟨0, 0, lam + 1, zM v [], c.ctyp, c.cagg, c.cfield, c.cop, c.carg, c.ckey⟩ : Ev).lam, zM v [], (⟨0, 0, lam + 1, zM v [], c.ctyp, c.cagg, c.cfield, c.cop, c.carg, c.ckey⟩ : Ev).typ, (⟨0, 0, lam + 1, zM v [], c.ctyp, c.cagg, c.cfield, c.cop, c.carg, c.ckey⟩ : Ev).agg, (⟨0, 0, lam + 1, zM v [], c.ctyp, c.cagg, c.cfield, c.cop, c.carg, c.ckey⟩ : Ev).field, (⟨0, 0, lam + 1, zM v [], c.ctyp, c.cagg, c.cfield, c.cop, c.carg, c.ckey⟩ : Ev).op, (⟨0, 0, lam + 1, zM v [], c.ctyp, c.cagg, c.cfield, c.cop, c.carg, c.ckey⟩ : Ev).arg, (⟨0, 0, lam + 1, zM v [], c.ctyp, c.cagg, c.cfield, c.cop, c.carg, c.ckey⟩ : Ev).key⟩ : Ev).cells d).toArray) lT rfl rfl (J.b2) (zW ⟨rfl, rfl, rfl, au.1.one, rfl, rfl, rfl, rfl, rfl, rfl, trivial⟩) yqc rfl ?_)
 intro ck bM
 have av := J.pt2 bM
 refine st (aS (Iv 0) (zd (zk (Zv (b := b6) uT oT lT rfl rfl (CellsAt.all (av.b2)) (show _ = (Iv 0 : Value) from rfl) ?_))))
 have bN : Sep G W ((RowE (α := Int) own 3 d (zM v ([] : List Int))) :: Rs) ck := av.sel 4 [1] (Nat.le_add_left _ _) rfl rfl
 have p : evN o v lam = 0 := by unfold evN; simp only [q, N, if_true, if_false, Bool.false_eq_true, ↓reduceIte]
 have ae : evE c o v lam = (⟨o, (yx v o) + 1, (⟨0, 0, lam + 1, zM v [], c.ctyp, c.cagg, c.cfield, c.cop, c.carg, c.ckey⟩ : Ev).lam, zM v [], (⟨0, 0, lam + 1, zM v [], c.ctyp, c.cagg, c.cfield, c.cop, c.carg, c.ckey⟩ : Ev).typ, (⟨0, 0, lam + 1, zM v [], c.ctyp, c.cagg, c.cfield, c.cop, c.carg, c.ckey⟩ : Ev).agg, (⟨0, 0, lam + 1, zM v [], c.ctyp, c.cagg, c.cfield, c.cop, c.carg, c.ckey⟩ : Ev).field, (⟨0, 0, lam + 1, zM v [], c.ctyp, c.cagg, c.cfield, c.cop, c.carg, c.ckey⟩ : Ev).op, (⟨0, 0, lam + 1, zM v [], c.ctyp, c.cagg, c.cfield, c.cop, c.carg, c.ckey⟩ : Ev).arg, (⟨0, 0, lam + 1, zM v [], c.ctyp, c.cagg, c.cfield, c.cop, c.carg, c.ckey⟩ : Ev).key⟩ : Ev) := by unfold evE; exact if_pos p
 rw [ae, p]
 refine ⟨d, ?_, bN⟩
 rfl
 have N := M
 try simp only [ze] at M
 refine zh rfl (za (yq (by kernel_rfl) (fun _ => (st (zI (parts' := []) (v := .agg (ev0.cells (Iz)).toArray) rfl (by simp +zetaDelta [Instr.build, Instr.fill, go_sem, Ev.cells, ev0]) (stn (zp (v := .agg (ev0.cells (Iz)).toArray) (c' := (ev0.cells (Iz)).toArray) lT rfl rfl (ag.b0) (zW ⟨rfl, rfl, rfl, rfl, rfl, rfl, rfl, rfl, rfl, rfl, trivial⟩) yqc rfl ?_)))))))
 intro w394 bO
 have aw := ag.pt0 bO
 refine st (aS (Iv 13) (zd (zk (Zv (b := b6) uT oT lT rfl rfl (CellsAt.all (aw.b0)) (show _ = (Iv 13 : Value) from rfl) ?_))))
 have bP : Sep _ _ ((RowE (α := Int) own 3 (Iz) ([] : List Int)) :: _) _ := aw.rowNil own 3
 have p : evN o v lam = 13 := by unfold evN; simp only [q, N, if_true, if_false, Bool.false_eq_true, ↓reduceIte]
 have ae : evE c o v lam = ev0 := by unfold evE; exact if_neg (by rw [p]; decide)
 rw [ae, p]
 refine ⟨(Iz), ?_, (bP.s3_a)⟩
 rfl
 have q := L
 try simp only [ze] at L
 refine zh rfl (za (yq (by kernel_rfl) (fun _ => (st (zI (parts' := []) (v := .agg (ev0.cells (Iz)).toArray) rfl (by simp +zetaDelta [Instr.build, Instr.fill, go_sem, Ev.cells, ev0]) (stn (zp (v := .agg (ev0.cells (Iz)).toArray) (c' := (ev0.cells (Iz)).toArray) lT rfl rfl (az.b0) (zW ⟨rfl, rfl, rfl, rfl, rfl, rfl, rfl, rfl, rfl, rfl, trivial⟩) yqc rfl ?_)))))))
 intro w399 bQ
 have ax := az.pt0 bQ
 refine st (aS (Iv 1) (zd (zk (Zv (b := b6) uT oT lT rfl rfl (CellsAt.all (ax.b0)) (show _ = (Iv 1 : Value) from rfl) ?_))))
 have bR : Sep _ _ ((RowE (α := Int) own 3 (Iz) ([] : List Int)) :: _) _ := ax.rowNil own 3
 have p : evN o v lam = 1 := by unfold evN; simp only [q, if_true, if_false, Bool.false_eq_true, ↓reduceIte]
 have ae : evE c o v lam = ev0 := by unfold evE; exact if_neg (by rw [p]; decide)
 rw [ae, p]
 refine ⟨(Iz), ?_, (bR.s3_a)⟩
 rfl

end Go.Proofs.YtbbabhaalmkbkaaGreatDoor
namespace Go.Proofs.YtbbabhaalmkbkaaGreatDoor
def yv (a b : Int) : Int := if a < b then -1 else if b < a then 1 else 0
def orL : List Int → Int
  | [] => 0
  | x :: l => if x ≠ 0 then x else orL l
def ZS (a b : Ev) : Int := orL [yv a.lam b.lam, yv a.origin b.origin, yv a.seq b.seq]
theorem WT (a b : Int) : InR (yv a b) := by unfold yv; split <;> (try split) <;> decide
end Go.Proofs.YtbbabhaalmkbkaaGreatDoor
set_option maxRecDepth 8000
set_option maxHeartbeats 4000000
namespace Go.Proofs.YtbbabhaalmkbkaaGreatDoor
open Go.Proofs Go.RowKit

theorem UY {G : Nat → Prop} {W w : World} {Rs : List HP} {x : Int} (hS0 : Sep G W Rs w) : Ret Tryz.prog 99 [.int .i64 (x)] w (fun r w' => r = (.bool false : Value) ∧ Sep G W Rs w') := by
 refine zi (args := [Iv x]) Tryz.func99 rfl rfl ?_
 refine za (R0 fun _ => st (aS (.bool false) (zd (za (R0 fun _ => st (mV (Iv x) (st (mV (Iv x) (st (yr (k := .i64) (a := x) (b := x) rfl rfl (st (aS (.bool (!decide (x = x))) (zd (zk (zG Tryz.results99 (show _ = (.bool (!decide (x = x)) : Value) from rfl) ?_)))))))))))))))
 refine ⟨?_, hS0⟩
 simp

theorem Ud {G : Nat → Prop} {W w : World} {Rs : List HP} {x : Int} {y : Int} (hS0 : Sep G W Rs w) : Ret Tryz.prog 79 [.int .i64 (x), .int .i64 (y)] w (fun r w' => r = (.int .i64 ((yv x y)) : Value) ∧ Sep G W Rs w') := by
 refine zi (args := [Iv x, Iv y]) Tryz.func79 rfl rfl ?_
 refine za (R0 fun _ => st (aS (Iv 0) (zd (za (R0 fun _ => st (mV (Iv x) (st (cL lR (UY  hS0) ?_))))))))
 rintro _ w1 ⟨rfl, f⟩
 refine st (aS (.bool false) (zd (za (R0 fun _ => st (mV (Iv y) (st (cL lR (UY  f) ?_)))))))
 rintro _ w3 ⟨rfl, e⟩
 refine st (aS (.bool false) (zd (za (za (R0 fun _ => st (mV (.bool false) (zd (zg rfl (zl (za (za (R0 fun _ => st (mV (.bool false) (zd (zg rfl (zl (za (za (R0 fun _ => st (mV (Iv x) (st (mV (Iv y) (st (zF (k := .i64) (a := x) (b := y) rfl rfl (zd ?_)))))))))))))))))))))))))
 cases c : decide (x < y)
 have c := fD c
 refine zg rfl (zl (za (za (R0 fun _ => st (mV (Iv x) (st (mV (Iv y) (st (yM (k := .i64) (a := x) (b := y) rfl rfl (zd ?_))))))))))
 cases d : decide (y < x)
 have d := fD d
 refine zg rfl (zl (za (R0 fun _ => st (aS (Iv 0) (zd (zk (zG vT (show _ = (Iv 0 : Value) from rfl) ?_)))))))
 refine ⟨?_, e⟩
 unfold yv
 (repeat (first | rw [if_pos (by omega)] | rw [if_neg (by omega)]))
 have d := tD d
 refine zh rfl (za (R0 fun _ => st (aS (Iv 1) (zd (zk (zG vT (show _ = (Iv 1 : Value) from rfl) ?_))))))
 refine ⟨?_, e⟩
 unfold yv
 (repeat (first | rw [if_pos (by omega)] | rw [if_neg (by omega)]))
 have c := tD c
 refine zh rfl (za (R0 fun _ => st (aS (Iv (-1)) (zd (zk (zG vT (show _ = (Iv (-1) : Value) from rfl) ?_))))))
 refine ⟨?_, e⟩
 unfold yv
 (repeat (first | rw [if_pos (by omega)] | rw [if_neg (by omega)]))

theorem Da_or {G : Nat → Prop} {W w : World} {Rs : List HP} {vl : Value} {l : List Int} (hl : RdS W G vl l) (hS0 : Sep G W Rs w) : Ret Tryz.prog 78 [vl] w (fun r w' => r = (.int .i64 ((orL l)) : Value) ∧ Sep G W Rs w') := by
 have hls : _ * 8 ≤ _ := hl.small
 refine zi (args := [vl]) Tryz.func78 rfl rfl ?_
 refine za (R0 fun _ => st (aS (Iv 0) (zd (za (R0 fun _ => st (aS (Iv 0) (zd (za (za (R0 fun _ => st (mV vl (st (zL (n := l.length) mT rfl hl.sl (st (mV (Iv 0) (zd (zw (yh (fun mq σ q => ∃ (k : Nat) (ρ : Env), mq = l.length - k ∧ σ = ye ρ [(0, vl), (3, Iv 0), (6, vl), (7, Iw l.length), (8, Iw k)] ∧ (k ≤ l.length) ∧ (orL l = orL (l.drop k)) ∧ Sep G W Rs q) ⟨0, _, rfl, sSf, Nat.zero_le _, rfl, hS0⟩ ?_))))))))))))))))))
 rintro m2 σ3 w1 ⟨k, ρl1, rfl, rfl, hkk, g, d⟩
 refine za (R0 fun _ => st (zF (k := .i64) (a := ((k : Nat) : Int)) (b := ((l.length : Nat) : Int)) rfl rfl (zd (za ?_))))
 cases e : decide (((k : Nat) : Int) < ((l.length : Nat) : Int))
 have e := fD e
 refine zg rfl (yi (yb (za (R0 fun _ => st (mV (Iv 0) (st (aS (Iv 0) (zd (zk (zG mR (show _ = (Iv 0 : Value) from rfl) ?_))))))))))
 refine ⟨?_, d⟩
 rw [g, List.drop_of_length_le (by omega)]; rfl
 have e := tD e
 refine zh rfl (zl (za (zw (za (R0 fun _ => ?_)))))
 have p : k < l.length := bo
 refine st (zn (k := 1) (i := k) mT nT rfl hl.sl rfl p ?_)
 have f : k < l.length := bo
 obtain ⟨h, hxe7⟩ := hl.intD f
 have m := d.cells h (hl.foot (ne_of_lt f))
 refine st (lD (Iv ((l.getD k 0))) kT rfl (m.get (j := 0) rfl) (st (aS (Iv ((l.getD k 0))) (zd (za (R0 fun _ => st (mV (Iv ((l.getD k 0))) (st (mV (Iv 0) (st (yr (k := .i64) (a := (l.getD k 0)) (b := 0) rfl rfl (zd ?_))))))))))))
 cases c : !decide ((l.getD k 0) = 0)
 have c := yp c
 refine zg rfl (zl (R0 fun _ => ?_))
 have o : InR ((k + 1 : Nat) : Int) := bo
 refine st (zV (r := ((k + 1 : Nat) : Int)) (k := .i64) (a := ((k : Nat) : Int)) (b := 1) rfl rfl (by rw [show (((k : Nat) : Int) + 1 : Int) = ((k + 1 : Nat) : Int) from bo]; exact zJ o) (st (mV (Iw (k + 1)) (zd ?_))))
 exact ⟨_, by omega, k + 1, _, rfl, sSf, by omega, (by rw [g, List.drop_eq_getElem_cons (by omega)]; simp only [orL]; rw [if_neg (by rw [← zA 0 (by omega)]; simpa using c)]), d⟩
 have c := zC c
 refine zh rfl (za (R0 fun _ => st (mV (Iv ((l.getD k 0))) (st (aS (Iv ((l.getD k 0))) (zd (zk (zG mR (show _ = (Iv ((l.getD k 0)) : Value) from rfl) ?_))))))))
 refine ⟨?_, d⟩
 rw [g, List.drop_eq_getElem_cons (by omega)]; simp only [orL]; rw [if_pos (by rw [← zA 0 (by omega)]; simpa using c), ← zA 0 (by omega)]

theorem Ky {G : Nat → Prop} {W w : World} {Rs : List HP} {x : Int} (hx : InR x) (hS0 : Sep G W Rs w) : Ret Tryz.prog 55 [.int .i64 (x)] w (fun r w' => r = (.bool (decide (x < 0)) : Value) ∧ Sep G W Rs w') := by
 refine zi (args := [Iv x]) Tryz.func55 rfl rfl ?_
 refine za (R0 fun _ => st (aS (.bool false) (zd (za (R0 fun _ => st (mV (Iv x) (st (zF (k := .i64) (a := x) (b := 0) rfl rfl (st (aS (.bool (decide (x < 0))) (zd (zk (zG Tryz.results55 (show _ = (.bool (decide (x < 0)) : Value) from rfl) ?_)))))))))))))
 refine ⟨rfl, hS0⟩

theorem Wf {G : Nat → Prop} {W w : World} {Rs : List HP} {e : Ev} {de0 : Value} (hde0 : RdS W G de0 e.deps) (oe : e.Ok) (hS0 : Sep G W Rs w) : Ret Tryz.prog 37 [.agg (e.cells de0).toArray] w (fun r w' => ∃ (v : Value), r = (.agg (e.cells v).toArray : Value) ∧ Sep G W ((RowE (α := Int) own 3 v e.deps) :: Rs) w') := by
 have hde0s : _ * 8 ≤ _ := hde0.small
 refine zi (args := [.agg (e.cells de0).toArray]) Tryz.func37 rfl rfl ?_
 refine za (R0 fun _ => st (zH (v := .agg (e.cells de0).toArray) rfl ?_))
 intro w3 b2 n
 refine st (zr pT ?_)
 intro w7 p o
 have i := (hS0.new n).new o
 refine zd (za (R0 fun _ => st (xc rfl (st (lD de0 qT rfl (zb (i.b1) rfl) (st (cL nR (xI (l := e.deps) (vl := de0) hde0 i) ?_)))))))
 rintro g w10 ⟨_, rfl, a⟩
 have d := a.r0
 have hr12s : _ * 8 ≤ _ := d.2
 refine st (xc rfl (stn (yn (v := g) (c := [Iv (e.origin), Iv (e.seq), Iv (e.lam), de0, Iv (e.typ), Iv (e.agg), Iv (e.field), Iv (e.op), Iv (e.arg), Iv (e.key)]) (c' := [Iv (e.origin), Iv (e.seq), Iv (e.lam), g, Iv (e.typ), Iv (e.agg), Iv (e.field), Iv (e.op), Iv (e.arg), Iv (e.key)]) Tryz.sizeOf39 rfl rfl (a.b2) d.1.one rfl rfl ?_)))
 intro w13 j
 have ok15 : Ev.Ok e := ⟨(show InR (e.origin) from oe.origin), (show InR (e.seq) from oe.seq), (show InR (e.lam) from oe.lam), (show InR (e.typ) from oe.typ), (show InR (e.agg) from oe.agg), (show InR (e.field) from oe.field), (show InR (e.op) from oe.op), (show InR (e.arg) from oe.arg), (show InR (e.key) from oe.key)⟩
 have f := a.pt2 j
 refine zd (za (R0 fun _ => st (zf (k := 10) oT lT rfl rfl (CellsAt.all (f.b2)) (stn (zp (v := .agg (e.cells g).toArray) (c' := (e.cells g).toArray) lT rfl rfl (f.b1) (zW ⟨rfl, rfl, rfl, d.1.one, rfl, rfl, rfl, rfl, rfl, rfl, trivial⟩) yqc rfl ?_)))))
 intro w17 m
 have h := f.pt1 m
 refine zd (zk (Qn (b := p) Tryz.results37 oT lT rfl rfl (CellsAt.all (h.b1)) ?_))
 refine ⟨g, rfl, (h.s3_a)⟩

theorem Vr {G : Nat → Prop} {W w : World} {Rs : List HP} {vl : Value} {l : List Int} (hl : RdS W G vl l)  (hS0 : Sep G W Rs w) : Ret Tryz.prog 74 [vl, .func (.func 55) #[] #[]] w (fun r w' => ∃ (c : Int), r = (.int .i64 (c) : Value) ∧ (InR c) ∧ (c < 0 ↔ ∀ i, i < l.length → 0 ≤ l.getD i 0) ∧ Sep G W Rs w') := by
 have hls : _ * 8 ≤ _ := hl.small
 refine zi (args := [vl, .func (.func 55) #[] #[]]) Tryz.func74 rfl rfl ?_
 refine za (R0 fun _ => st (aS (Iv 0) (zd (za (za (R0 fun _ => st (mV vl (st (zL (n := l.length) mT rfl hl.sl (st (mV (Iv 0) (zd (zw (yh (fun mq σ u => ∃ (k : Nat) (ρ : Env), mq = l.length - k ∧ σ = ye ρ [(0, vl), (1, .func (.func 55) #[] #[]), (6, vl), (7, Iw l.length), (8, Iw k)] ∧ (k ≤ l.length) ∧ (∀ i, i < k → 0 ≤ l.getD i 0) ∧ Sep G W Rs u) ⟨0, _, rfl, sSf, Nat.zero_le _, (fun i h => absurd h (Nat.not_lt_zero i)), hS0⟩ ?_))))))))))))))
 rintro m2 σ3 w1 ⟨k, ρl1, rfl, rfl, hkk, hm, f⟩
 refine za (R0 fun _ => st (zF (k := .i64) (a := ((k : Nat) : Int)) (b := ((l.length : Nat) : Int)) rfl rfl (zd (za ?_))))
 cases e : decide (((k : Nat) : Int) < ((l.length : Nat) : Int))
 have e := fD e
 refine zg rfl (yi (yb (za (R0 fun _ => st (aS (Iv (-1)) (zd (zk (zG oR (show _ = (Iv (-1) : Value) from rfl) ?_))))))))
 refine ⟨-1, rfl, ?_, ?_, f⟩
 decide
 exact ⟨fun _ i hi => hm i om, fun _ => by decide⟩
 have e := tD e
 refine zh rfl (zl (za (zw (za (R0 fun _ => st (mV (Iw k) (st (aS (Iw k) (zd (za (R0 fun _ => st (mV (.func (.func 55) #[] #[]) (st (mV vl (st (mV (Iw k) ?_))))))))))))))))
 have t : k < l.length := bo
 refine st (zn (k := 1) (i := k) mT nT rfl hl.sl rfl t ?_)
 have m : k < l.length := bo
 obtain ⟨o, p⟩ := hl.intD m
 have q := f.cells o (hl.foot (ne_of_lt m))
 refine st (lD (Iv ((l.getD k 0))) kT rfl (q.get (j := 0) rfl) (st (cL Tryz.call55 (Ky (x := (l.getD k 0)) p f) ?_)))
 rintro _ w10 ⟨rfl, g⟩
 refine zd ?_
 cases d : decide ((l.getD k 0) < 0)
 have d := fD d
 refine zg rfl (zl (R0 fun _ => ?_))
 have s : InR ((k + 1 : Nat) : Int) := bo
 refine st (zV (r := ((k + 1 : Nat) : Int)) (k := .i64) (a := ((k : Nat) : Int)) (b := 1) rfl rfl (by rw [show (((k : Nat) : Int) + 1 : Int) = ((k + 1 : Nat) : Int) from bo]; exact zJ s) (st (mV (Iw (k + 1)) (zd ?_))))
 exact ⟨_, by omega, k + 1, _, rfl, sSf, by omega, (yU hm om), g⟩
 have d := tD d
 refine zh rfl (za (R0 fun _ => st (mV (Iw k) (st (aS (Iw k) (zd (zk (zG oR (show _ = (Iw k : Value) from rfl) ?_))))))))
 refine ⟨((k : Nat) : Int), rfl, ?_, ?_, g⟩
 show InR ((k : Nat) : Int); omega
 refine ⟨fun h => by omega, fun h => ?_⟩
 have h8 := h k om
 omega

def YF (l : List Int) : Bool := l.any (fun x => decide (x < 0))
theorem negL_iff {l : List Int} : YF l = false ↔ ∀ i, i < l.length → 0 ≤ l.getD i 0 := by
  unfold YF
  rw [List.any_eq_false]
  constructor
  · intro h i hi
    have := h l[i] (List.getElem_mem hi)
    rw [zA 0 hi]
    simpa using this
  · intro h x hx
    obtain ⟨i, hi, rfl⟩ := List.getElem_of_mem hx
    have := h i hi
    rw [zA 0 hi] at this
    simpa using this
theorem zag {l : List Int} {c : Int} (h : c < 0 ↔ YF l = false) : decide (0 ≤ c) = YF l := by
  cases hb : YF l
  · exact decide_eq_false (by have := h.2 hb; omega)
  · refine decide_eq_true ?_
    rcases Int.lt_or_le c 0 with h1 | h1
    · rw [h.1 h1] at hb; cases hb
    · exact h1
theorem Xo {G : Nat → Prop} {W w : World} {Rs : List HP} {vl : Value} {l : List Int} (hl : RdS W G vl l)  (hS0 : Sep G W Rs w) : Ret Tryz.prog 56 [vl, .func (.func 55) #[] #[]] w (fun r w' => r = (.bool ((YF l)) : Value) ∧ Sep G W Rs w') := by
 have hls : _ * 8 ≤ _ := hl.small
 refine zi (args := [vl, .func (.func 55) #[] #[]]) Tryz.func56 rfl rfl ?_
 refine za (R0 fun _ => st (aS (.bool false) (zd (za (R0 fun _ => st (mV vl (st (mV (.func (.func 55) #[] #[]) (st (cL Tryz.call74 (Vr (l := l) (vl := vl) hl hS0) ?_))))))))))
 rintro _ w4 ⟨c, rfl, hc92, d, e⟩
 refine st (xo (k := .i64) (a := c) (b := 0) rfl rfl (st (aS (.bool (decide (0 ≤ c))) (zd (zk (zG Tryz.results56 (show _ = (.bool (decide (0 ≤ c)) : Value) from rfl) ?_))))))
 refine ⟨?_, e⟩
 congr 1
 exact zag (d.trans negL_iff.symm)

def yo (e : Ev) (n : Int) : Int :=
  if (((((decide (e.origin < 0) || decide (n ≤ e.origin)) || decide (min e.seq e.lam < 1)) || decide (min e.agg e.key < 0)) || !decide (((e.deps.length : Nat) : Int) = n)) || YF e.deps) = true then 1
  else if (!decide (e.deps.getD e.origin.toNat 0 = e.seq - 1)) = true then 9
  else if (decide (e.op < 1) || decide (5 < e.op)) = true then 2
  else if ((decide (min e.typ e.field < 0) || decide (8 ≤ e.typ)) || decide (8 ≤ e.field)) = true then 8
  else 0
theorem QP {G : Nat → Prop} {W w : World} {Rs : List HP} {e : Ev} {de0 : Value} (hde0 : RdS W G de0 e.deps) (oe : e.Ok) {n : Int} (hn : InR n) (hS0 : Sep G W Rs w) : Ret Tryz.prog 35 [.agg (e.cells de0).toArray, .int .i64 (n)] w (fun r w' => r = (.int .i64 ((yo e n)) : Value) ∧ Sep G W Rs w') := by
 have hde0s : _ * 8 ≤ _ := hde0.small
 refine zi (args := [.agg (e.cells de0).toArray, Iv n]) Tryz.func35 rfl rfl ?_
 refine za (R0 fun _ => st (zH (v := .agg (e.cells de0).toArray) rfl ?_))
 intro w3 b2 bi
 have m := hS0.new bi
 refine st (aS (Iv 0) (zd (za (R0 fun _ => st (aS (.func (.func 55) #[] #[]) (zd (za (zw (za (zv kr (st (yy rfl (st (xz rfl (st (lD (Iv (e.origin)) kT rfl (zb (m.b0) rfl) (st (zF (k := .i64) (a := e.origin) (b := 0) rfl rfl (st (mV (.bool (decide (e.origin < 0))) (stc (V := Ix b2 0) rfl rfl (fun bj => ?_) ?_)))))))))))))))))))))
 have hl6 := fD bj
 exact yy rfl ⟨rfl, rfl⟩
 refine stc (V := Ix b2 0) rfl rfl (fun ax => ?_) ?_
 have hl8 := fD ax
 exact xz (if_pos ax) ⟨rfl, rfl⟩
 refine stc (V := Iv (e.origin)) rfl rfl (fun ay => ?_) ?_
 have hl10 := fD ay
 exact lD (Iv (e.origin)) kT (if_pos ay) (zb (m.b0) rfl) ⟨rfl, rfl⟩
 refine stc (V := Iv n) rfl rfl (fun az => ?_) ?_
 have hl12 := fD az
 exact mV (Iv n) ⟨rfl, rfl⟩
 refine stc (V := .bool (decide (n ≤ e.origin))) rfl rfl (fun u => ?_) ?_
 have hl14 := fD u
 exact xo (k := .i64) (a := e.origin) (b := n) (if_pos u) (if_pos u) ⟨rfl, rfl⟩
 refine st (zo (b := decide (e.origin < 0)) (b' := decide (n ≤ e.origin)) rfl (fun hbp => (if_pos hbp)) (st (mV (.bool ((decide (e.origin < 0)) || (decide (n ≤ e.origin)))) (stc (V := Ix b2 0) rfl rfl (fun aA => ?_) ?_))))
 have aB := aA
 try simp only [ze] at aB
 exact yy rfl ⟨rfl, rfl⟩
 refine stc (V := Ix b2 1) rfl rfl (fun L => ?_) ?_
 have aC := L
 try simp only [ze] at aC
 exact Zk (if_pos L) ⟨rfl, rfl⟩
 refine stc (V := Iv (e.seq)) rfl rfl (fun M => ?_) ?_
 have aD := M
 try simp only [ze] at aD
 exact lD (Iv (e.seq)) kT (if_pos M) (zb (m.b0) rfl) ⟨rfl, rfl⟩
 refine stc (V := Ix b2 2) rfl rfl (fun aE => ?_) ?_
 have aF := aE
 try simp only [ze] at aF
 exact Zc rfl ⟨rfl, rfl⟩
 refine stc (V := Iv (e.lam)) rfl rfl (fun N => ?_) ?_
 have aG := N
 try simp only [ze] at aG
 exact lD (Iv (e.lam)) kT (if_pos N) (zb (m.b0) rfl) ⟨rfl, rfl⟩
 refine stc (V := Iv (min e.seq e.lam)) rfl rfl (fun x => ?_) ?_
 have aH := x
 try simp only [ze] at aH
 exact Uv (k := .i64) (a := e.seq) (b := e.lam) (if_pos x) (if_pos x) ⟨rfl, rfl⟩
 refine stc (V := .bool (decide ((min e.seq e.lam) < 1))) rfl rfl (fun O => ?_) ?_
 have aI := O
 try simp only [ze] at aI
 exact zF (k := .i64) (a := min e.seq e.lam) (b := 1) (if_pos O) rfl ⟨rfl, rfl⟩
 refine st (zo (b := (decide (e.origin < 0)) || (decide (n ≤ e.origin))) (b' := decide ((min e.seq e.lam) < 1)) rfl (fun hbp => (if_pos hbp)) (st (mV (.bool (((decide (e.origin < 0)) || (decide (n ≤ e.origin))) || (decide ((min e.seq e.lam) < 1)))) (stc (V := Ix b2 5) rfl rfl (fun aJ => ?_) ?_))))
 have aK := aJ
 try simp only [ze] at aK
 exact Xf rfl ⟨rfl, rfl⟩
 refine stc (V := Iv (e.agg)) rfl rfl (fun P => ?_) ?_
 have aL := P
 try simp only [ze] at aL
 exact lD (Iv (e.agg)) kT (if_pos P) (zb (m.b0) rfl) ⟨rfl, rfl⟩
 refine stc (V := Ix b2 9) rfl rfl (fun aM => ?_) ?_
 have aN := aM
 try simp only [ze] at aN
 exact XB rfl ⟨rfl, rfl⟩
 refine stc (V := Iv (e.key)) rfl rfl (fun Q => ?_) ?_
 have aO := Q
 try simp only [ze] at aO
 exact lD (Iv (e.key)) kT (if_pos Q) (zb (m.b0) rfl) ⟨rfl, rfl⟩
 refine stc (V := Iv (min e.agg e.key)) rfl rfl (fun y => ?_) ?_
 have aP := y
 try simp only [ze] at aP
 exact Uv (k := .i64) (a := e.agg) (b := e.key) (if_pos y) (if_pos y) ⟨rfl, rfl⟩
 refine stc (V := .bool (decide ((min e.agg e.key) < 0))) rfl rfl (fun R => ?_) ?_
 have aQ := R
 try simp only [ze] at aQ
 exact zF (k := .i64) (a := min e.agg e.key) (b := 0) (if_pos R) rfl ⟨rfl, rfl⟩
 refine st (zo (b := ((decide (e.origin < 0)) || (decide (n ≤ e.origin))) || (decide ((min e.seq e.lam) < 1))) (b' := decide ((min e.agg e.key) < 0)) rfl (fun hbp => (if_pos hbp)) (st (mV (.bool ((((decide (e.origin < 0)) || (decide (n ≤ e.origin))) || (decide ((min e.seq e.lam) < 1))) || (decide ((min e.agg e.key) < 0)))) (stc (V := Ix b2 3) rfl rfl (fun aR => ?_) ?_))))
 have aT := aR
 try simp only [ze] at aT
 exact xc rfl ⟨rfl, rfl⟩
 refine stc (V := de0) rfl rfl (fun S => ?_) ?_
 have aU := S
 try simp only [ze] at aU
 exact lD de0 qT (if_pos S) (zb (m.b0) rfl) ⟨rfl, rfl⟩
 refine stc (V := Iw e.deps.length) rfl rfl (fun T => ?_) ?_
 have aV := T
 try simp only [ze] at aV
 exact zL (n := e.deps.length) mT (if_pos T) hde0.sl ⟨rfl, rfl⟩
 refine stc (V := Iv n) rfl rfl (fun aW => ?_) ?_
 have aX := aW
 try simp only [ze] at aX
 exact mV (Iv n) ⟨rfl, rfl⟩
 refine stc (V := .bool (!decide (((e.deps.length : Nat) : Int) = n))) rfl rfl (fun z => ?_) ?_
 have aY := z
 try simp only [ze] at aY
 exact yr (k := .i64) (a := ((e.deps.length : Nat) : Int)) (b := n) (if_pos z) (if_pos z) ⟨rfl, rfl⟩
 refine st (zo (b := (((decide (e.origin < 0)) || (decide (n ≤ e.origin))) || (decide ((min e.seq e.lam) < 1))) || (decide ((min e.agg e.key) < 0))) (b' := !decide (((e.deps.length : Nat) : Int) = n)) rfl (fun hbp => (if_pos hbp)) (st (mV (.bool (((((decide (e.origin < 0)) || (decide (n ≤ e.origin))) || (decide ((min e.seq e.lam) < 1))) || (decide ((min e.agg e.key) < 0))) || (!decide (((e.deps.length : Nat) : Int) = n)))) (stc (V := Ix b2 3) rfl rfl (fun aZ => ?_) ?_))))
 have ba := aZ
 try simp only [ze] at ba
 exact xc rfl ⟨rfl, rfl⟩
 refine stc (V := de0) rfl rfl (fun U => ?_) ?_
 have bb := U
 try simp only [ze] at bb
 exact lD de0 qT (if_pos U) (zb (m.b0) rfl) ⟨rfl, rfl⟩
 refine stc (V := .func (.func 55) #[] #[]) rfl rfl (fun bc => ?_) ?_
 have bd := bc
 try simp only [ze] at bd
 exact mV (.func (.func 55) #[] #[]) ⟨rfl, rfl⟩
 refine stcw (V := .bool ((YF e.deps))) (fun _ wq => Sep G W ((Blk b2 (e.cells de0).toArray 41) :: Rs) wq) m rfl rfl (fun A => ?_) (fun w61 X => ?_)
 have bf := A
 try simp only [ze] at bf
 refine (zB (f := 56) (vals := [de0, .func (.func 55) #[] #[]]) (cap := []) rfl (yE ⟨(if_pos A), (if_pos A), trivial⟩) Tryz.call56 (Xo (l := e.deps) (vl := de0) hde0 m) ?_)
 rintro _ w59 ⟨rfl, bg⟩
 exact ⟨rfl, bg⟩
 refine st (zo (b := ((((decide (e.origin < 0)) || (decide (n ≤ e.origin))) || (decide ((min e.seq e.lam) < 1))) || (decide ((min e.agg e.key) < 0))) || (!decide (((e.deps.length : Nat) : Int) = n))) (b' := (YF e.deps)) rfl (fun hbp => (if_pos hbp)) (st (aS (.bool ((((((decide (e.origin < 0)) || (decide (n ≤ e.origin))) || (decide ((min e.seq e.lam) < 1))) || (decide ((min e.agg e.key) < 0))) || (!decide (((e.deps.length : Nat) : Int) = n))) || (YF e.deps))) (zd ?_))))
 cases t : (((((decide (e.origin < 0)) || (decide (n ≤ e.origin))) || (decide ((min e.seq e.lam) < 1))) || (decide ((min e.agg e.key) < 0))) || (!decide (((e.deps.length : Nat) : Int) = n))) || (YF e.deps)
 have g := t
 try simp only [ze] at t
 refine zg rfl (za ?_)
 refine WD4 (WF [fun vals wq => Sep G W ((Blk b2 (e.cells de0).toArray 41) :: Rs) wq]) (AF [Vl 0 (Ix b2 3), Vl 1 (de0), Vl 2 (Ix b2 0), Vl 3 (Ix b2 0), Vl 4 (Iv (e.origin)), Vl 5 (Ix (sb de0) (so de0 + e.origin.toNat * 1)), Vl 6 (Iv ((e.deps.getD e.origin.toNat 0))), Vl 7 (Ix b2 0), Vl 8 (Ix b2 1), Vl 9 (Iv (e.seq)), Vl 10 (Iv (e.seq - 1)), Vl 11 (.bool (!decide ((e.deps.getD e.origin.toNat 0) = (e.seq - 1)))), Vl 12 (.bool (!decide ((e.deps.getD e.origin.toNat 0) = (e.seq - 1))))]) [[], [0], [], [2], [2, 3], (rg 5), (rg 6), [], [7], [7, 8], [7, 8, 9], (rg 11), (rg 12)] [] [(0, 0), (0, 0), (0, 0), (0, 0), (0, 0), (0, 0), (0, 0), (0, 0), (0, 0), (0, 0), (0, 0), (0, 0), (0, 0)] X ⟨fun _ _ _ _ _ _ _ => obl rfl (xc rfl dR), ob1 0 fun _ _ (aa : Sep _ _ _ _) ab => obl rfl (lD de0 qT (ab 0 dc) (zb (aa.b0) rfl) dR), fun _ _ _ _ _ _ _ => obl rfl (yy rfl dR), fun _ _ _ _ _ _ ac => obl rfl (xz (ac 2 dc) dR), ob1 0 fun _ _ (ad : Sep _ _ _ _) ae => obl rfl (lD (Iv (e.origin)) kT (ae 3 dc) (zb (ad.b0) rfl) dR), ?_, ?_, fun _ _ _ _ _ _ _ => obl rfl (yy rfl dR), fun _ _ _ _ _ _ af => obl rfl (Zk (af 7 dc) dR), ob1 0 fun _ _ (ag : Sep _ _ _ _) ah => obl rfl (lD (Iv (e.seq)) kT (ah 8 dc) (zb (ag.b0) rfl) dR), ?_, ob1 0 fun _ _ _ B => obl rfl (yr (k := .i64) (a := (e.deps.getD e.origin.toNat 0)) (b := e.seq - 1) (B 6 dc) (B 10 dc) dR), fun _ _ _ _ _ _ ai => obl rfl (zR (v := .bool (!decide ((e.deps.getD e.origin.toNat 0) = (e.seq - 1)))) (ai 11 dc) dR), trivial⟩ ?_
 refine ob1 0 fun _ _ _ C => (obl rfl ?_)
 have hi210 : e.origin.toNat < e.deps.length := bo
 exact zz (k := 1) (i := e.origin) mT nT (C 1 dc) hde0.sl (C 4 dc) ⟨by omega, by omega⟩ dR
 refine ob1 0 fun _ _ (aj : Sep _ _ _ _) ak => (obl rfl ?_)
 have D : e.origin.toNat < e.deps.length := bo
 obtain ⟨Y, hxe219⟩ := hde0.intD D
 have Z := aj.cells Y (hde0.foot (ne_of_lt D))
 exact lD (Iv ((e.deps.getD e.origin.toNat 0))) kT (ak 5 dc) (Z.get (j := 0) rfl) dR
 refine ob1 0 fun _ _ _ al => (obl rfl ?_)
 have am : InR (e.seq - 1) := (by have h9 := oe.seq; omega)
 exact YV (r := e.seq - 1) (k := .i64) (a := e.seq) (b := 1) (al 9 (by decide)) rfl (by rw [show (e.seq - 1 : Int) = e.seq - 1 from rfl]; exact zJ am) dR
 intro vals w268 an ao
 have c : Sep _ _ _ _ := an
 have bh := ao 12 dc
 refine zT (kv := [(0, .agg (e.cells de0).toArray), (1, Iv n), (2, Ix b2 0), (4, Iv 0), (5, .func (.func 55) #[] #[]), (7, Ix b2 0), (8, Ix b2 0), (9, Iv (e.origin)), (10, .bool (decide (e.origin < 0))), (11, .bool (decide (e.origin < 0))), (17, .bool ((decide (e.origin < 0)) || (decide (n ≤ e.origin)))), (18, .bool ((decide (e.origin < 0)) || (decide (n ≤ e.origin)))), (26, .bool (((decide (e.origin < 0)) || (decide (n ≤ e.origin))) || (decide ((min e.seq e.lam) < 1)))), (27, .bool (((decide (e.origin < 0)) || (decide (n ≤ e.origin))) || (decide ((min e.seq e.lam) < 1)))), (34, .bool ((((decide (e.origin < 0)) || (decide (n ≤ e.origin))) || (decide ((min e.seq e.lam) < 1))) || (decide ((min e.agg e.key) < 0)))), (35, .bool ((((decide (e.origin < 0)) || (decide (n ≤ e.origin))) || (decide ((min e.seq e.lam) < 1))) || (decide ((min e.agg e.key) < 0)))), (41, .bool (((((decide (e.origin < 0)) || (decide (n ≤ e.origin))) || (decide ((min e.seq e.lam) < 1))) || (decide ((min e.agg e.key) < 0))) || (!decide (((e.deps.length : Nat) : Int) = n)))), (42, .bool (((((decide (e.origin < 0)) || (decide (n ≤ e.origin))) || (decide ((min e.seq e.lam) < 1))) || (decide ((min e.agg e.key) < 0))) || (!decide (((e.deps.length : Nat) : Int) = n)))), (47, .bool false), (6, .bool false), (48, .bool (!decide ((e.deps.getD e.origin.toNat 0) = (e.seq - 1))))]) ⟨rfl, rfl, rfl, rfl, rfl, rfl, rfl, rfl, rfl, rfl, rfl, rfl, rfl, rfl, rfl, rfl, rfl, rfl, rfl, rfl, (by exact bh), trivial⟩ (fun ρw268 => ?_)
 refine zd ?_
 cases h : !decide ((e.deps.getD e.origin.toNat 0) = (e.seq - 1))
 have d := h
 have h := yp h
 refine zg rfl (za (zv kr (st (xK rfl (st (lD (Iv (e.op)) kT rfl (zb (c.b0) rfl) (st (zF (k := .i64) (a := e.op) (b := 1) rfl rfl (st (mV (.bool (decide (e.op < 1))) (stc (V := Ix b2 7) rfl rfl (fun ap => ?_) ?_)))))))))))
 have hl275 := fD ap
 exact xK rfl ⟨rfl, rfl⟩
 refine stc (V := Iv (e.op)) rfl rfl (fun E => ?_) ?_
 have hl277 := fD E
 exact lD (Iv (e.op)) kT (if_pos E) (zb (c.b0) rfl) ⟨rfl, rfl⟩
 refine stc (V := .bool (decide (5 < e.op))) rfl rfl (fun F => ?_) ?_
 have hl279 := fD F
 exact yM (k := .i64) (a := e.op) (b := 5) (if_pos F) rfl ⟨rfl, rfl⟩
 refine st (zo (b := decide (e.op < 1)) (b' := decide (5 < e.op)) rfl (fun hbp => (if_pos hbp)) (st (aS (.bool ((decide (e.op < 1)) || (decide (5 < e.op)))) (zd ?_))))
 cases p : (decide (e.op < 1)) || (decide (5 < e.op))
 have o := p
 try simp only [ze] at p
 refine zg rfl (za (zv kr (st (Zh rfl (st (lD (Iv (e.typ)) kT rfl (zb (c.b0) rfl) (st (xF rfl (st (lD (Iv (e.field)) kT rfl (zb (c.b0) rfl) (st (Uv (k := .i64) (a := e.typ) (b := e.field) rfl rfl (st (zF (k := .i64) (a := min e.typ e.field) (b := 0) rfl rfl (st (mV (.bool (decide ((min e.typ e.field) < 0))) (stc (V := Ix b2 4) rfl rfl (fun aq => ?_) ?_)))))))))))))))))
 have hl282 := fD aq
 exact Zh rfl ⟨rfl, rfl⟩
 refine stc (V := Iv (e.typ)) rfl rfl (fun H => ?_) ?_
 have hl284 := fD H
 exact lD (Iv (e.typ)) kT (if_pos H) (zb (c.b0) rfl) ⟨rfl, rfl⟩
 refine stc (V := .bool (decide (8 ≤ e.typ))) rfl rfl (fun I => ?_) ?_
 have hl286 := fD I
 exact xo (k := .i64) (a := e.typ) (b := 8) (if_pos I) rfl ⟨rfl, rfl⟩
 refine st (zo (b := decide ((min e.typ e.field) < 0)) (b' := decide (8 ≤ e.typ)) rfl (fun hbp => (if_pos hbp)) (st (mV (.bool ((decide ((min e.typ e.field) < 0)) || (decide (8 ≤ e.typ)))) (stc (V := Ix b2 6) rfl rfl (fun ar => ?_) ?_))))
 have au := ar
 try simp only [ze] at au
 exact xF rfl ⟨rfl, rfl⟩
 refine stc (V := Iv (e.field)) rfl rfl (fun J => ?_) ?_
 have av := J
 try simp only [ze] at av
 exact lD (Iv (e.field)) kT (if_pos J) (zb (c.b0) rfl) ⟨rfl, rfl⟩
 refine stc (V := .bool (decide (8 ≤ e.field))) rfl rfl (fun K => ?_) ?_
 have aw := K
 try simp only [ze] at aw
 exact xo (k := .i64) (a := e.field) (b := 8) (if_pos K) rfl ⟨rfl, rfl⟩
 refine st (zo (b := (decide ((min e.typ e.field) < 0)) || (decide (8 ≤ e.typ))) (b' := decide (8 ≤ e.field)) rfl (fun hbp => (if_pos hbp)) (st (aS (.bool (((decide ((min e.typ e.field) < 0)) || (decide (8 ≤ e.typ))) || (decide (8 ≤ e.field)))) (zd ?_))))
 cases q : ((decide ((min e.typ e.field) < 0)) || (decide (8 ≤ e.typ))) || (decide (8 ≤ e.field))
 have s := q
 try simp only [ze] at q
 refine zg rfl (zl (za (R0 fun _ => st (aS (Iv 0) (zd (zk (zG rT (show _ = (Iv 0 : Value) from rfl) ?_)))))))
 refine ⟨?_, (c.s1_)⟩
 unfold yo
 simp only [g, d, o, s, if_true, if_false, Bool.false_eq_true, ↓reduceIte]
 have s := q
 try simp only [ze] at q
 refine zh rfl (za (R0 fun _ => st (aS (Iv 8) (zd (zk (zG rT (show _ = (Iv 8 : Value) from rfl) ?_))))))
 refine ⟨?_, (c.s1_)⟩
 unfold yo
 simp only [g, d, o, s, if_true, if_false, Bool.false_eq_true, ↓reduceIte]
 have o := p
 try simp only [ze] at p
 refine zh rfl (za (R0 fun _ => st (aS (Iv 2) (zd (zk (zG rT (show _ = (Iv 2 : Value) from rfl) ?_))))))
 refine ⟨?_, (c.s1_)⟩
 unfold yo
 simp only [g, d, o, if_true, if_false, Bool.false_eq_true, ↓reduceIte]
 have d := h
 have h := zC h
 refine zh rfl (za (R0 fun _ => st (aS (Iv 9) (zd (zk (zG rT (show _ = (Iv 9 : Value) from rfl) ?_))))))
 refine ⟨?_, (c.s1_)⟩
 unfold yo
 simp only [g, d, if_true, if_false, Bool.false_eq_true, ↓reduceIte]
 have g := t
 try simp only [ze] at t
 refine zh rfl (za (R0 fun _ => st (aS (Iv 1) (zd (zk (zG rT (show _ = (Iv 1 : Value) from rfl) ?_))))))
 refine ⟨?_, (X.s1_)⟩
 unfold yo
 simp only [g, if_true, if_false, Bool.false_eq_true, ↓reduceIte]

def ltE (a b : Ev) : Bool := if (!decide (a.lam = b.lam)) = true then decide (a.lam < b.lam) else if (!decide (a.origin = b.origin)) = true then decide (a.origin < b.origin) else decide (a.seq < b.seq)
end Go.Proofs.YtbbabhaalmkbkaaGreatDoor
namespace Go.Proofs.YtbbabhaalmkbkaaGreatDoor
open Go.RowKit
def zaC (a b : Value) : Prop := b = a ∨ ∃ m n : Int, a = .int .i64 m ∧ b = .int .i64 n ∧ InR n
section
variable {α : Type} [Rep α] {G : Nat → Prop} {W w w0 : World} {As : List HP} {T : TypeId} {v : Value} {l : List α} {f0 : Nat → Prop} {X : Nat → Nat → Prop}
end
section
variable {P : Program} {d : Option Tmp} {ty : TypeId} {pos : String} {af : Array Edge} {gd : Option (Nat × Bool)} {σ : Env} {w w0 : World} {K : Value → World → Prop} {G : Nat → Prop} {W : World} {As : List HP} {f0 : Nat → Prop} {X X' : Nat → Nat → Prop}
end
def MildAll : List Value → List Value → Prop
  | a :: xs, b :: ys => zaC a b ∧ MildAll xs ys
  | _, _ => True
theorem MildAll.at_ : ∀ {xs ys : List Value}, MildAll xs ys → ∀ (j : Nat) v v', xs[j]? = some v → ys[j]? = some v' → zaC v v'
  | _ :: _, _ :: _, h, 0, _, _, h1, h2 => by
    simp only [List.getElem?_cons_zero, Option.some.injEq] at h1 h2
    subst h1; subst h2; exact h.1
  | _ :: _, _ :: _, h, j + 1, _, _, h1, h2 => MildAll.at_ h.2 j _ _ (by simpa using h1) (by simpa using h2)
  | [], _, _, j, _, _, h1, _ => by simp at h1
  | _ :: _, [], _, j, _, _, _, h2 => by simp at h2
end Go.Proofs.YtbbabhaalmkbkaaGreatDoor
set_option maxRecDepth 8000
set_option maxHeartbeats 4000000
namespace Go.Proofs.YtbbabhaalmkbkaaGreatDoor
open Go.Proofs Go.RowKit

theorem K2i : KLaw Tryz.prog 38 yI where
  inj := by
    rintro ⟨a, b⟩ ⟨c, d⟩ h
    simp only [yI, Value.agg.injEq, Array.mk.injEq, List.cons.injEq, Value.int.injEq, true_and, and_true] at h
    rw [h.1, h.2]
  desc := ⟨_, Tryz.underlying38, fun _ _ => rfl⟩
  check := by
    intro w e k
    show (Instr.checkKey e 10000 38 (.agg #[.int .i64 k.1, .int .i64 k.2])).run Tryz.prog w = .ok () w
    rw [show (10000 : Nat) = 9998 + 1 + 1 from rfl, Instr.checkKey]
    simp [go_sem, ck3]
  eql := by
    rintro w ⟨a, b⟩ ⟨c, d⟩
    rw [show decide ((a, b) = (c, d)) = (a == c && b == d) by rw [← Wc]; simp]
    unfold Op.equal Op.maxDepth yI
    simp [go_sem]
    by_cases h1 : a = c <;> by_cases h2 : b = d <;> simp [h1, h2]
  stays := by intro k; simp [Instr.sameBits, yI]
def EV (v : Value) (e : Ev) : HP := ⟨fun w f => ∃ vd, v = .agg (e.cells vd).toArray ∧ e.Ok ∧ (RowE (α := Int) own 3 vd e.deps).p w f, fun h hf => by
  obtain ⟨vd, h1, h2, h3⟩ := h
  exact ⟨vd, h1, h2, HP.loc _ h3 hf⟩⟩
def YB : Value := .agg ((⟨0, 0, 0, [], 0, 0, 0, 0, 0, 0⟩ : Ev).cells (.slice none 0 0)).toArray
def yg (L : List Ev) : Int × Int → Option Ev := fun k => L.find? (fun e => decide (e.origin = k.1 ∧ e.seq = k.2))
def ZB (L : List Ev) (o : Nat) : Nat := (L.filter (fun e => decide (e.origin = (o : Int)))).length
def zu (n : Nat) (L : List Ev) : List Int := (List.range n).map (fun o => ((ZB L o : Nat) : Int))
def zK (L : List Ev) : Int := L.foldr (fun e m => max m e.lam) 0
def SetO (b : Nat) (n : Nat) (L : List Ev) : HP := Ex1 fun vv => Ex1 fun m => Star [Blk b #[vv, .map (some m), .int .i64 (zK L)] 89, RowE (α := Int) own 3 vv (zu n L), MapO yI EV m (yg L)]
section
variable {G : Nat → Prop} {W w : World} {As : List HP} {b n : Nat} {L : List Ev}
theorem SetO.open (h : Sep G W (SetO b n L :: As) w) : ∃ vv m, Sep G W (Blk b #[vv, .map (some m), .int .i64 (zK L)] 89 :: RowE (α := Int) own 3 vv (zu n L) :: MapO yI EV m (yg L) :: As) w := by
  obtain ⟨vv, h⟩ := h.openEx
  obtain ⟨m, h⟩ := h.openEx
  exact ⟨vv, m, h.openStar⟩
theorem SetO.close {vv : Value} {m : Nat} {t : Int} {v : List Int} {X : Int × Int → Option Ev} (h : Sep G W (Blk b #[vv, .map (some m), .int .i64 t] 89 :: RowE (α := Int) own 3 vv v :: MapO yI EV m X :: As) w) (ht : t = zK L) (hv : v = zu n L) (hX : X = yg L) : Sep G W (SetO b n L :: As) w := by
  subst ht hv hX
  have h := Sep.closeStar (Bs := [Blk b #[vv, .map (some m), .int .i64 (zK L)] 89, RowE (α := Int) own 3 vv (zu n L), MapO yI EV m (yg L)]) h
  exact Sep.closeEx (A := fun vv => Ex1 fun m => Star [Blk b #[vv, .map (some m), .int .i64 (zK L)] 89, RowE (α := Int) own 3 vv (zu n L), MapO yI EV m (yg L)]) vv (Sep.closeEx (A := fun m => Star [Blk b #[vv, .map (some m), .int .i64 (zK L)] 89, RowE (α := Int) own 3 vv (zu n L), MapO yI EV m (yg L)]) m h)
structure SetR (W : World) (G : Nat → Prop) (m : Nat) (R : List ((Int × Int) × Value)) (L : List Ev) : Prop where
  gm : G m
  is : IsMap yI W m R
  at_ : ∀ k, ∃ (x : Ev) (vd : Value), x = (yg L k).getD default ∧ (ym R k).getD YB = .agg (x.cells vd).toArray ∧ x.Ok ∧ RdS W G vd x.deps ∧ (ym R k).isSome = (yg L k).isSome
theorem IsMap.move {κ : Type} [DecidableEq κ] {enc : κ → Value} {W w : World} {m : Nat} {R : List (κ × Value)} (h : IsMap enc W m R) (e : w.heap[m]? = W.heap[m]?) : IsMap enc w m R := by
  obtain ⟨es, c, h1, h2⟩ := h
  exact ⟨es, c, e.trans h1, h2⟩
theorem MapO.rd {m : Nat} (h : (MapO yI EV m (yg L)).p W G) : ∃ R, SetR W G m R L := by
  obtain ⟨R, g, h1, h2, h3, h4⟩ := h
  refine ⟨R, h1, h2, fun k => ?_⟩
  have h5 := h3 k
  cases hR : ym R k with
  | none =>
    cases hX : yg L k with
    | none => exact ⟨default, .slice none 0 0, rfl, rfl, by constructor <;> decide, RdS.nil _ _, rfl⟩
    | some x => rw [hR, hX] at h5; exact h5.elim
  | some v =>
    cases hX : yg L k with
    | none => rw [hR, hX] at h5; exact h5.elim
    | some x =>
      rw [hR, hX] at h5
      obtain ⟨vd, e1, e2, e3⟩ := h5
      exact ⟨x, vd, rfl, e1, e2, (RowE.rd e3).weak (fun b _ hb => (h4.sub k b hb).1), rfl⟩
theorem SetO.sh (h : (SetO b n L).p W G) : ∃ vv m R, (Blk b #[vv, .map (some m), .int .i64 (zK L)] 89).p W G ∧ RdS W G vv (zu n L) ∧ SetR W G m R L := by
  obtain ⟨vv, m, h⟩ := h
  obtain ⟨R, hR⟩ := MapO.rd (Star.at_ h (i := 2) rfl)
  exact ⟨vv, m, R, Star.at_ h (i := 0) rfl, RowE.rd (T := 3) (Star.at_ h (i := 1) rfl), hR⟩
theorem Yq {K : Value → World → Prop} {P : Program} {d : Option Tmp} {ty : TypeId} {pos : String} {af : Array Edge} {g : Option (Nat × Bool)} {σ : Env} {t kt et : TypeId} {x y : Operand} {m : Nat} {R : List ((Int × Int) × Value)} {k : Int × Int} {v : Value} {bb : Bool} (h : Sep G W As w) (hr : SetR W G m R L) (hK : KLaw P kt yI) (hU : P.underlying t = some (.map kt et)) (hZ : ∀ w, (zeroValue et).run P w = .ok YB w)
    (hx : ev σ x = .map (some m)) (hy : ev σ y = yI k) (hv : (ym R k).getD YB = v) (hb : (ym R k).isSome = bb) (hk : K (.tuple #[v, .bool bb]) w) : opV P ⟨d, .lookup t x y true, ty, pos, af, g⟩ σ w K := by
  subst hv hb
  exact YA hK hU hZ hx hy (hr.is.move (h.gb hr.gm)) hk
end
theorem KM {n : Nat} : List.replicate n (0 : Int) = zu n [] := by
  unfold zu ZB
  refine List.ext_getElem (by simp) (fun i h1 h2 => by simp)
theorem Yn {n : Nat} {L : List Ev} : (zu n L).length = n := by simp [zu]
theorem UE {n : Nat} {L : List Ev} {o : Nat} (h : o < n) : (zu n L).getD o 0 = ((ZB L o : Nat) : Int) := by simp [zu, h]
theorem Qi {G : Nat → Prop} {W w : World} {Rs : List HP} {n : Nat} (hn : n ≤ 1000) (hS0 : Sep G W Rs w) : Ret Tryz.prog 25 [.int .i64 ((n : Nat) : Int)] w (fun r w' => ∃ (b : Nat), r = (.pointer (some ⟨b, 0, none⟩) : Value) ∧ Sep G W ((SetO b n ([] : List Ev)) :: Rs) w') := by
 refine zi (args := [Iw n]) Tryz.func25 rfl rfl ?_
 refine za (R0 fun _ => st (aS (.pointer none) (zd (za (R0 fun _ => st (mV (Iw n) (st (Yb (α := Int) (T := 3) (bytes := 8) (n := n) (x1 := (0 : Int)) mT ⟨_, _, rfl, rfl, rfl, rfl, rfl, fun _ _ => ⟨rfl, by decide⟩⟩ rfl rfl rfl (by show n * 8 ≤ 140737488355328; omega) ?_))))))))
 intro l d m he3 hl4 o
 have f : Sep G W ((RowE (α := Int) own 3 (Iy d n n) (List.replicate n (0 : Int))) :: Rs) l := hS0.made m o
 have g := f.r0
 have hr8s : _ * 8 ≤ _ := g.2
 refine st (Zf ?_)
 intro p q
 obtain ⟨a, e⟩ : ∃ z, z = l.heap.size := ⟨_, rfl⟩; rw [← e]
 have h : Sep G W ((MapO yI EV a (fun _ => none)) :: (RowE (α := Int) own 3 (Iy d n n) (List.replicate n (0 : Int))) :: Rs) p := (by rw [e]; exact f.mapoNew q)
 refine st (zI (parts' := [(0, (Iy d n n)), (1, .map (some a))]) (v := .agg #[(Iy d n n), .map (some a), Iv 0]) rfl (by obtain ⟨_, _, i, _⟩ := g.1; rw [show (Iy d n n) = Value.slice _ _ _ from i]; simp [Instr.build, Instr.fill, go_sem]) (st (zH (v := .agg #[(Iy d n n), .map (some a), Iv 0]) rfl ?_)))
 intro s c j
 refine st (aS (Ix c 0) (zd (zk (zG Tryz.results25 (show _ = (Ix c 0 : Value) from rfl) ?_))))
 have k : Sep G W ((SetO c n ([] : List Ev)) :: Rs) s := SetO.close ((h.new j).s3_acb) rfl KM rfl
 refine ⟨c, rfl, k⟩

theorem KP {G : Nat → Prop} {W w : World} {Rs : List HP} {b : Nat} {n : Nat} {L : List Ev} (hb : (SetO b n L).p W G) (hS0 : Sep G W Rs w) : Ret Tryz.prog 33 [.pointer (some ⟨b, 0, none⟩)] w (fun r w' => ∃ (v : Value), r = (v : Value) ∧ Sep G W ((RowE (α := Int) own 3 v (zu n L)) :: Rs) w') := by
 refine zi (args := [Ix b 0]) Tryz.func33 rfl rfl ?_
 obtain ⟨c, m2, R3, g, d, hr6⟩ := SetO.sh hb
 have hsm7 : (zu n L).length * 8 ≤ 140737488355328 := d.small
 refine za (R0 fun _ => st (aS (Iz) (zd (za (R0 fun _ => st (mV (Ix b 0) (st (zx (b := b) (o := 0) rfl (st (XD rfl (st (lD c qT rfl (zb (hS0.gblk g) rfl) (st (cL nR (xI (l := zu n L) (vl := c) d hS0) ?_))))))))))))))
 rintro e w9 ⟨_, rfl, a⟩
 have f := a.r0
 have hr11s : _ * 8 ≤ _ := f.2
 refine st (aS e (zd (zk (zG Tryz.results33 (show _ = (e : Value) from rfl) ?_))))
 refine ⟨e, rfl, a⟩

theorem Jn {G : Nat → Prop} {W w : World} {Rs : List HP} {b : Nat} {n : Nat} {L : List Ev} (hb : (SetO b n L).p W G) (hS0 : Sep G W Rs w) : Ret Tryz.prog 20 [.pointer (some ⟨b, 0, none⟩)] w (fun r w' => r = (.int .i64 (zK L) : Value) ∧ Sep G W Rs w') := by
 refine zi (args := [Ix b 0]) Tryz.func20 rfl rfl ?_
 obtain ⟨vv1, m2, R3, a, c, hr6⟩ := SetO.sh hb
 have hsm7 : (zu n L).length * 8 ≤ 140737488355328 := c.small
 refine za (R0 fun _ => st (aS (Iv 0) (zd (za (R0 fun _ => st (mV (Ix b 0) (st (zx (b := b) (o := 0) rfl (st (Ug rfl (st (lD (Iv (zK L)) kT rfl (zb (hS0.gblk a) rfl) (st (aS (Iv (zK L)) (zd (zk (zG Tryz.results20 (show _ = (Iv (zK L) : Value) from rfl) ?_)))))))))))))))))
 refine ⟨rfl, hS0⟩

end Go.Proofs.YtbbabhaalmkbkaaGreatDoor
set_option maxRecDepth 8000
set_option maxHeartbeats 4000000
namespace Go.Proofs.YtbbabhaalmkbkaaGreatDoor
open Go.Proofs Go.RowKit

def xm (L : List Ev) (e : Ev) (o : Nat) : Bool := decide (e.deps.getD o 0 = 0) || match yg L ((o : Int), e.deps.getD o 0) with
  | none => false
  | some x => decide (x.lam < e.lam) && (List.range x.deps.length).all fun i => decide (x.deps.getD i 0 ≤ e.deps.getD i 0)
theorem zaS {L : List Ev} {e : Ev} {o : Nat} (h : e.deps.getD o 0 = 0) : xm L e o = true := by unfold xm; rw [decide_eq_true h]; rfl
theorem zaW {L : List Ev} {e : Ev} {o : Nat} (h : ¬ e.deps.getD o 0 = 0) (hn : (yg L ((o : Int), e.deps.getD o 0)).isSome = false) : xm L e o = false := by
  unfold xm
  rw [Option.isSome_eq_false_iff, Option.isNone_iff_eq_none] at hn
  rw [hn, decide_eq_false h]; rfl
theorem Um {L : List Ev} {e x : Ev} {o : Nat} (h : ¬ e.deps.getD o 0 = 0) (hx : x = (yg L ((o : Int), e.deps.getD o 0)).getD default) (hn : (yg L ((o : Int), e.deps.getD o 0)).isSome = true) :
    xm L e o = (decide (x.lam < e.lam) && (List.range x.deps.length).all fun i => decide (x.deps.getD i 0 ≤ e.deps.getD i 0)) := by
  unfold xm
  obtain ⟨y, hy⟩ := Option.isSome_iff_exists.1 hn
  rw [hy] at hx
  simp only [Option.getD_some] at hx
  subst hx
  rw [hy]; simp only [decide_eq_false h, Bool.false_or]
theorem Vy {L : List Ev} {k : Int × Int} {x : Ev} (h : yg L k = some x) : x ∈ L ∧ x.origin = k.1 ∧ x.seq = k.2 := by
  have h1 := List.mem_of_find?_eq_some h
  have h2 := List.find?_some h
  simp only [decide_eq_true_eq] at h2
  exact ⟨h1, h2⟩
theorem Jx {n : Nat} {L : List Ev} {k : Int × Int} {x : Ev} (hl : ∀ y ∈ L, y.deps.length = n) (hx : x = (yg L k).getD default) (hn : (yg L k).isSome = true) : x.deps.length = n := by
  obtain ⟨y, hy⟩ := Option.isSome_iff_exists.1 hn
  rw [hy] at hx
  simp only [Option.getD_some] at hx
  subst hx
  exact hl _ (Vy hy).1
theorem zao {G : Nat → Prop} {W w : World} {Rs : List HP} {b : Nat} {n : Nat} {L : List Ev} (hb : (SetO b n L).p W G) {e : Ev} {de0 : Value} (hde0 : RdS W G de0 e.deps) (oe : e.Ok) {o : Nat} (ho : o < n) (hS0 : Sep G W Rs w) (hel : e.deps.length = n) (hlen : ∀ y ∈ L, y.deps.length = n) : Ret Tryz.prog 36 [.pointer (some ⟨b, 0, none⟩), .agg (e.cells de0).toArray, .int .i64 ((o : Nat) : Int)] w (fun r w' => r = (.bool ((xm L e o)) : Value) ∧ Sep G W Rs w') := by
 have hde0s : _ * 8 ≤ _ := hde0.small
 refine zi (args := [Ix b 0, .agg (e.cells de0).toArray, Iw o]) Tryz.func36 rfl rfl ?_
 obtain ⟨vv1, m2, R3, ak, al, Q⟩ := SetO.sh hb
 have hsm7 : (zu n L).length * 8 ≤ 140737488355328 := al.small
 refine za (R0 fun _ => st (zH (v := .agg (e.cells de0).toArray) rfl ?_))
 intro w10 S am
 have g := hS0.new am
 refine st (aS (.bool false) (zd (za (R0 fun _ => st (xc rfl (st (lD de0 qT rfl (zb (g.b0) rfl) (st (mV (Iw o) ?_)))))))))
 have T : o < e.deps.length := bo
 refine st (zn (k := 1) (i := o) mT nT rfl hde0.sl rfl T ?_)
 have C : o < e.deps.length := bo
 obtain ⟨J, hxe13⟩ := hde0.intD C
 have K := g.cells J (hde0.foot (ne_of_lt C))
 refine st (lD (Iv ((e.deps.getD o 0))) kT rfl (K.get (j := 0) rfl) (st (aS (Iv ((e.deps.getD o 0))) (zd (za (za (R0 fun _ => st (mV (Iv ((e.deps.getD o 0))) (st (zN (k := .i64) (a := (e.deps.getD o 0)) (b := 0) rfl rfl (zd ?_)))))))))))
 cases d : decide ((e.deps.getD o 0) = 0)
 have hc16r := d
 have d := fD d
 refine zg rfl (zl (za (yq (by kernel_rfl) (fun _ => (st (mV (Ix b 0) (st (zx (b := b) (o := 0) rfl (st (Va rfl (st (lD (.map (some m2)) pR rfl (zb (g.gblk ak) rfl) (st (mV (Iw o) (st (mV (Iv ((e.deps.getD o 0))) (st (zI (parts' := [(0, Iw o), (1, Iv ((e.deps.getD o 0)))]) (v := .agg #[Iw o, Iv ((e.deps.getD o 0))]) rfl (by simp +zetaDelta [Instr.build, Instr.fill, Ev.cells, go_sem, Mv.cells, Fld.cells, Typ.cells, Prj.cells, Dcl.cells, Cel.cells, AskR.cells, CelS.cells, Ev.cells, Ent.cells, Sta.cells]) ?_))))))))))))))))))
 obtain ⟨c, f, z, U, hok21, l, X⟩ := Q.at_ (((o : Nat) : Int), (e.deps.getD o 0))
 have hsm24 : c.deps.length * 8 ≤ 140737488355328 := l.small
 refine st (Yq (k := (((o : Nat) : Int), (e.deps.getD o 0))) g Q K2i qR pT rfl (show _ = (.agg #[Iw o, Iv ((e.deps.getD o 0))] : Value) from rfl) U X (st (mV (.tuple #[.agg (c.cells f).toArray, .bool ((yg L (((o : Nat) : Int), (e.deps.getD o 0))).isSome)]) (st (zj (vs := [.agg (c.cells f).toArray, .bool ((yg L (((o : Nat) : Int), (e.deps.getD o 0))).isSome)]) (i := 0) (v := .agg (c.cells f).toArray) rfl rfl (st (zj (vs := [.agg (c.cells f).toArray, .bool ((yg L (((o : Nat) : Int), (e.deps.getD o 0))).isSome)]) (i := 1) (v := .bool ((yg L (((o : Nat) : Int), (e.deps.getD o 0))).isSome)) rfl rfl (st (zr pT ?_)))))))))
 intro w27 R Y
 have D := g.new Y
 refine stn (zp (v := .agg (c.cells f).toArray) (c' := (c.cells f).toArray) lT rfl rfl (D.b0) (zW ⟨rfl, rfl, rfl, l.sl.one, rfl, rfl, rfl, rfl, rfl, rfl, trivial⟩) yqc rfl ?_)
 intro w29 Z
 have t := D.pt0 Z
 refine st (aS (.bool ((yg L (((o : Nat) : Int), (e.deps.getD o 0))).isSome)) (zd (za (za (zv kr (st (mV (.bool ((yg L (((o : Nat) : Int), (e.deps.getD o 0))).isSome)) (st (yH (a := (yg L (((o : Nat) : Int), (e.deps.getD o 0))).isSome) rfl (st (mV (.bool (!((yg L (((o : Nat) : Int), (e.deps.getD o 0))).isSome))) (stc (V := Ix R 2) rfl rfl (fun aa => ?_) ?_))))))))))))
 have ab := aa
 try simp only [ze] at ab
 exact Zc rfl ⟨rfl, rfl⟩
 refine stc (V := Iv (c.lam)) rfl rfl (fun E => ?_) ?_
 have ac := E
 try simp only [ze] at ac
 exact lD (Iv (c.lam)) kT (if_pos E) (zb (t.b0) rfl) ⟨rfl, rfl⟩
 refine stc (V := Ix S 2) rfl rfl (fun ad => ?_) ?_
 have ae := ad
 try simp only [ze] at ae
 exact Zc rfl ⟨rfl, rfl⟩
 refine stc (V := Iv (e.lam)) rfl rfl (fun F => ?_) ?_
 have af := F
 try simp only [ze] at af
 exact lD (Iv (e.lam)) kT (if_pos F) (zb (t.b1) rfl) ⟨rfl, rfl⟩
 refine stc (V := .bool (decide (e.lam ≤ c.lam))) rfl rfl (fun B => ?_) ?_
 have ag := B
 try simp only [ze] at ag
 exact xo (k := .i64) (a := c.lam) (b := e.lam) (if_pos B) (if_pos B) ⟨rfl, rfl⟩
 refine st (zo (b := !((yg L (((o : Nat) : Int), (e.deps.getD o 0))).isSome)) (b' := decide (e.lam ≤ c.lam)) rfl (fun hbp => (if_pos hbp)) (zd ?_))
 cases A : (!((yg L (((o : Nat) : Int), (e.deps.getD o 0))).isSome)) || (decide (e.lam ≤ c.lam))
 have s := A
 try simp only [ze] at A
 have q := s
 simp only [Bool.or_eq_false_iff, Bool.not_eq_false', decide_eq_false_iff_not, Bool.not_eq_eq_eq_not, Bool.not_false] at q
 have hxl9 := Jx hlen z q.1
 refine zg rfl (zl (za (za (R0 fun _ => st (xc rfl (st (lD f qT rfl (zb (t.b0) rfl) (st (zL (n := c.deps.length) mT rfl l.sl (st (mV (Iv 0) (zd (zw (yh (fun mq σ wq => ∃ (k : Nat) (ρ : Env), mq = c.deps.length - k ∧ σ = ye ρ [(0, Ix b 0), (4, Ix S 0), (40, f), (41, Iw c.deps.length), (42, Iw k)] ∧ (k ≤ c.deps.length) ∧ (∀ i, i < k → c.deps.getD i 0 ≤ e.deps.getD i 0) ∧ Sep G W ((Blk R (c.cells f).toArray 41) :: (Blk S (e.cells de0).toArray 41) :: Rs) wq) ⟨0, _, rfl, sSf, Nat.zero_le _, (fun i h => absurd h (Nat.not_lt_zero i)), t⟩ ?_))))))))))))))
 rintro m44 σ45 w43 ⟨k, ρl1, rfl, rfl, hkk, hm, m⟩
 refine za (R0 fun _ => st (zF (k := .i64) (a := ((k : Nat) : Int)) (b := ((c.deps.length : Nat) : Int)) rfl rfl (zd (za ?_))))
 cases u : decide (((k : Nat) : Int) < ((c.deps.length : Nat) : Int))
 have hc47r := u
 have u := fD u
 refine zg rfl (yi (yb (za (R0 fun _ => st (aS (.bool true) (zd (zk (zG sT (show _ = (.bool true : Value) from rfl) ?_))))))))
 refine ⟨?_, (m.s2_)⟩
 rw [Um d z q.1, decide_eq_true (show c.lam < e.lam by omega), Bool.true_and]
 rw [List.all_eq_true.2 (fun i hi => decide_eq_true (hm i (by have := List.mem_range.1 hi; omega)))]
 have u := tD u
 refine zh rfl (zl (za (zw (za (R0 fun _ => st (mV (Iw k) ?_))))))
 have ah : k < c.deps.length := bo
 refine st (zn (k := 1) (i := k) mT nT rfl l.sl rfl ah ?_)
 have H : k < c.deps.length := bo
 obtain ⟨M, hxe50⟩ := l.intD H
 have N := m.cells M (l.foot (ne_of_lt H))
 refine st (lD (Iv ((c.deps.getD k 0))) kT rfl (N.get (j := 0) rfl) (st (aS (Iw k) (st (aS (Iv ((c.deps.getD k 0))) (zd (za (R0 fun _ => st (mV (Iv ((c.deps.getD k 0))) (st (xc rfl (st (lD de0 qT rfl (zb (m.b1) rfl) (st (mV (Iw k) ?_)))))))))))))))
 have ai : k < e.deps.length := bo
 refine st (zn (k := 1) (i := k) mT nT rfl hde0.sl rfl ai ?_)
 have I : k < e.deps.length := bo
 obtain ⟨O, hxe54⟩ := hde0.intD I
 have P := m.cells O (hde0.foot (ne_of_lt I))
 refine st (lD (Iv ((e.deps.getD k 0))) kT rfl (P.get (j := 0) rfl) (st (yM (k := .i64) (a := (c.deps.getD k 0)) (b := (e.deps.getD k 0)) rfl rfl (zd ?_))))
 cases x : decide ((e.deps.getD k 0) < (c.deps.getD k 0))
 have hc57r := x
 have x := fD x
 refine zg rfl (zl (R0 fun _ => ?_))
 have aj : InR ((k + 1 : Nat) : Int) := bo
 refine st (zV (r := ((k + 1 : Nat) : Int)) (k := .i64) (a := ((k : Nat) : Int)) (b := 1) rfl rfl (by rw [show (((k : Nat) : Int) + 1 : Int) = ((k + 1 : Nat) : Int) from bo]; exact zJ aj) (st (mV (Iw (k + 1)) (zd ?_))))
 exact ⟨_, by omega, k + 1, _, rfl, sSf, by omega, (yU hm om), m⟩
 have x := tD x
 refine zh rfl (za (R0 fun _ => st (aS (.bool false) (zd (zk (zG sT (show _ = (.bool false : Value) from rfl) ?_))))))
 refine ⟨?_, (m.s2_)⟩
 rw [Um d z q.1, decide_eq_true (show c.lam < e.lam by omega), Bool.true_and]
 congr 1
 symm
 rw [List.all_eq_false]
 exact ⟨k, List.mem_range.2 (by omega), by simp only [decide_eq_true_eq]; omega⟩
 have s := A
 try simp only [ze] at A
 refine zh rfl (za (R0 fun _ => st (aS (.bool false) (zd (zk (zG sT (show _ = (.bool false : Value) from rfl) ?_))))))
 refine ⟨?_, (t.s2_)⟩
 cases q : (yg L (((o : Nat) : Int), (e.deps.getD o 0))).isSome
 rw [zaW d q]
 rw [Um d z q]
 have h9 : ¬ c.lam < e.lam := by rw [q] at s; simpa using s
 simp [h9]
 have d := tD d
 refine zh rfl (za (R0 fun _ => st (aS (.bool true) (zd (zk (zG sT (show _ = (.bool true : Value) from rfl) ?_))))))
 refine ⟨?_, (g.s1_)⟩
 rw [zaS d]

end Go.Proofs.YtbbabhaalmkbkaaGreatDoor
namespace Go.Proofs.YtbbabhaalmkbkaaGreatDoor
open Go.RowKit

abbrev FR (r : Option Nat) : Fence := { Fence.wide with round := r }
structure SimD (ds : List Deferred) (n : Nat) (σ : Env) (a : Act) : Prop where
  size : a.tmps.size = n
  defers : a.defers = ds
  get : ∀ i, a.tmps.getD i undef = σ i
section
variable {P : Program} {n : Nat} {Q : xH} {σ : Env} {w : World} {ds : List Deferred} {r : Option Nat} {a : Act}
theorem SimD.sim (h : SimD [] n σ a) : Sim n σ a := ⟨h.size, h.defers, h.get⟩
theorem SimD.of (h : Sim n σ a) : SimD [] n σ a := ⟨h.size, h.defers, h.get⟩
theorem SimD.low (h : SimD ds n σ a) : Sim n σ { a with defers := [] } := ⟨h.size, rfl, h.get⟩
theorem SimD.eval (h : SimD ds n σ a) : a.eval = ev σ := h.low.eval
theorem SimD.put (h : SimD ds n σ a) {dst : Option Nat} (hd : ∀ d, dst = some d → d < n) (v : Value) : SimD ds n (Zj σ dst v) (a.put dst v) := by
  have h1 := h.low.put hd v
  refine ⟨?_, ?_, ?_⟩
  · have := h1.size; cases dst <;> exact this
  · have := h.defers; cases dst <;> exact this
  · have := h1.get; cases dst <;> exact this
theorem SimD.yielded (h : SimD ds n σ a) (ops : Array Oper) : yielded ops a.tmps = yl ops σ := h.low.yielded ops

def opX (P : Program) (o : Oper) (σ : Env) (w : World) (K : Value → World → Prop) : Prop :=
  match (execOp (ev σ) o).run P w with
  | .ok (.value v) w' => K v w'
  | .ok .skip w' => K undef w'
  | .ok (.enter f args) w' => Calls P f args w' fun e w'' => ∃ v, e = .returned v ∧ K v w''
  | .ok (.round l f tmps assign body) w' => RoundIn (FR none) 0 P l f tmps assign body w' fun e w'' => ∃ v, e = .returned v ∧ K v w''
  | _ => False
theorem KA {o : Oper} {K : Value → World → Prop} (h : opV P o σ w K) : opX P o σ w K := by
  unfold opV at h
  unfold opX
  generalize (execOp (ev σ) o).run P w = q at *
  cases q with
  | halt x w' => cases x <;> exact h.elim
  | ok x w' => cases x <;> first | exact h | exact h.elim
def xt (o : Oper) : Bool := match o.op with | .defer _ => false | _ => true
theorem Xk {o : Oper} (h : xt o = true) : ∀ c, o.op ≠ .defer c := by
  intro c hc
  unfold xt at h
  rw [hc] at h
  cases h
theorem Uf {f : FuncId} {args : Array Value} {R : Ending → World → Prop} (h : Calls P f args w R) : CallsIn (FR r) 0 P f args w R := callsIn_wide.2 h
theorem KL {o : Oper} {K : Value → World → Prop} {next : Act → World → Prop} {Q' : Exit → Act → World → Prop} (hs : SimD ds n σ a) (hnd : xt o = true)
    (hn : ∀ a' v w', SimD ds n (Zj σ o.dst v) a' → K v w' → next a' w') (hd : ∀ d, o.dst = some d → d < n) (h : opX P o σ w K) : o.wpIn (FR r) 0 P a w next Q' := by
  unfold Oper.wpIn
  refine ⟨fun _ _ => trivial, ?_⟩
  rw [Oper.semAt_eq _ _ _ (Xk hnd), hs.eval]
  unfold opX at h
  generalize (execOp (ev σ) o).run P w = q at *
  cases q with
  | halt x w' => cases x <;> exact h.elim
  | ok x w' =>
    cases x <;> try exact h.elim
    case value v => exact hn _ _ _ (hs.put hd v) h
    case skip => exact hn _ _ _ (hs.put hd undef) h
    case enter f args =>
      refine ⟨fun h => (by cases h), CallsIn.mono (Uf h) fun e w'' => ?_⟩
      rintro ⟨v, rfl, hk⟩
      exact hn _ _ _ (hs.put hd v) hk
    case round l f tmps assign body =>
      refine ⟨fun h => (by cases h), RoundIn.mono h fun e w'' => ?_⟩
      rintro ⟨v, rfl, hk⟩
      exact hn _ _ _ (hs.put hd v) hk

def YJ (P : Program) (ops : Array Oper) (K : Env → World → Prop) : List Oper → Env → World → Prop
  | [], σ, w => K σ w
  | o :: rest, σ, w => if Region.wanted o (yl ops σ) then opX P o σ w (fun v w' => YJ P ops K rest (Zj σ o.dst v) w') else YJ P ops K rest (Zj σ o.dst undef) w
theorem Kq {o : Oper} {K K' : Value → World → Prop} (h : ∀ v w', K v w' → K' v w') (hh : opX P o σ w K) : opX P o σ w K' := by
  unfold opX at *
  generalize (execOp (ev σ) o).run P w = q at *
  cases q with
  | halt x w' => cases x <;> exact hh.elim
  | ok x w' =>
    cases x <;> try exact hh.elim
    case value v => exact h _ _ hh
    case skip => exact h _ _ hh
    case enter f args =>
      refine Calls.mono hh fun e w'' => ?_
      rintro ⟨v, rfl, hk⟩
      exact ⟨v, rfl, h _ _ hk⟩
    case round l f tmps assign body =>
      refine RoundIn.mono hh fun e w'' => ?_
      rintro ⟨v, rfl, hk⟩
      exact ⟨v, rfl, h _ _ hk⟩
theorem Wu {ops : Array Oper} {K : Env → World → Prop} : ∀ {l : List Oper} {σ : Env} {w : World}, WPs P ops K l σ w → YJ P ops K l σ w
  | [], _, _, h => h
  | o :: rest, σ, w, h => by
    simp only [WPs] at h
    simp only [YJ]
    split
    · rename_i hw
      rw [if_pos hw] at h
      exact Kq (fun v w' hk => Wu hk) (KA h)
    · rename_i hw
      rw [if_neg hw] at h
      exact Wu h
theorem stX {ops : Array Oper} {K : Env → World → Prop} {rest : List Oper} {d : Nat} {op : Op} {ty : TypeId} {pos : String} {af : Array Edge} (h : opX P ⟨some d, op, ty, pos, af, none⟩ σ w (fun v w' => YJ P ops K rest (upd σ d v) w')) : YJ P ops K (⟨some d, op, ty, pos, af, none⟩ :: rest) σ w := h
theorem zby {ops : Array Oper} {K : Env → World → Prop} {rest : List Oper} {d : Nat} {op : Op} {ty : TypeId} {pos : String} {af : Array Edge} (h : opV P ⟨some d, op, ty, pos, af, none⟩ σ w (fun v w' => YJ P ops K rest (upd σ d v) w')) : YJ P ops K (⟨some d, op, ty, pos, af, none⟩ :: rest) σ w := KA h
theorem JH {ops : Array Oper} {K : Env → World → Prop} (h : K σ w) : YJ P ops K [] σ w := h
theorem XR {ops : Array Oper} {K : Env → World → Prop} {Q' : Exit → Act → World → Prop} (hK : ∀ a σ w, SimD ds n σ a → K σ w → Q' .normal a w) :
    ∀ (l : List Oper), yJ n l = true → l.all xt = true → ∀ (σ : Env) (a : Act) (w : World), SimD ds n σ a → YJ P ops K l σ w → wpListIn (FR r) 0 P ops Q' l a w
  | [], _, _, σ, a, w, hs, h => hK a σ w hs h
  | o :: rest, hd, hnd, σ, a, w, hs, h => by
    simp only [yJ, List.all_cons, Bool.and_eq_true] at hd hnd
    have hd1 : ∀ d, o.dst = some d → d < n := by
      intro d hd'
      have := hd.1
      rw [hd'] at this
      simpa using this
    have ih := XR (ops := ops) hK rest (by simpa [yJ] using hd.2) hnd.2
    simp only [YJ] at h
    simp only [wpListIn, hs.yielded]
    split
    · rename_i hw
      rw [if_pos hw] at h
      exact KL hs hnd.1 (fun a' v w' hs' hk => ih _ a' w' hs' hk) hd1 h
    · rename_i hw
      rw [if_neg hw] at h
      exact ⟨fun _ _ => trivial, ih _ _ _ (hs.put hd1 undef) h⟩

def WPX (r : Option Nat) (ds : List Deferred) (P : Program) (n : Nat) (c : Code) (Q : xH) (σ : Env) (w : World) : Prop :=
  ∀ a, SimD ds n σ a → c.wpIn (FR r) 0 P (fun e a' w' => ∃ σ', SimD ds n σ' a' ∧ Q e σ' w') a w
theorem JJ {c : Code} (h : WPX none [] P n c Q σ w) : WP P n c Q σ w := fun a hs =>
  wp_mono (wpIn_wide.1 (h a (.of hs))) (by rintro e a' w' ⟨σ', h1, h2⟩; exact ⟨σ', h1.sim, h2⟩)
theorem YE {id : Nat} {l : List Oper} (hd : (yJ n l && l.all xt) = true) (h : YJ P l.toArray (Q .normal) l σ w) : WPX r ds P n (.region id l.toArray false) Q σ w := by
  intro a hs
  rw [Bool.and_eq_true] at hd
  exact wpIn_region_lit (XR (fun a σ w hs hk => ⟨σ, hs, hk⟩) l hd.1 hd.2 σ a w hs h)
theorem VS {id : Nat} {l : List Oper} (hd : (yJ n l && l.all xt) = true) (h : WPs P l.toArray (Q .normal) l σ w) : WPX r ds P n (.region id l.toArray false) Q σ w := YE hd (Wu h)
theorem xN {id : Nat} {l : List Oper} (hd : (yJ n l && l.all xt) = true) (h : ∀ ops, WPs P ops (Q .normal) l σ w) : WPX r ds P n (.region id l.toArray false) Q σ w := VS hd (h _)
theorem WH {x y : Code} (h : WPX r ds P n x (KU (WPX r ds P n y Q) Q) σ w) : WPX r ds P n (.seq x y) Q σ w := by
  intro a hs
  refine wpIn_seq (wpIn_mono (h a hs) ?_)
  rintro e a' w' ⟨σ', hs', hq⟩
  cases e <;> first | exact hq a' hs' | exact ⟨σ', hs', hq⟩
theorem KY (h : Q .normal σ w) : WPX r ds P n .skip Q σ w := fun _ hs => wpIn_skip ⟨σ, hs, h⟩
theorem JF (h : Q .ret σ w) : WPX r ds P n .ret Q σ w := fun _ hs => wpIn_ret ⟨σ, hs, h⟩
theorem Vv {c : Operand} {x y : Code} {t : Bool} (hc : ev σ c = .bool t) (ht : t = true → WPX r ds P n x Q σ w) (hf : t = false → WPX r ds P n y Q σ w) : WPX r ds P n (.cond c x y) Q σ w := by
  intro a hs
  cases t
  · exact wpIn_cond_false (by rw [hs.eval]; exact hc) (hf rfl a hs)
  · exact wpIn_cond_true (by rw [hs.eval]; exact hc) (ht rfl a hs)
theorem Us {c : Operand} {x y : Code} (hc : ev σ c = .bool true) (ht : WPX r ds P n x Q σ w) : WPX r ds P n (.cond c x y) Q σ w := Vv hc (fun _ => ht) (fun h => nomatch h)
theorem Uu {c : Operand} {x y : Code} (hc : ev σ c = .bool false) (hf : WPX r ds P n y Q σ w) : WPX r ds P n (.cond c x y) Q σ w := Vv hc (fun h => nomatch h) (fun _ => hf)
theorem Qp {id : Nat} {c : Code} (h : WPX r ds P n c (Yv id Q) σ w) : WPX r ds P n (.block id c) Q σ w := by
  intro a hs
  refine wpIn_block (wpIn_mono (h a hs) ?_)
  rintro e a' w' ⟨σ', hs', hq⟩
  cases e <;> try exact ⟨σ', hs', hq⟩
  case exit id' =>
    simp only [Yv] at hq
    simp only [Exit.inBlock]
    split <;> rename_i hid
    · rw [if_pos hid] at hq; exact ⟨σ', hs', hq⟩
    · rw [if_neg hid] at hq; exact ⟨σ', hs', hq⟩

theorem JQ {c : Code} {kv : List (Nat × Value)} (hk : Xy σ kv) (h : ∀ ρ, WPX r ds P n c Q (ye ρ kv) w) : WPX r ds P n c Q σ w := by
  rw [xa hk]; exact h σ

theorem JO {o : Oper} {w : World} {K : Act → World → Prop} {Q' : Exit → Act → World → Prop} (hnd : xt o = true) (h : o.wp P a w K Q') : o.wpIn (FR r) 0 P a w K Q' := by
  unfold Oper.wp at h
  unfold Oper.wpIn
  refine ⟨fun _ _ => trivial, ?_⟩
  rw [Oper.semAt_eq _ _ _ (Xk hnd)]
  generalize (execOp a.eval o).run P w = q at *
  cases q with
  | halt x w' => cases x <;> exact h
  | ok x w' =>
    cases x <;> try exact h
    case enter f args => exact ⟨fun h => (by cases h), Uf h⟩
    case row row args =>
      refine ⟨fun h => (by cases h), fun c cs _ => ?_⟩
      obtain ⟨v, w', h1, h2⟩ := h c cs
      exact ⟨v, w', h1, stepsIn_wide.2 h2⟩
    case round => exact False.elim h
theorem ZY {ops : Array Oper} {Q' : Exit → Act → World → Prop} (hnd : ∀ (i : Nat) (o : Oper), ops[i]? = some o → xt o = true) (hQ : ¬ LetsOut Q') : ∀ (fuel : Nat) (listed : Array Bool) (a : Act) (w : World), wpAny P .any ops Q' fuel listed a w → wpAnyIn (FR r) 0 P .any ops Q' fuel listed a w
  | 0, _, _, _, h => h
  | fuel + 1, listed, a, w, h => by
    refine ⟨h.1, fun i hi => ?_⟩
    have h1 := h.2 i hi
    unfold wpOp at h1
    unfold wpOpIn
    split
    · rename_i ho
      simp only [ho] at h1
      exact ZY hnd hQ fuel _ _ _ h1
    · rename_i o ho
      simp only [ho] at h1
      split
      · rename_i hw
        rw [if_pos hw] at h1
        rcases h1 with h1 | h1
        · exact Oper.wpIn_mono (fun a w hk => ZY hnd hQ fuel _ _ _ hk) (JO (hnd _ _ ho) h1)
        · exact (hQ h1.2).elim
      · rename_i hw
        rw [if_neg hw] at h1
        exact ⟨fun _ _ => trivial, ZY hnd hQ fuel _ _ _ h1⟩
theorem Qf {ops : List Oper} {id : Nat} (W : Nat → (Nat → Value) → World → Prop) (A : Nat → (Nat → Value) → Prop) (pre : List (List Nat)) (ss : List Nat) (sees : List (Nat × Nat)) (hm : P.follows .mixedOrders = true) (hd : (yJ n ops && ops.all xt) = true) (hok : drawOk ops pre ops.length = true)
    (hkl : sees.length = ops.length) (hk : seesOk pre ss sees = true) (hsl : (ss.all fun s => Nat.blt s ops.length) = true)
    (hW : ∀ w0 : World, w0.heap = w.heap → w0.os = w.os → w0.tape = w.tape → w0.output = w.output ∧ w.drawn ≤ w0.drawn → ∀ vals, W 0 vals w0)
    (hloc : ∀ k vals vals' w, (∀ s ∈ ss, vals' s = vals s) → W k vals w → W k vals' w)
    (hlocA : ∀ i vals vals', (∀ j, j = i ∨ j ∈ pre.getD i [] → vals' j = vals j) → A i vals → A i vals')
    (hob : XX P ops pre ss sees W A σ 0 ops)
    (hfin : ∀ vals w', W ss.length vals w' → (∀ j, j < ops.length → A j vals) → WPs P ops.toArray (Q .normal) [] (behind ops vals σ ops.length) w')
    (hQ : ∀ σ w, ¬ Q .outgrown σ w := by intro σ w h; exact h) :
    WPX r [] P n (.region id ops.toArray true) Q σ w := by
  intro a hs
  rw [Bool.and_eq_true] at hd
  have hf := drawOk.fit hok
  have hz : dn (Array.replicate ops.toArray.size false) = fun _ => false := by
    funext i
    simp [dn, Array.getElem?_replicate]
    split <;> rfl
  refine wpIn_mono (wpIn_region_any hm (ZY (Q' := fun e a' w' => ∃ σ'', Sim n σ'' a' ∧ Q e σ'' w') (fun i o ho => (List.all_eq_true.1 hd.2) o (List.mem_of_getElem? (by simpa using ho))) (by rintro ⟨a0, w0, σ0, _, h0⟩; exact hQ _ _ h0) _ _ _ _ ?_)) (by rintro e a' w' ⟨σ', h1, h2⟩; exact ⟨σ', .of h1, h2⟩)
  refine KT (ss := ss) (vals := fun _ => undef) hf hd.1 hkl hk (fun s hs => by
    have := (List.all_eq_true.1 hsl) s hs; simpa [Nat.blt_eq] using this) hloc hlocA hob hfin _ _ a _ (by simp) ?_ ?_ ?_ ?_ ?_ ?_
  · intro i hi; rw [hz] at hi; cases hi
  · intro i hi; rw [hz] at hi; cases hi
  · simp
  · have : mixed ops (dn (Array.replicate ops.toArray.size false)) (fun _ => undef) σ = σ := by
      funext t
      exact xh fun j _ => by rw [hz]
    rw [this]; exact hs.sim
  · have : yX ss (dn (Array.replicate ops.toArray.size false)) = 0 := ZA fun s _ => by rw [hz]
    rw [this]; exact hW { w with drawn := w.drawn + 1 } rfl rfl rfl ⟨rfl, Nat.le_succ _⟩ _
  · intro i hi; rw [hz] at hi; cases hi

abbrev XQ (K : Env → World → Prop) : xH := fun e σ w => match e with
  | .normal => K σ w
  | _ => False
theorem JB {l p : Nat} {f : FuncId} {tm : Array Value} {v : Value} {assign body : Code} {R : Ending → World → Prop} (hs : tm.size = n ∧ ∀ i, tm.getD i undef = σ i) (hp : p < n)
    (h : WPX (some l) [] P n assign (XQ fun σ1 w1 => ∃ w2, (Instr.beginRound l).run P w1 = .ok () w2 ∧ WPX (some l) [] P n body (XQ fun σ2 w3 => ∃ v' w4, (Instr.endRound l none).run P w3 = .ok v' w4 ∧ R (.returned v') w4) σ1 w2) (upd σ p v) w) :
    RoundIn (FR none) 0 P l f ((#[p].zip #[v]).foldl (fun t (p, v) => t.setIfInBounds p v) tm) assign body w R := by
  have hs' : SimD [] n (upd σ p v) { tmps := (#[p].zip #[v]).foldl (fun t (p, v) => t.setIfInBounds p v) tm, defers := [] } := by
    have h1 : SimD [] n σ { tmps := tm, defers := [] } := ⟨hs.1, rfl, hs.2⟩
    have h2 := h1.put (dst := some p) (fun d hd => by cases hd; exact hp) v
    have e : (#[p].zip #[v]).foldl (fun t (p, v) => t.setIfInBounds p v) tm = tm.setIfInBounds p v := by simp
    rw [e]; exact h2
  refine roundIn_of_wpIn trivial (wpIn_mono (h _ hs') ?_)
  rintro e a' w' ⟨σ', hs'', hq⟩
  cases e <;> try exact hq.elim
  obtain ⟨w2, hb, hq⟩ := hq
  refine ⟨w2, hb, wpIn_mono (hq _ hs'') ?_⟩
  rintro e a'' w'' ⟨σ'', hs3, hq2⟩
  cases e <;> try exact hq2.elim
  exact hq2

def mkD (D : Nat) : Deferred := { target := .collected D, args := #[] }
def WPZ (P : Program) (n : Nat) (c : Code) (Q : Nat → xH) (σ : Env) (w : World) : Prop :=
  ∀ a, SimD [] n σ a → c.wpIn (FR none) 0 P (fun e a' w' => ∃ D σ', SimD [mkD D] n σ' a' ∧ Q D e σ' w') a w
theorem WI {x y : Code} {Q : Nat → xH} (h : WP P n x (XQ fun σ w => WPZ P n y Q σ w) σ w) : WPZ P n (.seq x y) Q σ w := by
  intro a hs
  refine wpIn_seq (wpIn_mono (wpIn_wide.2 (h a hs.sim)) ?_)
  rintro e a' w' ⟨σ', hs', hq⟩
  cases e <;> try exact hq.elim
  exact hq _ (.of hs')
theorem Jd {x y : Code} {Q : Nat → xH} (h : WPZ P n x (fun D => XQ fun σ w => WPX none [mkD D] P n y (Q D) σ w) σ w) : WPZ P n (.seq x y) Q σ w := by
  intro a hs
  refine wpIn_seq (wpIn_mono (h a hs) ?_)
  rintro e a' w' ⟨D, σ', hs', hq⟩
  cases e <;> try exact hq.elim
  exact wpIn_mono (hq _ hs') (by rintro e a'' w'' ⟨σ'', h1, h2⟩; exact ⟨D, σ'', h1, h2⟩)
theorem Qx {c : Code} {id : Nat} {Q : Nat → xH} (h : WPZ P n c (fun D => XQ (Q D .normal)) σ w) : WPZ P n (.block id c) Q σ w := by
  intro a hs
  refine wpIn_block (wpIn_mono (h a hs) ?_)
  rintro e a' w' ⟨D, σ', hs', hq⟩
  cases e <;> try exact hq.elim
  exact ⟨D, σ', hs', hq⟩
theorem XL {g : Operand} {p : Tmp} {assign body : Code} {gf : FuncId} {lb : List Value} {Q : Nat → xH}
    (hg : ev σ g = .func (.func gf) #[] lb.toArray) (eg : ∀ args w, (callFunc gf args).run P w = .ok (.enter gf args) w)
    (h : ∀ fn (tm : Array Value), (tm.size = n ∧ ∀ i, tm.getD i undef = σ i) → Ret P gf (.func (.yield (w.heap.size + 1)) #[] #[] :: lb) ((w.alloc (.deferred (some []))).alloc (.loop { state := .ready, pending := none, fn, tmps := tm, params := #[p], assign, body, defers := w.heap.size }))
      (fun _ w2 => ∃ w3, (Instr.endLoop (w.heap.size + 1)).run P w2 = .ok none w3 ∧ Q w.heap.size .normal σ w3)) : WPZ P n (.rangeFunc g #[p] assign body) Q σ w := by
  intro a hs
  refine wpIn_rangeFunc ?_
  intro fn hfn
  have hs2 : a.tmps.size = n ∧ ∀ i, a.tmps.getD i undef = σ i := ⟨hs.size, hs.get⟩
  refine ⟨w.heap.size + 1, [mkD w.heap.size], (w.alloc (.deferred (some []))).alloc (.loop { state := .ready, pending := none, fn, tmps := a.tmps, params := #[p], assign, body, defers := w.heap.size }), { target := .fn (.func gf) lb.toArray, args := #[.func (.yield (w.heap.size + 1)) #[] #[]] }, (w.alloc (.deferred (some []))).alloc (.loop { state := .ready, pending := none, fn, tmps := a.tmps, params := #[p], assign, body, defers := w.heap.size }), gf,
    #[.func (.yield (w.heap.size + 1)) #[] #[]] ++ lb.toArray, (w.alloc (.deferred (some []))).alloc (.loop { state := .ready, pending := none, fn, tmps := a.tmps, params := #[p], assign, body, defers := w.heap.size }), run_enterLoop_outer _ _ _ _ _, ?_, fun _ _ => trivial, ?_, fun h => (by cases h), ?_⟩
  · simp only [resolve, hs.eval, hg]
    simp [go_sem]
    rfl
  · simp [invoke, go_sem, eg]
  · have h1 := h fn a.tmps hs2
    unfold Ret at h1
    rw [show (Value.func (.yield (w.heap.size + 1)) #[] #[] :: lb).toArray = #[.func (.yield (w.heap.size + 1)) #[] #[]] ++ lb.toArray by simp] at h1
    refine CallsIn.mono (Uf h1) ?_
    rintro e w2 ⟨v, rfl, w3, h3, h4⟩
    exact ⟨none, w3, h3, w.heap.size, σ, ⟨hs.size, by simp [hs.defers], hs.get⟩, h4⟩
theorem Ue {f : FuncId} {fn : Func} {c : Code} {args : List Value} {w : World} {R : Value → World → Prop}
    (hf : P.funcs[f]? = some fn) (hb : fn.body = some c) (hn : Nat.ble args.length fn.ntmps = true)
    (h : WPZ P fn.ntmps c (fun D e σ w => match e with
      | .normal | .ret => ∃ w', (Instr.takeDeferred D).run P w = .ok [] w' ∧ ZM P fn R .ret σ w'
      | _ => False) (zai args) w) : Ret P f args w R := by
  have hn' : args.length ≤ fn.ntmps := Nat.le_of_ble_eq_true hn
  refine callsIn_wide.1 (callsIn_of_wp_marks (n := 0) hf hb trivial (wpIn_mono (h _ ⟨?_, rfl, fun i => ?_⟩) ?_))
  · simp; omega
  · simp only [zai, Array.getD_eq_getD_getElem?, List.getD_eq_getElem?_getD]
    by_cases hi : i < args.length
    · simp [Array.getElem?_append, hi]
    · simp only [Array.getElem?_append, List.size_toArray, hi, if_false]
      rw [List.getElem?_eq_none (by omega)]
      simp only [Option.getD_none]
      rw [Array.getElem?_replicate]
      split <;> simp
  · rintro e a' w' ⟨D, σ', hs', hq⟩
    have key : ∀ w', (∃ w'', (Instr.takeDeferred D).run P w' = .ok [] w'' ∧ ZM P fn R .ret σ' w'') → LeavesInM Fence.wide 0 P fn a'.tmps (fun e w' => ∃ v, e = .returned v ∧ R v w') a'.defers .returning w' := by
      rintro w' ⟨w'', h1, v, hr, hR⟩
      rw [hs'.defers]
      exact ⟨by simp, .inl ⟨D, w'', rfl, h1, v, hr _ hs'.get, v, rfl, hR⟩⟩
    cases e <;> try exact hq.elim
    case normal => exact key _ hq
    case ret => exact key _ hq

def ZN (b : Nat) (o : Obj) : HP := ⟨fun w f => w.heap[b]? = some o ∧ f b, fun ⟨h1, h2⟩ hf => ⟨((hf b h2 (yK h1)).1).trans h1, (hf b h2 (yK h1)).2⟩⟩
def hard : Obj → Bool
  | .cells .. => false
  | _ => true
variable {G : Nat → Prop} {W w' : World} {As : List HP} {o o' : Obj} {b : Nat}
theorem Sep.objNew (h : Sep G W As w) (hn : New w w' b o) : Sep G W (ZN b o :: As) w' := h.push hn.ext (f := fun i => i = b) ⟨hn.at_, rfl⟩ (fun i hi => by have := hn.eq; omega)
theorem Sep.obj (h : Sep G W As w) {i : Nat} (hi : As[i]? = some (ZN b o)) : w.heap[b]? = some o := by
  obtain ⟨f, h1, _⟩ := h.get hi; exact h1.1
theorem QJ {es : Obj} (hb : w.heap[b]? = some o) (ho : hard o = true) : Chg (fun i => i = b) w (w.putObj b o') := by
  refine ⟨rfl, rfl, rfl, by simp [World.putObj], fun i hi hne => World.putObj_heap_other hne, ?_, Nat.le_refl _⟩
  rintro i ⟨c, T, hc⟩
  have hne : i ≠ b := fun e => by subst e; rw [hb] at hc; cases hc; cases ho
  exact ⟨c, T, by rw [World.putObj_heap_other hne]; exact hc⟩
theorem Sep.objPut (h : Sep G W As w) {i : Nat} (hi : As[i]? = some (ZN b o)) (ho : hard o = true) : Sep G W (As.set i (ZN b o')) (w.putObj b o') :=
  h.upd hi (fun f hA _ => ⟨(QJ (es := o) hA.1 ho).weak (fun j _ hj => by subst hj; exact hA.2), f, ⟨World.putObj_heap_same (yK hA.1), hA.2⟩, fun _ hb => .inl hb⟩)
theorem Wq (w : World) (o : Obj) : New w (w.alloc o) w.heap.size o := New.mk' w o
end
end Go.Proofs.YtbbabhaalmkbkaaGreatDoor
namespace Go.Proofs.YtbbabhaalmkbkaaGreatDoor
open Go.RowKit Go.MapKept

def cA : Code → Code
  | .seq a _ => a
  | .rangeFunc _ _ a _ => a
  | c => c
def cB : Code → Code
  | .seq _ b => b
  | .block _ c => c
  | .rangeFunc _ _ _ b => b
  | c => c
def zbo (f : Func) : Code := f.body.getD .skip
section
variable {P : Program} {σ : Env} {w : World} {K : Value → World → Prop} {d : Option Tmp} {ty : TypeId} {pos : String} {af : Array Edge} {g : Option (Nat × Bool)}
variable {G : Nat → Prop} {W : World} {As : List HP} {m it clock : Nat} {es : Array MapEntry} {idx : List Nat}
def Xr (it m : Nat) (es : Array MapEntry) (clock : Nat) (idx : List Nat) : HP := ⟨fun w f => f it ∧ ∃ seen, w.heap[it]? = some (.mapIter (some m) clock seen clock) ∧ idx.Nodup ∧ (∀ j ∈ idx, j < es.size) ∧ seen.toList = idx.map fun j => (es.toList[j]?.map (·.born)).getD 0, fun ⟨h1, seen, h2, h3⟩ hf => ⟨(hf _ h1 (yK h2)).2, seen, ((hf _ h1 (yK h2)).1).trans h2, h3⟩⟩

theorem Qj {t kt et : TypeId} {x : Operand} (h : Sep G W As w) (hG : G m) (hm : W.heap[m]? = some (.map es clock)) (hU : P.underlying t = some (.map kt et)) (hx : ev σ x = .map (some m))
    (hk : ∀ w1 it, Sep G W (Xr it m es clock [] :: As) w1 → K (.pointer (some ⟨it, 0, none⟩)) w1) : opV P ⟨d, .range t x, ty, pos, af, g⟩ σ w K := by
  have hb := (h.gb hG).trans hm
  have hn := New.mk' w (.mapIter (some m) clock #[] clock)
  refine zO (v := .pointer (some ⟨w.heap.size, 0, none⟩)) (w' := { w with heap := w.heap.push (.mapIter (some m) clock #[] clock) }) ?_ (hk _ _ (h.push hn.ext (f := fun i => i = w.heap.size) ⟨rfl, #[], hn.at_, List.nodup_nil, by simp, rfl⟩ (fun i hi => by omega)))
  have := run_range_map (P := P) w t kt et m es clock hU hb
  simp [execOp, hx, go_sem]
  rw [this]; rfl

theorem Jw {x : Operand} (h : Sep G W (Xr it m es clock idx :: As) w) (hG : G m) (hm : W.heap[m]? = some (.map es clock)) (hs : Stamped es clock) (hx : ev σ x = .pointer (some ⟨it, 0, none⟩))
    (h0 : List.Perm idx (List.range es.size) → K (.tuple #[.bool false]) w)
    (h1 : ∀ w1 j, j < es.size → idx.length < es.size → (idx ++ [j]).Nodup → Sep G W (Xr it m es clock (idx ++ [j]) :: As) w1 → ∀ u v, K (.tuple #[.bool true, u, v]) w1) : opV P ⟨d, .next x false, ty, pos, af, g⟩ σ w K := by
  have hb := (h.gb hG).trans hm
  obtain ⟨f0, ⟨hf0, seen, hit, hn, hlt, hseen⟩, hfl, hT⟩ := h.take (i := 0) rfl
  have hmi : m ≠ it := fun e => (hfl it hf0).1 (e ▸ hG)
  rcases run_next_at (P := P) w ty it m clock clock seen es clock hit hb hs.1 (Nat.le_refl _) with ⟨hz, hr⟩ | ⟨e, hel, w1, hal, hr⟩
  · refine zO (v := .tuple #[.bool false]) (w' := w) (by simp [execOp, hx, hr, go_sem]) (h0 (zac hn hlt fun j hj => ?_))
    have hj' : j < es.toList.length := by simpa using hj
    have h2 := all_seen es seen hz _ (List.getElem_mem hj')
    have h3 : (es.toList[j]).born ∈ seen.toList := by simpa [Array.contains_iff_mem] using h2
    rw [hseen, List.mem_map] at h3
    obtain ⟨i, hi, hbi⟩ := h3
    have hi' : i < es.toList.length := by simpa using hlt i hi
    rw [List.getElem?_eq_getElem hi'] at hbi
    have h4 : (es.toList[i]).born = (es.toList[j]).born := hbi
    have h5 := List.pairwise_map.1 hs.2.1
    have : i = j := by
      rcases Nat.lt_trichotomy i j with h | h | h
      · exact absurd h4 (List.pairwise_iff_getElem.1 h5 i j hi' hj' h)
      · exact h
      · exact absurd h4.symm (List.pairwise_iff_getElem.1 h5 j i hj' hi' h)
    rwa [← this]
  · obtain ⟨hmem, hns⟩ := mem_left hel
    obtain ⟨j, hj, rfl⟩ := List.getElem_of_mem hmem
    have hjl : j < es.size := by simpa using hj
    have hji : j ∉ idx := by
      intro h
      have : (es.toList[j]).born ∈ seen.toList := by
        rw [hseen, List.mem_map]
        exact ⟨j, h, by rw [List.getElem?_eq_getElem hj]; rfl⟩
      have h3 : seen.contains (es.toList[j]).born = true := by
        have h4 : (es.toList[j]).born ∈ seen := by simpa using this
        simpa using h4
      rw [hns] at h3; cases h3
    have hnd : (idx ++ [j]).Nodup := by
      rw [List.nodup_append]
      exact ⟨hn, by simp, fun a ha b hb => by simp at hb; subst hb; exact fun e => hji (e ▸ ha)⟩
    have hall : ∀ i ∈ idx ++ [j], i < es.size := by
      intro i hi
      rcases List.mem_append.1 hi with h | h
      · exact hlt i h
      · simp at h; subst h; exact hjl
    have hle := Zx _ _ hnd hall
    have hw1 : w1.heap = w.heap ∧ w1.os = w.os ∧ w1.tape = w.tape ∧ w1.output = w.output ∧ w.drawn ≤ w1.drawn := by
      rcases hal with rfl | rfl
      · exact ⟨rfl, rfl, rfl, rfl, Nat.le_refl _⟩
      · exact ⟨rfl, rfl, rfl, rfl, Nat.le_succ _⟩
    have hlt2 := yK hit
    have hcell : ∀ i, i ≠ it → (ChangeMaps.setBlock w1 it (.mapIter (some m) clock (seen.push (es.toList[j]).born) clock)).heap[i]? = w.heap[i]? := by
      intro i hne
      show (w1.heap.setIfInBounds it _)[i]? = _
      rw [hw1.1]
      simp [Ne.symm hne]
    have hchg : Chg f0 w (ChangeMaps.setBlock w1 it (.mapIter (some m) clock (seen.push (es.toList[j]).born) clock)) := by
      refine ⟨hw1.2.1, hw1.2.2.1, hw1.2.2.2.1, ?_, fun i hi hne => hcell i (fun e => hne (e ▸ hf0)), ?_, hw1.2.2.2.2⟩
      · show _ ≤ (w1.heap.setIfInBounds it _).size
        rw [hw1.1]; simp
      · rintro i ⟨c, T, hc⟩
        have hne : i ≠ it := fun e => by subst e; rw [hit] at hc; cases hc
        exact ⟨c, T, by rw [hcell i hne]; exact hc⟩
    refine zO (v := .tuple #[.bool true, (es.toList[j]).key, (es.toList[j]).val]) (w' := ChangeMaps.setBlock w1 it (.mapIter (some m) clock (seen.push (es.toList[j]).born) clock)) (by simp [execOp, hx, hr, go_sem]) (h1 _ j hjl (by simp at hle; omega) hnd (hT _ (Xr it m es clock (idx ++ [j])) f0 hchg ⟨hf0, seen.push (es.toList[j]).born, ?_, hnd, hall, ?_⟩ (fun _ hb => .inl hb)) _ _)
    · show (w1.heap.setIfInBounds it _)[it]? = _
      rw [hw1.1]; simp [hlt2]
    · rw [Array.toList_push, hseen, List.map_append, List.map_cons, List.map_nil, List.getElem?_eq_getElem hj]; rfl

theorem Qs {x : Operand} {j : Nat} (h : Sep G W (Xr it m es clock (idx ++ [j]) :: As) w) (hG : G m) (hm : W.heap[m]? = some (.map es clock)) (hs : Stamped es clock) (hx : ev σ x = .pointer (some ⟨it, 0, none⟩)) (hj : j < es.toList.length) {v : Value} (hv : es.toList[j].val = v)
    (hk : K (.tuple #[es.toList[j].key, v]) w) : opV P ⟨d, .entry x, ty, pos, af, g⟩ σ w K := by
  subst hv
  have hb := (h.gb hG).trans hm
  obtain ⟨f0, ⟨hf0, seen, hit, hn, hlt, hseen⟩, _⟩ := h.get (i := 0) rfl
  have hsn : ∃ seen0 : Array Nat, seen = seen0.push (es.toList[j]).born := by
    refine ⟨(idx.map fun j => (es.toList[j]?.map (·.born)).getD 0).toArray, ?_⟩
    apply Array.ext'
    rw [hseen, Array.toList_push, List.map_append, List.map_cons, List.map_nil, List.getElem?_eq_getElem hj]; rfl
  obtain ⟨seen0, rfl⟩ := hsn
  have hrun := run_entry_at (P := P) w it m clock seen0 es clock _ hit hb (List.getElem_mem hj) hs.2.1
  exact zO (v := .tuple #[es.toList[j].key, es.toList[j].val]) (w' := w) (by simp [execOp, hx, hrun, go_sem]) hk

theorem KO {x y : Operand} {ts : Array TypeId} {l : Nat} {rec : Loop} {v : Value} {p : Tmp} (hx : ev σ x = .func (.yield l) #[] #[]) (hy : ev σ y = v) (hl : w.heap[l]? = some (.loop rec)) (hp : rec.params = #[p])
    (h : RoundIn (FR none) 0 P l rec.fn ((#[p].zip #[v]).foldl (fun t (p, v) => t.setIfInBounds p v) rec.tmps) rec.assign rec.body w (fun e w'' => ∃ v, e = .returned v ∧ K v w'')) : opX P ⟨d, .call ⟨.value x, #[y], ts⟩, ty, pos, af, g⟩ σ w K := by
  have hr := run_yield (P := P) (args := #[v]) hl (by simp [hp])
  have : (execOp (ev σ) ⟨d, .call ⟨.value x, #[y], ts⟩, ty, pos, af, g⟩).run P w = .ok (.round l rec.fn ((rec.params.zip #[v]).foldl (fun t (p, v) => t.setIfInBounds p v) rec.tmps) rec.assign rec.body) w := by
    simp [execOp, resolve, hx, Deferred.ofValue, invoke, hy, go_sem, hr]
  unfold opX
  rw [this, hp]
  exact h
end
end Go.Proofs.YtbbabhaalmkbkaaGreatDoor
set_option maxRecDepth 8000
set_option maxHeartbeats 4000000
namespace Go.Proofs.YtbbabhaalmkbkaaGreatDoor
open Go.Proofs Go.RowKit

section
variable {G : Nat → Prop} {W w : World} {Rs : List HP}
theorem JW {l bm m clock : Nat} {es : Array MapEntry} {rec : Loop} {p : Tmp} {A : List Nat → HP} (hG : G m) (hm : W.heap[m]? = some (.map es clock)) (hs : MapKept.Stamped es clock) (hp : rec.params = #[p])
 (hval : ∀ j (hj : j < es.toList.length), ∃ (x : Ev) (vd : Value), es.toList[j].val = .agg (x.cells vd).toArray ∧ vd.oneCell' = true)
 (hY : ∀ idx j (hj : j < es.toList.length) (v : Value) (Fr : List HP) (w : World), es.toList[j].val = v → idx.length < es.size → (idx ++ [j]).Nodup → Sep G W (A idx :: ZN l (.loop rec) :: Fr) w → RoundIn (FR none) 0 Tryz.prog l rec.fn ((#[p].zip #[v]).foldl (fun t (p, v) => t.setIfInBounds p v) rec.tmps) rec.assign rec.body w (fun e w' => e = .returned (.bool true) ∧ Sep G W (A (idx ++ [j]) :: ZN l (.loop rec) :: Fr) w'))
 (hS0 : Sep G W (A [] :: ZN l (.loop rec) :: Blk bm #[.map (some m)] 87 :: Rs) w) :
 Ret Tryz.prog 75 [.func (.yield l) #[] #[], .pointer (some ⟨bm, 0, none⟩)] w (fun r w' => ∃ idx, List.Perm idx (List.range es.size) ∧ Sep G W (A idx :: ZN l (.loop rec) :: Blk bm #[.map (some m)] 87 :: Rs) w') := by
 refine zi (args := [.func (.yield l) #[] #[], Ix bm 0]) Tryz.func75 rfl rfl ?_
 refine za (R0 fun _ => st (lD (.map (some m)) pR rfl (zb (hS0.b2) rfl) (st (Qj hS0 hG hm qR rfl ?_))))
 intro w1 it h
 refine zd (zw (yh (fun mq σ s => ∃ (idx : List Nat) (ρ : Env), mq = es.size - idx.length ∧ σ = ye ρ [(0, .func (.yield l) #[] #[]), (6, Ix it 0)] ∧ Sep G W (Xr it m es clock idx :: A idx :: ZN l (.loop rec) :: Blk bm #[.map (some m)] 87 :: Rs) s) ⟨[], _, rfl, sSf, h⟩ ?_))
 rintro _ _ w2 ⟨idx, ρ, rfl, rfl, b⟩
 refine za (R0 fun _ => st (Jw b hG hm hs rfl ?_ ?_))
 intro hperm
 refine st (zj (vs := [.bool false]) (i := 0) (v := .bool false) rfl rfl (zd (za (zg rfl (yi (yb (VH Tryz.results75 ?_)))))))
 exact ⟨idx, hperm, b.sel 4 [1, 2, 3] (Nat.le_add_left _ _) rfl rfl⟩
 intro w3 j hj hlt hnd c u v
 have hj' : j < es.toList.length := by simpa using hj
 obtain ⟨x, vd, hcv, hone⟩ := hval j hj'
 refine st (zj (vs := [.bool true, u, v]) (i := 0) (v := .bool true) rfl rfl (zd (za (zh rfl (zl (zw (za (R0 fun _ => st (Qs c hG hm hs rfl hj' hcv (st (zj (vs := [es.toList[j].key, .agg (x.cells vd).toArray]) (i := 1) (v := .agg (x.cells vd).toArray) rfl rfl (st (zr pT ?_)))))))))))))
 intro w4 b4 n
 have d := c.new n
 refine stn (zp (v := .agg (x.cells vd).toArray) (c' := (x.cells vd).toArray) lT rfl rfl (d.b0) (zW ⟨rfl, rfl, rfl, hone, rfl, rfl, rfl, rfl, rfl, rfl, trivial⟩) yqc rfl ?_)
 intro y o
 have f := d.put (i := 0) rfl o
 refine zd (za (JJ (YE kr (zby (mV (.func (.yield l) #[] #[]) (zby (zf (k := 10) oT lT rfl rfl (CellsAt.all (f.b0)) ?_)))))))
 have g : Sep G W (A idx :: ZN l (.loop rec) :: Blk bm #[.map (some m)] 87 :: Xr it m es clock (idx ++ [j]) :: Rs) y := f.sel 5 [2, 3, 4, 1] (Nat.le_add_left _ _) rfl rfl
 refine stX (KO (l := l) (rec := rec) (p := p) (v := .agg (x.cells vd).toArray) rfl rfl (g.obj (i := 1) rfl) hp (RoundIn.mono (hY idx j hj' _ _ _ hcv hlt hnd g) ?_))
 rintro e w6 ⟨rfl, q⟩
 refine ⟨_, rfl, ?_⟩
 refine zby (yH (a := true) rfl (JH (zg rfl (zl ?_))))
 exact ⟨_, by simp; omega, idx ++ [j], _, rfl, sSf, q.sel 4 [3, 0, 1, 2] (Nat.le_add_left _ _) rfl rfl⟩
end
end Go.Proofs.YtbbabhaalmkbkaaGreatDoor
set_option maxRecDepth 8000
set_option maxHeartbeats 4000000
namespace Go.Proofs.YtbbabhaalmkbkaaGreatDoor
open Go.Proofs Go.RowKit

def Ze (f : Func) : Code := cB (cB (cA (cB (cB (zbo f)))))
theorem Qz {G : Nat → Prop} {W w : World} {Fr : List HP} {l b6 bis bo : Nat} {fis : FuncId} {caps : List Value} {p : Ev → Bool} (hfis : ∀ args w, (callFunc fis args).run Tryz.prog w = .ok (.enter fis args) w) (hIs : ∀ {w : World} {Rs : List HP} {x : Ev} {dx0 : Value} (hdx0 : RdS W G dx0 x.deps) (ox : x.Ok), Sep G W Rs w → Ret Tryz.prog fis (.agg (x.cells dx0).toArray :: caps) w (fun r w' => r = (.bool (p x) : Value) ∧ Sep G W Rs w')) {x : Ev} {vd : Value} (hd : RdS W G vd x.deps) (ok : x.Ok) {vo : Value} {M : List Ev} (hML : M.length ≤ 1000000) {ρ : Env} {K : Env → World → Prop} (hk : ∀ σ' w' vo' M', M' = M ++ (if p x = true then [x] else []) → Sep G W (Blk bis #[.func (.func fis) #[] caps.toArray] 93 :: Blk bo #[vo'] 26 :: RowE (α := Ev) own 41 vo' M' :: Fr) w' → K σ' w') (hS0 : Sep G W (Blk b6 (x.cells vd).toArray 41 :: Blk bis #[.func (.func fis) #[] caps.toArray] 93 :: Blk bo #[vo] 26 :: RowE (α := Ev) own 41 vo M :: Fr) w) : WPX (some l) [] Tryz.prog 24 (cB (Ze Tryz.f38)) (XQ K) (ye ρ [(3, .pointer (some ⟨bis, 0, none⟩)), (5, .pointer (some ⟨bo, 0, none⟩)), (6, .pointer (some ⟨b6, 0, none⟩))]) w := by
 have hds : _ * 8 ≤ _ := hd.small
 have hr1 := hS0.row (i := 3) rfl
 have hr1s : _ * 96 ≤ _ := hr1.2
 refine Qp ?_
 refine WH ?_
 refine xN (by kernel_rfl) (fun _ => ?_)
 refine st (xu (v := .func (.func fis) #[] caps.toArray) Tryz.isAgg93 rfl (zb (hS0.blk (i := 1) rfl) rfl) ?_)
 refine st (zf (k := 10) oT lT rfl rfl (CellsAt.all (hS0.blk (i := 0) rfl)) ?_)
 refine st (zB (f := fis) (vals := [.agg (x.cells vd).toArray]) (cap := caps) (show _ = (.func (.func fis) #[] caps.toArray : Value) from rfl) rfl hfis (hIs hd ok hS0) ?_)
 rintro _ w2 ⟨rfl, hS3⟩
 refine zd ?_
 cases hc4 : p x
 ·skip
  refine Uu rfl ?_
  refine KY ?_
  have hS5 : Sep G W ((Blk bis #[.func (.func fis) #[] caps.toArray] 93) :: (Blk bo #[vo] 26) :: (RowE (α := Ev) own 41 vo M) :: Fr) w2 := hS3.sel 4 [1, 2, 3] (Nat.le_add_left _ _) rfl rfl
  exact hk _ _ _ _ (by simp only [*, Bool.false_eq_true, if_false, List.append_nil]) hS5
 ·skip
  refine Us rfl ?_
  refine Qf (WF [fun vals wq => Sep G W ((Blk b6 (x.cells vd).toArray 41) :: (Blk bis #[.func (.func fis) #[] caps.toArray] 93) :: (Blk bo #[vo] 26) :: (RowE (α := Ev) own 41 vo M) :: Fr) wq, fun vals wq => ∃ (v28 : Value), (vals 2 = (.agg (x.cells v28).toArray : Value)) ∧ Sep G W ((RowE (α := Int) own 3 v28 x.deps) :: (Blk b6 (x.cells vd).toArray 41) :: (Blk bis #[.func (.func fis) #[] caps.toArray] 93) :: (Blk bo #[vo] 26) :: (RowE (α := Ev) own 41 vo M) :: Fr) wq, fun vals wq => ∃ (v28 : Value) (b41 : Nat), (vals 2 = (.agg (x.cells v28).toArray : Value)) ∧ (vals 3 = ((.slice (some ⟨b41, 0, none⟩) 1 1) : Value)) ∧ Sep G W ((Blk b41 (x.cells v28).toArray 41) :: (RowE (α := Int) own 3 v28 x.deps) :: (Blk b6 (x.cells vd).toArray 41) :: (Blk bis #[.func (.func fis) #[] caps.toArray] 93) :: (Blk bo #[vo] 26) :: (RowE (α := Ev) own 41 vo M) :: Fr) wq, fun vals wq => ∃ (v28 : Value) (b41 : Nat) (v54 : Value), (vals 2 = (.agg (x.cells v28).toArray : Value)) ∧ (vals 3 = ((.slice (some ⟨b41, 0, none⟩) 1 1) : Value)) ∧ (vals 4 = (v54 : Value)) ∧ Sep G W ((RowE (α := Ev) own 41 v54 (M ++ [x])) :: (Blk b6 (x.cells vd).toArray 41) :: (Blk bis #[.func (.func fis) #[] caps.toArray] 93) :: (Blk bo #[vo] 26) :: Fr) wq, fun vals wq => ∃ (v28 : Value) (b41 : Nat) (v54 : Value), (vals 2 = (.agg (x.cells v28).toArray : Value)) ∧ (vals 3 = ((.slice (some ⟨b41, 0, none⟩) 1 1) : Value)) ∧ (vals 4 = (v54 : Value)) ∧ Sep G W ((RowE (α := Ev) own 41 v54 (M ++ [x])) :: (Blk b6 (x.cells vd).toArray 41) :: (Blk bis #[.func (.func fis) #[] caps.toArray] 93) :: (Blk bo #[v54] 26) :: Fr) wq]) (AF [Vl 0 (vo), Vl 1 (.agg (x.cells vd).toArray), fun _ => True, fun _ => True, fun _ => True, fun _ => True]) [[], [], [1], [1, 2], [0, 1, 2, 3], [0, 1, 2, 3, 4]] [2, 3, 4, 5] [(0, 2), (0, 0), (0, 0), (1, 1), (2, 2), (3, 3)] (by kernel_rfl) (by kernel_rfl) (by kernel_rfl) rfl (by kernel_rfl) (by kernel_rfl) (fun _ h1 h2 h3 h4 _ => hS3.same h1 h2 h3 h4) ?_ (yW ⟨dA, dA, dT, dT, dT, dT, trivial⟩) ⟨?_, ?_, ?_, ?_, ?_, ?_, trivial⟩ ?_
  ·intro k vals vals' w hv h
   have e : ∀ j ∈ ([2, 3, 4, 5] : List Nat), vals' j = vals j := hv
   match k, h with
   | 0, h => exact h
   | 1, h => exact (by simpa only [WF, List.getElem?_cons_zero, List.getElem?_cons_succ, e 2 (by decide)] using h)
   | 2, h => exact (by simpa only [WF, List.getElem?_cons_zero, List.getElem?_cons_succ, e 2 (by decide), e 3 (by decide)] using h)
   | 3, h => exact (by simpa only [WF, List.getElem?_cons_zero, List.getElem?_cons_succ, e 2 (by decide), e 3 (by decide), e 4 (by decide)] using h)
   | 4, h => exact (by simpa only [WF, List.getElem?_cons_zero, List.getElem?_cons_succ, e 2 (by decide), e 3 (by decide), e 4 (by decide)] using h)
   | _ + 5, _ => trivial
  ·intro k71 vals w72 h75 h76 hW74 hA73
   have hkk : k71 = 0 ∨ k71 = 1 ∨ k71 = 2 := by have h1 : 0 ≤ k71 := h75; have h2 : k71 ≤ 2 := h76; omega
   rcases hkk with rfl | rfl | rfl
   ·skip
    have hS77 : Sep _ _ _ _ := hW74
    refine obl rfl ?_
    exact xu (v := vo) tT rfl (zb (hS77.blk (i := 2) rfl) rfl) (fun vals' hv _ => ⟨rfl, hv⟩)
   ·skip
    obtain ⟨v28, he32, hS78⟩ := hW74
    refine obl rfl ?_
    exact xu (v := vo) tT rfl (zb (hS78.blk (i := 3) rfl) rfl) (fun vals' hv _ => ⟨rfl, hv⟩)
   ·skip
    obtain ⟨v28, b41, he32, he44, hS79⟩ := hW74
    refine obl rfl ?_
    exact xu (v := vo) tT rfl (zb (hS79.blk (i := 4) rfl) rfl) (fun vals' hv _ => ⟨rfl, hv⟩)
  ·intro k80 vals w81 h84 h85 hW83 hA82
   obtain rfl : k80 = 0 := Nat.le_antisymm h85 h84
   have hS86 : Sep _ _ _ _ := hW83
   refine obl rfl ?_
   exact zf (k := 10) oT lT rfl rfl (CellsAt.all (hS86.blk (i := 0) rfl)) (fun vals' hv _ => ⟨rfl, hv⟩)
  ·intro k20 vals w21 h24 h25 hW23 hA22
   obtain rfl : k20 = 0 := Nat.le_antisymm h25 h24
   have hS26 : Sep _ _ _ _ := hW23
   have e27 := hA22 1 (by decide)
   refine obl rfl ?_
   refine (zB (f := 37) (vals := [.agg (x.cells vd).toArray]) (cap := []) rfl (yE ⟨e27, trivial⟩) Tryz.call37 (Wf (e := x) hd ok hS26) ?_)
   rintro _ w29 ⟨v28, rfl, hS30⟩
   have hr31 := hS30.row (i := 0) rfl
   have hr31s : _ * 8 ≤ _ := hr31.2
   intro vals' hv hv'
   refine ⟨?_, trivial⟩
   show ∃ (v28 : Value), (vals' 2 = (.agg (x.cells v28).toArray : Value)) ∧ Sep G W ((RowE (α := Int) own 3 v28 x.deps) :: (Blk b6 (x.cells vd).toArray 41) :: (Blk bis #[.func (.func fis) #[] caps.toArray] 93) :: (Blk bo #[vo] 26) :: (RowE (α := Ev) own 41 vo M) :: Fr) w29
   exact ⟨v28, hv, hS30⟩
  ·intro k33 vals w34 h37 h38 hW36 hA35
   obtain rfl : k33 = 1 := Nat.le_antisymm h38 h37
   obtain ⟨v28, he32, hS39⟩ := hW36
   refine obl rfl ?_
   refine (zS (k := 10) (parts' := [(0, .agg (x.cells v28).toArray)]) (c := (x.cells v28).toArray) rR lT pT (by decide) (Zq ⟨rfl, he32, trivial⟩) (by kernel_rfl) ?_)
   intro w42 b41 hn40
   have hS43 := hS39.new hn40
   intro vals' hv hv'
   refine ⟨?_, trivial⟩
   show ∃ (v28 : Value) (b41 : Nat), (vals' 2 = (.agg (x.cells v28).toArray : Value)) ∧ (vals' 3 = ((.slice (some ⟨b41, 0, none⟩) 1 1) : Value)) ∧ Sep G W ((Blk b41 (x.cells v28).toArray 41) :: (RowE (α := Int) own 3 v28 x.deps) :: (Blk b6 (x.cells vd).toArray 41) :: (Blk bis #[.func (.func fis) #[] caps.toArray] 93) :: (Blk bo #[vo] 26) :: (RowE (α := Ev) own 41 vo M) :: Fr) w42
   exact ⟨v28, b41, (by rw [hv' 2 (by decide)]; exact he32), hv, hS43⟩
  ·intro k45 vals w46 h49 h50 hW48 hA47
   obtain rfl : k45 = 2 := Nat.le_antisymm h50 h49
   obtain ⟨v28, b41, he32, he44, hS51⟩ := hW48
   have e52 := hA47 0 (by decide)
   refine obl rfl ?_
   have hbk56 := hS51.blk (i := 0) rfl
   have hS57 : Sep G W ((RowE (α := Ev) own 41 vo M) :: (RowE (α := Int) own 3 v28 x.deps) :: (Blk b6 (x.cells vd).toArray 41) :: (Blk bis #[.func (.func fis) #[] caps.toArray] 93) :: (Blk bo #[vo] 26) :: Fr) w46 := hS51.sel 6 [5, 1, 2, 3, 4] (Nat.le_add_left _ _) rfl rfl
   refine (xb (src := own) (bytes := 96) (x1 := x) hS57 zbj e52 he44 hbk56 (fun _ _ hN => ⟨_, rfl, RowE.soft hN, ok⟩) (by first | omega | (simp only [List.length_append, List.length_cons, List.length_nil, List.length_take, List.length_drop]; omega)) rfl ?_)
   intro v54 w53 hS55
   have hr58 := hS55.row (i := 0) rfl
   have hr58s : _ * 96 ≤ _ := hr58.2
   intro vals' hv hv'
   refine ⟨?_, trivial⟩
   show ∃ (v28 : Value) (b41 : Nat) (v54 : Value), (vals' 2 = (.agg (x.cells v28).toArray : Value)) ∧ (vals' 3 = ((.slice (some ⟨b41, 0, none⟩) 1 1) : Value)) ∧ (vals' 4 = (v54 : Value)) ∧ Sep G W ((RowE (α := Ev) own 41 v54 (M ++ [x])) :: (Blk b6 (x.cells vd).toArray 41) :: (Blk bis #[.func (.func fis) #[] caps.toArray] 93) :: (Blk bo #[vo] 26) :: Fr) w53
   exact ⟨v28, b41, v54, (by rw [hv' 2 (by decide)]; exact he32), (by rw [hv' 3 (by decide)]; exact he44), hv, hS55⟩
  ·intro k60 vals w61 h64 h65 hW63 hA62
   obtain rfl : k60 = 3 := Nat.le_antisymm h65 h64
   obtain ⟨v28, b41, v54, he32, he44, he59, hS66⟩ := hW63
   refine obl rfl ?_
   have hr69 := hS66.row (i := 0) rfl
   have hr69s : _ * 96 ≤ _ := hr69.2
   refine (yn (v := v54) (c := [vo]) (c' := [v54]) sR rfl he59 (hS66.blk (i := 3) rfl) hr69.1.one rfl rfl ?_)
   intro w67 hp68
   have hS70 := hS66.pt3 hp68
   intro vals' hv hv'
   refine ⟨?_, trivial⟩
   show ∃ (v28 : Value) (b41 : Nat) (v54 : Value), (vals' 2 = (.agg (x.cells v28).toArray : Value)) ∧ (vals' 3 = ((.slice (some ⟨b41, 0, none⟩) 1 1) : Value)) ∧ (vals' 4 = (v54 : Value)) ∧ Sep G W ((RowE (α := Ev) own 41 v54 (M ++ [x])) :: (Blk b6 (x.cells vd).toArray 41) :: (Blk bis #[.func (.func fis) #[] caps.toArray] 93) :: (Blk bo #[v54] 26) :: Fr) w67
   exact ⟨v28, b41, v54, (by rw [hv' 2 (by decide)]; exact he32), (by rw [hv' 3 (by decide)]; exact he44), (by rw [hv' 4 (by decide)]; exact he59), hS70⟩
  intro vals w87 hW88 hA89
  obtain ⟨v28, b41, v54, he32, he44, he59, hS90⟩ := hW88
  refine zT (kv := [(3, .pointer (some ⟨bis, 0, none⟩)), (5, .pointer (some ⟨bo, 0, none⟩)), (6, .pointer (some ⟨b6, 0, none⟩)), (13, .func (.func fis) #[] caps.toArray), (14, .agg (x.cells vd).toArray), (15, .bool true)]) ⟨rfl, rfl, rfl, rfl, rfl, rfl, trivial⟩ (fun ρw87 => ?_)
  refine zd ?_
  have hS91 : Sep G W ((Blk bis #[.func (.func fis) #[] caps.toArray] 93) :: (Blk bo #[v54] 26) :: (RowE (α := Ev) own 41 v54 (M ++ [x])) :: Fr) w87 := hS90.sel 4 [2, 3, 0] (Nat.le_add_left _ _) rfl rfl
  exact hk _ _ _ _ (by simp only [*, if_true]) hS91

end Go.Proofs.YtbbabhaalmkbkaaGreatDoor
namespace Go.Proofs.YtbbabhaalmkbkaaGreatDoor
open Go.Proofs Go.RowKit Go.Sort Go.Shelf

theorem Jr {w w' : World} (h : Ext w w') : ∃ q os, w' = grow (w.drewN q) os := by
  obtain ⟨hs, ht, hd, ho, hp⟩ := w
  obtain ⟨hs', ht', hd', ho', hp'⟩ := w'
  refine ⟨hd' - hd, (hs'.toList.drop hs.size).toArray, ?_⟩
  have e1 : ho' = ho := h.os
  have e2 : ht' = ht := h.tape
  have e3 : hp' = hp := h.output
  have e4 : hd ≤ hd' := h.drawn
  have e5 : hs.size ≤ hs'.size := h.size
  have e6 : ∀ b, b < hs.size → hs'[b]? = hs[b]? := fun b hb => h.block b hb (fun h => h)
  have eh : hs' = hs ++ (hs'.toList.drop hs.size).toArray := by
    apply Array.ext_getElem?
    intro i
    rw [Array.getElem?_append]
    split
    · rename_i hi; exact e6 i hi
    · rename_i hi
      simp only [List.getElem?_toArray, List.getElem?_drop, Array.getElem?_toList]
      rw [show hs.size + (i - hs.size) = i by omega]
  have ed : hd' = hd + (hd' - hd) := by omega
  subst e1 e2 e3
  simp only [grow, World.drewN]
  rw [← eh, ← ed]

theorem Jq {P : Program} {α : Type} [Inhabited α] {g k : Nat} {cap : List Value} {enc : α → List Value} {cf : α → α → Int} {blk off size : Nat} {w : World}
    (h : ∀ W (x y : α), (∃ d : Array α, d.size = size ∧ ∃ m os, W = sortWorldK enc k w blk off m d os) → Ret P g ([.agg (enc x).toArray, .agg (enc y).toArray] ++ cap) W (fun r W' => r = .int .i64 (cf x y) ∧ Ext W W')) : CmpLays P g cap.toArray enc k cf blk off size w := by
  intro m os dk hs x y
  have := h _ x y ⟨dk, hs, m, os, rfl⟩
  unfold Ret at this
  have e : ([Value.agg (enc x).toArray, Value.agg (enc y).toArray] ++ cap).toArray = #[.agg (enc x).toArray, .agg (enc y).toArray] ++ cap.toArray := by simp
  rw [e] at this
  refine Calls.mono this ?_
  rintro e w' ⟨v, rfl, rfl, hx⟩
  exact ⟨rfl, Jr hx⟩

theorem Yz {w : World} {b : Nat} {f : Array Value → Array Value} {c : Array Value} {T : TypeId} {fz : Nat × Nat} (h : w.heap[b]? = some (.cells c T fz)) : (mapBlock w b f).heap[b]? = some (.cells (f c) T fz) := by
  unfold mapBlock
  simp [Array.getElem?_modify, h, onCells]
theorem Zu {w : World} {b i : Nat} {f : Array Value → Array Value} (h : i ≠ b) : (mapBlock w b f).heap[i]? = w.heap[i]? := by
  unfold mapBlock
  simp [Array.getElem?_modify, Ne.symm h]
theorem xW {w : World} {b : Nat} {f : Array Value → Array Value} : (mapBlock w b f).heap.size = w.heap.size := by
  unfold mapBlock; simp

theorem Xx {α : Type} [Inhabited α] {enc : α → List Value} {k blk off m : Nat} {w : World} {d : Array α} {os : Array Obj} (hb : blk < w.heap.size) : Chg (fun i => i = blk) w (sortWorldK enc k w blk off m d os) := by
  unfold sortWorldK putRowK putRow
  have hs : w.heap.size ≤ (grow (mapBlock (Sort.ahead w m) blk (putCells id off (flatK enc k d))) os).heap.size := by
    show _ ≤ (_ ++ os).size
    rw [Array.size_append, xW]
    exact Nat.le_add_right _ _
  have hg : ∀ i, i < w.heap.size → (grow (mapBlock (Sort.ahead w m) blk (putCells id off (flatK enc k d))) os).heap[i]? = (mapBlock (Sort.ahead w m) blk (putCells id off (flatK enc k d))).heap[i]? := by
    intro i hi
    show (_ ++ os)[i]? = _
    rw [Array.getElem?_append, if_pos (by rw [xW]; exact hi)]
  refine ⟨rfl, rfl, rfl, hs, fun i hi hne => ?_, ?_, Nat.le_add_right _ _⟩
  · rw [hg i hi, Zu hne]; rfl
  · rintro i ⟨c, T, hc⟩
    have hi := (Array.getElem?_eq_some_iff.1 hc).1
    by_cases h : i = blk
    · subst h
      exact ⟨_, T, by rw [hg i hi]; exact Yz (w := Sort.ahead w m) hc⟩
    · exact ⟨c, T, by rw [hg i hi, Zu h]; exact hc⟩
theorem WR {α : Type} [Inhabited α] {enc : α → List Value} {k blk off m : Nat} {w : World} {d : Array α} {os : Array Obj} {c : Array Value} {T : TypeId} (hb : w.heap[blk]? = some (.cells c T)) :
    (sortWorldK enc k w blk off m d os).heap[blk]? = some (.cells (putCells id off (flatK enc k d) c) T) := by
  unfold sortWorldK putRowK putRow
  have hi := (Array.getElem?_eq_some_iff.1 hb).1
  show (_ ++ os)[blk]? = _
  rw [Array.getElem?_append, if_pos (by rw [xW]; exact hi)]
  exact Yz (w := Sort.ahead w m) hb

theorem UI {α : Type} [Rep α] {w : World} {F : Nat → Prop} {enc : α → List Value} : ∀ {L : List α}, (∀ x ∈ L, Rep.rd w F (enc x) x) → Els w F (L.map enc) L
  | [], _ => trivial
  | x :: L, h => ⟨h x (List.mem_cons_self ..), UI fun y hy => h y (List.mem_cons_of_mem _ hy)⟩
theorem Uc {α : Type} [Rep α] [Inhabited α] {P : Program} {ρ : Ren} (L : SlLaysF0.n6 P ρ) (aE : ∀ w, (isAgg (ρ.t 24)).run P w = .ok true w) (zE : ∀ w, (sizeOf (ρ.t 24)).run P w = .ok (Rep.k α) w)
    {enc : α → List Value} (henc : ∀ w F cs (x : α), Rep.rd w F cs x → cs = enc x) (hlen : ∀ x, (enc x).length = Rep.k α) (hone : ∀ x, ∀ u ∈ enc x, u.oneCell' = true) {cf : α → α → Int} (hO : SWO (ltOf cf)) {g : Nat} {cap : List Value} (eg : ∀ args w, (callFunc g args).run P w = .ok (.enter g args) w)
    {T : TypeId} {lo : Nat} {w : World} {F : Nat → Prop} {v : Value} {l : List α} (ho : OwnS T lo w F v l)
    (hcmp : ∀ W (x y : α), Ret P g ([.agg (enc x).toArray, .agg (enc y).toArray] ++ cap) W (fun r W' => r = .int .i64 (cf x y) ∧ Ext W W'))
    (hre : ∀ w' (x : α) (F : Nat → Prop) cs, Rep.rd w F cs x → Rep.rd w' F cs x) (hbs : l.length < 4611686018427387904) :
    Ret P (ρ.f 6) ([v, .func (.func g) #[] cap.toArray]) w (fun r w' => r = .tuple #[] ∧ Chg (fun b => v.ownBlock = some b) w w' ∧ ∃ l', l'.Perm l ∧ l'.Pairwise (fun a b => ltOf cf b a = false) ∧ OwnS T lo w' F v l') := by
  by_cases hne : l = []
  · subst hne
    obtain ⟨a0, c0, rfl, _, _⟩ := ho.isSl
    have hc := AnyF.slices_SortFunc_none L a0 c0 (.func (.func g) #[] cap.toArray) w
    unfold Ret
    refine Calls.mono hc ?_
    rintro e w' ⟨he, rfl⟩
    exact ⟨.tuple #[], he, rfl, Chg.refl _ _, [], List.Perm.refl _, List.Pairwise.nil, ho⟩
  obtain ⟨css, hE, hown⟩ := ho.css
  rcases hown.2 with ⟨rfl, h0⟩ | ⟨gb, capn, cur, rfl, hg, hb, hn, hm, hs, ht⟩
  · exact absurd (List.length_eq_zero_iff.1 h0) hne
  have hblk := (Array.getElem?_eq_some_iff.1 hb).1
  have hcs : ∀ i (h : i < l.length), CellsAt w gb (i * Rep.k α) (enc l[i]) ∧ Rep.rd w F (enc l[i]) l[i] := by
    intro i hi
    obtain ⟨cs, hr, hc⟩ := hE.at_ i hi
    have e := henc w F cs _ hr
    subst e
    refine ⟨fun j hj => ?_, hr⟩
    have h3 := hc j hj
    rw [← ht, List.getElem?_take] at h3
    split at h3
    · exact xw hb (by simpa using h3)
    · cases h3
  have kpos : 0 < Rep.k α := Rep.kpos
  have hH : HoldsK enc (Rep.k α) w gb 0 l.toArray := by
    intro j hj
    have hj' : j < l.length * Rep.k α := by simpa using hj
    have hd : j / Rep.k α < l.length := (Nat.div_lt_iff_lt_mul kpos).2 hj'
    have hm' : j % Rep.k α < (enc l[j / Rep.k α]).length := by rw [hlen]; exact Nat.mod_lt _ kpos
    have h1 := (hcs (j / Rep.k α) hd).1 (j % Rep.k α) hm'
    refine ⟨?_, by simp [World.frozen?, hb]⟩
    rw [get_flatK _ _ _ _ (by simpa using hj'), Nat.zero_add]
    rw [show j / Rep.k α * Rep.k α + j % Rep.k α = j by rw [Nat.mul_comm]; exact Nat.div_add_mod j (Rep.k α)] at h1
    rw [h1]
    have e1 : l.toArray[j / Rep.k α]! = l[j / Rep.k α] := by rw [getElem!_pos l.toArray (j / Rep.k α) (by simpa using hd)]; simp
    have e2 : (enc l[j / Rep.k α])[j % Rep.k α]! = (enc l[j / Rep.k α])[j % Rep.k α] := getElem!_pos (enc l[j / Rep.k α]) (j % Rep.k α) hm'
    rw [e1, e2]; rfl
  have hc := AnyQ.slices_SortFunc L (Rep.k α) aE zE enc hlen hone cf hO g cap.toArray gb 0 capn l.toArray w eg (Jq fun W x y _ => hcmp W x y) hH hblk (by simpa using hbs)
  have ea : ([Value.slice (some ⟨gb, 0, none⟩) l.length capn, .func (.func g) #[] cap.toArray]).toArray = #[Value.slice (some ⟨gb, 0, none⟩) l.toArray.size capn, .func (.func g) #[] cap.toArray] := by simp
  unfold Ret
  rw [ea]
  refine Calls.mono hc ?_
  rintro e w' ⟨he, d', n, os, hp, hsd, hw⟩
  refine ⟨.tuple #[], he, rfl, ?_, d'.toList, ?_, ?_, ?_⟩
  · have hgo : (fun b => (Value.slice (some ⟨gb, 0, none⟩) l.length capn).ownBlock = some b) = fun b => b = gb := by funext b; simp [Value.ownBlock, eq_comm]
    rw [hgo, hw]; exact Xx hblk
  · have h2 := hp.2.2
    have hsz : d'.size = l.length := by simpa using hp.1
    simp at h2
    rwa [List.take_of_length_le (by simp [hsz])] at h2
  · rw [List.pairwise_iff_getElem]
    intro i j hi hj hij
    have hsz : d'.size = l.length := by simpa using hp.1
    have hi' : i < d'.size := by simpa using hi
    have hj' : j < d'.size := by simpa using hj
    have := hsd i j (Nat.zero_le _) hij (by simpa [hsz] using hj')
    rw [getElem!_pos d' j hj', getElem!_pos d' i hi'] at this
    simpa using this
  · have hsz : d'.size = l.length := by simpa using hp.1
    have hperm : d'.toList.Perm l := by
      have h2 := hp.2.2
      simp at h2
      rwa [List.take_of_length_le (by simp [hsz])] at h2
    have hrd : ∀ x ∈ d'.toList, Rep.rd w' F (enc x) x := by
      intro x hx
      obtain ⟨i, hi, rfl⟩ := List.getElem_of_mem (hperm.subset hx)
      exact hre w' _ F _ (hcs i hi).2
    have hE' : Els w' F (d'.toList.map enc) d'.toList := UI hrd
    have hfl := hE'.flat
    have hlen' : d'.toList.length = l.length := by simpa using hsz
    have hcur : (putCells id 0 (flatK enc (Rep.k α) d') cur).size = cur.size := by simp [putCells]
    have hchg : Chg (fun i => i = gb) w w' := by rw [hw]; exact Xx hblk
    have hle : l.length * Rep.k α ≤ cur.size := by rw [hs]; exact Nat.mul_le_mul_right _ hn
    refine ⟨⟨_, hE', by rw [hfl], .inr ⟨gb, capn, _, by rw [hlen'], hg, by rw [hw]; exact WR hb, by rw [hlen']; exact hn, hm, by rw [hcur]; exact hs, ?_⟩⟩, ho.apart, fun b hb' => ⟨Nat.lt_of_lt_of_le (ho.bound b hb').1 hchg.size, fun hl => hchg.soft b ((ho.bound b hb').2 hl)⟩, by rw [hlen']; exact ho.small⟩
    refine List.ext_getElem? fun j => ?_
    rw [hlen', List.getElem?_take]
    split
    · rename_i hj
      have hd : j / Rep.k α < d'.toList.length := by rw [hlen']; exact (Nat.div_lt_iff_lt_mul kpos).2 hj
      obtain ⟨cs, hr, hc⟩ := hE'.at_ (j / Rep.k α) hd
      have e := henc w' F cs _ hr
      subst e
      have hm' : j % Rep.k α < (enc (d'.toList[j / Rep.k α])).length := by rw [hlen]; exact Nat.mod_lt _ kpos
      have h1 := hc (j % Rep.k α) hm'
      rw [show j / Rep.k α * Rep.k α + j % Rep.k α = j by rw [Nat.mul_comm]; exact Nat.div_add_mod j (Rep.k α)] at h1
      rw [h1]
      have hjc : j < cur.size := by omega
      have hjk : j < d'.size * Rep.k α := by rw [hsz]; exact hj
      have hd2 : j / Rep.k α < d'.size := by simpa using hd
      rw [Array.getElem?_toList, Array.getElem?_eq_getElem (by rw [hcur]; exact hjc)]
      simp only [putCells, Array.getElem_mapIdx, Nat.zero_le, true_and, Nat.zero_add, size_flatK, hjk, if_true, Nat.sub_zero, id]
      have e1 : d'[j / Rep.k α]! = d'[j / Rep.k α] := getElem!_pos d' (j / Rep.k α) hd2
      have e0 : d'.toList[j / Rep.k α] = d'[j / Rep.k α] := by simp
      rw [e0] at hm'
      have e2 : (enc d'[j / Rep.k α])[j % Rep.k α]! = (enc d'[j / Rep.k α])[j % Rep.k α] := getElem!_pos (enc d'[j / Rep.k α]) (j % Rep.k α) hm'
      rw [get_flatK _ _ _ _ hjk, e1, e2]
      simp
    · rename_i hj
      rw [List.getElem?_eq_none (by rw [hfl, hlen']; omega)]
end Go.Proofs.YtbbabhaalmkbkaaGreatDoor
namespace Go.Proofs.YtbbabhaalmkbkaaGreatDoor
open Go.Proofs Go.Shelf

def Vg : Go.Shelf.Ren := ⟨fun | 6 => 58 | 15 => 77 | 14 => 76 | 28 => 97 | 29 => 98 | 20 => 89 | 21 => 90 | 22 => 91 | 23 => 92 | 24 => 93 | 25 => 94 | 26 => 95 | 27 => 96 | 46 => 105 | 47 => 106 | 48 => 107 | 49 => 108 | 50 => 109 | 57 => 111 | n => n, fun | 22 => 26 | 24 => 41 | 25 => 129 | 3 => 3 | 39 => 143 | 0 => 0 | 53 => 162 | 55 => 164 | 4 => 4 | 46 => 156 | 45 => 155 | 50 => 147 | 5 => 5 | 9 => 9 | 66 => 168 | 70 => 172 | 76 => 174 | 77 => 175 | n => n, fun | n => n⟩
theorem zav : Go.Proofs.SlLaysF0.n6 Tryz.prog Vg := {
  mixed := by kernel_rfl,
  f6 := ⟨Tryz.f58.name, by decide, Tryz.func58.trans (congrArg some (by kernel_rfl))⟩,
  f14 := ⟨Tryz.f76.name, by decide, Tryz.func76.trans (congrArg some (by kernel_rfl))⟩,
  f15 := Tryz.func77.trans (congrArg some (by kernel_rfl)),
  f20 := ⟨Tryz.f89.name, by decide, Tryz.func89.trans (congrArg some (by kernel_rfl))⟩,
  f21 := ⟨Tryz.f90.name, by decide, Tryz.func90.trans (congrArg some (by kernel_rfl))⟩,
  f22 := ⟨Tryz.f91.name, by decide, Tryz.func91.trans (congrArg some (by kernel_rfl))⟩,
  f23 := ⟨Tryz.f92.name, by decide, Tryz.func92.trans (congrArg some (by kernel_rfl))⟩,
  f24 := ⟨Tryz.f93.name, by decide, Tryz.func93.trans (congrArg some (by kernel_rfl))⟩,
  f25 := ⟨Tryz.f94.name, by decide, Tryz.func94.trans (congrArg some (by kernel_rfl))⟩,
  f26 := ⟨Tryz.f95.name, by decide, Tryz.func95.trans (congrArg some (by kernel_rfl))⟩,
  f27 := ⟨Tryz.f96.name, by decide, Tryz.func96.trans (congrArg some (by kernel_rfl))⟩,
  f28 := Tryz.func97.trans (congrArg some (by kernel_rfl)),
  f29 := Tryz.func98.trans (congrArg some (by kernel_rfl)),
  f46 := ⟨Tryz.f105.name, by decide, Tryz.func105.trans (congrArg some (by kernel_rfl))⟩,
  f47 := Tryz.func106.trans (congrArg some (by kernel_rfl)),
  f48 := Tryz.func107.trans (congrArg some (by kernel_rfl)),
  f49 := ⟨Tryz.f108.name, by decide, Tryz.func108.trans (congrArg some (by kernel_rfl))⟩,
  f50 := ⟨Tryz.f109.name, by decide, Tryz.func109.trans (congrArg some (by kernel_rfl))⟩,
  f57 := ⟨Tryz.f111.name, by decide, Tryz.func111.trans (congrArg some (by kernel_rfl))⟩,
  t0 := Tryz.underlying0,
  a0 := Tryz.isAgg0,
  z0 := Tryz.sizeOf0,
  v0 := Tryz.zeroValue0,
  t3 := Tryz.underlying3,
  a3 := kT,
  z3 := nT,
  v3 := tR,
  t4 := Tryz.underlying4,
  a4 := Tryz.isAgg4,
  z4 := Tryz.sizeOf4,
  v4 := Tryz.zeroValue4,
  t5 := Tryz.underlying5,
  a5 := Tryz.isAgg5,
  z5 := Tryz.sizeOf5,
  v5 := Tryz.zeroValue5,
  t9 := Tryz.underlying9,
  a9 := Tryz.isAgg9,
  z9 := Tryz.sizeOf9,
  v9 := Tryz.zeroValue9,
  t22 := rR,
  a22 := tT,
  z22 := sR,
  v22 := Tryz.zeroValue26,
  t25 := Tryz.underlying129,
  a25 := Tryz.isAgg129,
  z25 := Tryz.sizeOf129,
  v25 := Tryz.zeroValue129,
  t39 := Tryz.underlying143,
  a39 := Tryz.isAgg143,
  z39 := Tryz.sizeOf143,
  v39 := Tryz.zeroValue143,
  t45 := Tryz.underlying155,
  a45 := Tryz.isAgg155,
  z45 := Tryz.sizeOf155,
  v45 := Tryz.zeroValue155,
  t46 := Tryz.underlying156,
  a46 := Tryz.isAgg156,
  z46 := Tryz.sizeOf156,
  v46 := Tryz.zeroValue156,
  t50 := Tryz.underlying147,
  a50 := Tryz.isAgg147,
  z50 := Tryz.sizeOf147,
  v50 := Tryz.zeroValue147,
  t53 := Tryz.underlying162,
  a53 := Tryz.isAgg162,
  z53 := Tryz.sizeOf162,
  v53 := Tryz.zeroValue162,
  t55 := Tryz.underlying164,
  a55 := Tryz.isAgg164,
  z55 := Tryz.sizeOf164,
  v55 := Tryz.zeroValue164,
  t66 := Tryz.underlying168,
  a66 := Tryz.isAgg168,
  z66 := Tryz.sizeOf168,
  v66 := Tryz.zeroValue168,
  t70 := Tryz.underlying172,
  a70 := Tryz.isAgg172,
  z70 := Tryz.sizeOf172,
  v70 := Tryz.zeroValue172,
  t76 := Tryz.underlying174,
  a76 := Tryz.isAgg174,
  z76 := Tryz.sizeOf174,
  v76 := Tryz.zeroValue174,
  t77 := Tryz.underlying175,
  a77 := Tryz.isAgg175,
  z77 := Tryz.sizeOf175,
  v77 := Tryz.zeroValue175
}
end Go.Proofs.YtbbabhaalmkbkaaGreatDoor
set_option maxRecDepth 8000
set_option maxHeartbeats 4000000
namespace Go.Proofs.YtbbabhaalmkbkaaGreatDoor
open Go.Proofs Go.RowKit Go.Sort Go.Shelf

theorem Vn {G : Nat → Prop} {W w : World} {Rs : List HP} {a : Ev} {da : Value} {b : Ev} {db : Value} (hS0 : Sep G W Rs w) : Ret Tryz.prog 59 [.agg (a.cells da).toArray, .agg (b.cells db).toArray] w (fun r w' => r = (.int .i64 ((ZS a b)) : Value) ∧ Sep G W Rs w') := by
 refine zi (args := [.agg (a.cells da).toArray, .agg (b.cells db).toArray]) Tryz.func59 rfl rfl ?_
 refine za (R0 fun _ => st (zH (v := .agg (a.cells da).toArray) rfl ?_))
 intro w3 b2 aQ
 refine st (zH (v := .agg (b.cells db).toArray) rfl ?_)
 intro w7 C aR
 refine st (aS (Iv 0) (zd (za ?_)))
 refine WD4 ((fun TT q => WF [fun vals n => Sep G W (q :: TT) n, fun vals n => (vals 4 = (Iv ((yv a.lam b.lam)) : Value)) ∧ Sep G W (q :: TT) n, fun vals n => (vals 4 = (Iv ((yv a.lam b.lam)) : Value)) ∧ (vals 11 = (Iv ((yv a.origin b.origin)) : Value)) ∧ Sep G W (q :: TT) n, fun vals n => (vals 4 = (Iv ((yv a.lam b.lam)) : Value)) ∧ (vals 11 = (Iv ((yv a.origin b.origin)) : Value)) ∧ (vals 18 = (Iv ((yv a.seq b.seq)) : Value)) ∧ Sep G W (q :: TT) n, fun vals n => ∃ (e : Nat), (vals 4 = (Iv ((yv a.lam b.lam)) : Value)) ∧ (vals 11 = (Iv ((yv a.origin b.origin)) : Value)) ∧ (vals 18 = (Iv ((yv a.seq b.seq)) : Value)) ∧ (vals 19 = ((Iy e 3 3) : Value)) ∧ Sep G W ((Blk e #[Iv ((yv a.lam b.lam)), Iv ((yv a.origin b.origin)), Iv ((yv a.seq b.seq))] 3) :: q :: TT) n, fun vals n => ∃ (e : Nat), (vals 4 = (Iv ((yv a.lam b.lam)) : Value)) ∧ (vals 11 = (Iv ((yv a.origin b.origin)) : Value)) ∧ (vals 18 = (Iv ((yv a.seq b.seq)) : Value)) ∧ (vals 19 = ((Iy e 3 3) : Value)) ∧ (vals 20 = (Iv ((orL [(yv a.lam b.lam), (yv a.origin b.origin), (yv a.seq b.seq)])) : Value)) ∧ Sep G W ((RowE (α := Int) own 3 (Iy e 3 3) [(yv a.lam b.lam), (yv a.origin b.origin), (yv a.seq b.seq)]) :: q :: TT) n]) ((Blk b2 (a.cells da).toArray 41) :: Rs) (Blk C (b.cells db).toArray 41)) (AF [Vl 0 (Ix b2 2), Vl 1 (Iv (a.lam)), Vl 2 (Ix C 2), Vl 3 (Iv (b.lam)), fun _ => True, Vl 5 (Ix b2 0), Vl 6 (Ix b2 0), Vl 7 (Iv (a.origin)), Vl 8 (Ix C 0), Vl 9 (Ix C 0), Vl 10 (Iv (b.origin)), fun _ => True, Vl 12 (Ix b2 0), Vl 13 (Ix b2 1), Vl 14 (Iv (a.seq)), Vl 15 (Ix C 0), Vl 16 (Ix C 1), Vl 17 (Iv (b.seq)), fun _ => True, fun _ => True, fun _ => True, Vl 21 (Iv ((orL [(yv a.lam b.lam), (yv a.origin b.origin), (yv a.seq b.seq)])))]) [[], [0], [], [2], (rg 4), [], [5], [5, 6], [], [8], [8, 9], (rg 11), [], [12], [12, 13], [], [15], [15, 16], (rg 18), (rg 19), (rg 20), (rg 21)] [4, 11, 18, 19, 20] [(0, 0), (0, 0), (0, 0), (0, 0), (0, 0), (0, 1), (0, 1), (0, 1), (0, 1), (0, 1), (0, 1), (1, 1), (0, 2), (0, 2), (0, 2), (0, 2), (0, 2), (0, 2), (2, 2), (3, 3), (4, 4), (5, 5)] ((hS0.new aQ).new aR) ⟨fun _ _ _ _ _ _ _ => obl rfl (Zc rfl dR), ob1 0 fun _ _ (N : Sep _ _ _ _) O => obl rfl (lD (Iv (a.lam)) kT (O 0 dc) (zb (N.b1) rfl) dR), fun _ _ _ _ _ _ _ => obl rfl (Zc rfl dR), ob1 0 fun _ _ (P : Sep _ _ _ _) Q => obl rfl (lD (Iv (b.lam)) kT (Q 2 dc) (zb (P.b0) rfl) dR), ?_, fun _ _ _ _ _ _ _ => obl rfl (yy rfl dR), fun _ _ _ _ _ _ R => obl rfl (xz (R 5 dc) dR), ?_, fun _ _ _ _ _ _ _ => obl rfl (yy rfl dR), fun _ _ _ _ _ _ S => obl rfl (xz (S 8 dc) dR), ?_, ?_, fun _ _ _ _ _ _ _ => obl rfl (yy rfl dR), fun _ _ _ _ _ _ T => obl rfl (Zk (T 12 dc) dR), ?_, fun _ _ _ _ _ _ _ => obl rfl (yy rfl dR), fun _ _ _ _ _ _ U => obl rfl (Zk (U 15 dc) dR), ?_, ?_, ?_, ?_, ?_, trivial⟩ ?_
 refine ob1 0 fun vals _ (aB : Sep _ _ _ _) L => (obl rfl ((zB (f := 79) (vals := [Iv (a.lam), Iv (b.lam)]) (cap := []) rfl (yE ⟨(L 1 dc), (L 3 dc), trivial⟩) wT (Ud  aB) ?_)))
 rintro _ w46 ⟨rfl, aC⟩
 exact fun j s h => ⟨(And.intro s aC), trivial⟩
 refine fun t _ _ aD aE D E => ?_
 have hkk : t = 0 ∨ t = 1 := by have h1 : 0 ≤ t := aD; have h2 : t ≤ 1 := aE; omega
 rcases hkk with rfl | rfl
 have V : Sep _ _ _ _ := D
 exact obl rfl (lD (Iv (a.origin)) kT (E 6 dc) (zb (V.b1) rfl) dR)
 obtain ⟨d, X⟩ := D
 exact obl rfl (lD (Iv (a.origin)) kT (E 6 dc) (zb (X.b1) rfl) dR)
 refine fun u _ _ aH aI F H => ?_
 have hkk : u = 0 ∨ u = 1 := by have h1 : 0 ≤ u := aH; have h2 : u ≤ 1 := aI; omega
 rcases hkk with rfl | rfl
 have Y : Sep _ _ _ _ := F
 exact obl rfl (lD (Iv (b.origin)) kT (H 9 dc) (zb (Y.b0) rfl) dR)
 obtain ⟨d, Z⟩ := F
 exact obl rfl (lD (Iv (b.origin)) kT (H 9 dc) (zb (Z.b0) rfl) dR)
 refine ob1 1 fun vals _ aJ M => ?_
 obtain ⟨d, aK⟩ := aJ
 refine obl rfl ((zB (f := 79) (vals := [Iv (a.origin), Iv (b.origin)]) (cap := []) rfl (yE ⟨(M 7 dc), (M 10 dc), trivial⟩) wT (Ud  aK) ?_))
 rintro _ w100 ⟨rfl, aa⟩
 exact fun j s h => ⟨(And.intro ((h 4 dc).trans d) (And.intro s aa)), trivial⟩
 refine fun o _ _ aL aM x y => ?_
 have hkk : o = 0 ∨ o = 1 ∨ o = 2 := by have h1 : 0 ≤ o := aL; have h2 : o ≤ 2 := aM; omega
 rcases hkk with rfl | rfl | rfl
 have ab : Sep _ _ _ _ := x
 exact obl rfl (lD (Iv (a.seq)) kT (y 13 dc) (zb (ab.b1) rfl) dR)
 obtain ⟨d, ac⟩ := x
 exact obl rfl (lD (Iv (a.seq)) kT (y 13 dc) (zb (ac.b1) rfl) dR)
 obtain ⟨d, g, ad⟩ := x
 exact obl rfl (lD (Iv (a.seq)) kT (y 13 dc) (zb (ad.b1) rfl) dR)
 refine fun p _ _ aN aO z A => ?_
 have hkk : p = 0 ∨ p = 1 ∨ p = 2 := by have h1 : 0 ≤ p := aN; have h2 : p ≤ 2 := aO; omega
 rcases hkk with rfl | rfl | rfl
 have ae : Sep _ _ _ _ := z
 exact obl rfl (lD (Iv (b.seq)) kT (A 16 dc) (zb (ae.b0) rfl) dR)
 obtain ⟨d, af⟩ := z
 exact obl rfl (lD (Iv (b.seq)) kT (A 16 dc) (zb (af.b0) rfl) dR)
 obtain ⟨d, g, ag⟩ := z
 exact obl rfl (lD (Iv (b.seq)) kT (A 16 dc) (zb (ag.b0) rfl) dR)
 refine ob1 2 fun vals _ ah I => ?_
 obtain ⟨d, g, ai⟩ := ah
 refine obl rfl ((zB (f := 79) (vals := [Iv (a.seq), Iv (b.seq)]) (cap := []) rfl (yE ⟨(I 14 dc), (I 17 dc), trivial⟩) wT (Ud  ai) ?_))
 rintro _ w154 ⟨rfl, aj⟩
 exact fun j s h => ⟨(And.intro ((h 4 dc).trans d) (And.intro ((h 11 dc).trans g) (And.intro s aj))), trivial⟩
 refine ob1 3 fun _ _ ak _ => ?_
 obtain ⟨d, g, i, al⟩ := ak
 refine obl rfl ((zS (k := 1) (parts' := [(0, Iv ((yv a.lam b.lam))), (1, Iv ((yv a.origin b.origin))), (2, Iv ((yv a.seq b.seq)))]) (c := #[Iv ((yv a.lam b.lam)), Iv ((yv a.origin b.origin)), Iv ((yv a.seq b.seq))]) mT nT tR dc (Zq ⟨rfl, d, rfl, g, rfl, i, trivial⟩) kr ?_))
 intro w166 e am
 exact fun j s h => ⟨(Exists.intro e (And.intro ((h 4 dc).trans d) (And.intro ((h 11 dc).trans g) (And.intro ((h 18 dc).trans i) (And.intro s (al.new am)))))), trivial⟩
 refine ob1 4 fun vals _ an _ => ?_
 obtain ⟨e, d, g, i, m, ao⟩ := an
 refine obl rfl ?_
 have J : Sep _ _ ((RowE (α := Int) own 3 (Iy e 3 3) [(yv a.lam b.lam), (yv a.origin b.origin), (yv a.seq b.seq)]) :: _) _ := Sep.blkRow (src := own) (l := [(yv a.lam b.lam), (yv a.origin b.origin), (yv a.seq b.seq)]) (css := [[Iv ((yv a.lam b.lam))], [Iv ((yv a.origin b.origin))], [Iv ((yv a.seq b.seq))]]) ao rfl ⟨fun _ _ => ⟨rfl, (WT a.lam b.lam)⟩, fun _ _ => ⟨rfl, (WT a.origin b.origin)⟩, fun _ _ => ⟨rfl, (WT a.seq b.seq)⟩, trivial⟩ yqa (show 3 ≤ maxLen by decide)
 have ap := J.r0
 have hr177s : _ * 8 ≤ _ := ap.2
 obtain ⟨G178, aq, hB181, ar, au⟩ := J.lend
 have B := RowE.rd aq
 have hrd184s : _ * 8 ≤ _ := B.small
 refine (zB (f := 78) (vals := [(Iy e 3 3)]) (cap := []) rfl (yE ⟨m, trivial⟩) Tryz.call78 (Da_or (l := [(yv a.lam b.lam), (yv a.origin b.origin), (yv a.seq b.seq)]) (vl := (Iy e 3 3)) B ar) ?_)
 rintro _ w185 ⟨rfl, av⟩
 have aw := au _ _ av
 exact fun j s h => ⟨(Exists.intro e (And.intro ((h 4 dc).trans d) (And.intro ((h 11 dc).trans g) (And.intro ((h 18 dc).trans i) (And.intro ((h 19 dc).trans m) (And.intro s aw)))))), trivial⟩
 refine ob1 5 fun _ _ ax _ => ?_
 obtain ⟨e, d, g, i, m, K, hS326⟩ := ax
 exact obl rfl (zR (v := Iv ((orL [(yv a.lam b.lam), (yv a.origin b.origin), (yv a.seq b.seq)]))) K dR)
 intro vals w327 ay az
 obtain ⟨e, d, g, i, m, K, aA⟩ := ay
 have aP := az 21 dc
 refine zT (kv := [(0, .agg (a.cells da).toArray), (1, .agg (b.cells db).toArray), (2, Ix b2 0), (3, Ix C 0), (4, Iv ((orL [(yv a.lam b.lam), (yv a.origin b.origin), (yv a.seq b.seq)])))]) ⟨rfl, rfl, rfl, rfl, (by exact aP), trivial⟩ (fun ρw327 => (zd (zk (zG Tryz.results59 (show _ = (Iv ((orL [(yv a.lam b.lam), (yv a.origin b.origin), (yv a.seq b.seq)])) : Value) from rfl) ?_))))
 refine ⟨rfl, (aA.s3_)⟩

theorem Ku {W : World} {a b : Ev} {da db : Value} : Ret Tryz.prog 59 [.agg (a.cells da).toArray, .agg (b.cells db).toArray] W (fun r W' => r = .int .i64 (ZS a b) ∧ Ext W W') :=
  Ret.mono (Vn (Sep.start W)) (fun v w' ⟨h1, h2⟩ => ⟨h1, h2.fin⟩)
abbrev EvP := Ev × {v : Value // v.oneCell' = true}
instance : Inhabited EvP := ⟨(default, ⟨.slice none 0 0, rfl⟩)⟩
def EvP.cells (s : EvP) : List Value := s.1.cells s.2.1
instance : Rep EvP where
  k := 10
  rd _ _ cs s := cs = s.cells
  bytes := 96
  bpos := by decide
  kpos := by decide
  len h := by rw [h]; rfl
  one h := by rw [h]; rename_i s; exact zW ⟨rfl, rfl, rfl, s.2.2, rfl, rfl, rfl, rfl, rfl, rfl, trivial⟩
  mono h _ := h
theorem XY {w : World} {F : Nat → Prop} : ∀ {css : List (List Value)} {l : List Ev}, Els w F css l → ∃ ls : List EvP, ls.map (·.1) = l ∧ Els w F css ls ∧ ∀ s ∈ ls, RdS w F s.2.1 s.1.deps ∧ s.1.Ok
  | [], [], _ => ⟨[], rfl, trivial, fun _ h => by cases h⟩
  | cs :: css, x :: l, h => by
    obtain ⟨⟨d, e, h1, h2⟩, h3⟩ := h
    obtain ⟨ls, h4, h5, h6⟩ := XY h3
    refine ⟨(x, ⟨d, h1.sl.one⟩) :: ls, by simp [h4], ⟨e, h5⟩, fun s hs => ?_⟩
    rcases List.mem_cons.1 hs with rfl | hs
    · exact ⟨h1, h2⟩
    · exact h6 s hs
  | [], _ :: _, h => h.elim
  | _ :: _, [], h => h.elim
theorem VJ {w : World} {F : Nat → Prop} : ∀ {css : List (List Value)} {ls : List EvP}, Els w F css ls → (∀ s ∈ ls, RdS w F s.2.1 s.1.deps ∧ s.1.Ok) → Els w F css (ls.map (·.1))
  | [], [], _, _ => trivial
  | cs :: css, s :: ls, h, hs => by
    obtain ⟨h1, h2⟩ := h
    have h3 := hs s (List.mem_cons_self ..)
    exact ⟨⟨_, h1, h3.1, h3.2⟩, VJ h2 (fun s hs' => hs s (List.mem_cons_of_mem _ hs'))⟩
  | [], _ :: _, h, _ => h.elim
  | _ :: _, [], h, _ => h.elim
theorem xG {a b : Ev} : ZS a b < 0 ↔ a.lam < b.lam ∨ a.lam = b.lam ∧ (a.origin < b.origin ∨ a.origin = b.origin ∧ a.seq < b.seq) := by
  unfold ZS orL orL orL orL yv
  by_cases h1 : a.lam < b.lam <;> by_cases h2 : b.lam < a.lam <;> by_cases h3 : a.origin < b.origin <;> by_cases h4 : b.origin < a.origin <;> by_cases h5 : a.seq < b.seq <;> by_cases h6 : b.seq < a.seq <;> simp only [h1, h2, h3, h4, h5, h6, if_true, if_false] <;> simp <;> omega
theorem KD : SWO (ltOf fun a b : EvP => ZS a.1 b.1) := by
  refine ⟨fun x => ?_, fun x y z h1 h2 => ?_, fun x y z h1 h2 => ?_⟩
  · simp only [ltOf, decide_eq_false_iff_not, xG]; omega
  · simp only [ltOf, decide_eq_true_eq, xG] at *; omega
  · simp only [ltOf, decide_eq_false_iff_not, xG] at *; omega
theorem Qr {G : Nat → Prop} {W w : World} {Rs : List HP} {v : Value} {l : List Ev} (hl : l.length < 4611686018427387904) (hS : Sep G W (RowE (α := Ev) own 41 v l :: Rs) w) :
    Ret Tryz.prog 58 [v, .func (.func 59) #[] #[]] w (fun r w' => ∃ l' : List Ev, r = (.tuple #[] : Value) ∧ l'.Perm l ∧ l'.Pairwise (fun a b => ¬ ZS b a < 0) ∧ Sep G W (RowE (α := Ev) own 41 v l' :: Rs) w') := by
  obtain ⟨f, hA, hfl, hT⟩ := hS.take (i := 0) rfl
  have ho := RowE.toOwn hA
  obtain ⟨⟨css, hE, hown⟩, ha, hB, hs⟩ := ho
  obtain ⟨ls, rfl, hE2, hrd⟩ := XY hE
  have ho2 : OwnS 41 0 w (fun b => (f b ∧ v.ownBlock ≠ some b) ∧ Soft w b) v ls := ⟨⟨css, hE2, by rw [List.length_map] at hown; exact hown⟩, ha, hB, by rw [List.length_map] at hs; exact hs⟩
  refine Ret.mono (Uc (α := EvP) (enc := EvP.cells) zav oT lT (fun _ _ _ _ h => h) (fun _ => rfl) (fun s => zW ⟨rfl, rfl, rfl, s.2.2, rfl, rfl, rfl, rfl, rfl, rfl, trivial⟩) KD (cap := []) Tryz.call59 ho2 (fun _ _ _ => Ku) (fun _ _ _ _ h => h) (by simpa using hl)) ?_
  rintro r w' ⟨rfl, hc, ls', hp, hso, ho3⟩
  refine ⟨ls'.map (·.1), rfl, hp.map _, ?_, ?_⟩
  · rw [List.pairwise_map]
    refine hso.imp fun {a b} h => ?_
    simpa [ltOf] using h
  · obtain ⟨⟨css', hE', hown'⟩, ha', hB', hs'⟩ := ho3
    have hF : ∀ b, ((f b ∧ v.ownBlock ≠ some b) ∧ Soft w b) → b < w.heap.size → w'.heap[b]? = w.heap[b]? ∧ ((f b ∧ v.ownBlock ≠ some b) ∧ Soft w b) := fun b hb hlt => ⟨hc.block b hlt hb.1.2, hb⟩
    have hr' : ∀ s ∈ ls', RdS w' (fun b => (f b ∧ v.ownBlock ≠ some b) ∧ Soft w b) s.2.1 s.1.deps ∧ s.1.Ok := fun s hs => ⟨(hrd s (hp.subset hs)).1.mono hF, (hrd s (hp.subset hs)).2⟩
    have ho4 : OwnS (α := Ev) 41 0 w' (fun b => (f b ∧ v.ownBlock ≠ some b) ∧ Soft w b) v (ls'.map (·.1)) := ⟨⟨css', VJ hE' hr', by rw [List.length_map]; exact hown'⟩, ha', hB', by rw [List.length_map]; exact hs'⟩
    have hvf : ∀ b, v.ownBlock = some b → f b := by
      obtain ⟨_, _, _, h3, _⟩ := hA
      exact h3
    exact hT w' _ f (hc.weak fun b _ hb => hvf b hb) (RowE.ofOwn ho4 (fun b hb => ⟨hb.1.1, hc.soft b hb.2⟩) hvf) (fun _ hb => .inl hb)
end Go.Proofs.YtbbabhaalmkbkaaGreatDoor
