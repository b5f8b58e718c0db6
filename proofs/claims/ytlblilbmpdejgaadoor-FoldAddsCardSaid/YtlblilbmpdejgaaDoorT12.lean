import Derived.Test.YtlblilbmpdejgaaDoorT11
import Derived.Test.YtlblilbmpdejgaaDoorT9
import Derived.Test.YtlblilbmpdejgaaDoorT10
set_option linter.unusedSimpArgs false
set_option linter.unusedVariables false
set_option linter.unusedSectionVars false
set_option linter.deprecated false
/- Steps of the proofs of this seat: part F30. -/
set_option maxRecDepth 8000
set_option maxHeartbeats 4000000
namespace Go.Proofs.YtlblilbmpdejgaaDoor
open Go.Proofs Go.RowKit

set_option maxHeartbeats 8000000 in
theorem Vx {G : Nat → Prop} {W w : World} {Rs : List HP} {d : Dcl} {dd0 : Value} (hdd0 : RdS W G dd0 d.types) {dd1 : Value} (hdd1 : RdS W G dd1 d.projs) (od : d.Ok) {n : Int} (hn : InR n) {vl : Value} {l : List Ev} (hl : RdS W G vl l) (hKN : RdS W G (.slice (some ⟨0, 0, none⟩) 6 6) kindsL) (hS0 : Sep G W Rs w) : Ret Tryd.prog 4 [.agg (d.cells dd0 dd1).toArray, .int .i64 (n), vl] w (fun r w' => r = (.bool true : Value) ∧ Sep G W Rs w') := by
 have hdd0s : _ * 24 ≤ _ := hdd0.small
 have hdd1s : _ * 40 ≤ _ := hdd1.small
 have hls : _ * 96 ≤ _ := hl.small
 have hKNs : _ * 8 ≤ _ := hKN.small
 refine zr (args := [.agg (d.cells dd0 dd1).toArray, Iv n, vl]) Tryd.func4 rfl rfl ?_
 refine zd (za kr (fun _ => (st (zT (v := .agg (d.cells dd0 dd1).toArray) rfl ?_))))
 intro w3 b2 jH
 have iC := hS0.new jH
 refine st (ze (v := .bool false) rfl (zf (zd (zd (za kr (fun _ => (st (zl (k := 2) Tryd.isAgg25 Tryd.sizeOf25 rfl rfl (CellsAt.all (iC.blk (i := 0) rfl)) (st (zu (f := 20) (vals := [.agg (d.cells dd0 dd1).toArray]) (cap := []) rfl rfl Tryd.call20 (Kd (d := d) hdd0 hdd1 od iC) ?_))))))))))
 rintro _ w7 ⟨b5, rfl, jJ, iD⟩
 refine st (yt (a := b5) rfl (zf ?_))
 cases cY : !b5
 try simp only [zj] at cY
 have hdo := jJ cY
 refine zn rfl (zv (zd (za kr (fun _ => (st (zb (v := Iv n) rfl ?_))))))
 refine st (zu (f := 13) (vals := [Iv n, Iv 64]) (cap := []) rfl rfl Tryd.call13 (Jf (x := n) (n := 64) hn (by first | omega | (refine ⟨?_, ?_⟩ <;> omega)) iD) ?_)
 rintro _ w12 ⟨ax, rfl, hq11, iE⟩
 have cZ : InR ((1 + ax : Nat) : Int) := bo
 refine st (zV (r := ((1 + ax : Nat) : Int)) (k := .i64) (a := 1) (b := ((ax : Nat) : Int)) rfl rfl (by rw [show (1 + ((ax : Nat) : Int) : Int) = ((1 + ax : Nat) : Int) from bo]; exact zM cZ) (st (zb (v := vl) rfl (st (zu (f := 22) (vals := [Iw (1 + ax), vl]) (cap := []) rfl rfl Tryd.call22 (UO (n := ((1 + ax : Nat) : Int)) (l := l) (vl := vl) cZ hl iE) ?_)))))
 rintro s R ⟨_, g, rfl, h6017, hft18, da⟩
 have iF := da.row (i := 0) rfl
 have hr21s : _ * 96 ≤ _ := iF.2
 refine st (ze (v := s) rfl (zf (zd ?_)))
 obtain ⟨aa, iG, Y, db, iH⟩ := da.lend
 have t := RowE.rdB iG Y
 have hrd28s : _ * 96 ≤ _ := t.small
 refine za kr (fun _ => (st (zl (k := 2) Tryd.isAgg25 Tryd.sizeOf25 rfl rfl (CellsAt.all (db.blk (i := 0) rfl)) (st (zu (f := 23) (vals := [.agg (d.cells dd0 dd1).toArray]) (cap := []) rfl rfl Tryd.call23 (Yr (d := d) (RdS.base hdd0 Y) (RdS.base hdd1 Y) od db) ?_)))))
 rintro _ w31 ⟨T, U, rfl, dd⟩
 have de := dd.row (i := 1) rfl
 have hr33s : _ * 40 ≤ _ := de.2
 refine st (zB Tryd.zeroValue25 ?_)
 intro w36 ay iI
 have bK := dd.new iI
 refine stn (zy (v := .agg (d.cells T U).toArray) (c' := (d.cells T U).toArray) Tryd.sizeOf25 rfl rfl (bK.blk (i := 0) rfl) (ya ⟨(bK.typSl (i := 1) rfl).one, de.1.one, trivial⟩) (Nat.le_of_ble_eq_true rfl) rfl ?_)
 intro w38 iJ
 have df := bK.pt0 iJ
 refine zf (zd (za kr (fun _ => (st (zl (k := 2) Tryd.isAgg25 Tryd.sizeOf25 rfl rfl (CellsAt.all (df.blk (i := 0) rfl)) ?_)))))
 have iK := df.mv1
 obtain ⟨G42, iL, hB45, iM, iN⟩ := iK.lend
 have bQ := RowE.rd (TypW.rowP iL)
 have hrd48s : _ * 24 ≤ _ := bQ.small
 have iO := iM.mv1
 obtain ⟨G50, iP, iQ, iR, iS⟩ := iO.lend
 have bR := RowE.rd iP
 have hrd56s : _ * 40 ≤ _ := bR.small
 refine st (zu (f := 24) (vals := [.agg (d.cells T U).toArray]) (cap := []) rfl rfl Tryd.call24 (QD (d := d) (RdS.base bQ iQ) bR od iR) ?_)
 rintro _ w58 ⟨J, rfl, iT⟩
 have iU := iS _ _ iT
 have dg := iN _ _ iU
 refine st (ze (v := Ix J 0) rfl (zf (zd (za kr (fun _ => (st (zl (k := 2) Tryd.isAgg25 Tryd.sizeOf25 rfl rfl (CellsAt.all (dg.blk (i := 4) rfl)) (st (zu (f := 25) (vals := [.agg (d.cells dd0 dd1).toArray]) (cap := []) rfl rfl Tryd.call25 (Vc (d := d) (RdS.base hdd0 Y) (RdS.base hdd1 Y) od dg) ?_)))))))))
 rintro _ w63 ⟨K, rfl, dh⟩
 refine st (ze (v := Ix K 0) rfl (zf (zd (zd (za kr (fun _ => (st (zb (v := Ix J 0) rfl (st (Yi (b := J) (o := 0) Tryd.underlying51 rfl (zf (zn rfl (zv (zd (za kr (fun _ => (st (zl (k := 2) Tryd.isAgg25 Tryd.sizeOf25 rfl rfl (CellsAt.all (dh.blk (i := 4) rfl)) ?_))))))))))))))))))
 have iV := dh.s6_bcadef
 refine st (zu (f := 26) (vals := [.agg (d.cells T U).toArray]) (cap := []) rfl rfl Tryd.call26 (Wz  iV) ?_)
 rintro _ w66 ⟨rfl, iW⟩
 refine zf (zd (zd (za kr (fun _ => (st (ze (v := Iv 0) rfl (zf (zw (yd (fun mq σ V => ∃ (k : Nat) (ρ : Env), mq = g.length - k ∧ σ = yh ρ [(2, s), (3, Ix b2 0), (6, .bool false), (8, Ix J 0), (9, Ix K 0), (10, Iw k)] ∧ (k ≤ g.length) ∧ Sep aa R ((RefV K d (yn d (g.take k))) :: (ViewO J d (yn d (g.take k)) (yn d (g.take k))) :: (Blk ay (d.cells T U).toArray 25) :: (Blk b2 (d.cells dd0 dd1).toArray 25) :: Rs) V) ⟨0, _, rfl, zq ⟨rfl, rfl, rfl, rfl, rfl, rfl, trivial⟩, Nat.zero_le _, iW⟩ ?_)))))))))
 rintro m69 σ70 w68 ⟨k, ρl1, rfl, rfl, hkk, az⟩
 refine zd (zd (za kr (fun _ => (st (zb (v := Iw k) rfl (st (zb (v := s) rfl (st (zJ (n := g.length) Tryd.underlying47 rfl t.sl (st (zL (k := .i64) (a := ((k : Nat) : Int)) (b := ((g.length : Nat) : Int)) rfl rfl (zf ?_))))))))))))
 cases aN : decide (((k : Nat) : Int) < ((g.length : Nat) : Int))
 have aN := fD aN
 have hkn : k = g.length := by omega
 rw [hkn, List.take_length] at az
 obtain ⟨X, hX⟩ : ∃ z, z = yn d g := ⟨_, rfl⟩
 rw [← hX] at az
 have jK : X.length = g.length := by rw [hX, yS]
 refine zn rfl (yc (zU (zd (za kr (fun _ => (st (zb (v := Ix J 0) rfl ?_)))))))
 have iX := az.mv1
 refine st (zu (f := 36) (vals := [Ix J 0]) (cap := []) rfl rfl Tryd.call36 (Zb  iX) ?_)
 rintro ac w75 ⟨_, rfl, di⟩
 have iY := di.row (i := 1) rfl
 have hr77s : _ * 120 ≤ _ := iY.2
 refine st (ze (v := ac) rfl (zf (zd (za kr (fun _ => (st (zb (v := ac) rfl (st (zb (v := Ix K 0) rfl ?_)))))))))
 have iZ := di.mv2
 obtain ⟨G79, dj, hB82, ja, jb⟩ := iZ.lend
 obtain ⟨vt85, vp86, ve87, hb88, jc, jd, je⟩ := RefV.sh dj
 have hsm92 : d.types.length * 24 ≤ 140737488355328 := jc.small
 have hsm93 : d.projs.length * 40 ≤ 140737488355328 := jd.small
 have hsm94 : X.length * 120 ≤ 140737488355328 := je.small
 refine st (zu (f := 37) (vals := [Ix K 0]) (cap := []) rfl rfl Tryd.call37 (Zg  dj ja) ?_)
 rintro dk w96 ⟨_, rfl, dl⟩
 have jf := dl.row (i := 0) rfl
 have hr98s : _ * 120 ≤ _ := jf.2
 have jg := jb _ _ dl
 have ey := jg.mv3
 obtain ⟨G101, ez, hB104, eA, eB⟩ := ey.lend
 have aZ := RowE.rd ez
 have hrd107s : _ * 120 ≤ _ := aZ.small
 have eC := eA.mv1
 obtain ⟨G109, eD, eE, eF, eG⟩ := eC.lend
 have ba := RowE.rd eD
 have hrd115s : _ * 120 ≤ _ := ba.small
 refine st (zu (f := 31) (vals := [ac, dk]) (cap := []) rfl rfl Tryd.call31 (xB (a := X) (va := ac) (b := X) (vb := dk) (RdS.base aZ eE) ba eF) ?_)
 rintro _ bM ⟨rfl, eH⟩
 have eI := eG _ _ eH
 have eJ := eB _ _ eI
 have dm : (decide (X = X)) = true := (decide_eq_true rfl)
 rw [dm]
 refine st (ze (v := .bool true) rfl (zf (zd (zd ?_))))
 obtain ⟨jh, ap, eK⟩ := eJ.toML
 refine za kr (fun _ => (st (ze (v := Iv 0) rfl (zf (zw (yd (fun mq σ V => ∃ (q : Nat) (ρ : Env), mq = X.length - q ∧ σ = yh ρ [(2, s), (3, Ix b2 0), (6, .bool false), (8, Ix J 0), (9, Ix K 0), (18, ac), (19, .bool true), (20, Iw q)] ∧ (q ≤ X.length) ∧ Sep aa R ((ML bM jh noX) :: (RwN dk X) :: (RefV K d X) :: (ViewO J d X X) :: (Blk ay (d.cells T U).toArray 25) :: (Blk b2 (d.cells dd0 dd1).toArray 25) :: Rs) V) ⟨0, _, rfl, zq ⟨rfl, rfl, rfl, rfl, rfl, rfl, rfl, rfl, trivial⟩, Nat.zero_le _, eK⟩ ?_))))))
 rintro m125 σ126 w124 ⟨q, ρl2, rfl, rfl, hkq, aO⟩
 refine zd (zd (za kr (fun _ => (st (zb (v := Iw q) rfl (st (zb (v := ac) rfl (st (zJ (n := X.length) Tryd.underlying66 rfl ap.sl (st (zL (k := .i64) (a := ((q : Nat) : Int)) (b := ((X.length : Nat) : Int)) rfl rfl (zf ?_))))))))))))
 cases aq : decide (((q : Nat) : Int) < ((X.length : Nat) : Int))
 have aq := fD aq
 refine zn rfl (yc (zU (zd (za kr (fun _ => (st (zb (v := Ix J 0) rfl ?_)))))))
 have eL := aO.mv3
 refine st (zu (f := 32) (vals := [Ix J 0, Iv (-1), Iv 0]) (cap := []) rfl rfl Tryd.call32 (Yb (ty := -1) (no := 0) dc dc eL) ?_)
 rintro _ w131 ⟨an, rfl, bS⟩
 have bT := bS.row (i := 1) rfl
 have hr133s : _ * 32 ≤ _ := bT.2
 refine st (zb (v := .tuple #[.agg ((yb d ((-1), 0) X).cells an).toArray, .bool ((zp d X ((-1), 0)).isSome)]) rfl (st (zE (vs := [.agg ((yb d ((-1), 0) X).cells an).toArray, .bool ((zp d X ((-1), 0)).isSome)]) (i := 0) (v := .agg ((yb d ((-1), 0) X).cells an).toArray) rfl rfl (st (zE (vs := [.agg ((yb d ((-1), 0) X).cells an).toArray, .bool ((zp d X ((-1), 0)).isSome)]) (i := 1) (v := .bool ((zp d X ((-1), 0)).isSome)) rfl rfl ?_)))))
 have dp : ((zp d X ((-1), 0)).isSome) = false := ((xQ (d := d) (Ran.zero ⟨_, hX⟩ om)).2.1)
 rw [dp]
 refine st (zB Tryd.zeroValue68 ?_)
 intro w137 b136 eM
 have bU := bS.new eM
 refine stn (zy (v := .agg ((yb d ((-1), 0) X).cells an).toArray) (c' := ((yb d ((-1), 0) X).cells an).toArray) Tryd.sizeOf68 rfl rfl (bU.blk (i := 0) rfl) (ya ⟨rfl, bT.1.one, trivial⟩) (Nat.le_of_ble_eq_true rfl) rfl ?_)
 intro w139 eN
 have bV := bU.pt0 eN
 refine st (ze (v := .bool false) rfl (zf (zd (za kr (fun _ => (st (zl (k := 2) Tryd.isAgg25 Tryd.sizeOf25 rfl rfl (CellsAt.all (bV.blk (i := 7) rfl)) (st (zb (v := s) rfl (st (zu (f := 38) (vals := [.agg (d.cells dd0 dd1).toArray, s]) (cap := []) rfl rfl Tryd.call38 (UM (d := d) (l := g) (vl := s) (RdS.base hdd0 Y) (RdS.base hdd1 Y) od t (RdS.base hKN Y) bV (hdo) (om)) ?_)))))))))))
 rintro _ w143 ⟨aA, rfl, eO⟩
 refine st (ze (v := Ix aA 0) rfl (zf (zd (zF kr (st (zb (v := .bool true) rfl (st (zb (v := .bool true) rfl (sty rfl rfl (zb (v := .bool false) rfl (sty rfl rfl (yt (a := false) rfl (st (zX (v := .bool true) rfl rfl (st (zb (v := .bool true) rfl (sty rfl rfl (zb (v := Ix aA 0) rfl (sty rfl rfl (Uj (b := aA) (o := 0) Tryd.underlying51 rfl (st (zX (v := .bool true) rfl rfl (st (zb (v := .bool true) rfl (sty rfl rfl (zb (v := Ix aA 0) rfl (sty rfl rfl (zu (f := 36) (vals := [Ix aA 0]) (cap := []) rfl rfl Tryd.call36 (Zb  eO) ?_))))))))))))))))))))))))))))
 rintro dq w146 ⟨_, rfl, bW⟩
 have eP := bW.row (i := 1) rfl
 have hr148s : _ * 120 ≤ _ := eP.2
 refine sty rfl rfl (zb (v := Ix K 0) rfl ?_)
 have eQ := bW.mv7
 obtain ⟨G150, bX, hB153, eR, eS⟩ := eQ.lend
 obtain ⟨vt156, vp157, ve158, hb159, eT, eU, eV⟩ := RefV.sh bX
 have hsm163 : d.types.length * 24 ≤ 140737488355328 := eT.small
 have hsm164 : d.projs.length * 40 ≤ 140737488355328 := eU.small
 have hsm165 : X.length * 120 ≤ 140737488355328 := eV.small
 refine sty rfl rfl (zu (f := 37) (vals := [Ix K 0]) (cap := []) rfl rfl Tryd.call37 (Zg  bX eR) ?_)
 rintro dr w167 ⟨_, rfl, bY⟩
 have eW := bY.row (i := 0) rfl
 have hr169s : _ * 120 ≤ _ := eW.2
 have eX := eS _ _ bY
 have eY := eX.mv3
 obtain ⟨G172, eZ, hB175, fa, fb⟩ := eY.lend
 have bb := RowE.rd eZ
 have hrd178s : _ * 120 ≤ _ := bb.small
 have fc := fa.mv1
 obtain ⟨G180, fd, fe, ff, fg⟩ := fc.lend
 have bc := RowE.rd fd
 have hrd186s : _ * 120 ≤ _ := bc.small
 refine sty rfl rfl (zu (f := 31) (vals := [dq, dr]) (cap := []) rfl rfl Tryd.call31 (xB (a := (yn d g)) (va := dq) (b := X) (vb := dr) (RdS.base bb fe) bc ff) ?_)
 rintro _ w187 ⟨rfl, fh⟩
 have fi := fg _ _ fh
 have fj := fb _ _ fi
 have ds : (decide ((yn d g) = X)) = true := (decide_eq_true hX.symm)
 rw [ds]
 refine st (zX (v := .bool true) rfl rfl (st (zb (v := .bool true) rfl (sty rfl rfl (zb (v := Ix J 0) rfl ?_)))))
 have fk := fj.mv5
 refine sty rfl rfl (zu (f := 36) (vals := [Ix J 0]) (cap := []) rfl rfl Tryd.call36 (Zb  fk) ?_)
 rintro dt w194 ⟨_, rfl, bZ⟩
 have fl := bZ.row (i := 1) rfl
 have hr196s : _ * 120 ≤ _ := fl.2
 refine sty rfl rfl (zb (v := Ix K 0) rfl ?_)
 have fm := bZ.mv4
 obtain ⟨G198, ca, hB201, fn, fo⟩ := fm.lend
 obtain ⟨vt204, vp205, ve206, hb207, fp, fq, fr⟩ := RefV.sh ca
 have hsm211 : d.types.length * 24 ≤ 140737488355328 := fp.small
 have hsm212 : d.projs.length * 40 ≤ 140737488355328 := fq.small
 have hsm213 : X.length * 120 ≤ 140737488355328 := fr.small
 refine sty rfl rfl (zu (f := 37) (vals := [Ix K 0]) (cap := []) rfl rfl Tryd.call37 (Zg  ca fn) ?_)
 rintro du w215 ⟨_, rfl, cb⟩
 have fs := cb.row (i := 0) rfl
 have hr217s : _ * 120 ≤ _ := fs.2
 have ft := fo _ _ cb
 have fu := ft.mv3
 obtain ⟨G220, fv, hB223, fw, fx⟩ := fu.lend
 have bd := RowE.rd fv
 have hrd226s : _ * 120 ≤ _ := bd.small
 have fy := fw.mv1
 obtain ⟨G228, fz, fA, fB, fC⟩ := fy.lend
 have be := RowE.rd fz
 have hrd234s : _ * 120 ≤ _ := be.small
 refine sty rfl rfl (zu (f := 31) (vals := [dt, du]) (cap := []) rfl rfl Tryd.call31 (xB (a := X) (va := dt) (b := X) (vb := du) (RdS.base bd fA) be fB) ?_)
 rintro _ w235 ⟨rfl, fE⟩
 have fF := fC _ _ fE
 have fG := fx _ _ fF
 have dv : (decide (X = X)) = true := (decide_eq_true rfl)
 rw [dv]
 refine st (zX (v := .bool true) rfl rfl (st (zb (v := .bool true) rfl (sty rfl rfl (zu (f := 21) (vals := []) (cap := []) rfl rfl Tryd.call21 (XL  (RdS.base hKN Y) fG) ?_)))))
 rintro _ ji ⟨rfl, fH⟩
 refine st (zX (v := .bool true) rfl rfl (st (ze (v := .bool true) rfl (zf (zt (zO Tryd.results4 (show _ = (.bool true : Value) from rfl) ?_))))))
 have fI := iH _ _ fH
 have fJ : Sep G W Rs ji := fI.sel 14 [] (Nat.le_add_left _ _) rfl rfl
 refine ⟨rfl, fJ⟩
 have aq := tD aq
 refine zo rfl (zv (zd (zw (za kr (fun _ => (st (zb (v := ac) rfl (st (zb (v := Iw q) rfl ?_)))))))))
 have fK : q < X.length := bo
 refine st (zk (k := 13) (i := q) Tryd.underlying66 Tryd.sizeOf62 rfl ap.sl rfl fK (st (Za rfl (st (xm rfl ?_)))))
 have aP : q < X.length := bo
 obtain ⟨bf, am, _⟩ := ap.ent aP
 rw [← zm default aP] at bf am
 refine st (zg (v := (zi bM (sb ac) (so ac + q * 13 + 3))) Tryd.isAgg40 rfl (aO.mlHead (i := 0) rfl (ap.foot (ne_of_lt aP)) bf (j := 3) rfl (fun h => h) (IsSl.num am.sl)) (st (zu (f := 30) (vals := [(zi bM (sb ac) (so ac + q * 13 + 3))]) (cap := []) rfl rfl Tryd.call30 (xU  am aO) ?_)))
 rintro _ w247 ⟨rfl, fL⟩
 refine zf (za kr (fun _ => (st (zb (v := Iw q) rfl ?_))))
 have fM : InR ((q + 1 : Nat) : Int) := bo
 refine st (zV (r := ((q + 1 : Nat) : Int)) (k := .i64) (a := ((q : Nat) : Int)) (b := 1) rfl rfl (by rw [show (((q : Nat) : Int) + 1 : Int) = ((q + 1 : Nat) : Int) from bo]; exact zM fM) (st (ze (v := Iw (q + 1)) rfl (zf ?_))))
 exact ⟨_, by omega, q + 1, _, rfl, zq ⟨rfl, rfl, rfl, rfl, rfl, rfl, rfl, rfl, trivial⟩, by omega, fL⟩
 have aN := tD aN
 refine zo rfl (zv (zd (zw (zd (za kr (fun _ => (st (zb (v := s) rfl (st (zb (v := Iw k) rfl ?_))))))))))
 have fN : k < g.length := bo
 refine st (zk (k := 10) (i := k) Tryd.underlying47 Tryd.sizeOf59 rfl t.sl rfl fN ?_)
 have P : k < g.length := bo
 obtain ⟨N, ab, I⟩ := t.ev P
 rw [← zm default P] at N ab I
 have hsm253 : ((g.getD k default).deps).length * 8 ≤ 140737488355328 := ab.small
 have dw := az.cells N (t.foot (ne_of_lt P))
 refine st (zl (k := 10) Tryd.isAgg59 Tryd.sizeOf59 rfl rfl dw (st (zu (f := 27) (vals := [.agg ((g.getD k default).cells (zi R (sb s) (so s + k * 10 + 3))).toArray]) (cap := []) rfl rfl Tryd.call27 (xC (e := (g.getD k default)) ab I az) ?_)))
 rintro _ w256 ⟨Q, rfl, cc⟩
 have cd := cc.row (i := 0) rfl
 have hr258s : _ * 8 ≤ _ := cd.2
 refine st (zB Tryd.zeroValue59 ?_)
 intro w261 ad fO
 have ce := cc.new fO
 refine stn (zy (v := .agg ((g.getD k default).cells Q).toArray) (c' := ((g.getD k default).cells Q).toArray) Tryd.sizeOf59 rfl rfl (ce.blk (i := 0) rfl) (ya ⟨rfl, rfl, rfl, cd.1.one, rfl, rfl, rfl, rfl, rfl, rfl, trivial⟩) (Nat.le_of_ble_eq_true rfl) rfl ?_)
 intro w263 fP
 have cf := ce.pt0 fP
 refine zf (zd (za kr (fun _ => (st (zb (v := Ix J 0) rfl (st (zl (k := 10) Tryd.isAgg59 Tryd.sizeOf59 rfl rfl (CellsAt.all (cf.blk (i := 0) rfl)) ?_)))))))
 have fQ := cf.mv1
 obtain ⟨G267, fR, fS, fT, fU⟩ := fQ.lend
 have bg := RowE.rd fR
 have hrd273s : _ * 8 ≤ _ := bg.small
 have fV := fT.mv2
 refine st (zu (f := 28) (vals := [Ix J 0, .agg ((g.getD k default).cells Q).toArray]) (cap := []) rfl rfl Tryd.call28 (Kx (e := (g.getD k default)) bg I (RdS.base (RdS.base hKN Y) fS) fV (hdo) ((Inv.run hdo _)) ((XS om))) ?_)
 rintro _ w276 ⟨O, rfl, cg⟩
 have ch := cg.row (i := 1) rfl
 have hr278s : _ * 8 ≤ _ := ch.2
 have fW := fU _ _ cg
 refine st (zB Tryd.zeroValue62 ?_)
 intro w282 Z fX
 have ci := fW.new fX
 refine stn (zy (v := .agg ((zS d (yn d (g.take k)) (g.getD k default)).cells O).toArray) (c' := ((zS d (yn d (g.take k)) (g.getD k default)).cells O).toArray) Tryd.sizeOf62 rfl rfl (ci.blk (i := 0) rfl) (ya ⟨rfl, rfl, rfl, ch.1.one, rfl, rfl, rfl, rfl, rfl, rfl, rfl, rfl, rfl, trivial⟩) (Nat.le_of_ble_eq_true rfl) rfl ?_)
 intro w284 fY
 have cj := ci.pt0 fY
 refine zf (zd (za kr (fun _ => (st (zb (v := Ix K 0) rfl (st (zb (v := s) rfl (st (zb (v := Iw k) rfl ?_)))))))))
 have fZ : k < g.length := bo
 refine st (zk (k := 10) (i := k) Tryd.underlying47 Tryd.sizeOf59 rfl t.sl rfl fZ ?_)
 have dx := cj.cells N (t.foot (ne_of_lt P))
 refine st (zl (k := 10) Tryd.isAgg59 Tryd.sizeOf59 rfl rfl dx ?_)
 have ga := cj.mv5
 refine st (zu (f := 29) (vals := [Ix K 0, .agg ((g.getD k default).cells (zi R (sb s) (so s + k * 10 + 3))).toArray]) (cap := []) rfl rfl Tryd.call29 (UZ (e := (g.getD k default)) ab I ga (hdo) (⟨_, rfl⟩) ((XS om))) ?_)
 rintro _ w293 ⟨S, rfl, bh, ck⟩
 have cl := ck.row (i := 1) rfl
 have hr295s : _ * 8 ≤ _ := cl.2
 refine st (zB Tryd.zeroValue62 ?_)
 intro w298 aQ gc
 have cm := ck.new gc
 refine stn (zy (v := .agg ((zS d (yn d (g.take k)) (g.getD k default)).cells S).toArray) (c' := ((zS d (yn d (g.take k)) (g.getD k default)).cells S).toArray) Tryd.sizeOf62 rfl rfl (cm.blk (i := 0) rfl) (ya ⟨rfl, rfl, rfl, cl.1.one, rfl, rfl, rfl, rfl, rfl, rfl, rfl, rfl, rfl, trivial⟩) (Nat.le_of_ble_eq_true rfl) rfl ?_)
 intro aR gd
 have cn := cm.pt0 gd
 refine zf (zd (za kr (fun _ => (st (xm rfl (st (zg (v := Q) Tryd.isAgg40 rfl (zh (cn.blk (i := 7) rfl) rfl) ?_)))))))
 have ge := cn.mv4
 obtain ⟨aS, gf, gg⟩ := ge.toML
 refine st (zu (f := 30) (vals := [Q]) (cap := []) rfl rfl Tryd.call30 (xU  gf gg) ?_)
 rintro _ bN ⟨rfl, gh⟩
 refine zf (zd (zd ?_))
 have gi := gh.mv6
 obtain ⟨G310, gj, hB313, gk, gl⟩ := gi.lend
 have bi := RowE.rd gj
 have hrd316s : _ * 8 ≤ _ := bi.small
 have gm := gk.mv3
 obtain ⟨bO, gn, go, co, gp⟩ := gm.lend
 have bj := RowE.rd gn
 have hrd324s : _ * 8 ≤ _ := bj.small
 refine za kr (fun _ => (st (zl (k := 13) Tryd.isAgg62 Tryd.sizeOf62 rfl rfl (CellsAt.all (co.blk (i := 3) rfl)) (st (zD (k := 13) (parts' := [(0, .agg ((zS d (yn d (g.take k)) (g.getD k default)).cells O).toArray)]) (c := ((zS d (yn d (g.take k)) (g.getD k default)).cells O).toArray) Tryd.underlying66 Tryd.sizeOf62 Tryd.zeroValue62 dc rfl kr ?_)))))
 intro w327 aB gq
 have cp := co.new gq
 refine st (zl (k := 13) Tryd.isAgg62 Tryd.sizeOf62 rfl rfl (CellsAt.all (cp.blk (i := 2) rfl)) (st (zD (k := 13) (parts' := [(0, .agg ((zS d (yn d (g.take k)) (g.getD k default)).cells S).toArray)]) (c := ((zS d (yn d (g.take k)) (g.getD k default)).cells S).toArray) Tryd.underlying66 Tryd.sizeOf62 Tryd.zeroValue62 dc rfl kr ?_)))
 intro aC ao gr
 have gs := cp.new gr
 have gt := gs.mv1
 have cq : Sep bO bN ((RowE (α := Ent) (shr bO bN) 62 (Iy aB 1 1) [(zS d (yn d (g.take k)) (g.getD k default))]) :: (Blk ao ((zS d (yn d (g.take k)) (g.getD k default)).cells S).toArray 62) :: (ML aR aS noX) :: (Blk aQ ((zS d (yn d (g.take k)) (g.getD k default)).cells S).toArray 62) :: (RefV K d ((yn d (g.take k)) ++ [zS d (yn d (g.take k)) (g.getD k default)])) :: (Blk Z ((zS d (yn d (g.take k)) (g.getD k default)).cells O).toArray 62) :: (ViewO J d ((yn d (g.take k)) ++ [zS d (yn d (g.take k)) (g.getD k default)]) ((yn d (g.take k)) ++ [zS d (yn d (g.take k)) (g.getD k default)])) :: (Blk ad ((g.getD k default).cells Q).toArray 59) :: (Blk ay (d.cells T U).toArray 25) :: (Blk b2 (d.cells dd0 dd1).toArray 25) :: Rs) aC := Sep.blkRow (src := (shr bO bN)) (l := [(zS d (yn d (g.take k)) (g.getD k default))]) (css := [(zS d (yn d (g.take k)) (g.getD k default)).cells O]) gt rfl ⟨fun _ _ => ⟨_, rfl, (RdS.base bi go), bh⟩, trivial⟩ (by first | decide | (simp only [List.length_cons, List.length_nil]; decide)) (show 1 ≤ maxLen by decide)
 have gu := cq.row (i := 0) rfl
 have hr335s : _ * 120 ≤ _ := gu.2
 obtain ⟨bP, gv, cr, gw, gx⟩ := cq.lend
 have bk := RowE.rdB gv cr
 have hrd342s : _ * 120 ≤ _ := bk.small
 have cs : Sep bP aC ((RowE (α := Ent) (shr bP aC) 62 (Iy ao 1 1) [(zS d (yn d (g.take k)) (g.getD k default))]) :: (ML aR aS noX) :: (Blk aQ ((zS d (yn d (g.take k)) (g.getD k default)).cells S).toArray 62) :: (RefV K d ((yn d (g.take k)) ++ [zS d (yn d (g.take k)) (g.getD k default)])) :: (Blk Z ((zS d (yn d (g.take k)) (g.getD k default)).cells O).toArray 62) :: (ViewO J d ((yn d (g.take k)) ++ [zS d (yn d (g.take k)) (g.getD k default)]) ((yn d (g.take k)) ++ [zS d (yn d (g.take k)) (g.getD k default)])) :: (Blk ad ((g.getD k default).cells Q).toArray 59) :: (Blk ay (d.cells T U).toArray 25) :: (Blk b2 (d.cells dd0 dd1).toArray 25) :: Rs) aC := Sep.blkRow (src := (shr bP aC)) (l := [(zS d (yn d (g.take k)) (g.getD k default))]) (css := [(zS d (yn d (g.take k)) (g.getD k default)).cells S]) gw rfl ⟨fun _ _ => ⟨_, rfl, (RdS.base bj cr), bh⟩, trivial⟩ (by first | decide | (simp only [List.length_cons, List.length_nil]; decide)) (show 1 ≤ maxLen by decide)
 have gy := cs.row (i := 0) rfl
 have hr344s : _ * 120 ≤ _ := gy.2
 obtain ⟨G345, gz, ct, gA, gB⟩ := cs.lend
 have bl := RowE.rdB gz ct
 have hrd351s : _ * 120 ≤ _ := bl.small
 refine st (zu (f := 31) (vals := [(Iy aB 1 1), (Iy ao 1 1)]) (cap := []) rfl rfl Tryd.call31 (xB (a := [(zS d (yn d (g.take k)) (g.getD k default))]) (va := (Iy aB 1 1)) (b := [(zS d (yn d (g.take k)) (g.getD k default))]) (vb := (Iy ao 1 1)) (RdS.base bk ct) bl gA) ?_)
 rintro _ dy ⟨rfl, gC⟩
 have gD := gB _ _ gC
 have gE := gx _ _ gD
 have gF := gE.s10_acdefghij
 have dz : (decide ([(zS d (yn d (g.take k)) (g.getD k default))] = [(zS d (yn d (g.take k)) (g.getD k default))])) = true := (decide_eq_true rfl)
 rw [dz]
 refine st (yt (a := true) rfl (zf (zn rfl (zv (zd ?_)))))
 have gG := gF.s9_bcdefghi
 have gH := gp _ _ gG
 have gI := gl _ _ gH
 obtain ⟨X, hX⟩ : ∃ z, z = ((yn d (g.take k)) ++ [zS d (yn d (g.take k)) (g.getD k default)]) := ⟨_, rfl⟩
 have cu : X = yn d (g.take (k + 1)) := hX.trans (XD om).symm
 have jK : X.length = k + 1 := by rw [cu, yS, List.length_take]; omega
 have aT := gI.s10_abcefghij
 rw [← hX] at aT
 refine za kr (fun _ => (st (Za rfl (st (xm rfl (st (zg (v := O) Tryd.isAgg40 rfl (zh (aT.blk (i := 4) rfl) rfl) ?_)))))))
 obtain ⟨dB, gJ, gK⟩ := aT.toML
 refine st (zu (f := 30) (vals := [O]) (cap := []) rfl rfl Tryd.call30 (xU  gJ gK) ?_)
 rintro _ w365 ⟨rfl, gL⟩
 refine zf (zd ?_)
 refine WD6 ((fun TT ae af ag ah ai aj => WF [fun vals V => Sep aa R (ae :: af :: ag :: ah :: ai :: aj :: TT) V, fun vals V => ∃ (m : Value), (vals 11 = (.tuple #[.agg ((yb d (((g.getD k default).typ), ((g.getD k default).agg)) X).cells m).toArray, .bool ((zp d X (((g.getD k default).typ), ((g.getD k default).agg))).isSome)] : Value)) ∧ Sep aa R (aj :: (RwC m (stL d (((g.getD k default).typ), ((g.getD k default).agg)) X)) :: ae :: af :: ag :: ah :: ai :: TT) V, fun vals V => ∃ (B : Nat), (vals 15 = (Ix B 0 : Value)) ∧ Sep aa R ((Blk B #[Iv 0, (Iz)] 68) :: ae :: af :: ag :: ah :: ai :: aj :: TT) V, fun vals V => ∃ (m : Value) (B : Nat), (vals 11 = (.tuple #[.agg ((yb d (((g.getD k default).typ), ((g.getD k default).agg)) X).cells m).toArray, .bool ((zp d X (((g.getD k default).typ), ((g.getD k default).agg))).isSome)] : Value)) ∧ (vals 15 = (Ix B 0 : Value)) ∧ Sep aa R ((Blk B #[Iv 0, (Iz)] 68) :: aj :: (RwC m (stL d (((g.getD k default).typ), ((g.getD k default).agg)) X)) :: ae :: af :: ag :: ah :: ai :: TT) V, fun _ _ => True, fun _ _ => True, fun _ _ => True, fun vals V => ∃ (m : Value) (B : Nat), (vals 11 = (.tuple #[.agg ((yb d (((g.getD k default).typ), ((g.getD k default).agg)) X).cells m).toArray, .bool ((zp d X (((g.getD k default).typ), ((g.getD k default).agg))).isSome)] : Value)) ∧ (vals 15 = (Ix B 0 : Value)) ∧ Sep aa R ((Blk B ((yb d (((g.getD k default).typ), ((g.getD k default).agg)) X).cells m).toArray 68) :: aj :: (RwC m (stL d (((g.getD k default).typ), ((g.getD k default).agg)) X)) :: ae :: af :: ag :: ah :: ai :: TT) V]) ((Blk ad ((g.getD k default).cells Q).toArray 59) :: (Blk ay (d.cells T U).toArray 25) :: (Blk b2 (d.cells dd0 dd1).toArray 25) :: Rs) (ML dy dB noX) (RwI S ((g.getD k default).deps)) (ML aR aS noX) (RefV K d X) (Blk Z ((zS d (yn d (g.take k)) (g.getD k default)).cells O).toArray 62) (ViewO J d X X)) (AF [Vl 0 (Ix J 0), Vl 1 (s), Vl 2 (Iw k), Vl 3 (Ix (sb s) (so s + k * 10)), Vl 4 (Ix (sb s) (so s + k * 10 + 4)), Vl 5 (Iv ((g.getD k default).typ)), Vl 6 (s), Vl 7 (Iw k), Vl 8 (Ix (sb s) (so s + k * 10)), Vl 9 (Ix (sb s) (so s + k * 10 + 5)), Vl 10 (Iv ((g.getD k default).agg)), fun _ => True, fun vals => ∀ (m : Value), vals 11 = (.tuple #[.agg ((yb d (((g.getD k default).typ), ((g.getD k default).agg)) X).cells m).toArray, .bool ((zp d X (((g.getD k default).typ), ((g.getD k default).agg))).isSome)] : Value) → vals 12 = (.tuple #[.agg ((yb d (((g.getD k default).typ), ((g.getD k default).agg)) X).cells m).toArray, .bool ((zp d X (((g.getD k default).typ), ((g.getD k default).agg))).isSome)] : Value), fun vals => ∀ (m : Value), vals 11 = (.tuple #[.agg ((yb d (((g.getD k default).typ), ((g.getD k default).agg)) X).cells m).toArray, .bool ((zp d X (((g.getD k default).typ), ((g.getD k default).agg))).isSome)] : Value) → vals 13 = (.agg ((yb d (((g.getD k default).typ), ((g.getD k default).agg)) X).cells m).toArray : Value), Vl 14 (.bool ((zp d X (((g.getD k default).typ), ((g.getD k default).agg))).isSome)), fun _ => True, fun _ => True, Vl 17 (.bool ((zp d X (((g.getD k default).typ), ((g.getD k default).agg))).isSome))]) [[], [], [], [1, 2], [1, 2, 3], [1, 2, 3, 4], [], [], [6, 7], [6, 7, 8], [6, 7, 8, 9], (rg 11), (rg 12), (rg 13), (rg 13), [], [0, 1, 2, 3, 4, 5, 6, 7, 8, 9, 10, 11, 12, 13, 15], (rg 17)] [11, 15, 16] [[0, 2], [0, 2], [0, 2], [0, 2], [0, 2], [0, 2], [0, 2], [0, 2], [0, 2], [0, 2], [0, 2], [0, 2], [1, 3], [1, 3], [1, 3, 7], [0, 1], [3], [7]] gL ⟨?_, ?_, ?_, ?_, ?_, ?_, ?_, ?_, ?_, ?_, ?_, ?_, ?_, ?_, ?_, ?_, ?_, ?_, trivial⟩ ?_ (hlocA := yZ ⟨dA, dA, dA, dA, dA, dA, dA, dA, dA, dA, dA, dT, fun vals C H h => fun m F => (H 12 (.inl rfl)).trans (h m ((H 11 (.inr dc)).symm.trans F)), fun vals C H h => fun m F => (H 13 (.inl rfl)).trans (h m ((H 11 (.inr dc)).symm.trans F)), dA, dT, dT, dA, trivial⟩)
 exact fun _ _ _ _ _ _ => obl rfl (zb (v := Ix J 0) rfl dR)
 exact fun _ _ _ _ _ _ => obl rfl (zb (v := s) rfl dR)
 exact fun _ _ _ _ _ _ => obl rfl (zb (v := Iw k) rfl dR)
 intro jj vals w524 gM cv ar
 have bm : jj ∈ [0, 2] := gM
 simp only [List.mem_cons, List.not_mem_nil, or_false] at bm
 rcases bm with rfl | rfl
 have hS528 : Sep _ _ _ _ := cv
 refine obl rfl ?_
 have gN : k < g.length := bo
 exact zk (k := 10) (i := k) Tryd.underlying47 Tryd.sizeOf59 (ar 1 dc) t.sl (ar 2 dc) gN dR
 obtain ⟨B, L, hS532⟩ := cv
 refine obl rfl ?_
 have gO : k < g.length := bo
 exact zk (k := 10) (i := k) Tryd.underlying47 Tryd.sizeOf59 (ar 1 dc) t.sl (ar 2 dc) gO dR
 exact fun _ _ _ _ _ gP => obl rfl (xa (gP 3 dc) dR)
 intro jk vals w543 gQ cw cx
 have bn : jk ∈ [0, 2] := gQ
 simp only [List.mem_cons, List.not_mem_nil, or_false] at bn
 rcases bn with rfl | rfl
 have gR : Sep _ _ _ _ := cw
 refine obl rfl ?_
 have dC := gR.cells N (t.foot (ne_of_lt P))
 exact zg (v := Iv ((g.getD k default).typ)) Tryd.isAgg3 (cx 4 dc) (dC.get (j := 4) rfl) dR
 obtain ⟨B, L, gS⟩ := cw
 refine obl rfl ?_
 have dD := gS.cells N (t.foot (ne_of_lt P))
 exact zg (v := Iv ((g.getD k default).typ)) Tryd.isAgg3 (cx 4 dc) (dD.get (j := 4) rfl) dR
 exact fun _ _ _ _ _ _ => obl rfl (zb (v := s) rfl dR)
 exact fun _ _ _ _ _ _ => obl rfl (zb (v := Iw k) rfl dR)
 intro jl vals w566 gT cy au
 have bp : jl ∈ [0, 2] := gT
 simp only [List.mem_cons, List.not_mem_nil, or_false] at bp
 rcases bp with rfl | rfl
 have hS570 : Sep _ _ _ _ := cy
 refine obl rfl ?_
 have gU : k < g.length := bo
 exact zk (k := 10) (i := k) Tryd.underlying47 Tryd.sizeOf59 (au 6 dc) t.sl (au 7 dc) gU dR
 obtain ⟨B, L, hS574⟩ := cy
 refine obl rfl ?_
 have gV : k < g.length := bo
 exact zk (k := 10) (i := k) Tryd.underlying47 Tryd.sizeOf59 (au 6 dc) t.sl (au 7 dc) gV dR
 exact fun _ _ _ _ _ gW => obl rfl (xZ (gW 8 dc) dR)
 intro jm vals w585 gX cz cA
 have bq : jm ∈ [0, 2] := gX
 simp only [List.mem_cons, List.not_mem_nil, or_false] at bq
 rcases bq with rfl | rfl
 have gY : Sep _ _ _ _ := cz
 refine obl rfl ?_
 have dE := gY.cells N (t.foot (ne_of_lt P))
 exact zg (v := Iv ((g.getD k default).agg)) Tryd.isAgg3 (cA 9 dc) (dE.get (j := 5) rfl) dR
 obtain ⟨B, L, gZ⟩ := cz
 refine obl rfl ?_
 have dF := gZ.cells N (t.foot (ne_of_lt P))
 exact zg (v := Iv ((g.getD k default).agg)) Tryd.isAgg3 (cA 9 dc) (dF.get (j := 5) rfl) dR
 intro jn vals w598 ha cB ak
 have br : jn ∈ [0, 2] := ha
 simp only [List.mem_cons, List.not_mem_nil, or_false] at br
 rcases br with rfl | rfl
 have hb : Sep _ _ _ _ := cB
 refine obl rfl ?_
 have hc := hb.mv5
 refine (zu (f := 32) (vals := [Ix J 0, Iv ((g.getD k default).typ), Iv ((g.getD k default).agg)]) (cap := []) rfl (yP ⟨(ak 0 dc), (ak 5 dc), (ak 10 dc), trivial⟩) Tryd.call32 (Yb (ty := (g.getD k default).typ) (no := (g.getD k default).agg) I.typ I.agg hc) ?_)
 rintro _ w608 ⟨m, rfl, cC⟩
 have hd := cC.row (i := 1) rfl
 have hr610s : _ * 32 ≤ _ := hd.2
 exact fun C H E => ⟨(Exists.intro m (And.intro H cC)), trivial⟩
 obtain ⟨B, L, he⟩ := cB
 refine obl rfl ?_
 have hf := he.mv6
 refine (zu (f := 32) (vals := [Ix J 0, Iv ((g.getD k default).typ), Iv ((g.getD k default).agg)]) (cap := []) rfl (yP ⟨(ak 0 dc), (ak 5 dc), (ak 10 dc), trivial⟩) Tryd.call32 (Yb (ty := (g.getD k default).typ) (no := (g.getD k default).agg) I.typ I.agg hf) ?_)
 rintro _ w617 ⟨m, rfl, cD⟩
 have hg := cD.row (i := 1) rfl
 have hr619s : _ * 32 ≤ _ := hg.2
 have hh := cD.mv2
 exact fun C H E => ⟨(Exists.intro m (Exists.intro B (And.intro H (And.intro ((E 15 dc).trans L) hh)))), trivial⟩
 intro jo vals w622 hi cE hA623
 have bs : jo ∈ [1, 3] := hi
 simp only [List.mem_cons, List.not_mem_nil, or_false] at bs
 rcases bs with rfl | rfl
 obtain ⟨m, u, hS626⟩ := cE
 refine obl rfl (zb (v := .tuple #[.agg ((yb d (((g.getD k default).typ), ((g.getD k default).agg)) X).cells m).toArray, .bool ((zp d X (((g.getD k default).typ), ((g.getD k default).agg))).isSome)]) u (fun C H E => ⟨rfl, ?_⟩))
 intro aU F
 rw [E 11 (by decide)] at F; cases u.symm.trans F
 exact H
 obtain ⟨m, B, u, L, hS627⟩ := cE
 refine obl rfl (zb (v := .tuple #[.agg ((yb d (((g.getD k default).typ), ((g.getD k default).agg)) X).cells m).toArray, .bool ((zp d X (((g.getD k default).typ), ((g.getD k default).agg))).isSome)]) u (fun C H E => ⟨rfl, ?_⟩))
 intro aU F
 rw [E 11 (by decide)] at F; cases u.symm.trans F
 exact H
 intro jp vals w629 hj cF cG
 have bt : jp ∈ [1, 3] := hj
 simp only [List.mem_cons, List.not_mem_nil, or_false] at bt
 rcases bt with rfl | rfl
 obtain ⟨m, u, hS633⟩ := cF
 have jq : vals 12 = (.tuple #[.agg ((yb d (((g.getD k default).typ), ((g.getD k default).agg)) X).cells m).toArray, .bool ((zp d X (((g.getD k default).typ), ((g.getD k default).agg))).isSome)] : Value) := cG 12 dc m u
 refine obl rfl (zE (vs := [.agg ((yb d (((g.getD k default).typ), ((g.getD k default).agg)) X).cells m).toArray, .bool ((zp d X (((g.getD k default).typ), ((g.getD k default).agg))).isSome)]) (i := 0) (v := .agg ((yb d (((g.getD k default).typ), ((g.getD k default).agg)) X).cells m).toArray) jq rfl (fun C H E => ⟨rfl, ?_⟩))
 intro aU F
 rw [E 11 (by decide)] at F; cases u.symm.trans F
 exact H
 obtain ⟨m, B, u, L, hS635⟩ := cF
 have jr : vals 12 = (.tuple #[.agg ((yb d (((g.getD k default).typ), ((g.getD k default).agg)) X).cells m).toArray, .bool ((zp d X (((g.getD k default).typ), ((g.getD k default).agg))).isSome)] : Value) := cG 12 dc m u
 refine obl rfl (zE (vs := [.agg ((yb d (((g.getD k default).typ), ((g.getD k default).agg)) X).cells m).toArray, .bool ((zp d X (((g.getD k default).typ), ((g.getD k default).agg))).isSome)]) (i := 0) (v := .agg ((yb d (((g.getD k default).typ), ((g.getD k default).agg)) X).cells m).toArray) jr rfl (fun C H E => ⟨rfl, ?_⟩))
 intro aU F
 rw [E 11 (by decide)] at F; cases u.symm.trans F
 exact H
 intro js vals w638 hk aV aW
 have bu : js ∈ [1, 3, 7] := hk
 simp only [List.mem_cons, List.not_mem_nil, or_false] at bu
 rcases bu with rfl | rfl | rfl
 obtain ⟨m, u, hS642⟩ := aV
 have jt : vals 12 = (.tuple #[.agg ((yb d (((g.getD k default).typ), ((g.getD k default).agg)) X).cells m).toArray, .bool ((zp d X (((g.getD k default).typ), ((g.getD k default).agg))).isSome)] : Value) := aW 12 dc m u
 exact obl rfl (zE (vs := [.agg ((yb d (((g.getD k default).typ), ((g.getD k default).agg)) X).cells m).toArray, .bool ((zp d X (((g.getD k default).typ), ((g.getD k default).agg))).isSome)]) (i := 1) (v := .bool ((zp d X (((g.getD k default).typ), ((g.getD k default).agg))).isSome)) jt rfl dR)
 obtain ⟨m, B, u, L, hS644⟩ := aV
 have ju : vals 12 = (.tuple #[.agg ((yb d (((g.getD k default).typ), ((g.getD k default).agg)) X).cells m).toArray, .bool ((zp d X (((g.getD k default).typ), ((g.getD k default).agg))).isSome)] : Value) := aW 12 dc m u
 exact obl rfl (zE (vs := [.agg ((yb d (((g.getD k default).typ), ((g.getD k default).agg)) X).cells m).toArray, .bool ((zp d X (((g.getD k default).typ), ((g.getD k default).agg))).isSome)]) (i := 1) (v := .bool ((zp d X (((g.getD k default).typ), ((g.getD k default).agg))).isSome)) ju rfl dR)
 obtain ⟨m, B, u, L, hS646⟩ := aV
 have jv : vals 12 = (.tuple #[.agg ((yb d (((g.getD k default).typ), ((g.getD k default).agg)) X).cells m).toArray, .bool ((zp d X (((g.getD k default).typ), ((g.getD k default).agg))).isSome)] : Value) := aW 12 dc m u
 exact obl rfl (zE (vs := [.agg ((yb d (((g.getD k default).typ), ((g.getD k default).agg)) X).cells m).toArray, .bool ((zp d X (((g.getD k default).typ), ((g.getD k default).agg))).isSome)]) (i := 1) (v := .bool ((zp d X (((g.getD k default).typ), ((g.getD k default).agg))).isSome)) jv rfl dR)
 intro jw vals w649 hm cH hA650
 have bv : jw ∈ [0, 1] := hm
 simp only [List.mem_cons, List.not_mem_nil, or_false] at bv
 rcases bv with rfl | rfl
 have ho : Sep _ _ _ _ := cH
 refine obl rfl ((zB Tryd.zeroValue68 ?_))
 intro w656 B hp
 have hq := ho.new hp
 exact fun C H E => ⟨(Exists.intro B (And.intro H hq)), trivial⟩
 obtain ⟨m, u, hr⟩ := cH
 refine obl rfl ((zB Tryd.zeroValue68 ?_))
 intro w661 B hs
 have ht := hr.new hs
 exact fun C H E => ⟨(Exists.intro m (Exists.intro B (And.intro ((E 11 dc).trans u) (And.intro H ht)))), trivial⟩
 intro jx vals w664 hu hw hx
 have bw : jx ∈ [3] := hu
 simp only [List.mem_cons, List.not_mem_nil, or_false] at bw
 subst bw
 obtain ⟨m, B, u, L, aX⟩ := hw
 refine obl rfl ?_
 have jy : vals 13 = (.agg ((yb d (((g.getD k default).typ), ((g.getD k default).agg)) X).cells m).toArray : Value) := hx 13 dc m u
 have cI := aX.row (i := 2) rfl
 have hr672s : _ * 32 ≤ _ := cI.2
 refine (zy (v := .agg ((yb d (((g.getD k default).typ), ((g.getD k default).agg)) X).cells m).toArray) (c' := ((yb d (((g.getD k default).typ), ((g.getD k default).agg)) X).cells m).toArray) Tryd.sizeOf68 L jy (aX.blk (i := 0) rfl) (ya ⟨rfl, cI.1.one, trivial⟩) (Nat.le_of_ble_eq_true rfl) rfl ?_)
 intro w670 hy
 have hz := aX.pt0 hy
 exact fun C H E => ⟨(Exists.intro m (Exists.intro B (And.intro ((E 11 dc).trans u) (And.intro ((E 15 dc).trans L) hz)))), trivial⟩
 exact fun _ _ _ _ _ hA => obl rfl (ze (v := .bool ((zp d X (((g.getD k default).typ), ((g.getD k default).agg))).isSome)) (hA 14 dc) dR)
 intro vals w680 hB hC
 obtain ⟨m, B, u, L, hD⟩ := hB
 have jz := hC 17 dc
 refine yf (kv := [(2, s), (3, Ix b2 0), (6, .bool false), (8, Ix J 0), (9, Ix K 0), (10, Iw k), (43, Iw k), (44, s), (45, Iw g.length), (46, .bool true), (49, s), (50, Iw k), (51, Ix (sb s) (so s + k * 10)), (52, .agg ((g.getD k default).cells (zi R (sb s) (so s + k * 10 + 3))).toArray), (53, .agg ((g.getD k default).cells Q).toArray), (11, Ix ad 0), (54, Ix J 0), (55, .agg ((g.getD k default).cells Q).toArray), (56, .agg ((zS d (yn d (g.take k)) (g.getD k default)).cells O).toArray), (12, Ix Z 0), (57, Ix K 0), (58, s), (59, Iw k), (60, Ix (sb s) (so s + k * 10)), (61, .agg ((g.getD k default).cells (zi R (sb s) (so s + k * 10 + 3))).toArray), (62, .agg ((zS d (yn d (g.take k)) (g.getD k default)).cells S).toArray), (13, Ix aQ 0), (63, Ix ad 3), (64, Q), (65, .tuple #[]), (66, .agg ((zS d (yn d (g.take k)) (g.getD k default)).cells O).toArray), (67, (Iy aB 1 1)), (68, .agg ((zS d (yn d (g.take k)) (g.getD k default)).cells S).toArray), (69, (Iy ao 1 1)), (70, .bool true), (71, .bool false), (72, Ix Z 0), (73, Ix Z 3), (74, O), (75, .tuple #[]), (14, Ix B 0), (15, .bool ((zp d X (((g.getD k default).typ), ((g.getD k default).agg))).isSome))]) ⟨rfl, rfl, rfl, rfl, rfl, rfl, rfl, rfl, rfl, rfl, rfl, rfl, rfl, rfl, rfl, rfl, rfl, rfl, rfl, rfl, rfl, rfl, rfl, rfl, rfl, rfl, rfl, rfl, rfl, rfl, rfl, rfl, rfl, rfl, rfl, rfl, rfl, rfl, rfl, rfl, (by exact L), (by exact jz), trivial⟩ (fun ρw680 => ?_)
 refine zf (zd ?_)
 refine WD6 ((fun TT ae af ag ah ai aj bx => WF [fun vals V => Sep aa R (ae :: af :: ag :: ah :: ai :: aj :: bx :: TT) V, fun vals V => ∃ (p : Value), (vals 11 = (.tuple #[.agg ((yb d (((g.getD k default).typ), ((g.getD k default).agg)) X).cells p).toArray, .bool ((zp d X (((g.getD k default).typ), ((g.getD k default).agg))).isSome)] : Value)) ∧ Sep aa R (bx :: (RwC p (stL d (((g.getD k default).typ), ((g.getD k default).agg)) X)) :: ae :: af :: ag :: ah :: ai :: aj :: TT) V, fun vals V => ∃ (D : Nat), (vals 15 = (Ix D 0 : Value)) ∧ Sep aa R ((Blk D #[Iv 0, (Iz)] 68) :: ae :: af :: ag :: ah :: ai :: aj :: bx :: TT) V, fun vals V => ∃ (p : Value) (D : Nat), (vals 11 = (.tuple #[.agg ((yb d (((g.getD k default).typ), ((g.getD k default).agg)) X).cells p).toArray, .bool ((zp d X (((g.getD k default).typ), ((g.getD k default).agg))).isSome)] : Value)) ∧ (vals 15 = (Ix D 0 : Value)) ∧ Sep aa R ((Blk D #[Iv 0, (Iz)] 68) :: bx :: (RwC p (stL d (((g.getD k default).typ), ((g.getD k default).agg)) X)) :: ae :: af :: ag :: ah :: ai :: aj :: TT) V, fun _ _ => True, fun _ _ => True, fun _ _ => True, fun vals V => ∃ (p : Value) (D : Nat), (vals 11 = (.tuple #[.agg ((yb d (((g.getD k default).typ), ((g.getD k default).agg)) X).cells p).toArray, .bool ((zp d X (((g.getD k default).typ), ((g.getD k default).agg))).isSome)] : Value)) ∧ (vals 15 = (Ix D 0 : Value)) ∧ Sep aa R ((Blk D ((yb d (((g.getD k default).typ), ((g.getD k default).agg)) X).cells p).toArray 68) :: bx :: (RwC p (stL d (((g.getD k default).typ), ((g.getD k default).agg)) X)) :: ae :: af :: ag :: ah :: ai :: aj :: TT) V]) ((Blk Z ((zS d (yn d (g.take k)) (g.getD k default)).cells O).toArray 62) :: (Blk ad ((g.getD k default).cells Q).toArray 59) :: (Blk ay (d.cells T U).toArray 25) :: (Blk b2 (d.cells dd0 dd1).toArray 25) :: Rs) (Blk B ((yb d (((g.getD k default).typ), ((g.getD k default).agg)) X).cells m).toArray 68) (ViewO J d X X) (RwC m (stL d (((g.getD k default).typ), ((g.getD k default).agg)) X)) (ML dy dB noX) (RwI S ((g.getD k default).deps)) (ML aR aS noX) (RefV K d X)) (AF [Vl 0 (Ix K 0), Vl 1 (s), Vl 2 (Iw k), Vl 3 (Ix (sb s) (so s + k * 10)), Vl 4 (Ix (sb s) (so s + k * 10 + 4)), Vl 5 (Iv ((g.getD k default).typ)), Vl 6 (s), Vl 7 (Iw k), Vl 8 (Ix (sb s) (so s + k * 10)), Vl 9 (Ix (sb s) (so s + k * 10 + 5)), Vl 10 (Iv ((g.getD k default).agg)), fun _ => True, fun vals => ∀ (p : Value), vals 11 = (.tuple #[.agg ((yb d (((g.getD k default).typ), ((g.getD k default).agg)) X).cells p).toArray, .bool ((zp d X (((g.getD k default).typ), ((g.getD k default).agg))).isSome)] : Value) → vals 12 = (.tuple #[.agg ((yb d (((g.getD k default).typ), ((g.getD k default).agg)) X).cells p).toArray, .bool ((zp d X (((g.getD k default).typ), ((g.getD k default).agg))).isSome)] : Value), fun vals => ∀ (p : Value), vals 11 = (.tuple #[.agg ((yb d (((g.getD k default).typ), ((g.getD k default).agg)) X).cells p).toArray, .bool ((zp d X (((g.getD k default).typ), ((g.getD k default).agg))).isSome)] : Value) → vals 13 = (.agg ((yb d (((g.getD k default).typ), ((g.getD k default).agg)) X).cells p).toArray : Value), Vl 14 (.bool ((zp d X (((g.getD k default).typ), ((g.getD k default).agg))).isSome)), fun _ => True, fun _ => True, Vl 17 (.bool ((zp d X (((g.getD k default).typ), ((g.getD k default).agg))).isSome))]) [[], [], [], [1, 2], [1, 2, 3], [1, 2, 3, 4], [], [], [6, 7], [6, 7, 8], [6, 7, 8, 9], (rg 11), (rg 12), (rg 13), (rg 13), [], [0, 1, 2, 3, 4, 5, 6, 7, 8, 9, 10, 11, 12, 13, 15], (rg 17)] [11, 15, 16] [[0, 2], [0, 2], [0, 2], [0, 2], [0, 2], [0, 2], [0, 2], [0, 2], [0, 2], [0, 2], [0, 2], [0, 2], [1, 3], [1, 3], [1, 3, 7], [0, 1], [3], [7]] hD ⟨?_, ?_, ?_, ?_, ?_, ?_, ?_, ?_, ?_, ?_, ?_, ?_, ?_, ?_, ?_, ?_, ?_, ?_, trivial⟩ ?_ (hlocA := yZ ⟨dA, dA, dA, dA, dA, dA, dA, dA, dA, dA, dA, dT, fun vals C H h => fun p F => (H 12 (.inl rfl)).trans (h p ((H 11 (.inr dc)).symm.trans F)), fun vals C H h => fun p F => (H 13 (.inl rfl)).trans (h p ((H 11 (.inr dc)).symm.trans F)), dA, dT, dT, dA, trivial⟩)
 exact fun _ _ _ _ _ _ => obl rfl (zb (v := Ix K 0) rfl dR)
 exact fun _ _ _ _ _ _ => obl rfl (zb (v := s) rfl dR)
 exact fun _ _ _ _ _ _ => obl rfl (zb (v := Iw k) rfl dR)
 intro jA vals w859 hE cJ av
 have bz : jA ∈ [0, 2] := hE
 simp only [List.mem_cons, List.not_mem_nil, or_false] at bz
 rcases bz with rfl | rfl
 have hS863 : Sep _ _ _ _ := cJ
 refine obl rfl ?_
 have hF : k < g.length := bo
 exact zk (k := 10) (i := k) Tryd.underlying47 Tryd.sizeOf59 (av 1 dc) t.sl (av 2 dc) hF dR
 obtain ⟨D, M, hS867⟩ := cJ
 refine obl rfl ?_
 have hG : k < g.length := bo
 exact zk (k := 10) (i := k) Tryd.underlying47 Tryd.sizeOf59 (av 1 dc) t.sl (av 2 dc) hG dR
 exact fun _ _ _ _ _ hH => obl rfl (xa (hH 3 dc) dR)
 intro jB vals w878 hI cK cL
 have bA : jB ∈ [0, 2] := hI
 simp only [List.mem_cons, List.not_mem_nil, or_false] at bA
 rcases bA with rfl | rfl
 have hJ : Sep _ _ _ _ := cK
 refine obl rfl ?_
 have dG := hJ.cells N (t.foot (ne_of_lt P))
 exact zg (v := Iv ((g.getD k default).typ)) Tryd.isAgg3 (cL 4 dc) (dG.get (j := 4) rfl) dR
 obtain ⟨D, M, hK⟩ := cK
 refine obl rfl ?_
 have dH := hK.cells N (t.foot (ne_of_lt P))
 exact zg (v := Iv ((g.getD k default).typ)) Tryd.isAgg3 (cL 4 dc) (dH.get (j := 4) rfl) dR
 exact fun _ _ _ _ _ _ => obl rfl (zb (v := s) rfl dR)
 exact fun _ _ _ _ _ _ => obl rfl (zb (v := Iw k) rfl dR)
 intro jC vals w901 hL cM aw
 have bB : jC ∈ [0, 2] := hL
 simp only [List.mem_cons, List.not_mem_nil, or_false] at bB
 rcases bB with rfl | rfl
 have hS905 : Sep _ _ _ _ := cM
 refine obl rfl ?_
 have hM : k < g.length := bo
 exact zk (k := 10) (i := k) Tryd.underlying47 Tryd.sizeOf59 (aw 6 dc) t.sl (aw 7 dc) hM dR
 obtain ⟨D, M, hS909⟩ := cM
 refine obl rfl ?_
 have hN : k < g.length := bo
 exact zk (k := 10) (i := k) Tryd.underlying47 Tryd.sizeOf59 (aw 6 dc) t.sl (aw 7 dc) hN dR
 exact fun _ _ _ _ _ hO => obl rfl (xZ (hO 8 dc) dR)
 intro jD vals w920 hP cN cO
 have bC : jD ∈ [0, 2] := hP
 simp only [List.mem_cons, List.not_mem_nil, or_false] at bC
 rcases bC with rfl | rfl
 have hQ : Sep _ _ _ _ := cN
 refine obl rfl ?_
 have dI := hQ.cells N (t.foot (ne_of_lt P))
 exact zg (v := Iv ((g.getD k default).agg)) Tryd.isAgg3 (cO 9 dc) (dI.get (j := 5) rfl) dR
 obtain ⟨D, M, hR⟩ := cN
 refine obl rfl ?_
 have dJ := hR.cells N (t.foot (ne_of_lt P))
 exact zg (v := Iv ((g.getD k default).agg)) Tryd.isAgg3 (cO 9 dc) (dJ.get (j := 5) rfl) dR
 intro jE vals w933 hS cP al
 have bD : jE ∈ [0, 2] := hS
 simp only [List.mem_cons, List.not_mem_nil, or_false] at bD
 rcases bD with rfl | rfl
 have hT : Sep _ _ _ _ := cP
 refine obl rfl ?_
 have hU := hT.mv6
 obtain ⟨G942, cQ, hB945, hV, hW⟩ := hU.lend
 obtain ⟨vt948, vp949, ve950, hb951, hY, hZ, ia⟩ := RefV.sh cQ
 have hsm955 : d.types.length * 24 ≤ 140737488355328 := hY.small
 have hsm956 : d.projs.length * 40 ≤ 140737488355328 := hZ.small
 have hsm957 : X.length * 120 ≤ 140737488355328 := ia.small
 refine (zu (f := 33) (vals := [Ix K 0, Iv ((g.getD k default).typ), Iv ((g.getD k default).agg)]) (cap := []) rfl (yP ⟨(al 0 dc), (al 5 dc), (al 10 dc), trivial⟩) Tryd.call33 (ZU (ty := (g.getD k default).typ) (no := (g.getD k default).agg) cQ I.typ I.agg hV (hdo) (⟨_, cu⟩) (om)) ?_)
 rintro _ w959 ⟨p, rfl, cR⟩
 have ib := cR.row (i := 0) rfl
 have hr961s : _ * 32 ≤ _ := ib.2
 have ic := hW _ _ cR
 exact fun C H E => ⟨(Exists.intro p (And.intro H ic)), trivial⟩
 obtain ⟨D, M, id⟩ := cP
 refine obl rfl ?_
 have ie := id.mv7
 obtain ⟨G968, cS, hB971, ig, ih⟩ := ie.lend
 obtain ⟨vt974, vp975, ve976, hb977, ii, ij, ik⟩ := RefV.sh cS
 have hsm981 : d.types.length * 24 ≤ 140737488355328 := ii.small
 have hsm982 : d.projs.length * 40 ≤ 140737488355328 := ij.small
 have hsm983 : X.length * 120 ≤ 140737488355328 := ik.small
 refine (zu (f := 33) (vals := [Ix K 0, Iv ((g.getD k default).typ), Iv ((g.getD k default).agg)]) (cap := []) rfl (yP ⟨(al 0 dc), (al 5 dc), (al 10 dc), trivial⟩) Tryd.call33 (ZU (ty := (g.getD k default).typ) (no := (g.getD k default).agg) cS I.typ I.agg ig (hdo) (⟨_, cu⟩) (om)) ?_)
 rintro _ w985 ⟨p, rfl, cT⟩
 have il := cT.row (i := 0) rfl
 have hr987s : _ * 32 ≤ _ := il.2
 have im := ih _ _ cT
 have io := im.mv2
 exact fun C H E => ⟨(Exists.intro p (Exists.intro D (And.intro H (And.intro ((E 15 dc).trans M) io)))), trivial⟩
 intro jF vals w991 ip cU hA992
 have bE : jF ∈ [1, 3] := ip
 simp only [List.mem_cons, List.not_mem_nil, or_false] at bE
 rcases bE with rfl | rfl
 obtain ⟨p, A, hS995⟩ := cU
 refine obl rfl (zb (v := .tuple #[.agg ((yb d (((g.getD k default).typ), ((g.getD k default).agg)) X).cells p).toArray, .bool ((zp d X (((g.getD k default).typ), ((g.getD k default).agg))).isSome)]) A (fun C H E => ⟨rfl, ?_⟩))
 intro aY F
 rw [E 11 (by decide)] at F; cases A.symm.trans F
 exact H
 obtain ⟨p, D, A, M, hS996⟩ := cU
 refine obl rfl (zb (v := .tuple #[.agg ((yb d (((g.getD k default).typ), ((g.getD k default).agg)) X).cells p).toArray, .bool ((zp d X (((g.getD k default).typ), ((g.getD k default).agg))).isSome)]) A (fun C H E => ⟨rfl, ?_⟩))
 intro aY F
 rw [E 11 (by decide)] at F; cases A.symm.trans F
 exact H
 intro jG vals w998 dK bF cV
 have aH : jG ∈ [1, 3] := dK
 simp only [List.mem_cons, List.not_mem_nil, or_false] at aH
 rcases aH with rfl | rfl
 obtain ⟨p, A, hS1002⟩ := bF
 have iq : vals 12 = (.tuple #[.agg ((yb d (((g.getD k default).typ), ((g.getD k default).agg)) X).cells p).toArray, .bool ((zp d X (((g.getD k default).typ), ((g.getD k default).agg))).isSome)] : Value) := cV 12 dc p A
 refine obl rfl (zE (vs := [.agg ((yb d (((g.getD k default).typ), ((g.getD k default).agg)) X).cells p).toArray, .bool ((zp d X (((g.getD k default).typ), ((g.getD k default).agg))).isSome)]) (i := 0) (v := .agg ((yb d (((g.getD k default).typ), ((g.getD k default).agg)) X).cells p).toArray) iq rfl (fun C H E => ⟨rfl, ?_⟩))
 intro aY F
 rw [E 11 (by decide)] at F; cases A.symm.trans F
 exact H
 obtain ⟨p, D, A, M, hS1004⟩ := bF
 have ir : vals 12 = (.tuple #[.agg ((yb d (((g.getD k default).typ), ((g.getD k default).agg)) X).cells p).toArray, .bool ((zp d X (((g.getD k default).typ), ((g.getD k default).agg))).isSome)] : Value) := cV 12 dc p A
 refine obl rfl (zE (vs := [.agg ((yb d (((g.getD k default).typ), ((g.getD k default).agg)) X).cells p).toArray, .bool ((zp d X (((g.getD k default).typ), ((g.getD k default).agg))).isSome)]) (i := 0) (v := .agg ((yb d (((g.getD k default).typ), ((g.getD k default).agg)) X).cells p).toArray) ir rfl (fun C H E => ⟨rfl, ?_⟩))
 intro aY F
 rw [E 11 (by decide)] at F; cases A.symm.trans F
 exact H
 intro it vals w1007 dL aD aE
 have aI : it ∈ [1, 3, 7] := dL
 simp only [List.mem_cons, List.not_mem_nil, or_false] at aI
 rcases aI with rfl | rfl | rfl
 obtain ⟨p, A, hS1011⟩ := aD
 have iu : vals 12 = (.tuple #[.agg ((yb d (((g.getD k default).typ), ((g.getD k default).agg)) X).cells p).toArray, .bool ((zp d X (((g.getD k default).typ), ((g.getD k default).agg))).isSome)] : Value) := aE 12 dc p A
 exact obl rfl (zE (vs := [.agg ((yb d (((g.getD k default).typ), ((g.getD k default).agg)) X).cells p).toArray, .bool ((zp d X (((g.getD k default).typ), ((g.getD k default).agg))).isSome)]) (i := 1) (v := .bool ((zp d X (((g.getD k default).typ), ((g.getD k default).agg))).isSome)) iu rfl dR)
 obtain ⟨p, D, A, M, hS1013⟩ := aD
 have iv : vals 12 = (.tuple #[.agg ((yb d (((g.getD k default).typ), ((g.getD k default).agg)) X).cells p).toArray, .bool ((zp d X (((g.getD k default).typ), ((g.getD k default).agg))).isSome)] : Value) := aE 12 dc p A
 exact obl rfl (zE (vs := [.agg ((yb d (((g.getD k default).typ), ((g.getD k default).agg)) X).cells p).toArray, .bool ((zp d X (((g.getD k default).typ), ((g.getD k default).agg))).isSome)]) (i := 1) (v := .bool ((zp d X (((g.getD k default).typ), ((g.getD k default).agg))).isSome)) iv rfl dR)
 obtain ⟨p, D, A, M, hS1015⟩ := aD
 have iw : vals 12 = (.tuple #[.agg ((yb d (((g.getD k default).typ), ((g.getD k default).agg)) X).cells p).toArray, .bool ((zp d X (((g.getD k default).typ), ((g.getD k default).agg))).isSome)] : Value) := aE 12 dc p A
 exact obl rfl (zE (vs := [.agg ((yb d (((g.getD k default).typ), ((g.getD k default).agg)) X).cells p).toArray, .bool ((zp d X (((g.getD k default).typ), ((g.getD k default).agg))).isSome)]) (i := 1) (v := .bool ((zp d X (((g.getD k default).typ), ((g.getD k default).agg))).isSome)) iw rfl dR)
 intro ix vals w1018 dM bG hA1019
 have aJ : ix ∈ [0, 1] := dM
 simp only [List.mem_cons, List.not_mem_nil, or_false] at aJ
 rcases aJ with rfl | rfl
 have dN : Sep _ _ _ _ := bG
 refine obl rfl ((zB Tryd.zeroValue68 ?_))
 intro w1025 D dO
 have dP := dN.new dO
 exact fun C H E => ⟨(Exists.intro D (And.intro H dP)), trivial⟩
 obtain ⟨p, A, dQ⟩ := bG
 refine obl rfl ((zB Tryd.zeroValue68 ?_))
 intro w1030 D dS
 have dU := dQ.new dS
 exact fun C H E => ⟨(Exists.intro p (Exists.intro D (And.intro ((E 11 dc).trans A) (And.intro H dU)))), trivial⟩
 intro iy vals w1033 dV dW dX
 have aK : iy ∈ [3] := dV
 simp only [List.mem_cons, List.not_mem_nil, or_false] at aK
 subst aK
 obtain ⟨p, D, A, M, aF⟩ := dW
 refine obl rfl ?_
 have iz : vals 13 = (.agg ((yb d (((g.getD k default).typ), ((g.getD k default).agg)) X).cells p).toArray : Value) := dX 13 dc p A
 have bH := aF.row (i := 2) rfl
 have hr1041s : _ * 32 ≤ _ := bH.2
 refine (zy (v := .agg ((yb d (((g.getD k default).typ), ((g.getD k default).agg)) X).cells p).toArray) (c' := ((yb d (((g.getD k default).typ), ((g.getD k default).agg)) X).cells p).toArray) Tryd.sizeOf68 M iz (aF.blk (i := 0) rfl) (ya ⟨rfl, bH.1.one, trivial⟩) (Nat.le_of_ble_eq_true rfl) rfl ?_)
 intro w1039 dY
 have dZ := aF.pt0 dY
 exact fun C H E => ⟨(Exists.intro p (Exists.intro D (And.intro ((E 11 dc).trans A) (And.intro ((E 15 dc).trans M) dZ)))), trivial⟩
 exact fun _ _ _ _ _ ea => obl rfl (ze (v := .bool ((zp d X (((g.getD k default).typ), ((g.getD k default).agg))).isSome)) (ea 14 dc) dR)
 intro vals w1049 eb ec
 obtain ⟨p, D, A, M, aG⟩ := eb
 have iA := ec 17 dc
 refine yf (kv := [(2, s), (3, Ix b2 0), (6, .bool false), (8, Ix J 0), (9, Ix K 0), (10, Iw k), (43, Iw k), (44, s), (45, Iw g.length), (46, .bool true), (49, s), (50, Iw k), (51, Ix (sb s) (so s + k * 10)), (52, .agg ((g.getD k default).cells (zi R (sb s) (so s + k * 10 + 3))).toArray), (53, .agg ((g.getD k default).cells Q).toArray), (11, Ix ad 0), (54, Ix J 0), (55, .agg ((g.getD k default).cells Q).toArray), (56, .agg ((zS d (yn d (g.take k)) (g.getD k default)).cells O).toArray), (12, Ix Z 0), (57, Ix K 0), (58, s), (59, Iw k), (60, Ix (sb s) (so s + k * 10)), (61, .agg ((g.getD k default).cells (zi R (sb s) (so s + k * 10 + 3))).toArray), (62, .agg ((zS d (yn d (g.take k)) (g.getD k default)).cells S).toArray), (13, Ix aQ 0), (63, Ix ad 3), (64, Q), (65, .tuple #[]), (66, .agg ((zS d (yn d (g.take k)) (g.getD k default)).cells O).toArray), (67, (Iy aB 1 1)), (68, .agg ((zS d (yn d (g.take k)) (g.getD k default)).cells S).toArray), (69, (Iy ao 1 1)), (70, .bool true), (71, .bool false), (72, Ix Z 0), (73, Ix Z 3), (74, O), (75, .tuple #[]), (14, Ix B 0), (15, .bool ((zp d X (((g.getD k default).typ), ((g.getD k default).agg))).isSome)), (16, Ix D 0), (17, .bool ((zp d X (((g.getD k default).typ), ((g.getD k default).agg))).isSome))]) ⟨rfl, rfl, rfl, rfl, rfl, rfl, rfl, rfl, rfl, rfl, rfl, rfl, rfl, rfl, rfl, rfl, rfl, rfl, rfl, rfl, rfl, rfl, rfl, rfl, rfl, rfl, rfl, rfl, rfl, rfl, rfl, rfl, rfl, rfl, rfl, rfl, rfl, rfl, rfl, rfl, rfl, rfl, (by exact M), (by exact iA), trivial⟩ (fun ρw1049 => ?_)
 refine zf (zd (zd (zF kr (st (zb (v := .bool ((zp d X (((g.getD k default).typ), ((g.getD k default).agg))).isSome)) rfl (st (zb (v := .bool ((zp d X (((g.getD k default).typ), ((g.getD k default).agg))).isSome)) rfl (st (Ud (a := (zp d X (((g.getD k default).typ), ((g.getD k default).agg))).isSome) (b := (zp d X (((g.getD k default).typ), ((g.getD k default).agg))).isSome) Tryd.underlying4 rfl rfl ?_)))))))))
 have cW : (!(((zp d X (((g.getD k default).typ), ((g.getD k default).agg))).isSome) == ((zp d X (((g.getD k default).typ), ((g.getD k default).agg))).isSome))) = false := (by simp)
 rw [cW]
 refine st (zb (v := .bool false) rfl (sty rfl rfl (zl (k := 2) Tryd.isAgg68 Tryd.sizeOf68 rfl rfl (CellsAt.all (aG.blk (i := 3) rfl)) (sty rfl rfl (zl (k := 2) Tryd.isAgg68 Tryd.sizeOf68 rfl rfl (CellsAt.all (aG.blk (i := 0) rfl)) ?_)))))
 have ed := aG.mv5
 obtain ⟨G1056, ee, hB1059, ef, eg⟩ := ed.lend
 have aL := RowE.rd ee
 have hrd1062s : _ * 32 ≤ _ := aL.small
 have eh := ef.mv2
 obtain ⟨G1064, ei, ej, ek, el⟩ := eh.lend
 have aM := RowE.rd ei
 have hrd1070s : _ * 32 ≤ _ := aM.small
 refine sty rfl rfl (zu (f := 34) (vals := [.agg ((yb d (((g.getD k default).typ), ((g.getD k default).agg)) X).cells m).toArray, .agg ((yb d (((g.getD k default).typ), ((g.getD k default).agg)) X).cells p).toArray]) (cap := []) rfl rfl Tryd.call34 (WE (x := (yb d (((g.getD k default).typ), ((g.getD k default).agg)) X)) (y := (yb d (((g.getD k default).typ), ((g.getD k default).agg)) X)) (RdS.base aL ej) (Vo (by first | omega | (rw [yS]; omega) | (rw [yS]; exact Nat.le_trans (List.length_filter_le _ _) (by rw [List.length_take]; omega)))) aM (Vo (by first | omega | (rw [yS]; omega) | (rw [yS]; exact Nat.le_trans (List.length_filter_le _ _) (by rw [List.length_take]; omega)))) ek) ?_)
 rintro _ w1071 ⟨rfl, em⟩
 have en := el _ _ em
 have bI := eg _ _ en
 have cX : (decide ((yb d (((g.getD k default).typ), ((g.getD k default).agg)) X) = (yb d (((g.getD k default).typ), ((g.getD k default).agg)) X))) = true := (decide_eq_true rfl)
 rw [cX]
 refine sty rfl rfl (yt (a := true) rfl (st (yg (v := .bool false) rfl rfl (zf (zn rfl (zv (za kr (fun _ => (st (zl (k := 2) Tryd.isAgg68 Tryd.sizeOf68 rfl rfl (CellsAt.all (bI.blk (i := 4) rfl)) ?_))))))))))
 obtain ⟨f1076, eo, er⟩ := bI.toML
 refine st (zu (f := 35) (vals := [.agg ((yb d (((g.getD k default).typ), ((g.getD k default).agg)) X).cells m).toArray]) (cap := []) rfl rfl Tryd.call35 (Uu  eo (Vo (by first | omega | (rw [yS]; omega) | (rw [yS]; exact Nat.le_trans (List.length_filter_le _ _) (by rw [List.length_take]; omega)))) er) ?_)
 rintro _ iB ⟨rfl, es⟩
 refine zf (za kr (fun _ => (st (zb (v := Iw k) rfl ?_))))
 have et : InR ((k + 1 : Nat) : Int) := bo
 refine st (zV (r := ((k + 1 : Nat) : Int)) (k := .i64) (a := ((k : Nat) : Int)) (b := 1) rfl rfl (by rw [show (((k : Nat) : Int) + 1 : Int) = ((k + 1 : Nat) : Int) from bo]; exact zM et) (st (ze (v := Iw (k + 1)) rfl (zf ?_))))
 have bJ : Sep aa R ((RefV K d X) :: (ViewO J d X X) :: (Blk ay (d.cells T U).toArray 25) :: (Blk b2 (d.cells dd0 dd1).toArray 25) :: Rs) iB := es.sel 12 [2, 4, 10, 11] (Nat.le_add_left _ _) rfl rfl
 have eu : (yn d (g.take (k + 1))) = X := cu.symm
 rw [← eu] at bJ
 exact ⟨_, by omega, k + 1, _, rfl, zq ⟨rfl, rfl, rfl, rfl, rfl, rfl, trivial⟩, by omega, bJ⟩
 try simp only [zj] at cY
 refine zo rfl (zd (za kr (fun _ => (st (zu (f := 21) (vals := []) (cap := []) rfl rfl Tryd.call21 (XL  hKN iD) ?_)))))
 rintro _ w1085 ⟨rfl, ew⟩
 refine st (ze (v := .bool true) rfl (zf (zt (zO Tryd.results4 (show _ = (.bool true : Value) from rfl) ?_))))
 have ex := ew.s1_
 refine ⟨rfl, ex⟩

end Go.Proofs.YtlblilbmpdejgaaDoor
/- Steps of the proofs of this seat: part F31. -/
set_option maxRecDepth 8000
set_option maxHeartbeats 4000000
namespace Go.Proofs.YtlblilbmpdejgaaDoor
open Go.Proofs Go.RowKit

theorem VD {w : World} {d : Dcl} {dd0 dd1 : Value} (h0 : RdS w (xp w) dd0 d.types) (h1 : RdS w (xp w) dd1 d.projs) (od : d.Ok) {n : Int} (hn : InR n) {vl : Value} {l : List Ev} (hl : RdS w (xp w) vl l) (hK : RdS w (xp w) (.slice (some ⟨0, 0, none⟩) 6 6) kindsL) : Ret Tryd.prog 4 [.agg (d.cells dd0 dd1).toArray, .int .i64 n, vl] w (fun r w' => r = .bool true ∧ Ext w w') :=
  Ret.mono (Vx h0 h1 od hn hl hK (Sep.start w)) (fun r w' h => ⟨h.1, h.2.fin⟩)
end Go.Proofs.YtlblilbmpdejgaaDoor
