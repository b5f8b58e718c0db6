import Derived.Test.YtbcdijeggfoabaaGreatDoorW2
import Derived.Shelf.Spec.SlicesInsertGrow
import Derived.Shelf.Slices.Delete
import Derived.Test.YtbcdijeggfoabaaGreatDoorProg
set_option linter.unusedSimpArgs false
set_option linter.unusedVariables false
set_option linter.unusedSectionVars false
set_option linter.deprecated false
open Go.Proofs.Tryz renaming isAgg3→kT,underlying3→lT,isAgg42→mT,isAgg135→nT,sizeOf135→oT,call102→pT,underlying132→qT,underlying75→rT,zeroValue130→sT,sizeOf3→tT,sizeOf140→uT,sizeOf143→vT,sizeOf42→wT,isAgg4→kR,underlying42→lR,sizeOf130→mR,sizeOf106→nR,isAgg75→oR,call126→pR,isAgg104→qR,underlying104→rR,results40→sR,zeroValue3→tR,func102→uR,results102→vR,results100→wR,results105→kY,call103→lY,call79→mY,isAgg72→nY,underlying72→oY,isAgg106→pY,underlying0→qY,isAgg0→rY,sizeOf0→sY,zeroValue0→tY,underlying4→uY,sizeOf4→vY,zeroValue4→wY,zeroValue42→kA,results106→lA,results107→mA,results61→nA
namespace Go.Proofs.YtbcdijeggfoabaaGreatDoor
variable {G:Nat→Prop}{W w:World}{Rs:List HP}
section
set_option maxRecDepth 8000
open Go.Proofs Go.RowKit
theorem yqc {a b:Nat}(h:Nat.ble a b=true:=by rfl):a≤b:=Nat.le_of_ble_eq_true h
theorem VQ {a:AskR}{da0:Value}(hda0:RdS W G da0 a.fld.moves){da1:Value}(hda1:RdS W G da1 a.cls)(oa:a.Ok)(hS0:Sep G W Rs w)(hno:0≤a.no∧a.no<a.cls.length):Ret Tryz.prog 102 [.agg (a.cells da0 da1).toArray] w (fun r w'=>r=(.pointer (some ⟨sb da1,so da1+a.no.toNat*2,none⟩):Value)∧Sep G W Rs w'):=by
 refine zi uR rfl rfl ?_
 refine za (R0 fun _=>st (zM rfl ?_))
 intro w3 b2 c
 have b:=hS0.new c
 refine st (aS (.pointer none) (zb (za (R0 fun _=>st (VU rfl (st (lD da1 oR rfl (zd (b.b0) rfl) (st (KC rfl (st (lD (Iv (a.no)) kT rfl (zd (b.b0) rfl) ?_)))))))))))
 refine st (zr rT uT rfl hda1.sl rfl ⟨by omega,by omega⟩ (st (aS (Ix (sb da1) (so da1+a.no.toNat*2)) (zb (zk (zG vR rfl ?_))))))
 refine⟨rfl,(b.s1_)⟩
theorem Qw {a:AskR}{da0:Value}(hda0:RdS W G da0 a.fld.moves){da1:Value}(hda1:RdS W G da1 a.cls)(oa:a.Ok)(hS0:Sep G W Rs w):Ret Tryz.prog 103 [.agg (a.cells da0 da1).toArray] w (fun r w'=>r=(.bool true:Value)∧Sep G W Rs w'):=by
 refine zi Tryz.func103 rfl rfl ?_
 refine za (R0 fun _=>st (zM rfl ?_))
 intro w3 b2 b
 refine st (aS (.bool false) (zb (za (R0 fun _=>st (aS (.bool true) (zb (zk (zG Tryz.results103 rfl ?_))))))))
 refine⟨rfl,((hS0.new b).s1_)⟩
theorem zaK {a:AskR}{da0:Value}(hda0:RdS W G da0 a.fld.moves){da1:Value}(hda1:RdS W G da1 a.cls)(oa:a.Ok)(hS0:Sep G W Rs w)(hno:0≤a.no∧a.no<a.cls.length):Ret Tryz.prog 100 [.agg (a.cells da0 da1).toArray] w (fun r w'=>r=(.bool (xu a.fld a.cls (yy a.cls a.no) 1 a.arg):Value)∧Sep G W Rs w'):=by
 let n:=(a.cls.getD a.no.toNat default).n
 let ae:=IntKind.i64.wrap (n+a.arg)
 let ac:=decide (n<xY (n+a.arg))== decide (0<a.arg)
 let ab:=decide ((IntKind.i64.wrap (n+a.arg))<0)
 let ad:=a.fld.floor&&ab
 refine zi Tryz.func100 rfl rfl ?_
 refine za (R0 fun _=>st (zM rfl ?_))
 intro w3 b2 aa
 have E:=hS0.new aa
 refine st (aS (.bool false) (zb (za (R0 fun _=>st (zh nT oT rfl rfl (CellsAt.all (E.b0)) ?_)))))
 refine st (cL pT (VQ (a:=a) hda0 hda1 oa E bo) ?_)
 rintro _ w5 ⟨rfl,e⟩
 refine st (zo rfl (st (xm rfl ?_)))
 have F:a.no.toNat<a.cls.length:=bo
 obtain⟨H,m,C⟩:=hda1.celD F
 have D:=e.cells H (hda1.foot (ne_of_lt F))
 refine st (lD (Iv n) kT rfl (D.get (j:=0) rfl) (st (aS (Iv n) (zb (za (zA kr (st (xL rfl (st (lD (Iv (a.arg)) kT rfl (zd (e.b0) rfl) (st (zR rfl rfl (st (mV (.bool (decide (a.arg=0))) (stc (V:=Iv n) rfl rfl (fun I=>?_) ?_)))))))))))))))
 exact mV (Iv n) ⟨rfl,rfl⟩
 refine stc (V:=Ix b2 6) rfl rfl (fun J=>?_) ?_
 exact xL rfl ⟨rfl,rfl⟩
 refine stc (V:=Iv (a.arg)) rfl rfl (fun p=>?_) ?_
 exact lD (Iv (a.arg)) kT (if_pos p) (zd (e.b0) rfl) ⟨rfl,rfl⟩
 cases c:decide (a.arg=0)
 have f:=c
 have c:=fD c
 refine sty rfl rfl (cL Tryz.call125 (D_sum C.n oa.arg e) ?_)
 rintro _ w18 ⟨rfl,i⟩
 refine st (yw rfl rfl (st (mV (.bool (ac)) (stc (V:=Ix b2 0) rfl rfl (fun K=>?_) ?_))))
 have L:=K
 exact Wa rfl ⟨rfl,rfl⟩
 refine stc (V:=Ix b2 2) rfl rfl (fun q=>?_) ?_
 have M:=q
 exact Wc (if_pos q) ⟨rfl,rfl⟩
 refine stc (V:=.bool (a.fld.floor)) rfl rfl (fun s=>?_) ?_
 have N:=s
 exact lD (.bool (a.fld.floor)) kR (if_pos s) (zd (i.b0) rfl) ⟨rfl,rfl⟩
 refine stc (V:=.bool (a.fld.floor)) rfl rfl (fun t=>?_) ?_
 have O:=t
 exact yi (if_pos t) ⟨rfl,rfl⟩
 refine xe (V:=Iv n) rfl rfl (fun u=>?_) ?_
 have P:=u.1
 exact mV (Iv n) ⟨rfl,rfl⟩
 refine xe (V:=Ix b2 6) rfl rfl (fun z=>?_) ?_
 have Q:=z.1
 exact xL rfl ⟨rfl,rfl⟩
 refine xe (V:=Iv (a.arg)) rfl rfl (fun g=>?_) ?_
 have R:=g.1
 exact lD (Iv (a.arg)) kT (if_pos ⟨g.1,g.2⟩) (zd (i.b0) rfl) ⟨rfl,rfl⟩
 refine xe (V:=Iv ae) rfl rfl (fun d=>?_) ?_
 have S:=d.1
 exact zP (r:=IntKind.i64.wrap (n+a.arg)) (k:=.i64) (a:=(a.cls.getD a.no.toNat default).n) (b:=a.arg) (if_pos ⟨d.1,d.2⟩) (if_pos ⟨d.1,d.2⟩) rfl ⟨rfl,rfl⟩
 refine xe (V:=.bool ab) rfl rfl (fun h=>?_) ?_
 have T:=h.1
 exact zC (if_pos ⟨h.1,h.2⟩) rfl ⟨rfl,rfl⟩
 refine stc (V:=.bool ad) rfl rfl (fun l=>?_) ?_
 have U:=l
 exact zy (if_pos l) (fun hbp=>(if_pos ⟨l,hbp⟩)) ⟨rfl,rfl⟩
 refine stc (V:=.bool (!ad)) rfl rfl (fun A=>?_) ?_
 have X:=A
 exact yB (if_pos A) ⟨rfl,rfl⟩
 refine st (zy rfl (fun hbp=>(if_pos hbp)) (st (aS (.bool (ac&&(!ad))) (zb (zk (zG wR rfl ?_))))))
 refine⟨?_,(i.s1_)⟩
 unfold xu
 rw[if_pos rfl,f]
 rfl
 have f:=c
 have c:=tD c
 refine stx rfl rfl (st (yz rfl rfl (st (mV (.bool true) (sty rfl rfl (Wa rfl (sty rfl rfl (Wc rfl (sty rfl rfl (lD (.bool (a.fld.floor)) kR rfl (zd (e.b0) rfl) (sty rfl rfl (mV (.bool (a.fld.floor)) (stc (V:=Iv n) rfl rfl (fun hb48=>?_) ?_)))))))))))))
 exact mV (Iv n) ⟨rfl,rfl⟩
 refine stc (V:=Ix b2 6) rfl rfl (fun hb50=>?_) ?_
 exact xL rfl ⟨rfl,rfl⟩
 refine stc (V:=Iv (a.arg)) rfl rfl (fun Y=>?_) ?_
 exact lD (Iv (a.arg)) kT (if_pos Y) (zd (e.b0) rfl) ⟨rfl,rfl⟩
 refine stc (V:=Iv ae) rfl rfl (fun B=>?_) ?_
 exact zP (r:=IntKind.i64.wrap (n+a.arg)) (k:=.i64) (a:=(a.cls.getD a.no.toNat default).n) (b:=a.arg) (if_pos B) (if_pos B) rfl ⟨rfl,rfl⟩
 refine stc (V:=.bool ab) rfl rfl (fun Z=>?_) ?_
 exact zC (if_pos Z) rfl ⟨rfl,rfl⟩
 refine sty rfl rfl (zy rfl (fun hbp=>(if_pos hbp)) (sty rfl rfl (yB rfl (st (yz rfl rfl (st (aS (.bool (!ad)) (zb (zk (zG wR rfl ?_))))))))))
 refine⟨?_,(e.s1_)⟩
 unfold xu
 rw[if_pos rfl,f]
 rfl
theorem zbA {a:AskR}{da0:Value}(hda0:RdS W G da0 a.fld.moves){da1:Value}(hda1:RdS W G da1 a.cls)(oa:a.Ok)(hS0:Sep G W Rs w)(hno:0≤a.no∧a.no<a.cls.length)(hasc:Asc (yy a.cls a.no).set):Ret Tryz.prog 105 [.agg (a.cells da0 da1).toArray] w (fun r w'=>r=(.bool (xu a.fld a.cls (yy a.cls a.no) 3 a.arg):Value)∧Sep G W Rs w'):=by
 let aE:=zN W (sb da1) (so da1+a.no.toNat*2+1)
 have hda0s:_*32≤_:=hda0.small
 have hda1s:_*32≤_:=hda1.small
 refine zi Tryz.func105 rfl rfl ?_
 refine za (R0 fun _=>st (zM rfl ?_))
 intro w3 b2 aD
 refine st (aS (.bool false) (zb (za ?_)))
 refine WD4 ((fun L=>WF [fun vals M=>Sep G W (L::Rs) M,fun vals M=>(vals 1=(Ix (sb da1) (so da1+a.no.toNat*2):Value))∧Sep G W (L::Rs) M,fun vals M=> ∃(c:Nat),(vals 1=(Ix (sb da1) (so da1+a.no.toNat*2):Value))∧(vals 7=(.tuple #[Iw c,.bool (decide (a.arg∈((a.cls.getD a.no.toNat default).set)))]:Value))∧(c≤((a.cls.getD a.no.toNat default).set).length∧(∀q,q<c→((a.cls.getD a.no.toNat default).set).getD q 0<a.arg)∧(∀q,c≤q→q<((a.cls.getD a.no.toNat default).set).length→a.arg≤((a.cls.getD a.no.toNat default).set).getD q 0))∧Sep G W (L::Rs) M]) (Blk b2 (a.cells da0 da1).toArray 135)) (AF [Vl 0 (.agg (a.cells da0 da1).toArray),fun _=>True,Vl 2 (Ix (sb da1) (so da1+a.no.toNat*2)),Vl 3 (Ix (sb da1) (so da1+a.no.toNat*2+1)),Vl 4 (aE),Vl 5 (Ix b2 6),Vl 6 (Iv (a.arg)),fun _=>True,fun vals=> ∀(c:Nat),vals 7=(.tuple #[Iw c,.bool (decide (a.arg∈((a.cls.getD a.no.toNat default).set)))]:Value)→vals 8=(.tuple #[Iw c,.bool (decide (a.arg∈((a.cls.getD a.no.toNat default).set)))]:Value),fun vals=> ∀(c:Nat),vals 7=(.tuple #[Iw c,.bool (decide (a.arg∈((a.cls.getD a.no.toNat default).set)))]:Value)→vals 9=(Iw c:Value),Vl 10 (.bool (decide (a.arg∈((a.cls.getD a.no.toNat default).set)))),fun vals=> ∀(c:Nat),vals 7=(.tuple #[Iw c,.bool (decide (a.arg∈((a.cls.getD a.no.toNat default).set)))]:Value)→vals 11=(Iw c:Value),Vl 12 (.bool (decide (a.arg∈((a.cls.getD a.no.toNat default).set))))]) [[],[0],[0,1],[0,1,2],(rg 4),[],[5],(rg 7),(rg 8),(rg 9),(rg 9),(rg 10),(rg 12)] [1,7] [(0,0),(0,0),(1,1),(1,1),(1,1),(0,1),(0,1),(1,1),(2,2),(2,2),(2,2),(2,2),(2,2)] (hS0.new aD) ⟨ob1 0 fun _ _ (U:Sep _ _ _ _) _=>obl rfl (zh (k:=7) nT oT rfl rfl (CellsAt.all (U.b0)) dR),?_,?_,fun _ _ _ _ _ _ X=>obl rfl (xc (X 2 dc) dR),?_,fun _ _ _ _ _ _ _=>obl rfl (xL rfl dR),?_,?_,?_,?_,?_,?_,fun _ _ _ _ _ _ Y=>obl rfl (zY (v:=.bool (decide (a.arg∈((a.cls.getD a.no.toNat default).set)))) (Y 10 dc) dR),trivial⟩ ?_ (hlocA:=yX ⟨dA,dT,dA,dA,dA,dA,dA,dT,fun vals m p h=>fun c e=>(p 8 (.inl rfl)).trans (h c ((p 7 (.inr dc)).symm.trans e)),fun vals m p h=>fun c e=>(p 9 (.inl rfl)).trans (h c ((p 7 (.inr dc)).symm.trans e)),dA,fun vals m p h=>fun c e=>(p 11 (.inl rfl)).trans (h c ((p 7 (.inr dc)).symm.trans e)),dA,trivial⟩)
 refine ob1 0 fun vals _ (aq:Sep _ _ _ _) ar=>(obl rfl ?_)
 refine(zH (f:=102) (vals:=[.agg (a.cells da0 da1).toArray]) (cap:=[]) rfl (yE ⟨(ar 0 dc),trivial⟩) pT (VQ (a:=a) hda0 hda1 oa aq bo) ?_)
 rintro _ w20 ⟨rfl,au⟩
 exact fun m p u=>⟨(zx p au),trivial⟩
 refine ob1 1 fun _ _ Z _=>?_
 obtain⟨g,hS132⟩:=Z
 exact obl rfl (zo g dR)
 refine ob1 1 fun _ _ aa ab=>?_
 obtain⟨g,ac⟩:=aa
 refine obl rfl ?_
 have E:a.no.toNat<a.cls.length:=bo
 obtain⟨N,D,hoke148⟩:=hda1.celD E
 have hsm150:((a.cls.getD a.no.toNat default).set).length*8≤140737488355328:=D.small
 have O:=ac.cells N (hda1.foot (ne_of_lt E))
 exact lD aE mT (ab 3 dc) (O.get (j:=1) rfl) dR
 refine fun B _ _ av aw F H=>?_
 have hkk:=xk av aw
 rcases hkk with rfl|rfl
 have ad:=F
 exact obl rfl (lD (Iv (a.arg)) kT (H 5 dc) (zd (ad.b0) rfl) dR)
 obtain⟨g,ae⟩:=F
 exact obl rfl (lD (Iv (a.arg)) kT (H 5 dc) (zd (ae.b0) rfl) dR)
 refine ob1 1 fun vals _ ax P=>?_
 obtain⟨g,Q⟩:=ax
 refine obl rfl ?_
 have R:a.no.toNat<a.cls.length:=bo
 obtain⟨af,A,hoke72⟩:=hda1.celD R
 have hsm74:((a.cls.getD a.no.toNat default).set).length*8≤140737488355328:=A.small
 have hcw75:=Q.cells af (hda1.foot (ne_of_lt R))
 refine(zH (f:=126) (vals:=[aE,Iv (a.arg)]) (cap:=[]) rfl (yE ⟨(P 4 dc),(P 6 dc),trivial⟩) pR (Xr A oa.arg Q (hasc)) ?_)
 rintro _ w78 ⟨c,rfl,s,ay⟩
 exact fun m p u=>⟨(exiA c (zx ((u 1 dc).trans g) (zx p (zx s ay)))),trivial⟩
 refine ob1 2 fun _ _ ag _=>?_
 obtain⟨c,g,d,s,hS174⟩:=ag
 refine obl rfl (yi d (fun m p u=>⟨rfl,?_⟩))
 intro I e
 rw[u 7 (by decide)]at e;cases d.symm.trans e
 exact p
 refine ob1 2 fun vals _ ah ai=>?_
 obtain⟨c,g,d,s,hS181⟩:=ah
 have az:=ai 8 dc c d
 refine obl rfl (zm az rfl (fun m p u=>⟨rfl,?_⟩))
 intro I e
 rw[u 7 (by decide)]at e;cases d.symm.trans e
 exact p
 refine ob1 2 fun vals _ aj ak=>?_
 obtain⟨c,g,d,s,hS189⟩:=aj
 have aA:=ak 8 dc c d
 exact obl rfl (zm aA rfl dR)
 refine ob1 2 fun vals _ al am=>?_
 obtain⟨c,g,d,s,hS197⟩:=al
 have aB:=am 9 dc c d
 refine obl rfl (zY aB (fun m p u=>⟨rfl,?_⟩))
 intro I e
 rw[u 7 (by decide)]at e;cases d.symm.trans e
 exact p
 intro vals w206 an ao
 obtain⟨c,g,d,s,C⟩:=an
 have aC:=ao 12 dc
 refine zT (kv:=[(0,.agg (a.cells da0 da1).toArray),(1,Ix b2 0),(2,.bool false),(4,.bool (decide (a.arg∈((a.cls.getD a.no.toNat default).set))))]) ⟨rfl,rfl,rfl,(by exact aC),trivial⟩ (fun ρw206=>(zb (za (zA kr (st (mV (.bool (decide (a.arg∈((a.cls.getD a.no.toNat default).set)))) (st (mV (.bool (decide (a.arg∈((a.cls.getD a.no.toNat default).set)))) (stc (V:=.agg (a.cells da0 da1).toArray) rfl rfl (fun ap=>?_) ?_)))))))))
 have hl212:=fD ap
 exact zh (k:=7) nT oT rfl rfl (CellsAt.all (C.b0)) ⟨rfl,rfl⟩
 cases t:decide (a.arg∈((a.cls.getD a.no.toNat default).set))
 have y:=t
 have t:=fD t
 refine sty rfl rfl (cL pT (VQ (a:=a) hda0 hda1 oa C bo) ?_)
 rintro _ w214 ⟨rfl,J⟩
 refine sty rfl rfl (zo (b:=sb da1) (o:=so da1+a.no.toNat*2) rfl (sty rfl rfl (xc rfl ?_)))
 have K:a.no.toNat<a.cls.length:=bo
 obtain⟨S,z,hoke216⟩:=hda1.celD K
 have hsm218:((a.cls.getD a.no.toNat default).set).length*8≤140737488355328:=z.small
 have T:=J.cells S (hda1.foot (ne_of_lt K))
 refine sty rfl rfl (lD aE mT rfl (T.get (j:=1) rfl) (sty rfl rfl (zJ (n:=((a.cls.getD a.no.toNat default).set).length) lR rfl z.sl (sty rfl rfl (zC (k:=.i64) (a:=((((a.cls.getD a.no.toNat default).set).length:Nat):Int)) (b:=64) rfl rfl (st (yw (v:=.bool (decide (((((a.cls.getD a.no.toNat default).set).length:Nat):Int)<64))) rfl rfl (st (aS (.bool (decide (((((a.cls.getD a.no.toNat default).set).length:Nat):Int)<64))) (zb (zk (zG kY (show _=(.bool (decide (((((a.cls.getD a.no.toNat default).set).length:Nat):Int)<64)):Value)from rfl) ?_))))))))))))
 refine⟨?_,(J.s1_)⟩
 unfold xu
 rw[if_neg (by decide),if_pos rfl,show decide (a.arg∈(yy a.cls a.no).set)=_ from y]
 rfl
 have y:=t
 have t:=tD t
 refine stx rfl rfl (stx rfl rfl (stx rfl rfl (stx rfl rfl (stx rfl rfl (stx rfl rfl (st (yz rfl rfl (st (aS (.bool true) (zb (zk (zG kY rfl ?_))))))))))))
 refine⟨?_,(C.s1_)⟩
 unfold xu
 rw[if_neg (by decide),if_pos rfl,show decide (a.arg∈(yy a.cls a.no).set)=_ from y]
 rfl
theorem Jj {a:AskR}{da0:Value}(hda0:RdS W G da0 a.fld.moves){da1:Value}(hda1:RdS W G da1 a.cls)(oa:a.Ok)(hS0:Sep G W Rs w)(hno:0≤a.no∧a.no<a.cls.length)(hmv:0≤a.arg∧a.arg<a.fld.moves.length)(hnd:(ZN a.fld a.arg).need<0∨(ZN a.fld a.arg).need<a.cls.length):Ret Tryz.prog 108 [.agg (a.cells da0 da1).toArray] w (fun r w'=>r=(.bool (xu a.fld a.cls (yy a.cls a.no) 5 a.arg):Value)∧Sep G W Rs w'):=by
 let n:=(a.fld.moves.getD a.arg.toNat default).cells
 have hda0s:_*32≤_:=hda0.small
 have hda1s:_*32≤_:=hda1.small
 have hnd1:(a.fld.moves.getD a.arg.toNat default).need<0∨(a.fld.moves.getD a.arg.toNat default).need<a.cls.length:=hnd
 refine zi Tryz.func108 rfl rfl ?_
 refine za (R0 fun _=>st (zM rfl ?_))
 intro w3 b2 ba
 have L:=hS0.new ba
 refine st (aS (.bool false) (zb (za (R0 fun _=>st (Wa rfl (st (yF rfl (st (lD da0 qR rfl (zd (L.b0) rfl) (st (xL rfl (st (lD (Iv (a.arg)) kT rfl (zd (L.b0) rfl) ?_)))))))))))))
 have hi5:a.arg.toNat<a.fld.moves.length:=bo
 refine st (zr (k:=4) (i:=a.arg) rR vT rfl hda0.sl rfl ⟨by omega,by omega⟩ ?_)
 have aN:a.arg.toNat<a.fld.moves.length:=bo
 obtain⟨aP,hoke6⟩:=hda0.mvD aN
 have aQ:=L.cells aP (hda0.foot (ne_of_lt aN))
 refine st (zh Tryz.isAgg143 vT rfl rfl aQ (st (zq Tryz.zeroValue143 ?_)))
 intro w11 D bb
 have ab:=L.new bb
 refine stn (zp (v:=.agg n.toArray) (c':=n.toArray) vT rfl rfl (ab.b0) (zX ⟨rfl,rfl,rfl,rfl,trivial⟩) yqc rfl ?_)
 intro w13 aR
 refine zb (za ?_)
 refine WD4 ((fun TT aO=>WF [fun vals wq=>Sep G W (aO::TT) wq,fun vals wq=>(vals 1=(Ix (sb da1) (so da1+a.no.toNat*2):Value))∧Sep G W (aO::TT) wq]) ((Blk b2 (a.cells da0 da1).toArray 135)::Rs) (Blk D n.toArray 143)) (AF [Vl 0 (.agg (a.cells da0 da1).toArray),fun _=>True,Vl 2 (Ix (sb da1) (so da1+a.no.toNat*2)),Vl 3 (Ix (sb da1) (so da1+a.no.toNat*2)),Vl 4 (Iv ((a.cls.getD a.no.toNat default).n)),Vl 5 (Ix D 0),Vl 6 (Iv ((a.fld.moves.getD a.arg.toNat default).frm)),Vl 7 (.bool (decide (((a.cls.getD a.no.toNat default).n)=((a.fld.moves.getD a.arg.toNat default).frm)))),Vl 8 (.bool (decide (((a.cls.getD a.no.toNat default).n)=((a.fld.moves.getD a.arg.toNat default).frm)))),Vl 9 (if(decide (((a.cls.getD a.no.toNat default).n)=((a.fld.moves.getD a.arg.toNat default).frm)))=true then Ix D 2 else undef),Vl 10 (if(decide (((a.cls.getD a.no.toNat default).n)=((a.fld.moves.getD a.arg.toNat default).frm)))=true then Iv ((a.fld.moves.getD a.arg.toNat default).need)else undef),Vl 11 (if(decide (((a.cls.getD a.no.toNat default).n)=((a.fld.moves.getD a.arg.toNat default).frm)))=true then .bool (decide (((a.fld.moves.getD a.arg.toNat default).need)<0))else undef),Vl 12 (if(decide (((a.cls.getD a.no.toNat default).n)=((a.fld.moves.getD a.arg.toNat default).frm)))=true then .bool (decide (((a.fld.moves.getD a.arg.toNat default).need)<0))else undef),Vl 13 (if((decide (((a.cls.getD a.no.toNat default).n)=((a.fld.moves.getD a.arg.toNat default).frm)))=true)∧(decide (((a.fld.moves.getD a.arg.toNat default).need)<0))=false then Ix b2 4 else undef),Vl 14 (if((decide (((a.cls.getD a.no.toNat default).n)=((a.fld.moves.getD a.arg.toNat default).frm)))=true)∧(decide (((a.fld.moves.getD a.arg.toNat default).need)<0))=false then da1 else undef),Vl 15 (if((decide (((a.cls.getD a.no.toNat default).n)=((a.fld.moves.getD a.arg.toNat default).frm)))=true)∧(decide (((a.fld.moves.getD a.arg.toNat default).need)<0))=false then Ix D 2 else undef),Vl 16 (if((decide (((a.cls.getD a.no.toNat default).n)=((a.fld.moves.getD a.arg.toNat default).frm)))=true)∧(decide (((a.fld.moves.getD a.arg.toNat default).need)<0))=false then Iv ((a.fld.moves.getD a.arg.toNat default).need)else undef),Vl 17 (if((decide (((a.cls.getD a.no.toNat default).n)=((a.fld.moves.getD a.arg.toNat default).frm)))=true)∧(decide (((a.fld.moves.getD a.arg.toNat default).need)<0))=false then Ix (sb da1) (so da1+(((a.fld.moves.getD a.arg.toNat default).need).toNat)*2)else undef),Vl 18 (if((decide (((a.cls.getD a.no.toNat default).n)=((a.fld.moves.getD a.arg.toNat default).frm)))=true)∧(decide (((a.fld.moves.getD a.arg.toNat default).need)<0))=false then Ix (sb da1) (so da1+(((a.fld.moves.getD a.arg.toNat default).need).toNat)*2)else undef),Vl 19 (if((decide (((a.cls.getD a.no.toNat default).n)=((a.fld.moves.getD a.arg.toNat default).frm)))=true)∧(decide (((a.fld.moves.getD a.arg.toNat default).need)<0))=false then Iv ((a.cls.getD (((a.fld.moves.getD a.arg.toNat default).need).toNat) default).n)else undef),Vl 20 (if((decide (((a.cls.getD a.no.toNat default).n)=((a.fld.moves.getD a.arg.toNat default).frm)))=true)∧(decide (((a.fld.moves.getD a.arg.toNat default).need)<0))=false then Ix D 3 else undef),Vl 21 (if((decide (((a.cls.getD a.no.toNat default).n)=((a.fld.moves.getD a.arg.toNat default).frm)))=true)∧(decide (((a.fld.moves.getD a.arg.toNat default).need)<0))=false then Iv ((a.fld.moves.getD a.arg.toNat default).least)else undef),Vl 22 (if((decide (((a.cls.getD a.no.toNat default).n)=((a.fld.moves.getD a.arg.toNat default).frm)))=true)∧(decide (((a.fld.moves.getD a.arg.toNat default).need)<0))=false then .bool (decide (((a.fld.moves.getD a.arg.toNat default).least)≤((a.cls.getD (((a.fld.moves.getD a.arg.toNat default).need).toNat) default).n)))else undef),Vl 23 (if(decide (((a.cls.getD a.no.toNat default).n)=((a.fld.moves.getD a.arg.toNat default).frm)))=true then .bool ((decide (((a.fld.moves.getD a.arg.toNat default).need)<0))||(decide (((a.fld.moves.getD a.arg.toNat default).least)≤((a.cls.getD (((a.fld.moves.getD a.arg.toNat default).need).toNat) default).n))))else undef),Vl 24 (.bool ((decide (((a.cls.getD a.no.toNat default).n)=((a.fld.moves.getD a.arg.toNat default).frm)))&&((decide (((a.fld.moves.getD a.arg.toNat default).need)<0))||(decide (((a.fld.moves.getD a.arg.toNat default).least)≤((a.cls.getD (((a.fld.moves.getD a.arg.toNat default).need).toNat) default).n)))))),Vl 25 (.bool ((decide (((a.cls.getD a.no.toNat default).n)=((a.fld.moves.getD a.arg.toNat default).frm)))&&((decide (((a.fld.moves.getD a.arg.toNat default).need)<0))||(decide (((a.fld.moves.getD a.arg.toNat default).least)≤((a.cls.getD (((a.fld.moves.getD a.arg.toNat default).need).toNat) default).n))))))]) [[],[0],[0,1],[0,1,2],(rg 4),[],[5],(rg 7),(rg 8),(rg 9),(rg 10),(rg 11),(rg 12),(rg 13),(rg 14),(rg 13),[0,1,2,3,4,5,6,7,8,9,10,11,12,15],(rg 17),(rg 18),(rg 19),(rg 13),[0,1,2,3,4,5,6,7,8,9,10,11,12,20],(rg 22),(rg 23),(rg 24),(rg 25)] [1] [(0,0),(0,0),(1,1),(1,1),(1,1),(0,1),(0,1),(1,1),(1,1),(1,1),(1,1),(1,1),(1,1),(1,1),(1,1),(1,1),(1,1),(1,1),(1,1),(1,1),(1,1),(1,1),(1,1),(1,1),(1,1),(1,1)] (ab.pt0 aR) ⟨ob1 0 fun _ _ (ag:Sep _ _ _ _) _=>obl rfl (zh nT oT rfl rfl (CellsAt.all (ag.b1)) dR),?_,?_,fun _ _ _ _ _ _ ah=>obl rfl (xm (ah 2 dc) dR),?_,fun _ _ _ _ _ _ _=>obl rfl (Um rfl dR),?_,?_,fun _ _ _ _ _ _ ai=>obl rfl (yi (ai 7 dc) dR),?_,?_,?_,?_,?_,?_,?_,?_,?_,?_,?_,?_,?_,?_,?_,?_,fun _ _ _ _ _ _ aj=>obl rfl (zY (aj 24 dc) dR),trivial⟩ ?_
 refine ob1 0 fun vals _ (aU:Sep _ _ _ _) aV=>(obl rfl ?_)
 refine(zH (f:=102) (vals:=[.agg (a.cells da0 da1).toArray]) (cap:=[]) rfl (yE ⟨(aV 0 dc),trivial⟩) pT (VQ (a:=a) hda0 hda1 oa aU bo) ?_)
 rintro _ w31 ⟨rfl,aW⟩
 exact fun c d hv'=>⟨(zx d aW),trivial⟩
 refine ob1 1 fun _ _ ak _=>?_
 obtain⟨e,hS290⟩:=ak
 exact obl rfl (zo e dR)
 refine ob1 1 fun _ _ al am=>?_
 obtain⟨e,an⟩:=al
 refine obl rfl ?_
 have M:a.no.toNat<a.cls.length:=bo
 obtain⟨ac,J,hoke306⟩:=hda1.celD M
 have hsm308:((a.cls.getD a.no.toNat default).set).length*8≤140737488355328:=J.small
 have ad:=an.cells ac (hda1.foot (ne_of_lt M))
 exact lD (Iv ((a.cls.getD a.no.toNat default).n)) kT (am 3 dc) (ad.get (j:=0) rfl) dR
 refine fun E _ _ aX aY N O=>?_
 have hkk:=xk aX aY
 rcases hkk with rfl|rfl
 have ao:=N
 exact obl rfl (lD (Iv ((a.fld.moves.getD a.arg.toNat default).frm)) kT (O 5 dc) (zd (ao.b0) rfl) dR)
 obtain⟨e,ap⟩:=N
 exact obl rfl (lD (Iv ((a.fld.moves.getD a.arg.toNat default).frm)) kT (O 5 dc) (zd (ap.b0) rfl) dR)
 refine ob1 1 fun _ _ aq P=>?_
 obtain⟨e,hS332⟩:=aq
 exact obl rfl (zR (P 4 dc) (P 6 dc) dR)
 refine fun _ _ _ _ _ _ ar=>(yr rfl rfl (ar 8 dc) (fun C=>?_) (fun C=>fun c d _=>⟨trivial,d.trans (if_neg C).symm⟩))
 have hl350:=tD C
 exact ZW rfl (fun c d _=>⟨rfl,d.trans (if_pos C).symm⟩)
 refine ob1 1 fun _ _ au Q=>?_
 obtain⟨e,av⟩:=au
 refine yr rfl rfl (Q 8 dc) (fun u=>?_) (fun u=>fun c d _=>⟨trivial,d.trans (if_neg u).symm⟩)
 have hl361:=tD u
 exact lD (Iv ((a.fld.moves.getD a.arg.toNat default).need)) kT (Eq.trans (Q 9 dc) (if_pos u)) (zd (av.b0) rfl) (fun c d _=>⟨rfl,d.trans (if_pos u).symm⟩)
 refine ob1 1 fun _ _ aw R=>?_
 obtain⟨e,hS368⟩:=aw
 refine yr rfl rfl (R 8 dc) (fun x=>?_) (fun x=>fun c d _=>⟨trivial,d.trans (if_neg x).symm⟩)
 have hl372:=tD x
 exact zC (Eq.trans (R 10 dc) (if_pos x)) rfl (fun c d _=>⟨rfl,d.trans (if_pos x).symm⟩)
 refine fun _ _ _ _ _ _ S=>(yr rfl rfl (S 8 dc) (fun y=>?_) (fun y=>fun c d _=>⟨trivial,d.trans (if_neg y).symm⟩))
 have hl382:=tD y
 exact yi (Eq.trans (S 11 dc) (if_pos y)) (fun c d _=>⟨rfl,d.trans (if_pos y).symm⟩)
 refine fun _ _ _ _ _ _ ax=>(xG rfl rfl (ax 12 dc) (fun z=>?_) (fun z=>fun c d _=>⟨trivial,d.trans (if_neg z).symm⟩))
 have hl391:=tD z.1
 have hl392:=fD z.2
 exact VU rfl (fun c d _=>⟨rfl,d.trans (if_pos z).symm⟩)
 refine ob1 1 fun _ _ ay T=>?_
 obtain⟨e,az⟩:=ay
 refine xG rfl rfl (T 12 dc) (fun l=>?_) (fun l=>fun c d _=>⟨trivial,d.trans (if_neg l).symm⟩)
 have hl403:=tD l.1
 have hl404:=fD l.2
 exact lD da1 oR (Eq.trans (T 13 dc) (if_pos ⟨l.1,l.2⟩)) (zd (az.b1) rfl) (fun c d _=>⟨rfl,d.trans (if_pos l).symm⟩)
 refine fun _ _ _ _ _ _ aA=>(xG rfl rfl (aA 12 dc) (fun A=>?_) (fun A=>fun c d _=>⟨trivial,d.trans (if_neg A).symm⟩))
 have hl413:=tD A.1
 have hl414:=fD A.2
 exact ZW rfl (fun c d _=>⟨rfl,d.trans (if_pos A).symm⟩)
 refine ob1 1 fun _ _ aB U=>?_
 obtain⟨e,aC⟩:=aB
 refine xG rfl rfl (U 12 dc) (fun m=>?_) (fun m=>fun c d _=>⟨trivial,d.trans (if_neg m).symm⟩)
 have hl425:=tD m.1
 have hl426:=fD m.2
 exact lD (Iv ((a.fld.moves.getD a.arg.toNat default).need)) kT (Eq.trans (U 15 dc) (if_pos ⟨m.1,m.2⟩)) (zd (aC.b0) rfl) (fun c d _=>⟨rfl,d.trans (if_pos m).symm⟩)
 refine ob1 1 fun _ _ aD F=>?_
 obtain⟨e,hS433⟩:=aD
 refine xG rfl rfl (F 12 dc) (fun g=>?_) (fun g=>fun c d _=>⟨trivial,d.trans (if_neg g).symm⟩)
 have hl438:=tD g.1
 have hl439:=fD g.2
 have hi440:((a.fld.moves.getD a.arg.toNat default).need).toNat<a.cls.length:=bo
 exact zr (k:=2) (i:=(a.fld.moves.getD a.arg.toNat default).need) rT uT (Eq.trans (F 14 dc) (if_pos ⟨g.1,g.2⟩)) hda1.sl (Eq.trans (F 16 dc) (if_pos ⟨g.1,g.2⟩)) ⟨by omega,by omega⟩ (fun c d _=>⟨rfl,d.trans (if_pos g).symm⟩)
 refine fun _ _ _ _ _ _ V=>(xG rfl rfl (V 12 dc) (fun p=>?_) (fun p=>fun c d _=>⟨trivial,d.trans (if_neg p).symm⟩))
 exact xm (Eq.trans (V 17 dc) (if_pos ⟨p.1,p.2⟩)) (fun c d _=>⟨rfl,d.trans (if_pos p).symm⟩)
 refine ob1 1 fun _ _ aE X=>?_
 obtain⟨e,aF⟩:=aE
 refine xG rfl rfl (X 12 dc) (fun q=>?_) (fun q=>fun c d _=>⟨trivial,d.trans (if_neg q).symm⟩)
 have Y:((a.fld.moves.getD a.arg.toNat default).need).toNat<a.cls.length:=bo
 obtain⟨ae,K,hoke464⟩:=hda1.celD Y
 have af:=aF.cells ae (hda1.foot (ne_of_lt Y))
 exact lD (Iv ((a.cls.getD (((a.fld.moves.getD a.arg.toNat default).need).toNat) default).n)) kT (Eq.trans (X 18 dc) (if_pos ⟨q.1,q.2⟩)) (af.get (j:=0) rfl) (fun c d _=>⟨rfl,d.trans (if_pos q).symm⟩)
 refine fun _ _ _ _ _ _ aG=>(xG rfl rfl (aG 12 dc) (fun B=>?_) (fun B=>fun c d _=>⟨trivial,d.trans (if_neg B).symm⟩))
 exact Uc rfl (fun c d _=>⟨rfl,d.trans (if_pos B).symm⟩)
 refine ob1 1 fun _ _ aH Z=>?_
 obtain⟨e,aI⟩:=aH
 refine xG rfl rfl (Z 12 dc) (fun s=>?_) (fun s=>fun c d _=>⟨trivial,d.trans (if_neg s).symm⟩)
 exact lD (Iv ((a.fld.moves.getD a.arg.toNat default).least)) kT (Eq.trans (Z 20 dc) (if_pos ⟨s.1,s.2⟩)) (zd (aI.b0) rfl) (fun c d _=>⟨rfl,d.trans (if_pos s).symm⟩)
 refine ob1 1 fun _ _ aJ H=>?_
 obtain⟨e,hS496⟩:=aJ
 refine xG rfl rfl (H 12 dc) (fun h=>?_) (fun h=>fun c d _=>⟨trivial,d.trans (if_neg h).symm⟩)
 exact yR (Eq.trans (H 19 dc) (if_pos ⟨h.1,h.2⟩)) (Eq.trans (H 21 dc) (if_pos ⟨h.1,h.2⟩)) (fun c d _=>⟨rfl,d.trans (if_pos h).symm⟩)
 refine fun _ _ _ _ _ _ I=>(yr rfl rfl (I 8 dc) (fun t=>?_) (fun t=>fun c d _=>⟨trivial,d.trans (if_neg t).symm⟩))
 exact zt (Eq.trans (I 12 dc) (if_pos t)) (fun hbp=>(Eq.trans (I 22 dc) (if_pos ⟨t,hbp⟩))) (fun c d _=>⟨rfl,d.trans (if_pos t).symm⟩)
 exact fun _ _ _ _ _ _ aa=>obl rfl (zy (aa 8 dc) (fun hbp=>(Eq.trans (aa 23 dc) (if_pos hbp))) dR)
 intro vals w529 aK aL
 obtain⟨e,aM⟩:=aK
 have aZ:=aL 25 dc
 refine zT (kv:=[(0,.agg (a.cells da0 da1).toArray),(1,Ix b2 0),(2,.bool ((decide (((a.cls.getD a.no.toNat default).n)=((a.fld.moves.getD a.arg.toNat default).frm)))&&((decide (((a.fld.moves.getD a.arg.toNat default).need)<0))||(decide (((a.fld.moves.getD a.arg.toNat default).least)≤((a.cls.getD (((a.fld.moves.getD a.arg.toNat default).need).toNat) default).n)))))),(4,Ix b2 0),(5,Ix b2 3),(6,da0),(7,Ix b2 6),(8,Iv (a.arg)),(9,Ix (sb da0) (so da0+a.arg.toNat*4)),(10,.agg ((a.fld.moves.getD a.arg.toNat default).cells).toArray),(3,Ix D 0)]) ⟨rfl,rfl,(by exact aZ),rfl,rfl,rfl,rfl,rfl,rfl,rfl,rfl,trivial⟩ (fun ρw529=>(zb (zk ?_)))
 refine zG Tryz.results108 rfl ?_
 refine⟨?_,(aM.s2_)⟩
 unfold xu
 rw[if_neg (by decide),if_neg (by decide),if_pos rfl]
 rfl
theorem yqd {α:Sort _}{a:α}{X:Prop}(h:a≠a):X:=absurd rfl h
structure Rul where
 may:Nat
 does:Nat
instance:Rep Rul where
 k:=2
 rd _ _ cs x:=cs=[.func (.func x.may) #[] #[],.func (.func x.does) #[] #[]]
 bytes:=16
 bpos:=by decide
 kpos:=by decide
 len h:=by rw[h];rfl
 one h:=by rw[h];exact zX ⟨rfl,rfl,trivial⟩
 mono h _:=h
instance:Flat Rul:=⟨fun h=>h⟩
def ZB:List (Int×Rul):=[(1,⟨100,101⟩),(2,⟨103,104⟩),(3,⟨105,106⟩),(4,⟨103,107⟩),(5,⟨108,109⟩)]
theorem WE {op:Int}(h:op≠1∧op≠2∧op≠3∧op≠4∧op≠5):Zz ZB op=none:=by
 unfold Zz
 rw[Option.map_eq_none_iff,List.find?_eq_none]
 intro p hp
 simp only[ZB,List.mem_cons,List.not_mem_nil,or_false]at hp
 rcases hp with rfl|rfl|rfl|rfl|rfl<;>simp<;>omega
theorem Je (hS0:Sep G W Rs w):Ret Tryz.prog 79 [] w (fun r w'=> ∃(m:Nat),r=(.map (some m):Value)∧Sep G W ((Yx (α:=Rul) m ZB)::Rs) w'):=by
 refine zi Tryz.func79 rfl rfl ?_
 refine za (R0 fun _=>st (aS (.map none) (zb (za (R0 fun _=>st (ZZ ?_))))))
 intro D x
 obtain⟨a,l⟩: ∃z,z=w.heap.size:=⟨_,rfl⟩;rw[←l]
 have n:Sep G W ((Yx (α:=Rul) a [])::Rs) D:=(by rw[l];exact hS0.mapNew x)
 refine st (zL (parts':=[(0,.func (.func 100) #[] #[]),(1,.func (.func 101) #[] #[])]) (v:=.agg #[.func (.func 100) #[] #[],.func (.func 101) #[] #[]]) rfl (by simp+zetaDelta [Instr.build,Instr.fill,Ev.cells,go_sem,Mv.cells,Fld.cells,Typ.cells,Prj.cells,Dcl.cells,Cel.cells,AskR.cells]) (stn (ZK (α:=Rul) (F:=fun _=>False) (x1:=(⟨100,101⟩:Rul)) (cs:=[.func (.func 100) #[] #[],.func (.func 101) #[] #[]]) qT lT rfl rfl rfl (by decide) (n.map_ (i:=0) rfl) rfl (fun h=>h) ?_)))
 intro E y p
 have o:Sep G W ((Yx (α:=Rul) a (Zl ([]:List (Int×Rul)) 1 (⟨100,101⟩:Rul)))::Rs) E:=n.mapPut (i:=0) rfl y p
 refine st (zL (parts':=[(0,.func (.func 103) #[] #[]),(1,.func (.func 104) #[] #[])]) (v:=.agg #[.func (.func 103) #[] #[],.func (.func 104) #[] #[]]) rfl (by simp+zetaDelta [Instr.build,Instr.fill,Ev.cells,go_sem,Mv.cells,Fld.cells,Typ.cells,Prj.cells,Dcl.cells,Cel.cells,AskR.cells]) (stn (ZK (α:=Rul) (F:=fun _=>False) (x1:=(⟨103,104⟩:Rul)) (cs:=[.func (.func 103) #[] #[],.func (.func 104) #[] #[]]) qT lT rfl rfl rfl (by decide) (o.map_ (i:=0) rfl) rfl (fun h=>h) ?_)))
 intro H q f
 have b:Sep G W ((Yx (α:=Rul) a (Zl (Zl ([]:List (Int×Rul)) 1 (⟨100,101⟩:Rul)) 2 (⟨103,104⟩:Rul)))::Rs) H:=o.mapPut (i:=0) rfl q f
 refine st (zL (parts':=[(0,.func (.func 105) #[] #[]),(1,.func (.func 106) #[] #[])]) (v:=.agg #[.func (.func 105) #[] #[],.func (.func 106) #[] #[]]) rfl (by simp+zetaDelta [Instr.build,Instr.fill,Ev.cells,go_sem,Mv.cells,Fld.cells,Typ.cells,Prj.cells,Dcl.cells,Cel.cells,AskR.cells]) (stn (ZK (α:=Rul) (F:=fun _=>False) (x1:=(⟨105,106⟩:Rul)) (cs:=[.func (.func 105) #[] #[],.func (.func 106) #[] #[]]) qT lT rfl rfl rfl (by decide) (b.map_ (i:=0) rfl) rfl (fun h=>h) ?_)))
 intro A s g
 have c:Sep G W ((Yx (α:=Rul) a (Zl (Zl (Zl ([]:List (Int×Rul)) 1 (⟨100,101⟩:Rul)) 2 (⟨103,104⟩:Rul)) 3 (⟨105,106⟩:Rul)))::Rs) A:=b.mapPut (i:=0) rfl s g
 refine st (zL (parts':=[(0,.func (.func 103) #[] #[]),(1,.func (.func 107) #[] #[])]) (v:=.agg #[.func (.func 103) #[] #[],.func (.func 107) #[] #[]]) rfl (by simp+zetaDelta [Instr.build,Instr.fill,Ev.cells,go_sem,Mv.cells,Fld.cells,Typ.cells,Prj.cells,Dcl.cells,Cel.cells,AskR.cells]) (stn (ZK (α:=Rul) (F:=fun _=>False) (x1:=(⟨103,107⟩:Rul)) (cs:=[.func (.func 103) #[] #[],.func (.func 107) #[] #[]]) qT lT rfl rfl rfl (by decide) (c.map_ (i:=0) rfl) rfl (fun h=>h) ?_)))
 intro B t j
 have d:Sep G W ((Yx (α:=Rul) a (Zl (Zl (Zl (Zl ([]:List (Int×Rul)) 1 (⟨100,101⟩:Rul)) 2 (⟨103,104⟩:Rul)) 3 (⟨105,106⟩:Rul)) 4 (⟨103,107⟩:Rul)))::Rs) B:=c.mapPut (i:=0) rfl t j
 refine st (zL (parts':=[(0,.func (.func 108) #[] #[]),(1,.func (.func 109) #[] #[])]) (v:=.agg #[.func (.func 108) #[] #[],.func (.func 109) #[] #[]]) rfl (by simp+zetaDelta [Instr.build,Instr.fill,Ev.cells,go_sem,Mv.cells,Fld.cells,Typ.cells,Prj.cells,Dcl.cells,Cel.cells,AskR.cells]) (stn (ZK (α:=Rul) (F:=fun _=>False) (x1:=(⟨108,109⟩:Rul)) (cs:=[.func (.func 108) #[] #[],.func (.func 109) #[] #[]]) qT lT rfl rfl rfl (by decide) (d.map_ (i:=0) rfl) rfl (fun h=>h) ?_)))
 intro C u k
 have e:Sep G W ((Yx (α:=Rul) a (Zl (Zl (Zl (Zl (Zl ([]:List (Int×Rul)) 1 (⟨100,101⟩:Rul)) 2 (⟨103,104⟩:Rul)) 3 (⟨105,106⟩:Rul)) 4 (⟨103,107⟩:Rul)) 5 (⟨108,109⟩:Rul)))::Rs) C:=d.mapPut (i:=0) rfl u k
 refine st (mV (.map (some a)) (st (aS (.map (some a)) (zb (zk (zG Tryz.results79 rfl ?_))))))
 have hz:Zl (Zl (Zl (Zl (Zl ([]:List (Int×Rul)) 1 (⟨100,101⟩:Rul)) 2 (⟨103,104⟩:Rul)) 3 (⟨105,106⟩:Rul)) 4 (⟨103,107⟩:Rul)) 5 (⟨108,109⟩:Rul)=ZB:=rfl
 rw[hz]at e
 refine⟨a,rfl,e⟩
theorem Vt {op:Int}(h:op=1∨op=2∨op=3∨op=4∨op=5): ∃x,Zz ZB op=some x:=by rcases h with rfl|rfl|rfl|rfl|rfl<;>exact⟨_,rfl⟩
theorem VF {op:Int}{x:Rul}(h:op=1∨op=2∨op=3∨op=4∨op=5)(hx:Zz ZB op=some x):(∀args w,(callFunc x.may args).run Tryz.prog w=.ok (.enter x.may args) w)∧(∀args w,(callFunc x.does args).run Tryz.prog w=.ok (.enter x.does args) w):=by
 rcases h with rfl|rfl|rfl|rfl|rfl<;>cases hx
 ·exact⟨Tryz.call100,Tryz.call101⟩
 ·exact⟨lY,Tryz.call104⟩
 ·exact⟨Tryz.call105,Tryz.call106⟩
 ·exact⟨lY,Tryz.call107⟩
 ·exact⟨Tryz.call108,Tryz.call109⟩
theorem zdS {op:Int}{x:Rul}{a:AskR}{da0:Value}(hda0:RdS W G da0 a.fld.moves){da1:Value}(hda1:RdS W G da1 a.cls)(oa:a.Ok)(hS0:Sep G W Rs w)(hx:Zz ZB op=some x)(hop:op=1∨op=2∨op=3∨op=4∨op=5)(hak:0≤a.no∧a.no<a.cls.length∧((op=3∨op=4)→Asc (yy a.cls a.no).set)∧(op=5→0≤a.arg∧a.arg<a.fld.moves.length∧((ZN a.fld a.arg).need<0∨(ZN a.fld a.arg).need<a.cls.length))):Ret Tryz.prog x.may [.agg (a.cells da0 da1).toArray] w (fun r w'=>r=(.bool (xu a.fld a.cls (yy a.cls a.no) op a.arg):Value)∧Sep G W Rs w'):=by
 rcases hop with rfl|rfl|rfl|rfl|rfl<;>cases hx
 ·exact zaK hda0 hda1 oa hS0 ⟨hak.1,hak.2.1⟩
 ·exact Qw hda0 hda1 oa hS0
 ·exact zbA hda0 hda1 oa hS0 ⟨hak.1,hak.2.1⟩ (hak.2.2.1 (.inl rfl))
 ·exact Qw hda0 hda1 oa hS0
 ·exact Jj hda0 hda1 oa hS0 ⟨hak.1,hak.2.1⟩ ⟨(hak.2.2.2 rfl).1,(hak.2.2.2 rfl).2.1⟩ (hak.2.2.2 rfl).2.2
set_option maxHeartbeats 4000000 in
theorem zdj {t:Typ}{dt0:Value}(hdt0:RdS W G dt0 t.fields)(ot:t.Ok){vc:Value}{c:List Cel}(hc:RdS W G vc c){f:Int}(hf:InR f){op:Int}(hop:InR op){arg:Int}(harg:InR arg)(hS0:Sep G W Rs w)(hak:Yw t c f op arg):Ret Tryz.prog 40 [.agg (t.cells dt0).toArray,vc,.int .i64 (f),.int .i64 (op),.int .i64 (arg)] w (fun r w'=>r=(.int .i64 (yH t c f op arg):Value)∧Sep G W Rs w'):=by
 have hdt0s:_*48≤_:=hdt0.small
 have hcs:_*32≤_:=hc.small
 have hf0:=hak.1;have hf1:=hak.2.1;have hf2:=hak.2.2.1
 refine zi Tryz.func40 rfl rfl ?_
 refine za (R0 fun _=>st (zM rfl ?_))
 intro w3 b2 aM
 refine st (aS (Iv 0) (zb (za (za (R0 fun _=>st (cL mY (Je (hS0.new aM)) ?_))))))
 rintro _ w6 ⟨Q,rfl,A⟩
 refine st (mV (Iv op) ?_)
 have hops:(op=1∨op=2∨op=3∨op=4∨op=5)∨(op≠1∧op≠2∧op≠3∧op≠4∧op≠5):=by omega
 rcases hops with hop|hop
 obtain⟨rx,hrx⟩:=Vt hop
 refine st (YL (α:=Rul) (a:=rx) qT lT rfl rfl (A.map_ (i:=0) rfl) hrx ?_)
 rintro _ rfl
 refine st (mV (.tuple #[.agg #[.func (.func rx.may) #[] #[],.func (.func rx.does) #[] #[]],.bool true]) (st (zm rfl rfl (st (zm rfl rfl (st (zq sT ?_)))))))
 intro w10 b9 aN
 have R:=A.new aN
 refine stn (zp (v:=.agg #[.func (.func rx.may) #[] #[],.func (.func rx.does) #[] #[]]) (c':=#[.func (.func rx.may) #[] #[],.func (.func rx.does) #[] #[]]) mR rfl rfl (R.b0) (zX ⟨rfl,rfl,trivial⟩) yqc rfl ?_)
 intro w12 aF
 refine st (aS (.bool true) (zb (za ?_)))
 refine WD4 ((fun TT s=>WF [fun vals u=>Sep G W (s::TT) u,fun vals u=>(vals 13=(.bool (xu (⟨((t.fields.getD f.toNat default)),c,f,arg⟩:AskR).fld (⟨((t.fields.getD f.toNat default)),c,f,arg⟩:AskR).cls (yy (⟨((t.fields.getD f.toNat default)),c,f,arg⟩:AskR).cls (⟨((t.fields.getD f.toNat default)),c,f,arg⟩:AskR).no) op (⟨((t.fields.getD f.toNat default)),c,f,arg⟩:AskR).arg):Value))∧Sep G W (s::TT) u]) ((Yx Q ZB)::(Blk b2 (t.cells dt0).toArray 74)::Rs) (Blk b9 #[.func (.func rx.may) #[] #[],.func (.func rx.does) #[] #[]] 130)) (AF [Vl 0 (.bool true),Vl 1 (.bool true),Vl 2 (Ix b9 0),Vl 3 (.func (.func rx.may) #[] #[]),Vl 4 (Ix b2 0),Vl 5 (dt0),Vl 6 (Iv f),Vl 7 (Ix (sb dt0) (so dt0+f.toNat*4)),Vl 8 (.agg ((t.fields.getD f.toNat default).cells (zN W (sb dt0) (so dt0+f.toNat*4+3))).toArray),Vl 9 (vc),Vl 10 (Iv f),Vl 11 (Iv arg),Vl 12 (.agg ((⟨((t.fields.getD f.toNat default)),c,f,arg⟩:AskR).cells (zN W (sb dt0) (so dt0+f.toNat*4+3)) vc).toArray),fun _=>True,Vl 14 (.bool (!(xu (⟨((t.fields.getD f.toNat default)),c,f,arg⟩:AskR).fld (⟨((t.fields.getD f.toNat default)),c,f,arg⟩:AskR).cls (yy (⟨((t.fields.getD f.toNat default)),c,f,arg⟩:AskR).cls (⟨((t.fields.getD f.toNat default)),c,f,arg⟩:AskR).no) op (⟨((t.fields.getD f.toNat default)),c,f,arg⟩:AskR).arg))),Vl 15 (.bool (!(xu (⟨((t.fields.getD f.toNat default)),c,f,arg⟩:AskR).fld (⟨((t.fields.getD f.toNat default)),c,f,arg⟩:AskR).cls (yy (⟨((t.fields.getD f.toNat default)),c,f,arg⟩:AskR).cls (⟨((t.fields.getD f.toNat default)),c,f,arg⟩:AskR).no) op (⟨((t.fields.getD f.toNat default)),c,f,arg⟩:AskR).arg)))]) [[],[0],[0,1],[0,1,2],[0,1],[0,1,4],[0,1],[0,1,4,5,6],[0,1,4,5,6,7],[0,1],[0,1],[0,1],[0,1,4,5,6,7,8,9,10,11],(rg 13),(rg 14),(rg 15)] [13] [(0,0),(0,0),(0,0),(0,0),(0,0),(0,0),(0,0),(0,0),(0,0),(0,0),(0,0),(0,0),(0,0),(0,0),(1,1),(1,1)] (R.pt0 aF) ⟨fun _ _ _ _ _ _ _=>obl rfl (mV (.bool true) dR),fun _ _ _ _ _ _ V=>obl rfl (yi (V 0 dc) dR),?_,?_,?_,?_,?_,?_,?_,?_,?_,?_,?_,?_,?_,fun _ _ _ _ _ _ B=>obl rfl (yz (B 1 dc) (B 14 dc) dR),trivial⟩ ?_
 refine fun _ _ _ _ _ _ X=>(yr rfl rfl (X 1 dc) (fun _=>?_) yqd)
 exact zcW rfl dR
 refine ob1 0 fun _ _ (Y:Sep _ _ _ _) C=>(yr rfl rfl (C 1 dc) (fun _=>?_) yqd)
 exact lD (.func (.func rx.may) #[] #[]) Tryz.isAgg127 (C 2 dc) (zd (Y.b0) rfl) dR
 refine fun _ _ _ _ _ _ Z=>(yr rfl rfl (Z 1 dc) (fun _=>?_) yqd)
 exact yS rfl dR
 refine ob1 0 fun _ _ (aa:Sep _ _ _ _) D=>(yr rfl rfl (D 1 dc) (fun _=>?_) yqd)
 exact lD dt0 nY (D 4 dc) (zd (aa.b2) rfl) dR
 refine fun _ _ _ _ _ _ ab=>(yr rfl rfl (ab 1 dc) (fun _=>?_) yqd)
 exact mV (Iv f) dR
 refine ob1 0 fun _ _ _ n=>(yr rfl rfl (n 1 dc) (fun _=>?_) yqd)
 have hi224:f.toNat<t.fields.length:=(by have h1:=hak.1;have h2:=hak.2.1;have h3:=hak.2.2.1;omega)
 exact zr (k:=4) (i:=f) oY nR (n 5 dc) hdt0.sl (n 6 dc) ⟨by omega,by omega⟩ dR
 refine ob1 0 fun _ _ (ac:Sep _ _ _ _) E=>(yr rfl rfl (E 1 dc) (fun _=>?_) yqd)
 have F:f.toNat<t.fields.length:=(by have h1:=hak.1;have h2:=hak.2.1;have h3:=hak.2.2.1;omega)
 obtain⟨S,x,hoke234⟩:=hdt0.fldD F
 have hsm236:((t.fields.getD f.toNat default).moves).length*32≤140737488355328:=x.small
 have T:=ac.cells S (hdt0.foot (ne_of_lt F))
 exact zh pY nR rfl (E 7 dc) T dR
 refine fun _ _ _ _ _ _ ad=>(yr rfl rfl (ad 1 dc) (fun _=>?_) yqd)
 exact mV vc dR
 refine fun _ _ _ _ _ _ ae=>(yr rfl rfl (ae 1 dc) (fun _=>?_) yqd)
 exact mV (Iv f) dR
 refine fun _ _ _ _ _ _ af=>(yr rfl rfl (af 1 dc) (fun _=>?_) yqd)
 exact mV (Iv arg) dR
 refine fun _ _ _ _ _ _ e=>(yr rfl rfl (e 1 dc) (fun _=>?_) yqd)
 have ag:f.toNat<t.fields.length:=(by have h1:=hak.1;have h2:=hak.2.1;have h3:=hak.2.2.1;omega)
 obtain⟨hce270,y,l⟩:=hdt0.fldD ag
 have hsm272:((t.fields.getD f.toNat default).moves).length*32≤140737488355328:=y.small
 have ok273:AskR.Ok (⟨((t.fields.getD f.toNat default)),c,f,arg⟩:AskR):=⟨⟨(show InR ((t.fields.getD f.toNat default).kind)from l.kind),(show InR ((t.fields.getD f.toNat default).policy)from l.policy)⟩,(show InR (f)from om),(show InR (arg)from om)⟩
 exact zL (parts':=[(0,.agg ((t.fields.getD f.toNat default).cells (zN W (sb dt0) (so dt0+f.toNat*4+3))).toArray),(1,vc),(2,Iv f),(3,Iv arg)]) (v:=.agg ((⟨((t.fields.getD f.toNat default)),c,f,arg⟩:AskR).cells (zN W (sb dt0) (so dt0+f.toNat*4+3)) vc).toArray) (Zi ⟨rfl,(e 8 (by decide)),rfl,(e 9 (by decide)),rfl,(e 10 (by decide)),rfl,(e 11 (by decide)),trivial⟩) (by obtain⟨_,_,ah,_⟩:=hc.sl;rw[show vc=Value.slice _ _ _ from ah];simp[Instr.build,Instr.fill,Ev.cells,go_sem,Mv.cells,Fld.cells,Typ.cells,Prj.cells,Dcl.cells,Cel.cells,AskR.cells]) dR
 refine ob1 0 fun vals _ (H:Sep _ _ _ _) o=>(yr rfl rfl (o 1 dc) (fun _=>?_) yqd)
 have I:f.toNat<t.fields.length:=(by have h1:=hak.1;have h2:=hak.2.1;have h3:=hak.2.2.1;omega)
 obtain⟨U,j,m⟩:=hdt0.fldD I
 have hsm140:((t.fields.getD f.toNat default).moves).length*32≤140737488355328:=j.small
 have hcw141:=H.cells U (hdt0.foot (ne_of_lt I))
 have ai:AskR.Ok (⟨((t.fields.getD f.toNat default)),c,f,arg⟩:AskR):=⟨⟨(show InR ((t.fields.getD f.toNat default).kind)from m.kind),(show InR ((t.fields.getD f.toNat default).policy)from m.policy)⟩,(show InR (f)from om),(show InR (arg)from om)⟩
 refine(zH (f:=rx.may) (vals:=[.agg ((⟨((t.fields.getD f.toNat default)),c,f,arg⟩:AskR).cells (zN W (sb dt0) (so dt0+f.toNat*4+3)) vc).toArray]) (cap:=[]) (o 3 dc) (yE ⟨(o 12 dc),trivial⟩) (VF hop hrx).1 (zdS j hc ai H (hrx) (hop) (⟨hak.1,hak.2.2.1,hak.2.2.2.1,hak.2.2.2.2⟩)) ?_)
 rintro _ w143 ⟨rfl,aj⟩
 exact fun b d aO=>⟨(zx d aj),trivial⟩
 refine ob1 1 fun _ _ ak al=>?_
 obtain⟨J,hS281⟩:=ak
 refine yr rfl rfl (al 1 dc) (fun _=>?_) yqd
 exact yB J dR
 intro vals w291 am an
 obtain⟨J,K⟩:=am
 have aJ:=an 15 dc
 refine zT (kv:=[(0,.agg (t.cells dt0).toArray),(1,vc),(2,Iv f),(3,Iv op),(4,Iv arg),(5,Ix b2 0),(10,Iv 0),(14,.map (some Q)),(15,Iv op),(16,.tuple #[.agg #[.func (.func rx.may) #[] #[],.func (.func rx.does) #[] #[]],.bool true]),(13,.tuple #[.agg #[.func (.func rx.may) #[] #[],.func (.func rx.does) #[] #[]],.bool true]),(17,.agg #[.func (.func rx.may) #[] #[],.func (.func rx.does) #[] #[]]),(18,.bool true),(11,Ix b9 0),(12,.bool true),(34,.bool (!(xu (⟨((t.fields.getD f.toNat default)),c,f,arg⟩:AskR).fld (⟨((t.fields.getD f.toNat default)),c,f,arg⟩:AskR).cls (yy (⟨((t.fields.getD f.toNat default)),c,f,arg⟩:AskR).cls (⟨((t.fields.getD f.toNat default)),c,f,arg⟩:AskR).no) op (⟨((t.fields.getD f.toNat default)),c,f,arg⟩:AskR).arg)))]) ⟨rfl,rfl,rfl,rfl,rfl,rfl,rfl,rfl,rfl,rfl,rfl,rfl,rfl,rfl,rfl,(by exact aJ),trivial⟩ (fun ρw291=>(zb ?_))
 cases h: !(xu (⟨((t.fields.getD f.toNat default)),c,f,arg⟩:AskR).fld (⟨((t.fields.getD f.toNat default)),c,f,arg⟩:AskR).cls (yy (⟨((t.fields.getD f.toNat default)),c,f,arg⟩:AskR).cls (⟨((t.fields.getD f.toNat default)),c,f,arg⟩:AskR).no) op (⟨((t.fields.getD f.toNat default)),c,f,arg⟩:AskR).arg)
 try simp only[zf]at h
 refine ze rfl (zl (za (R0 fun _=>st (aS (Iv 0) (zb (zk (zG sR (show _=(Iv 0:Value)from rfl) ?_)))))))
 refine⟨?_,(K.s3_)⟩
 have hm:xu (xi t f) c (yy c f) op arg=true:=h
 unfold yH
 rw[hm]
 rfl
 try simp only[zf]at h
 refine zg rfl (za (R0 fun _=>st (aS (Iv 10) (zb (zk (zG sR (show _=(Iv 10:Value)from rfl) ?_))))))
 refine⟨?_,(K.s3_)⟩
 have hm:xu (xi t f) c (yy c f) op arg=false:=h
 unfold yH
 rw[hm]
 rfl
 refine st (YH (α:=Rul) (zc:=[.nilFunc,.nilFunc]) qT lT sT rfl rfl (A.map_ (i:=0) rfl) (WE hop) (st (mV (.tuple #[.agg #[.nilFunc,.nilFunc],.bool false]) (st (zm (vs:=[.agg #[.nilFunc,.nilFunc],.bool false]) (i:=0) (v:=.agg #[.nilFunc,.nilFunc]) rfl rfl (st (zm (vs:=[.agg #[.nilFunc,.nilFunc],.bool false]) (i:=1) (v:=.bool false) rfl rfl (st (zq sT ?_)))))))))
 intro w301 z ao
 have L:=A.new ao
 refine stn (zp (v:=.agg #[.nilFunc,.nilFunc]) (c':=#[.nilFunc,.nilFunc]) mR rfl rfl (L.b0) (zX ⟨rfl,rfl,trivial⟩) yqc rfl ?_)
 intro w303 ap
 refine st (aS (.bool false) (zb (za (WD4 ((fun TT s=>WF [fun vals u=>Sep G W (s::TT) u,fun vals u=>Sep G W (s::TT) u]) ((Yx (α:=Rul) Q ZB)::(Blk b2 (t.cells dt0).toArray 74)::Rs) (Blk z #[.nilFunc,.nilFunc] 130)) (AF [Vl 0 (.bool false),Vl 1 (.bool false),Vl 2 (undef),Vl 3 (undef),Vl 4 (undef),Vl 5 (undef),Vl 6 (undef),Vl 7 (undef),Vl 8 (undef),Vl 9 (undef),Vl 10 (undef),Vl 11 (undef),Vl 12 (undef),fun _=>True,Vl 14 (undef),Vl 15 (.bool false)]) [[],[0],[0,1],[0,1,2],[0,1],[0,1,4],[0,1],[0,1,4,5,6],[0,1,4,5,6,7],[0,1],[0,1],[0,1],[0,1,4,5,6,7,8,9,10,11],(rg 13),(rg 14),(rg 15)] [13] [(0,0),(0,0),(0,0),(0,0),(0,0),(0,0),(0,0),(0,0),(0,0),(0,0),(0,0),(0,0),(0,0),(0,0),(1,1),(1,1)] (L.pt0 ap) ⟨fun _ _ _ _ _ _ _=>obl rfl (mV (.bool false) dR),fun _ _ _ _ _ _ aq=>obl rfl (yi (aq 0 dc) dR),?_,?_,?_,?_,?_,?_,?_,?_,?_,?_,?_,?_,?_,?_,trivial⟩ ?_))))
 exact fun _ _ _ _ _ _ ar=>(yr rfl rfl (ar 1 dc) (fun hb=>absurd hb dc) (fun _ b d _=>⟨trivial,d⟩))
 refine ob1 0 fun _ _ _ M=>?_
 exact yr rfl rfl (M 1 dc) (fun hb=>absurd hb dc) (fun _ b d _=>⟨trivial,d⟩)
 exact fun _ _ _ _ _ _ au=>(yr rfl rfl (au 1 dc) (fun hb=>absurd hb dc) (fun _ b d _=>⟨trivial,d⟩))
 refine ob1 0 fun _ _ _ N=>?_
 exact yr rfl rfl (N 1 dc) (fun hb=>absurd hb dc) (fun _ b d _=>⟨trivial,d⟩)
 exact fun _ _ _ _ _ _ av=>(yr rfl rfl (av 1 dc) (fun hb=>absurd hb dc) (fun _ b d _=>⟨trivial,d⟩))
 refine ob1 0 fun _ _ _ p=>?_
 exact yr rfl rfl (p 1 dc) (fun hb=>absurd hb dc) (fun _ b d _=>⟨trivial,d⟩)
 refine ob1 0 fun _ _ _ O=>?_
 exact yr rfl rfl (O 1 dc) (fun hb=>absurd hb dc) (fun _ b d _=>⟨trivial,d⟩)
 exact fun _ _ _ _ _ _ aw=>(yr rfl rfl (aw 1 dc) (fun hb=>absurd hb dc) (fun _ b d _=>⟨trivial,d⟩))
 exact fun _ _ _ _ _ _ ax=>(yr rfl rfl (ax 1 dc) (fun hb=>absurd hb dc) (fun _ b d _=>⟨trivial,d⟩))
 exact fun _ _ _ _ _ _ ay=>(yr rfl rfl (ay 1 dc) (fun hb=>absurd hb dc) (fun _ b d _=>⟨trivial,d⟩))
 refine fun _ _ _ _ _ _ g=>?_
 exact yr rfl rfl (g 1 dc) (fun hb=>absurd hb dc) (fun _ b d _=>⟨trivial,d⟩)
 refine ob1 0 fun _ aK (az:Sep _ _ _ _) q=>?_
 refine yr rfl rfl (q 1 dc) (fun hb=>absurd hb dc) (fun _ b d aO=>?_)
 refine⟨?_,trivial⟩
 show Sep G W ((Blk z #[.nilFunc,.nilFunc] 130)::(Yx (α:=Rul) Q ZB)::(Blk b2 (t.cells dt0).toArray 74)::Rs) aK
 exact az
 exact ob1 1 fun _ _ _ aA=>(yr rfl rfl (aA 1 dc) (fun hb=>absurd hb dc) (fun _ b d _=>⟨trivial,d⟩))
 refine fun _ _ _ _ _ _ P=>?_
 exact obl rfl (yw (P 1 dc) rfl dR)
 intro vals w554 aB aC
 have aD:=aB
 have aL:=aC 15 dc
 refine zT (kv:=[(0,.agg (t.cells dt0).toArray),(1,vc),(2,Iv f),(3,Iv op),(4,Iv arg),(5,Ix b2 0),(10,Iv 0),(14,.map (some Q)),(15,Iv op),(16,.tuple #[.agg #[.nilFunc,.nilFunc],.bool false]),(13,.tuple #[.agg #[.nilFunc,.nilFunc],.bool false]),(17,.agg #[.nilFunc,.nilFunc]),(18,.bool false),(11,Ix z 0),(12,.bool false),(34,.bool false)]) ⟨rfl,rfl,rfl,rfl,rfl,rfl,rfl,rfl,rfl,rfl,rfl,rfl,rfl,rfl,rfl,(by exact aL),trivial⟩ (fun ρw554=>(zb (ze rfl (zl (za (R0 fun _=>st (aS (Iv 0) (zb (zk (zG sR rfl ?_))))))))))
 refine⟨?_,(aD.s3_)⟩
 have hm:xu (xi t f) c (yy c f) op arg=true:=by unfold xu;rw[if_neg hop.1,if_neg hop.2.2.1,if_neg hop.2.2.2.2]
 unfold yH
 rw[hm]
 rfl
end
section
open Go.Proofs Go.Shelf
def zbB:Go.Shelf.Ren:=⟨fun|21=>127|27=>146|28=>147|35=>155|39=>157|23=>128|n=>n,fun|0=>0|3=>3|4=>4|22=>42|n=>n,fun|n=>n⟩
theorem zdF:Go.Proofs.Lays2.n21 Tryz.prog zbB:={
 mixed:=by kernel_rfl,
 f21:=Tryz.func127.trans (congrArg some (by kernel_rfl)),
 f27:=Tryz.func146.trans (congrArg some (by kernel_rfl)),
 f28:=Tryz.func147.trans (congrArg some (by kernel_rfl)),
 f35:=Tryz.func155.trans (congrArg some (by kernel_rfl)),
 f39:=Tryz.func157.trans (congrArg some (by kernel_rfl)),
 t0:=qY,
 a0:=rY,
 z0:=sY,
 v0:=tY,
 t3:=lT,
 a3:=kT,
 z3:=tT,
 v3:=tR,
 t4:=uY,
 a4:=kR,
 z4:=vY,
 v4:=wY,
 t22:=lR,
 a22:=mT,
 z22:=wT,
 v22:=kA,
 i3:=by kernel_rfl
}
theorem zdy:Go.Proofs.Lays2.n23 Tryz.prog zbB:={
 mixed:=by kernel_rfl,
 f23:=Tryz.func128.trans (congrArg some (by kernel_rfl)),
 t0:=qY,
 a0:=rY,
 z0:=sY,
 v0:=tY,
 t3:=lT,
 a3:=kT,
 z3:=tT,
 v3:=tR,
 t4:=uY,
 a4:=kR,
 z4:=vY,
 v4:=wY,
 t22:=lR,
 a22:=mT,
 z22:=wT,
 v22:=kA,
 i3:=by kernel_rfl
}
end
section
open Go.RowKit Go.Sort
structure Wr (w w':World) (b:Nat) (c':List Value) (T:TypeId):Prop where
 at_: ∃a:Array Value,a.toList=c'∧w'.heap[b]? =some (.cells a T)
 other: ∀i,i≠b→w'.heap[i]? =w.heap[i]?
 size:w'.heap.size=w.heap.size
 os:w'.os=w.os
 tape:w'.tape=w.tape
 output:w'.output=w.output
 drawn:w.drawn≤w'.drawn
theorem Wr.trans {w1 w2 w3:World}{b:Nat}{c c':List Value}{T:TypeId}(h:Wr w1 w2 b c T)(k:Wr w2 w3 b c' T):Wr w1 w3 b c' T:=
 ⟨k.at_,fun i hi=>(k.other i hi).trans (h.other i hi),k.size.trans h.size,k.os.trans h.os,k.tape.trans h.tape,k.output.trans h.output,Nat.le_trans h.drawn k.drawn⟩
theorem Wr.drew {w:World}{b:Nat}{a:Array Value}{T:TypeId}(h:w.heap[b]? =some (.cells a T)):Wr w w.drew b a.toList T:=⟨⟨a,rfl,h⟩,fun _ _=>rfl,rfl,rfl,rfl,rfl,Nat.le_succ _⟩
theorem Wr.ahead {w:World}{b q:Nat}{a:Array Value}{T:TypeId}(h:w.heap[b]? =some (.cells a T)):Wr w (Sort.ahead w q) b a.toList T:=⟨⟨a,rfl,h⟩,fun _ _=>rfl,rfl,rfl,rfl,rfl,Nat.le_add_right _ _⟩
theorem Wr.chg {w w':World}{b:Nat}{c:List Value}{T:TypeId}(h:Wr w w' b c T){c0:Array Value}(h0:w.heap[b]? =some (.cells c0 T)):Chg (fun i=>i=b) w w':=
 ⟨h.os,h.tape,h.output,Nat.le_of_eq h.size.symm,fun i _ hne=>h.other i hne,fun i ⟨a,t,hi⟩=>by
  by_cases e:i=b
  ·subst e;obtain⟨z,_,hz⟩:=h.at_;exact⟨z,T,hz⟩
  ·exact⟨a,t,by rw[h.other i e];exact hi⟩,h.drawn⟩
theorem QM {w:World}{b o:Nat}{a:Array Value}{T:TypeId}(h:w.heap[b]? =some (.cells a T))(v:Value):Wr w (w.setCell ⟨b,o,none⟩ v) b (a.toList.set o v) T:=by
 refine⟨⟨a.setIfInBounds o v,by simp,?_⟩,fun i hi=>?_,by simp[World.setCell],rfl,rfl,rfl,Nat.le_refl _⟩
 ·simp[World.setCell,Array.getElem?_modify,h]
 ·simp only[World.setCell,Array.getElem?_modify];rw[if_neg (fun e=>hi e.symm)]
def zbR (c:List Value)(o:Nat):List Value→List Value
 |[]=>c
 |v::vs=>zbR (c.set o v) (o+1) vs
theorem xS {b:Nat}{T:TypeId}: ∀(vs:List Value) (o:Nat) (w:World) (a:Array Value),w.heap[b]? =some (.cells a T)→Wr w (w.setCells b o vs) b (zbR a.toList o vs) T
 |[],_,w,a,h=>⟨⟨a,rfl,h⟩,fun _ _=>rfl,rfl,rfl,rfl,rfl,Nat.le_refl _⟩
 |v::vs,o,w,a,h=>by
  have h1:=QM (o:=o) h v
  obtain⟨a1,e1,h2⟩:=h1.at_
  have h3:=xS vs (o+1) _ a1 h2
  rw[e1]at h3
  exact h1.trans h3
theorem YD: ∀(vs:List Value) (o:Nat) (c:List Value),o+vs.length≤c.length→zbR c o vs=c.take o++vs++c.drop (o+vs.length)
 |[],o,c,_=>by simp[zbR]
 |v::vs,o,c,h=>by
  simp only[List.length_cons]at h
  rw[zbR,YD vs (o+1) (c.set o v) (by simp;omega)]
  have e1:(c.set o v).take (o+1)=c.take o++[v]:=by
   rw[List.take_set,List.take_succ_eq_append_getElem (by omega),List.set_append_right _ _ (by simp;omega),List.length_take,Nat.min_eq_left (by omega),Nat.sub_self];rfl
  have e2:(c.set o v).drop (o+1+vs.length)=c.drop (o+1+vs.length):=by rw[List.drop_set_of_lt (by omega)]
  rw[e1,e2,List.length_cons,show o+1+vs.length=o+(vs.length+1) by omega]
  simp only[List.append_assoc,List.cons_append,List.nil_append]
section
variable {G:Nat→Prop}{W w:World}{Rs:List HP}{Ti:TypeId}{v:Value}{l:List Int}
def yM (l:List Int):List Value:=l.map fun x=>Value.int .i64 x
theorem Vm {q:List Value→Int→Prop}(hq: ∀cs x,q cs x→cs=[.int .i64 x]): ∀{css:List (List Value)} {l:List Int},EP q css l→css.flatten=yM l
 |[],[],_=>rfl
 |_::_,_::_,h=>by rw[List.flatten_cons,hq _ _ h.1,Vm hq h.2];rfl
 |[],_::_,h=>h.elim
 |_::_,[],h=>h.elim
theorem Kn {q:List Value→Int→Prop}: ∀{l:List Int},(∀x∈l,q [.int .i64 x] x)→EP q (l.map fun x=>[Value.int .i64 x]) l
 |[],_=>trivial
 |x::l,h=>⟨h x (by simp),Kn (fun y hy=>h y (by simp[hy]))⟩
theorem Xc (l:List Int):(l.map fun x=>[Value.int .i64 x]).flatten=yM l:=by
 induction l with
 |nil=>rfl
 |cons x l ih=>simp[yM]at*;exact ih
theorem Sep.intRow (h:Sep G W (RowE (α:=Int) own Ti v l::Rs) w):(∀x∈l,InR x)∧l.length*8≤140737488355328∧((v=.slice none 0 0∧l=[])∨ ∃g cap cur,v=.slice (some ⟨g,0,none⟩) l.length cap∧w.heap[g]? =some (.cells cur Ti)∧l.length≤cap∧cap≤maxLen∧cur.size=cap∧cur.toList.take l.length=yM l∧
 ∀w' v' (l':List Int) cur',Wr w w' g cur' Ti→v'=.slice (some ⟨g,0,none⟩) l'.length cap→l'.length≤cap→cur'.length=cap→cur'.take l'.length=yM l'→(∀x∈l',InR x)→l'.length*8≤140737488355328→Sep G W (RowE (α:=Int) own Ti v' l'::Rs) w'):=by
 obtain⟨f,hA,hl,hT⟩:=h.take (i:=0) rfl
 obtain⟨css,hE,hown,hrow,hsm⟩:=hA
 have hin: ∀x∈l,InR x:=by
  intro x hx
  obtain⟨i,hi,rfl⟩:=List.getElem_of_mem hx
  exact(EP.at2 hE i (by rw[hE.length];exact hi) hi).2
 refine⟨hin,hsm,?_⟩
 have hcf:css.flatten=yM l:=Vm (fun cs x h=>h.1) hE
 rcases hown.2 with⟨rfl,h0⟩|⟨g,cap,cur,rfl,hg,hb,hn,hm,hs,ht⟩
 ·exact .inl ⟨rfl,List.length_eq_zero_iff.1 h0⟩
 ·have hk:Rep.k Int=1:=rfl
  rw[hk,Nat.mul_one]at hs ht
  refine .inr ⟨g,cap,cur,rfl,hb,hn,hm,hs,by rw[ht,hcf],fun w' v' l' cur' hw hv' hl' hc' ht' hin' hsm'=>?_⟩
  obtain⟨a,ha,hat⟩:=hw.at_
  refine hT w' _ f ((hw.chg hb).weak (fun i _ hi=>by subst hi;exact hrow _ rfl)) ⟨l'.map fun x=>[Value.int .i64 x],Kn (fun x hx=>⟨rfl,hin' x hx⟩),⟨by rw[Xc];simp[yM,hk],.inr ⟨g,cap,a,hv',hg,hat,hl',hm,?_,?_⟩⟩,fun b hb'=>?_,hsm'⟩ (fun _ h=>.inl h)
  ·rw[hk,Nat.mul_one,←hc',←ha];simp
  ·rw[hk,Nat.mul_one,Xc,←ht',←ha]
  ·subst hv';exact hrow b hb'
theorem Sep.intNew (h:Sep G W Rs w){w':World}{cap:Nat}{cur':List Value}{l':List Int}{c0:Array Value}{w1:World}(hn:New w w1 w.heap.size (.cells c0 Ti))(hw:Wr w1 w' w.heap.size cur' Ti)(hl':l'.length≤cap)(hc':cur'.length=cap)(hm:cap≤maxLen)(ht':cur'.take l'.length=yM l')(hin': ∀x∈l',InR x)(hsm':l'.length*8≤140737488355328):
 Sep G W (RowE (α:=Int) own Ti (.slice (some ⟨w.heap.size,0,none⟩) l'.length cap) l'::Rs) w':=by
 obtain⟨a,ha,hat⟩:=hw.at_
 have hk:Rep.k Int=1:=rfl
 have hx:Ext w w':=hn.ext.new (hw.chg hn.at_) (fun i hi e=>by omega)
 refine h.push hx (f:=fun b=>b=w.heap.size) ⟨l'.map fun x=>[Value.int .i64 x],Kn (fun x hx=>⟨rfl,hin' x hx⟩),⟨by rw[Xc];simp[yM,hk],.inr ⟨w.heap.size,cap,a,rfl,Nat.zero_le _,hat,hl',hm,?_,?_⟩⟩,fun b hb'=>?_,hsm'⟩ (fun b h=>by omega)
 ·rw[hk,Nat.mul_one,←hc',←ha];simp
 ·rw[hk,Nat.mul_one,Xc,←ht',←ha]
 ·simp only[Value.ownBlock,Option.some.injEq]at hb';exact hb'.symm
theorem Sep.intNew' (h:Sep G W Rs w){w':World}{cap:Nat}{l':List Int}{c0:Array Value}(hn:New w w' w.heap.size (.cells c0 Ti))(hl':l'.length≤cap)(hc':c0.toList.length=cap)(hm:cap≤maxLen)(ht':c0.toList.take l'.length=yM l')(hin': ∀x∈l',InR x)(hsm':l'.length*8≤140737488355328):
 Sep G W (RowE (α:=Int) own Ti (.slice (some ⟨w.heap.size,0,none⟩) l'.length cap) l'::Rs) w':=
 h.intNew hn ⟨⟨c0,rfl,hn.at_⟩,fun _ _=>rfl,rfl,rfl,rfl,rfl,Nat.le_refl _⟩ hl' hc' hm ht' hin' hsm'
theorem KF {w:World}{b o:Nat}{a:Array Value}{T:TypeId}{u:Value}(h:w.heap[b]? =some (.cells a T))(hu:a.toList[o]? =some u):w.cell? ⟨b,o,none⟩=some u:=Zf h (by simpa using hu)
theorem QB (l:List Int): ∀u∈yM l,u.oneCell'=true:=by
 intro u hu;simp only[yM,List.mem_map]at hu;obtain⟨x,_,rfl⟩:=hu;rfl
theorem zal (a b:List Int):yM (a++b)=yM a++yM b:=by simp[yM]
theorem yG (a:List Int):(yM a).length=a.length:=by simp[yM]
theorem zbd (n:Nat):(Builtin.zeroCells (Value.int .i64 0).cells n).toList.length=n:=by simp[Builtin.zeroCells,Value.cells]
theorem QN (w:World)(o:Obj):New w (w.alloc o) w.heap.size o:=New.mk' w o
theorem JM (w:World)(o:Obj):New w (w.drew.alloc o) w.heap.size o:=
 have h:New w.drew (w.drew.alloc o) w.heap.size o:=New.mk' w.drew o
 ⟨Chg.trans (UV (w0:=w.drew) rfl rfl rfl ⟨rfl,Nat.le_succ _⟩) h.ext,h.eq,h.size,h.at_⟩
set_option maxHeartbeats 1000000 in
theorem zdf {P:Program}{ρ:Go.Shelf.Ren}(L:Go.Proofs.Lays2.n21 P ρ){i b:Nat}{x:Int}(hTi:ρ.t 3=Ti)(hS0:Sep G W (RowE (α:=Int) own Ti v l::Blk b #[.int .i64 x] Ti::Rs) w)(hi:i≤l.length)(hx:InR x)(hbig:(l.length+1)*8≤140737488355328):
 Ret P (ρ.f 21) [v,.int .i64 ((i:Nat):Int),.slice (some ⟨b,0,none⟩) 1 1] w (fun r w'=>Sep G W (RowE (α:=Int) own Ti r (l.take i++x::l.drop i)::Rs) w'):=by
 have hb:=hS0.blk (i:=1) rfl
 have hvs: ∀j u,[Value.int .i64 x][j]? =some u→w.cell? ⟨b,0+j,none⟩=some u:=fun j u hu=>by rw[Nat.zero_add];exact KF hb hu
 have h1v: ∀u∈[Value.int .i64 x],u.oneCell'=true:=by intro u hu;simp at hu;subst hu;rfl
 have hS:Sep G W (RowE (α:=Int) own Ti v l::Rs) w:=hS0.sel 2 [0] (Nat.le_add_left _ _) rfl rfl
 have hR:Sep G W Rs w:=hS.sel 1 [] (Nat.le_add_left _ _) rfl rfl
 obtain⟨hin,hsm,hc⟩:=hS.intRow
 have hin': ∀y∈l.take i++x::l.drop i,InR y:=by
  intro y hy
  rcases List.mem_append.1 hy with h|h
  ·exact hin y (List.mem_of_mem_take h)
  ·rcases List.mem_cons.1 h with rfl|h
   ·exact hx
   ·exact hin y (List.mem_of_mem_drop h)
 have hlen:(l.take i++x::l.drop i).length=l.length+1:=by simp;omega
 have hsm':(l.take i++x::l.drop i).length*8≤140737488355328:=by rw[hlen];exact hbig
 have hml:l.length+1≤maxLen:=by unfold maxLen;omega
 have henc:yM (l.take i++x::l.drop i)=yM (l.take i)++[.int .i64 x]++yM (l.drop i):=by simp[yM]
 have hend:i=l.length→yM (l.take i++x::l.drop i)=yM l++[.int .i64 x]:=fun e=>by subst e;rw[henc,List.take_length,List.drop_length];simp[yM]
 have grow: ∀(base:Option Addr) (c:Nat),v=.slice base l.length c→i=l.length→c<l.length+1→l.length≤c→(base=none→l.length=0)→(∀a,base=some a→ ∀j u,(yM l)[j]? =some u→w.cell? (a.add j)=some u)→
  Ret P (ρ.f 21) [v,.int .i64 ((i:Nat):Int),.slice (some ⟨b,0,none⟩) 1 1] w (fun r w'=>Sep G W (RowE (α:=Int) own Ti r (l.take i++x::l.drop i)::Rs) w'):=by
  intro base c hv hil hcl hlc hnil hcs
  have h:=Any2.slices_Insert_int_end_grow L base l.length c b 0 1 1 (yM l) [.int .i64 x] w (by omega) hlc hcl hbig (yG l) rfl hnil hcs hvs h1v
  subst hv
  refine Calls.mono (by subst hil;exact h) ?_
  rintro e w' ⟨rfl,rfl⟩
  refine⟨_,rfl,?_⟩
  rw[hTi]
  have hg:=grownCap_ge w (l.length+1) c Ti
  have hgm:=grownCap_le_maxLen w (l.length+1) c Ti hml
  have hn:=JM w (.cells ((yM l++[Value.int .i64 x]).toArray++Builtin.zeroCells (Value.int .i64 0).cells (grownCap w (l.length+1) c Ti-(l.length+1))) Ti)
  have:=hR.intNew' hn (cap:=grownCap w (l.length+1) c Ti) (l':=l.take i++x::l.drop i) (by rw[hlen];exact hg) ?_ hgm ?_ hin' hsm'
  ·rw[hlen]at this;exact this
  ·simp only[Array.toList_append,List.length_append,yG,zbd,List.length_cons,List.length_nil];omega
  ·rw[hlen,hend hil]
   simp only[Array.toList_append]
   rw[List.take_append_of_le_length (by simp[yG])]
   exact List.take_of_length_le (by simp[yG])
 rcases hc with⟨rfl,rfl⟩|⟨g,cap,cur,rfl,hg,hlc,hcm,hcs,ht,back⟩
 ·exact grow none 0 rfl (by simpa using hi) (by simp) (by simp) (fun _=>rfl) (fun a h=>by cases h)
 ·have hne:b≠g:=by
   obtain⟨f1,f2,hA,hB,hd,_,_⟩:=hS0.apart2 (i:=0) (j:=1) rfl rfl (by decide)
   obtain⟨_,_,_,hrow,_⟩:=hA
   exact fun e=>hd g (hrow g rfl) (e▸hB.2)
  have hcells: ∀j u,(yM l)[j]? =some u→w.cell? ⟨g,0+j,none⟩=some u:=fun j u hu=>by
   rw[Nat.zero_add]
   refine KF hg ?_
   rw[←ht,List.getElem?_take]at hu
   split at hu
   ·exact hu
   ·cases hu
  have hlc':cur.toList.length=cap:=by simpa using hcs
  have hcell: ∀j,j<cap→(w.cell? ⟨g,0+j,none⟩).isSome=true:=fun j hj=>by
   rw[Nat.zero_add,KF hg (List.getElem?_eq_getElem (by omega))];rfl
  have hfz: ∀j,w.frozen? ⟨g,j,none⟩=false:=fun j=>by simp[World.frozen?,hg]
  by_cases hil:i=l.length
  ·by_cases hroom:l.length+1≤cap
   ·have h:=Any2.slices_Insert_int_end_room L g 0 l.length cap b 0 1 1 [.int .i64 x] w (by omega) hroom (by unfold maxLen at hcm;omega) rfl (fun j hj=>by rw[Nat.add_assoc];exact hcell _ (by omega)) (fun j _=>hfz _) hvs h1v
    refine Calls.mono (by subst hil;exact h) ?_
    rintro e w' ⟨rfl,rfl⟩
    refine⟨_,rfl,?_⟩
    have hw:=xS [.int .i64 x] (0+l.length) w cur hg
    rw[Nat.zero_add,YD _ _ _ (by simp only[List.length_cons,List.length_nil];omega)]at hw
    rw[Nat.zero_add]
    refine back _ _ _ _ hw (by rw[hlen]) (by rw[hlen];exact hroom) (by simp;omega) ?_ hin' hsm'
    rw[hlen,hend hil,ht,List.take_append_of_le_length (by simp[yG])]
    exact List.take_of_length_le (by simp[yG])
   ·exact grow (some ⟨g,0,none⟩) cap rfl hil (by omega) hlc (fun h=>by cases h) (fun a ha j u hu=>by cases ha;rw[Xi];exact hcells j u hu)
  ·have hlt:i<l.length:=by omega
   have ed:(yM l).drop i=yM (l.drop i):=by simp[yM,List.map_drop]
   have et:(yM l).take i=yM (l.take i):=by simp[yM,List.map_take]
   by_cases hroom:l.length+1≤cap
   ·have h:=Any2.slices_Insert_int_shift L g 0 l.length cap i b 0 1 1 (yM l) [.int .i64 x] w hlt (by omega) hroom (by unfold maxLen at hcm;omega) hne (yG l) rfl hcells (fun j hj=>hcell j (by omega)) (fun j _=>by rw[Nat.zero_add];exact hfz _) hvs (QB l) h1v
     Ti Ti 1 cap (by simp[World.shape?,hb]) (by simp[World.shape?,hg,hcs]) (by omega) (by simp[World.frozen?,hb]) (by simp[World.frozen?,hb])
    refine Calls.mono h ?_
    rintro e w' ⟨rfl,rfl⟩
    refine⟨_,rfl,?_⟩
    have h1:=Wr.drew hg
    obtain⟨a1,e1,hg1⟩:=h1.at_
    have h2:=xS ((yM l).drop i) (0+(i+1)) w.drew a1 hg1
    rw[e1,Nat.zero_add,YD _ _ _ (by simp only[List.length_drop,yG];omega)]at h2
    obtain⟨a2,e2,hg2⟩:=h2.at_
    have h3:=xS [.int .i64 x] (0+i) _ a2 hg2
    rw[e2,Nat.zero_add,YD _ _ _ (by simp only[List.length_append,List.length_take,List.length_drop,yG,List.length_cons,List.length_nil];omega)]at h3
    rw[Nat.zero_add,Nat.zero_add]
    refine back _ _ _ _ ((h1.trans h2).trans h3) (by rw[hlen]) (by rw[hlen];exact hroom) (by simp[yG];omega) ?_ hin' hsm'
    rw[hlen,henc,ed]
    have k1:(cur.toList.take (i+1)++yM (l.drop i)++cur.toList.drop (i+1+(yM (l.drop i)).length)).take i=yM (l.take i):=by
     rw[List.append_assoc,List.take_append_of_le_length (by simp;omega),List.take_take,Nat.min_eq_left (by omega),←et,←ht,List.take_take,Nat.min_eq_left (by omega)]
    have k2:(cur.toList.take (i+1)++yM (l.drop i)++cur.toList.drop (i+1+(yM (l.drop i)).length)).drop (i+[Value.int .i64 x].length)=yM (l.drop i)++cur.toList.drop (i+1+(yM (l.drop i)).length):=by
     have hh:(cur.toList.take (i+1)).length=i+1:=by rw[List.length_take];omega
     show(cur.toList.take (i+1)++yM (l.drop i)++cur.toList.drop (i+1+(yM (l.drop i)).length)).drop (i+1)=_
     rw[List.append_assoc];exact List.drop_left' hh
    rw[k1,k2,←List.append_assoc,List.take_append_of_le_length (by simp[yG];omega)]
    exact List.take_of_length_le (by simp[yG];omega)
   ·have h:=Any2.slices_Insert_int_grow L g 0 l.length cap i b 0 1 1 (yM l) [.int .i64 x] w hlt (by omega) hlc (by omega) hbig (yG l) rfl hcells hvs (QB l) h1v
    refine Calls.mono h ?_
    rintro e w' ⟨rfl,rfl⟩
    refine⟨_,rfl,?_⟩
    rw[hTi]
    have hg':=grownCap_ge w (l.length+1) cap Ti
    have hgm:=grownCap_le_maxLen w (l.length+1) cap Ti hml
    obtain⟨gc,hgc⟩: ∃gc,gc=grownCap w (l.length+1) cap Ti:=⟨_,rfl⟩
    rw[←hgc]at hg' hgm⊢
    have hn:=QN w (.cells (((yM l).take i).toArray++Builtin.zeroCells (Value.int .i64 0).cells (l.length+1-i)++Builtin.zeroCells (Value.int .i64 0).cells (gc-(l.length+1))) Ti)
    have hlen0:(((yM l).take i).toArray++Builtin.zeroCells (Value.int .i64 0).cells (l.length+1-i)++Builtin.zeroCells (Value.int .i64 0).cells (gc-(l.length+1))).toList.length=gc:=by
     simp only[Array.toList_append,List.length_append,zbd,List.length_take,yG];omega
    have htk0:(((yM l).take i).toArray++Builtin.zeroCells (Value.int .i64 0).cells (l.length+1-i)++Builtin.zeroCells (Value.int .i64 0).cells (gc-(l.length+1))).toList.take i=yM (l.take i):=by
     simp only[Array.toList_append]
     rw[List.append_assoc,List.take_append_of_le_length (by simp[yG];omega),et]
     exact List.take_of_length_le (by simp[yG];omega)
    obtain⟨A0,hA0⟩: ∃A0,A0=((yM l).take i).toArray++Builtin.zeroCells (Value.int .i64 0).cells (l.length+1-i)++Builtin.zeroCells (Value.int .i64 0).cells (gc-(l.length+1)):=⟨_,rfl⟩
    rw[←hA0]at hn hlen0 htk0⊢
    have h1:=Wr.drew hn.at_
    obtain⟨a1,e1,hg1⟩:=h1.at_
    have h2:=xS [.int .i64 x] i _ a1 hg1
    rw[e1,YD _ _ _ (by simp only[List.length_cons,List.length_nil];omega)]at h2
    obtain⟨a2,e2,hg2⟩:=h2.at_
    have h3:=Wr.drew hg2
    obtain⟨a3,e3,hg3⟩:=h3.at_
    have h4:=xS ((yM l).drop i) (i+1) _ a3 hg3
    have hl2:(A0.toList.take i++[Value.int .i64 x]++A0.toList.drop (i+[Value.int .i64 x].length)).length=gc:=by
     simp only[List.length_append,List.length_take,List.length_drop,List.length_cons,List.length_nil];omega
    rw[e3,e2,YD _ _ _ (by rw[hl2];simp only[List.length_drop,yG];omega)]at h4
    have hpre:(A0.toList.take i++[Value.int .i64 x]++A0.toList.drop (i+[Value.int .i64 x].length)).take (i+1)=A0.toList.take i++[Value.int .i64 x]:=by
     have hh:(A0.toList.take i++[Value.int .i64 x]).length=i+1:=by rw[List.length_append,List.length_take,List.length_cons,List.length_nil];omega
     exact List.take_left' hh
    have:=hR.intNew hn (((h1.trans h2).trans h3).trans h4) (cap:=gc) (l':=l.take i++x::l.drop i) (by rw[hlen];exact hg') ?_ hgm ?_ hin' hsm'
    ·rw[hlen]at this;exact this
    ·simp only[List.length_append,List.length_take,List.length_drop,hl2,yG];omega
    ·rw[hlen,henc,hpre,htk0,ed,List.take_append_of_le_length (by simp[yG];omega)]
     exact List.take_of_length_le (by simp[yG];omega)
theorem WU (d:List Int)(c:Array Value)(h:d.length≤c.size):(putCells (Value.int .i64) 0 d.toArray c).toList=yM d++c.toList.drop d.length:=by
 refine List.ext_getElem (by simp[putCells,yM];omega) (fun j h1 h2=>?_)
 have hj:j<c.size:=by simpa[putCells]using h1
 by_cases hd:j<d.length
 ·rw[List.getElem_append_left (by simpa[yM]using hd)]
  simp[putCells,yM,hd]
 ·rw[List.getElem_append_right (by simp[yM];omega)]
  simp[putCells,yM,hd,show d.length+(j-d.length)=j by omega]
theorem JA {b:Nat}{a:Array Value}{T:TypeId}(h:w.heap[b]? =some (.cells a T))(d:List Int)(hd:d.length≤a.size):Wr w (putRow (Value.int .i64) w b 0 d.toArray) b (yM d++a.toList.drop d.length) T:=by
 refine⟨⟨putCells (Value.int .i64) 0 d.toArray a,WU d a hd,?_⟩,fun i hi=>?_,by simp,rfl,rfl,rfl,Nat.le_refl _⟩
 ·simp[putRow,mapBlock,Array.getElem?_modify,h,onCells]
 ·simp only[putRow,mapBlock,Array.getElem?_modify];rw[if_neg (fun e=>hi e.symm)]
theorem zcr {P:Program}{ρ:Go.Shelf.Ren}(L:Go.Proofs.Lays2.n23 P ρ){i:Nat}(hS:Sep G W (RowE (α:=Int) own Ti v l::Rs) w)(hi:i<l.length):
 Ret P (ρ.f 23) [v,.int .i64 ((i:Nat):Int),.int .i64 ((i+1:Nat):Int)] w (fun r w'=>Sep G W (RowE (α:=Int) own Ti r (l.take i++l.drop (i+1))::Rs) w'):=by
 obtain⟨hin,hsm,hc⟩:=hS.intRow
 rcases hc with⟨rfl,rfl⟩|⟨g,cap,cur,rfl,hg,hlc,hcm,hcs,ht,back⟩
 ·exact absurd hi (Nat.not_lt_zero i)
 ·have hH:Holds (Value.int .i64) w g 0 l.toArray:=by
   intro j hj
   have hj':j<l.length:=by simpa using hj
   refine⟨?_,by simp[World.frozen?,hg]⟩
   rw[Nat.zero_add]
   refine KF hg ?_
   have:(yM l)[j]? =some (.int .i64 l[j]):=by simp[yM,hj']
   rw[←ht,List.getElem?_take,if_pos hj']at this
   rw[this]
   simp[hj']
  have h:=Any.slices_Delete_int L g 0 cap i (i+1) l w hH hlc (by unfold maxLen at hcm;omega) (by omega) hi
  refine Calls.mono h ?_
  rintro e w' ⟨rfl,q,rfl⟩
  refine⟨_,rfl,?_⟩
  have h1:=Wr.ahead (q:=q) hg
  obtain⟨a1,e1,hg1⟩:=h1.at_
  have ha1:a1.size=cap:=by have:=congrArg List.length e1;simpa[hcs]using this
  have hdl:(l.take i++l.drop (i+1)++List.replicate (i+1-i) 0).length=l.length:=by simp;omega
  have h2:=JA hg1 (l.take i++l.drop (i+1)++List.replicate (i+1-i) 0) (by rw[hdl];omega)
  have hlen:(l.take i++l.drop (i+1)).length=l.length-(i+1-i):=by simp;omega
  refine back _ _ _ _ (h1.trans h2) (by rw[hlen]) (by rw[hlen];omega) ?_ ?_ (fun x hx=>?_) (by rw[hlen];omega)
  ·have ha2:a1.toList.length=cap:=by simpa using ha1
   rw[List.length_append,yG,hdl,List.length_drop,ha2];omega
  ·rw[hlen,zal,List.append_assoc,List.take_append_of_le_length (by rw[yG,hlen];exact Nat.le_refl _)]
   exact List.take_of_length_le (by rw[yG,hlen];exact Nat.le_refl _)
  ·rcases List.mem_append.1 hx with h|h
   ·exact hin x (List.mem_of_mem_take h)
   ·exact hin x (List.mem_of_mem_drop h)
end
end
section
set_option maxRecDepth 8000
open Go.Proofs Go.RowKit
theorem JZ {vl:Value}{l:List Int}{i:Nat}{b:Nat}{x:Int}(hS0:Sep G W ((RowE (α:=Int) own 3 vl l)::(Blk b #[.int .i64 x] 3)::Rs) w)(hi:i≤l.length)(hx:InR x)(hbig:(l.length+1)*8≤140737488355328):Ret Tryz.prog 127 [vl,.int .i64 ((i:Nat):Int),.slice (some ⟨b,0,none⟩) 1 1] w (fun r w'=> ∃(v:Value),r=(v:Value)∧Sep G W ((RowE (α:=Int) own 3 v (l.take i++x::l.drop i))::Rs) w'):=by
 exact Ret.mono (zdf zdF rfl hS0 hi hx hbig) (fun r w1 h=>⟨r,rfl,h⟩)
theorem zai {vl:Value}{l:List Int}{i:Nat}(hS0:Sep G W ((RowE (α:=Int) own 3 vl l)::Rs) w)(hi:i<l.length):Ret Tryz.prog 128 [vl,.int .i64 ((i:Nat):Int),.int .i64 ((i+1:Nat):Int)] w (fun r w'=> ∃(v:Value),r=(v:Value)∧Sep G W ((RowE (α:=Int) own 3 v (l.take i++l.drop (i+1)))::Rs) w'):=by
 exact Ret.mono (zcr zdy hS0 hi) (fun r w1 h=>⟨r,rfl,h⟩)
theorem zdD {l:List Int}{i:Nat}{x:Int}(ha:Asc l)(hi:i≤l.length)(hlo: ∀q,q<i→l.getD q 0<x)(hhi: ∀q,i≤q→q<l.length→x≤l.getD q 0)(hn: ¬x∈l):l.take i++x::l.drop i=ZG l x:=by
 have h1: ∀y∈l.take i,y<x:=by
  intro y hy
  obtain⟨q,hq,rfl⟩:=List.getElem_of_mem hy
  rw[List.length_take]at hq
  have:=hlo q (by omega)
  rw[zB _ (by omega)]at this
  rw[List.getElem_take];exact this
 have h2: ∀y∈l.drop i,x<y:=by
  intro y hy
  obtain⟨q,hq,rfl⟩:=List.getElem_of_mem hy
  rw[List.length_drop]at hq
  have:=hhi (i+q) (by omega) (by omega)
  rw[zB _ (by omega)]at this
  rw[List.getElem_drop]
  have hne:l[i+q]≠x:=fun e=>hn (e▸List.getElem_mem _)
  omega
 unfold ZG
 rw[if_neg hn]
 have e1:l.filter (fun y=>decide (y<x))=l.take i:=by
  conv=>lhs;rw[←List.take_append_drop i l]
  rw[List.filter_append,List.filter_eq_self.2 (fun y hy=>by simpa using h1 y hy),List.filter_eq_nil_iff.2 (fun y hy=>by have:=h2 y hy;simp;omega),List.append_nil]
 have e2:l.filter (fun y=>decide (x<y))=l.drop i:=by
  conv=>lhs;rw[←List.take_append_drop i l]
  rw[List.filter_append,List.filter_eq_nil_iff.2 (fun y hy=>by have:=h1 y hy;simp;omega),List.filter_eq_self.2 (fun y hy=>by simpa using h2 y hy),List.nil_append]
 rw[e1,e2]
theorem zaT {l:List Int}{i:Nat}{x:Int}(ha:Asc l)(hi:i≤l.length)(hlo: ∀q,q<i→l.getD q 0<x)(hhi: ∀q,i≤q→q<l.length→x≤l.getD q 0)(hn:x∈l):i<l.length∧l.take i++l.drop (i+1)=Zh l x:=by
 have hm:=Ux ha hi hlo hhi
 rw[decide_eq_true hn]at hm
 have hm2:=hm.symm
 simp only[Bool.and_eq_true,decide_eq_true_eq]at hm2
 obtain⟨hil,hx⟩:=hm2
 refine⟨hil,?_⟩
 have h1: ∀y∈l.take i,y≠x:=by
  intro y hy
  obtain⟨q,hq,rfl⟩:=List.getElem_of_mem hy
  rw[List.length_take]at hq
  have:=hlo q (by omega)
  rw[zB _ (by omega)]at this
  rw[List.getElem_take];omega
 have h2: ∀y∈l.drop (i+1),y≠x:=by
  intro y hy
  obtain⟨q,hq,rfl⟩:=List.getElem_of_mem hy
  rw[List.length_drop]at hq
  have:=UA ha (show i<i+1+q by omega) (by omega)
  rw[hx,zB _ (by omega)]at this
  rw[List.getElem_drop];omega
 unfold Zh
 conv=>rhs;rw[←List.take_append_drop i l]
 rw[List.filter_append,List.filter_eq_self.2 (fun y hy=>by simpa using h1 y hy),List.drop_eq_getElem_cons hil,List.filter_cons,if_neg (by rw[zB _ hil]at hx;simp[hx]),List.filter_eq_self.2 (fun y hy=>by simpa using h2 y hy)]
theorem WH (n:Int):InR (IntKind.i64.wrap n):=XL n
theorem Xf {fl:Fld}{dm vc:Value}{no arg:Int}{sh:List CelS}(hS0:Sep G W ((RowE (α:=CelS) own 140 vc sh)::Rs) w)(hno:0≤no∧no<sh.length):Ret Tryz.prog 102 [.agg #[.int .i64 (fl.kind),.int .i64 (fl.policy),.bool (fl.floor),dm,vc,.int .i64 (no),.int .i64 (arg)]] w (fun r w'=>r=(.pointer (some ⟨sb vc,so vc+no.toNat*2,none⟩):Value)∧Sep G W ((RowE (α:=CelS) own 140 vc sh)::Rs) w'):=by
 refine zi uR rfl rfl ?_
 have b:=hS0.r0
 refine za (R0 fun _=>st (zM rfl ?_))
 intro w4 b3 c
 have a:=hS0.new c
 refine st (aS (.pointer none) (zb (za (R0 fun _=>st (VU rfl (st (lD vc oR rfl (zd (a.b0) rfl) (st (KC rfl (st (lD (Iv no) kT rfl (zd (a.b0) rfl) ?_)))))))))))
 refine st (zr (k:=2) (i:=no) rT uT rfl b.1 rfl ⟨by omega,by omega⟩ (st (aS (Ix (sb vc) (so vc+no.toNat*2)) (zb (zk (zG vR rfl ?_))))))
 refine⟨rfl,(a.s2_b)⟩
set_option maxHeartbeats 4000000 in
theorem zcB {fl:Fld}{dm vc:Value}{no arg:Int}{l:List Cel}(hS0:Sep G W ((CelW vc 140 3 l)::Rs) w)(hno:0≤no∧no<l.length)(hno0:InR no)(harg:InR arg):Ret Tryz.prog 104 [.agg #[.int .i64 (fl.kind),.int .i64 (fl.policy),.bool (fl.floor),dm,vc,.int .i64 (no),.int .i64 (arg)]] w (fun r w'=>r=(.tuple #[]:Value)∧Sep G W ((CelW vc 140 3 (l.set no.toNat (yZ fl (yy l no) 2 arg)))::Rs) w'):=by
 refine zi Tryz.func104 rfl rfl ?_
 obtain⟨a,d,C⟩:=CelW.open hS0
 have T:=C.r0
 have F:Sep G W ((RowE (α:=CelS) own 140 vc a)::(Star (SetRows 3 a l))::Rs) w:=C
 refine za (R0 fun _=>st (zM rfl ?_))
 intro w7 H U
 refine zb ?_
 refine WD4 ((fun TT g D=>WF [fun vals h=>Sep G W (g::D::TT) h,fun vals h=>(vals 1=(Ix (sb vc) (so vc+no.toNat*2):Value))∧Sep G W (D::g::TT) h,fun vals h=>(vals 1=(Ix (sb vc) (so vc+no.toNat*2):Value))∧Sep G W ((RowE own 140 vc (a.set no.toNat (⟨arg,(a.getD no.toNat default).v⟩:CelS)))::g::TT) h]) ((Star (SetRows 3 a l))::Rs) (Blk H #[Iv (fl.kind),Iv (fl.policy),.bool (fl.floor),dm,vc,Iv no,Iv arg] 135) (RowE own 140 vc a)) (AF [Vl 0 (.agg #[Iv (fl.kind),Iv (fl.policy),.bool (fl.floor),dm,vc,Iv no,Iv arg]),fun _=>True,Vl 2 (Ix H 6),Vl 3 (Iv arg),Vl 4 (Ix (sb vc) (so vc+no.toNat*2)),Vl 5 (Ix (sb vc) (so vc+no.toNat*2)),fun _=>True]) [[],[0],[],[2],(rg 4),(rg 5),(rg 6)] [1,6] [(0,0),(0,0),(0,1),(0,1),(1,1),(1,1),(1,1)] (F.new U) ⟨ob1 0 fun _ _ (I:Sep _ _ _ _) _=>obl rfl (zh nT oT rfl rfl (CellsAt.all (I.b0)) dR),?_,fun _ _ _ _ _ _ _=>obl rfl (xL rfl dR),?_,?_,fun _ _ _ _ _ _ x=>obl rfl (xm (x 4 dc) dR),?_,trivial⟩ ?_
 refine ob1 0 fun vals _ (J:Sep _ _ _ _) K=>(obl rfl ?_)
 refine(zH (f:=102) (vals:=[.agg #[Iv (fl.kind),Iv (fl.policy),.bool (fl.floor),dm,vc,Iv no,Iv arg]]) (cap:=[]) rfl (yE ⟨(K 0 dc),trivial⟩) pT (Xf (J.mv1) bo) ?_)
 rintro _ w25 ⟨rfl,n⟩
 have L:=n.r0
 exact fun y V E=>⟨(zx V n),trivial⟩
 refine fun e _ _ X Y p q=>?_
 have hkk:=xk X Y
 rcases hkk with rfl|rfl
 have M:=p
 exact obl rfl (lD (Iv arg) kT (q 2 dc) (zd (M.b0) rfl) dR)
 obtain⟨c,N⟩:=p
 exact obl rfl (lD (Iv arg) kT (q 2 dc) (zd (N.b1) rfl) dR)
 refine ob1 1 fun _ _ O _=>?_
 obtain⟨c,hS99⟩:=O
 exact obl rfl (zo c dR)
 refine ob1 1 fun _ _ P s=>?_
 obtain⟨c,Q⟩:=P
 refine obl rfl ?_
 have R:=Q.emp1
 refine(yP (α:=CelS) (j:=no.toNat) (o:=0) (u:=Iv arg) (us:=[Iv arg]) (x1:=(⟨arg,(a.getD no.toNat default).v⟩:CelS)) R tT bo (s 5 (by decide)) (s 3 (by decide)) rfl (Nat.le_of_ble_eq_true rfl) (zX ⟨rfl,trivial⟩) (fun _ _ _ hel _=>(by rw[←zB default (by omega)]at hel;obtain⟨rfl,hok⟩:=hel;exact⟨rfl,⟨(show InR (arg)from(by omega)),hok.one⟩⟩)) ?_)
 intro w66 t
 have S:=t.r0
 exact fun y V E=>⟨(zx ((E 1 dc).trans c) t),trivial⟩
 intro vals w107 z hA109
 obtain⟨c,A⟩:=z
 refine zT (kv:=[(0,.agg #[Iv (fl.kind),Iv (fl.policy),.bool (fl.floor),dm,vc,Iv no,Iv arg]),(1,Ix H 0)]) sEv (fun ρw107=>(zb (UB Tryz.results104 ?_)))
 have B:Sep _ _ ((CelW vc 140 3 (l.set no.toNat ⟨arg,(l.getD no.toNat default).set⟩))::_) _:=CelW.closeN d.1 d.2 om (A.s3_acb)
 refine⟨rfl,(B.s2_a)⟩
set_option maxHeartbeats 4000000 in
theorem zcD {fl:Fld}{dm vc:Value}{no arg:Int}{l:List Cel}(hS0:Sep G W ((CelW vc 140 3 l)::Rs) w)(hno:0≤no∧no<l.length)(hno0:InR no)(harg:InR arg):Ret Tryz.prog 101 [.agg #[.int .i64 (fl.kind),.int .i64 (fl.policy),.bool (fl.floor),dm,vc,.int .i64 (no),.int .i64 (arg)]] w (fun r w'=>r=(.tuple #[]:Value)∧Sep G W ((CelW vc 140 3 (l.set no.toNat (yZ fl (yy l no) 1 arg)))::Rs) w'):=by
 refine zi Tryz.func101 rfl rfl ?_
 let n:=Ix (sb vc) (so vc+no.toNat*2)
 obtain⟨c,e,U⟩:=CelW.open hS0
 have ah:=U.r0
 have Y:Sep G W ((RowE (α:=CelS) own 140 vc c)::(Star (SetRows 3 c l))::Rs) w:=U
 refine za (R0 fun _=>st (zM rfl ?_))
 intro w7 Z ai
 refine zb ?_
 refine WD4 ((fun TT x V=>WF [fun vals y=>Sep G W (x::V::TT) y,fun vals y=>(vals 1=(Ix (sb vc) (so vc+no.toNat*2):Value))∧Sep G W (V::x::TT) y,fun vals y=>(vals 1=(Ix (sb vc) (so vc+no.toNat*2):Value))∧Sep G W ((RowE own 140 vc (c.set no.toNat (⟨IntKind.i64.wrap (((c.getD no.toNat default).n)+arg),(c.getD no.toNat default).v⟩:CelS)))::x::TT) y]) ((Star (SetRows 3 c l))::Rs) (Blk Z #[Iv (fl.kind),Iv (fl.policy),.bool (fl.floor),dm,vc,Iv no,Iv arg] 135) (RowE own 140 vc c)) (AF [Vl 0 (.agg #[Iv (fl.kind),Iv (fl.policy),.bool (fl.floor),dm,vc,Iv no,Iv arg]),fun _=>True,Vl 2 n,Vl 3 n,Vl 4 (Iv ((c.getD no.toNat default).n)),Vl 5 (Ix Z 6),Vl 6 (Iv arg),Vl 7 (Iv (IntKind.i64.wrap (((c.getD no.toNat default).n)+arg))),Vl 8 n,Vl 9 n,fun _=>True]) [[],[0],[0,1],[0,1,2],(rg 4),[],[5],(rg 7),(rg 8),(rg 9),(rg 10)] [1,10] [(0,0),(0,0),(1,1),(1,1),(1,1),(0,1),(0,1),(1,1),(1,1),(1,1),(1,1)] (Y.new ai) ⟨ob1 0 fun _ _ (C:Sep _ _ _ _) _=>obl rfl (zh nT oT rfl rfl (CellsAt.all (C.b0)) dR),?_,?_,fun _ _ _ _ _ _ D=>obl rfl (xm (D 2 dc) dR),?_,fun _ _ _ _ _ _ _=>obl rfl (xL rfl dR),?_,?_,?_,fun _ _ _ _ _ _ E=>obl rfl (xm (E 8 dc) dR),?_,trivial⟩ ?_
 refine ob1 0 fun vals _ (aa:Sep _ _ _ _) ab=>(obl rfl ?_)
 refine(zH (f:=102) (vals:=[.agg #[Iv (fl.kind),Iv (fl.policy),.bool (fl.floor),dm,vc,Iv no,Iv arg]]) (cap:=[]) rfl (yE ⟨(ab 0 dc),trivial⟩) pT (Xf (aa.mv1) bo) ?_)
 rintro _ w25 ⟨rfl,z⟩
 have ac:=z.r0
 exact fun F hv X=>⟨(zx hv z),trivial⟩
 refine ob1 1 fun _ _ H _=>?_
 obtain⟨d,hS116⟩:=H
 exact obl rfl (zo d dR)
 refine ob1 1 fun _ _ I J=>?_
 obtain⟨d,K⟩:=I
 refine obl rfl ?_
 have L:no.toNat<c.length:=bo
 obtain⟨_,_,A,rfl,hoke132⟩:=K.rowAtD (i:=0) (j:=no.toNat) rfl L
 exact lD (Iv ((c.getD no.toNat default).n)) kT (J 3 dc) (A.get (j:=0) rfl) dR
 refine fun g _ _ ad ae h p=>?_
 have hkk:=xk ad ae
 rcases hkk with rfl|rfl
 have M:=h
 exact obl rfl (lD (Iv arg) kT (p 5 dc) (zd (M.b0) rfl) dR)
 obtain⟨d,N⟩:=h
 exact obl rfl (lD (Iv arg) kT (p 5 dc) (zd (N.b1) rfl) dR)
 refine ob1 1 fun _ _ O q=>?_
 obtain⟨d,hS156⟩:=O
 exact obl rfl (zP (r:=IntKind.i64.wrap (((c.getD no.toNat default).n)+arg)) (k:=.i64) (a:=(c.getD no.toNat default).n) (b:=arg) (q 4 dc) (q 6 dc) rfl dR)
 refine ob1 1 fun _ _ P _=>?_
 obtain⟨d,hS165⟩:=P
 exact obl rfl (zo d dR)
 refine ob1 1 fun _ _ af B=>?_
 obtain⟨d,ag⟩:=af
 refine obl rfl ?_
 have Q:=ag.emp1
 refine(yP (α:=CelS) (j:=no.toNat) (o:=0) (u:=Iv (IntKind.i64.wrap (((c.getD no.toNat default).n)+arg))) (us:=[Iv (IntKind.i64.wrap (((c.getD no.toNat default).n)+arg))]) (x1:=(⟨IntKind.i64.wrap (((c.getD no.toNat default).n)+arg),(c.getD no.toNat default).v⟩:CelS)) Q tT bo (B 9 (by decide)) (B 7 (by decide)) rfl (Nat.le_of_ble_eq_true rfl) (zX ⟨rfl,trivial⟩) (fun _ _ _ hel _=>(by rw[←zB default (by omega)]at hel;obtain⟨rfl,hok⟩:=hel;exact⟨rfl,⟨(show InR (IntKind.i64.wrap (((c.getD no.toNat default).n)+arg))from(WH _)),hok.one⟩⟩)) ?_)
 intro w99 s
 have R:=s.r0
 exact fun F hv X=>⟨(zx ((X 1 dc).trans d) s),trivial⟩
 intro vals w173 S hA175
 obtain⟨d,T⟩:=S
 refine zT (kv:=[(0,.agg #[Iv (fl.kind),Iv (fl.policy),.bool (fl.floor),dm,vc,Iv no,Iv arg]),(1,Ix Z 0)]) sEv (fun ρw173=>(zb (UB Tryz.results101 ?_)))
 have t:Sep _ _ ((CelW vc 140 3 (l.set no.toNat ⟨IntKind.i64.wrap (((c.getD no.toNat default).n)+arg),(l.getD no.toNat default).set⟩))::_) _:=CelW.closeN e.1 e.2 om (T.s3_acb)
 rw[e.2 _ (by omega)]at t
 refine⟨rfl,(t.s2_a)⟩
set_option maxHeartbeats 4000000 in
theorem zbk {fl:Fld}{dm vc:Value}{no arg:Int}{l:List Cel}(hS0:Sep G W ((CelW vc 140 3 l)::Rs) w)(hno:0≤no∧no<l.length)(hno0:InR no)(harg:InR arg)(hdm:RdS W G dm fl.moves)(hmv:0≤arg∧arg<fl.moves.length):Ret Tryz.prog 109 [.agg #[.int .i64 (fl.kind),.int .i64 (fl.policy),.bool (fl.floor),dm,vc,.int .i64 (no),.int .i64 (arg)]] w (fun r w'=>r=(.tuple #[]:Value)∧Sep G W ((CelW vc 140 3 (l.set no.toNat (yZ fl (yy l no) 5 arg)))::Rs) w'):=by
 refine zi Tryz.func109 rfl rfl ?_
 obtain⟨d,p,al⟩:=CelW.open hS0
 have aE:=al.r0
 have ao:Sep G W ((RowE (α:=CelS) own 140 vc d)::(Star (SetRows 3 d l))::Rs) w:=al
 refine za (R0 fun _=>st (zM rfl ?_))
 intro w7 J aF
 refine zb ?_
 refine WD4 ((fun TT K am=>WF [fun vals L=>Sep G W (K::am::TT) L,fun vals L=>(vals 1=(Ix (sb vc) (so vc+no.toNat*2):Value))∧Sep G W (am::K::TT) L,fun vals L=>(vals 1=(Ix (sb vc) (so vc+no.toNat*2):Value))∧Sep G W ((RowE own 140 vc (d.set no.toNat (⟨(fl.moves.getD arg.toNat default).to,(d.getD no.toNat default).v⟩:CelS)))::K::TT) L]) ((Star (SetRows 3 d l))::Rs) (Blk J #[Iv (fl.kind),Iv (fl.policy),.bool (fl.floor),dm,vc,Iv no,Iv arg] 135) (RowE own 140 vc d)) (AF [Vl 0 (.agg #[Iv (fl.kind),Iv (fl.policy),.bool (fl.floor),dm,vc,Iv no,Iv arg]),fun _=>True,Vl 2 (Ix J 0),Vl 3 (Ix J 3),Vl 4 (dm),Vl 5 (Ix J 6),Vl 6 (Iv arg),Vl 7 (Ix (sb dm) (so dm+arg.toNat*4)),Vl 8 (Ix (sb dm) (so dm+arg.toNat*4+1)),Vl 9 (Iv ((fl.moves.getD arg.toNat default).to)),Vl 10 (Ix (sb vc) (so vc+no.toNat*2)),Vl 11 (Ix (sb vc) (so vc+no.toNat*2)),fun _=>True]) [[],[0],[],[2],[2,3],[],[5],[2,3,4,5,6],[2,3,4,5,6,7],[2,3,4,5,6,7,8],(rg 10),(rg 11),(rg 12)] [1,12] [(0,0),(0,0),(0,1),(0,1),(0,1),(0,1),(0,1),(0,1),(0,1),(0,1),(1,1),(1,1),(1,1)] (ao.new aF) ⟨ob1 0 fun _ _ (S:Sep _ _ _ _) _=>obl rfl (zh nT oT rfl rfl (CellsAt.all (S.b0)) dR),?_,fun _ _ _ _ _ _ _=>obl rfl (Wa rfl dR),fun _ _ _ _ _ _ T=>obl rfl (yF (T 2 dc) dR),?_,fun _ _ _ _ _ _ _=>obl rfl (xL rfl dR),?_,?_,fun _ _ _ _ _ _ U=>obl rfl (Ud (U 7 dc) dR),?_,?_,fun _ _ _ _ _ _ V=>obl rfl (xm (V 10 dc) dR),?_,trivial⟩ ?_
 refine ob1 0 fun vals _ (ap:Sep _ _ _ _) aq=>(obl rfl ?_)
 refine(zH (f:=102) (vals:=[.agg #[Iv (fl.kind),Iv (fl.policy),.bool (fl.floor),dm,vc,Iv no,Iv arg]]) (cap:=[]) rfl (yE ⟨(aq 0 dc),trivial⟩) pT (Xf (ap.mv1) bo) ?_)
 rintro _ w25 ⟨rfl,M⟩
 have ar:=M.r0
 exact fun X hv an=>⟨(zx hv M),trivial⟩
 refine fun e _ _ au av q s=>?_
 have hkk:=xk au av
 rcases hkk with rfl|rfl
 have Y:=q
 exact obl rfl (lD dm qR (s 3 dc) (zd (Y.b0) rfl) dR)
 obtain⟨a,Z⟩:=q
 exact obl rfl (lD dm qR (s 3 dc) (zd (Z.b1) rfl) dR)
 refine fun g _ _ ay az t x=>?_
 have hkk:=xk ay az
 rcases hkk with rfl|rfl
 have aa:=t
 exact obl rfl (lD (Iv arg) kT (x 5 dc) (zd (aa.b0) rfl) dR)
 obtain⟨a,ab⟩:=t
 exact obl rfl (lD (Iv arg) kT (x 5 dc) (zd (ab.b1) rfl) dR)
 refine fun h _ _ aA aB y c=>?_
 have hkk:=xk aA aB
 rcases hkk with rfl|rfl
 refine obl rfl ?_
 exact zr (k:=4) (i:=arg) rR vT (c 4 dc) hdm.sl (c 6 dc) ⟨by omega,by omega⟩ dR
 obtain⟨a,hS178⟩:=y
 refine obl rfl ?_
 exact zr (k:=4) (i:=arg) rR vT (c 4 dc) hdm.sl (c 6 dc) ⟨by omega,by omega⟩ dR
 refine fun n _ _ aC aD z A=>?_
 have hkk:=xk aC aD
 rcases hkk with rfl|rfl
 have ac:=z
 refine obl rfl ?_
 have B:arg.toNat<fl.moves.length:=bo
 obtain⟨N,hoke197⟩:=hdm.mvD B
 have O:=ac.cells N (hdm.foot (ne_of_lt B))
 exact lD (Iv ((fl.moves.getD arg.toNat default).to)) kT (A 8 dc) (O.get rfl) dR
 obtain⟨a,ad⟩:=z
 refine obl rfl ?_
 have C:arg.toNat<fl.moves.length:=bo
 obtain⟨P,hoke202⟩:=hdm.mvD C
 have Q:=ad.cells P (hdm.foot (ne_of_lt C))
 exact lD (Iv ((fl.moves.getD arg.toNat default).to)) kT (A 8 dc) (Q.get rfl) dR
 refine ob1 1 fun _ _ ae _=>?_
 obtain⟨a,hS211⟩:=ae
 exact obl rfl (zo a dR)
 refine ob1 1 fun _ _ af D=>?_
 obtain⟨a,E⟩:=af
 refine obl rfl ?_
 have F:arg.toNat<fl.moves.length:=bo
 obtain⟨R,I⟩:=hdm.mvD F
 have ag:=E.emp1
 refine(yP (α:=CelS) (j:=no.toNat) (o:=0) (u:=Iv ((fl.moves.getD arg.toNat default).to)) (us:=[Iv ((fl.moves.getD arg.toNat default).to)]) (x1:=(⟨(fl.moves.getD arg.toNat default).to,(d.getD no.toNat default).v⟩:CelS)) ag tT bo (D 11 (by decide)) (D 9 (by decide)) rfl (Nat.le_of_ble_eq_true rfl) (zX ⟨rfl,trivial⟩) (fun _ _ _ hel _=>(by rw[←zB default (by omega)]at hel;obtain⟨rfl,hok⟩:=hel;exact⟨rfl,⟨(show InR ((fl.moves.getD arg.toNat default).to)from I.to),hok.one⟩⟩)) ?_)
 intro w115 H
 have ah:=H.r0
 exact fun X hv an=>⟨(zx ((an 1 dc).trans a) H),trivial⟩
 intro vals w219 ai hA221
 obtain⟨a,aj⟩:=ai
 refine zT (kv:=[(0,.agg #[Iv (fl.kind),Iv (fl.policy),.bool (fl.floor),dm,vc,Iv no,Iv arg]),(1,Ix J 0)]) sEv (fun ρw219=>(zb (UB Tryz.results109 ?_)))
 have ak:Sep _ _ ((CelW vc 140 3 (l.set no.toNat ⟨(fl.moves.getD arg.toNat default).to,(l.getD no.toNat default).set⟩))::_) _:=CelW.closeN p.1 p.2 om (aj.s3_acb)
 refine⟨rfl,(ak.s2_a)⟩
theorem zbb {l:List Int}{x:Int}(h: ¬x∈l):Zh l x=l:=by
 unfold Zh
 exact List.filter_eq_self.2 (fun y hy=>by simp only[decide_eq_true_eq];intro e;exact h (e▸hy))
theorem QC {fl:Fld}{c:Cel}{arg:Int}(h:arg∈c.set):yZ fl c 3 arg=c:=by
 unfold yZ;rw[if_neg (by decide),if_neg (by decide),if_pos rfl,XG h]
theorem Kj {fl:Fld}{c:Cel}{arg:Int}(h: ¬arg∈c.set):yZ fl c 4 arg=c:=by
 unfold yZ;rw[if_neg (by decide),if_neg (by decide),if_neg (by decide),if_pos rfl,zbb h]
theorem zaZ {fl:Fld}{c:Cel}{arg:Int}:yZ fl c 3 arg=⟨c.n,ZG c.set arg⟩:=rfl
theorem zaf {fl:Fld}{c:Cel}{arg:Int}:yZ fl c 4 arg=⟨c.n,Zh c.set arg⟩:=rfl
set_option maxHeartbeats 4000000 in
theorem zcf {fl:Fld}{dm vc:Value}{no arg:Int}{l:List Cel}(hS0:Sep G W ((CelW vc 140 3 l)::Rs) w)(hno:0≤no∧no<l.length)(hno0:InR no)(harg:InR arg)(hasc:Asc (yy l no).set)(hfew:(yy l no).set.length≤1000):Ret Tryz.prog 106 [.agg #[.int .i64 (fl.kind),.int .i64 (fl.policy),.bool (fl.floor),dm,vc,.int .i64 (no),.int .i64 (arg)]] w (fun r w'=>r=(.tuple #[]:Value)∧Sep G W ((CelW vc 140 3 (l.set no.toNat (yZ fl (yy l no) 3 arg)))::Rs) w'):=by
 refine zi Tryz.func106 rfl rfl ?_
 let bx:=Ix (sb vc) (so vc+no.toNat*2+1)
 let n:=Ix (sb vc) (so vc+no.toNat*2)
 obtain⟨e,E,aY⟩:=CelW.open hS0
 have bt:=aY.r0
 have ba:Sep G W ((RowE (α:=CelS) own 140 vc e)::(Star (SetRows 3 e l))::Rs) w:=aY
 refine za (R0 fun _=>st (zM rfl ?_))
 intro w7 I bu
 let bw:=Blk I #[Iv (fl.kind),Iv (fl.policy),.bool (fl.floor),dm,vc,Iv no,Iv arg] 135
 have aZ:=ba.new bu
 refine zb (za (R0 fun _=>st (zh nT oT rfl rfl (CellsAt.all (aZ.b0)) ?_)))
 refine st (zH (f:=102) (vals:=[.agg #[Iv (fl.kind),Iv (fl.policy),.bool (fl.floor),dm,vc,Iv no,Iv arg]]) (cap:=[]) rfl rfl pT (Xf (aZ.mv1) bo) ?_)
 rintro _ bv ⟨rfl,Z⟩
 have bb:=Z.r0
 have aa:Sep G W ((RowE (α:=Int) own 3 ((e.getD no.toNat default).v) ((l.getD no.toNat default).set))::(Star ((SetRows 3 e l).set no.toNat Emp))::(RowE own 140 vc e)::(Blk I #[Iv (fl.kind),Iv (fl.policy),.bool (fl.floor),dm,vc,Iv no,Iv arg] 135)::Rs) bv:=Sep.takeStar (Z.mv2) (SetRows.get om om)
 have bc:=aa.r0
 refine st (aS n (zb (za ?_)))
 refine WD4 ((fun TT L=>WF [fun vals H=>Sep G W (L::TT) H,fun vals H=> ∃(d:Nat),(vals 6=(.tuple #[Iw d,.bool (decide (arg∈((l.getD no.toNat default).set)))]:Value))∧(d≤((l.getD no.toNat default).set).length∧(∀q,q<d→((l.getD no.toNat default).set).getD q 0<arg)∧(∀q,d≤q→q<((l.getD no.toNat default).set).length→arg≤((l.getD no.toNat default).set).getD q 0))∧Sep G W (L::TT) H]) ((Star ((SetRows 3 e l).set no.toNat Emp))::(RowE (α:=CelS) own 140 vc e)::bw::Rs) (RowE (α:=Int) own 3 ((e.getD no.toNat default).v) ((l.getD no.toNat default).set))) (AF [Vl 0 n,Vl 1 n,Vl 2 bx,Vl 3 ((e.getD no.toNat default).v),Vl 4 (Ix I 6),Vl 5 (Iv arg),fun _=>True,fun vals=> ∀(d:Nat),vals 6=(.tuple #[Iw d,.bool (decide (arg∈((l.getD no.toNat default).set)))]:Value)→vals 7=(.tuple #[Iw d,.bool (decide (arg∈((l.getD no.toNat default).set)))]:Value),fun vals=> ∀(d:Nat),vals 6=(.tuple #[Iw d,.bool (decide (arg∈((l.getD no.toNat default).set)))]:Value)→vals 8=(Iw d:Value),Vl 9 (.bool (decide (arg∈((l.getD no.toNat default).set)))),fun vals=> ∀(d:Nat),vals 6=(.tuple #[Iw d,.bool (decide (arg∈((l.getD no.toNat default).set)))]:Value)→vals 10=(Iw d:Value),Vl 11 (.bool (decide (arg∈((l.getD no.toNat default).set))))]) [[],[0],[0,1],[0,1,2],[],[4],(rg 6),(rg 7),(rg 8),(rg 8),(rg 9),(rg 11)] [6] [(0,0),(0,0),(0,0),(0,0),(0,0),(0,0),(0,0),(1,1),(1,1),(1,1),(1,1),(1,1)] aa ⟨fun _ _ _ _ _ _ _=>obl rfl (mV n dR),fun _ _ _ _ _ _ ag=>obl rfl (zo (b:=sb vc) (o:=so vc+no.toNat*2) (ag 0 dc) dR),fun _ _ _ _ _ _ ah=>obl rfl (xc (ah 1 dc) dR),?_,fun _ _ _ _ _ _ _=>obl rfl (xL rfl dR),ob1 0 fun _ _ (ai:Sep _ _ _ _) aj=>obl rfl (lD (Iv arg) kT (aj 4 dc) (zd (ai.b3) rfl) dR),?_,?_,?_,?_,?_,fun _ _ _ _ _ _ ak=>obl rfl (zY (v:=.bool (decide (arg∈((l.getD no.toNat default).set)))) (ak 9 dc) dR),trivial⟩ ?_ (hlocA:=yX ⟨dA,dA,dA,dA,dA,dA,dT,fun vals y A h=>fun d z=>(A 7 (.inl rfl)).trans (h d ((A 6 (.inr dc)).symm.trans z)),fun vals y A h=>fun d z=>(A 8 (.inl rfl)).trans (h d ((A 6 (.inr dc)).symm.trans z)),dA,fun vals y A h=>fun d z=>(A 10 (.inl rfl)).trans (h d ((A 6 (.inr dc)).symm.trans z)),dA,trivial⟩)
 refine ob1 0 fun _ _ (al:Sep _ _ _ _) am=>(obl rfl ?_)
 have an:no.toNat<e.length:=bo
 obtain⟨_,_,ab,rfl,hoke148⟩:=al.rowAtD (i:=2) (j:=no.toNat) rfl an
 exact lD ((e.getD no.toNat default).v) mT (am 2 dc) (ab.get (j:=1) rfl) dR
 refine ob1 0 fun vals _ (bd:Sep _ _ _ _) ac=>(obl rfl ?_)
 obtain⟨G69,be,hB72,bf,bg⟩:=bd.lend
 have M:=RowE.rd be
 refine(zH (f:=126) (vals:=[(e.getD no.toNat default).v,Iv arg]) (cap:=[]) rfl (yE ⟨(ac 3 dc),(ac 5 dc),trivial⟩) pR (Xr M om bf (hasc)) ?_)
 rintro _ w78 ⟨d,rfl,p,bh⟩
 have bi:=bg _ _ bh
 exact fun y A B=>⟨(exiA d (zx A (zx p bi))),trivial⟩
 refine ob1 1 fun _ _ ao _=>?_
 obtain⟨d,t,p,hS170⟩:=ao
 refine obl rfl (yi t (fun y A B=>⟨rfl,?_⟩))
 intro N z
 rw[B 6 (by decide)]at z;cases t.symm.trans z
 exact A
 refine ob1 1 fun vals _ ap aq=>?_
 obtain⟨d,t,p,hS177⟩:=ap
 have bj:=aq 7 dc d t
 refine obl rfl (zm bj rfl (fun y A B=>⟨rfl,?_⟩))
 intro N z
 rw[B 6 (by decide)]at z;cases t.symm.trans z
 exact A
 refine ob1 1 fun vals _ ar au=>?_
 obtain⟨d,t,p,hS185⟩:=ar
 have bk:=au 7 dc d t
 exact obl rfl (zm bk rfl dR)
 refine ob1 1 fun vals _ av aw=>?_
 obtain⟨d,t,p,hS193⟩:=av
 have bl:=aw 8 dc d t
 refine obl rfl (zY bl (fun y A B=>⟨rfl,?_⟩))
 intro N z
 rw[B 6 (by decide)]at z;cases t.symm.trans z
 exact A
 intro vals bm ax O
 obtain⟨d,t,p,P⟩:=ax
 have bn:=O 10 dc d t
 have bp:=O 11 dc
 refine zT (kv:=[(0,.agg #[Iv (fl.kind),Iv (fl.policy),.bool (fl.floor),dm,vc,Iv no,Iv arg]),(1,Ix I 0),(5,.agg #[Iv (fl.kind),Iv (fl.policy),.bool (fl.floor),dm,vc,Iv no,Iv arg]),(6,Ix (sb vc) (so vc+no.toNat*2)),(2,Ix (sb vc) (so vc+no.toNat*2)),(3,Iw d),(4,.bool (decide (arg∈((l.getD no.toNat default).set))))]) ⟨rfl,rfl,rfl,rfl,rfl,(by exact bn),(by exact bp),trivial⟩ (fun ρw202=>(zb (za (R0 fun _=>st (mV (.bool (decide (arg∈((l.getD no.toNat default).set)))) (st (yB rfl (zb ?_))))))))
 cases C: !(decide (arg∈((l.getD no.toNat default).set)))
 have C:=zQ C
 refine ze rfl (zl (UB lA ?_))
 have ay:Sep _ _ ((CelW vc 140 3 l)::_) _:=CelW.close0 E.1 E.2 om P
 have az:Sep G W ((CelW vc 140 3 (l.set no.toNat (yZ fl (yy l no) 3 arg)))::bw::Rs) bm:=by
  rw[QC (show arg∈(yy l no).set from C),show l.set no.toNat (yy l no)=l from Zo default (by omega)]
  exact ay
 refine⟨rfl,(az.s2_a)⟩
 have C:=zz C
 refine zg rfl ?_
 refine WD4 ((fun TT L Q ad=>WF [fun vals H=>Sep G W (L::Q::ad::TT) H,fun vals H=> ∃g,(vals 8=((Iy g 1 1):Value))∧Sep G W ((Blk g #[Iv arg] 3)::L::Q::ad::TT) H,fun vals H=> ∃g m,(vals 8=((Iy g 1 1):Value))∧(vals 9=m)∧Sep G W ((RowE own 3 m (((l.getD no.toNat default).set).take d++arg::((l.getD no.toNat default).set).drop d))::Q::ad::TT) H,fun vals H=> ∃g m,(vals 8=((Iy g 1 1):Value))∧(vals 9=m)∧Sep G W ((RowE own 140 vc (e.set no.toNat (⟨(e.getD no.toNat default).n,m⟩:CelS)))::(RowE own 3 m (((l.getD no.toNat default).set).take d++arg::((l.getD no.toNat default).set).drop d))::Q::TT) H]) (bw::Rs) (RowE own 3 ((e.getD no.toNat default).v) ((l.getD no.toNat default).set)) (Star ((SetRows 3 e l).set no.toNat Emp)) (RowE own 140 vc e)) (AF [Vl 0 n,Vl 1 n,Vl 2 n,Vl 3 bx,Vl 4 ((e.getD no.toNat default).v),Vl 5 (Iw d),Vl 6 (Ix I 6),Vl 7 (Iv arg),fun _=>True,fun _=>True,Vl 10 n,Vl 11 bx,fun _=>True]) [[],[],[1],[1,2],[1,2,3],[],[],[6],[6,7],[1,2,3,4,5,6,7,8],(rg 10),(rg 11),(rg 12)] [8,9,12] [(0,2),(0,1),(0,1),(0,1),(0,1),(0,1),(0,0),(0,0),(0,0),(1,1),(2,2),(2,2),(2,2)] P ⟨fun _ _ _ _ _ _ _=>obl rfl (mV n dR),fun _ _ _ _ _ _ _=>obl rfl (mV n dR),fun _ _ _ _ _ _ aA=>obl rfl (zo (aA 1 dc) dR),fun _ _ _ _ _ _ aB=>obl rfl (xc (aB 2 dc) dR),?_,fun _ _ _ _ _ _ _=>obl rfl (mV (Iw d) dR),fun _ _ _ _ _ _ _=>obl rfl (xL rfl dR),ob1 0 fun _ _ (aC:Sep _ _ _ _) aD=>obl rfl (lD (Iv arg) kT (aD 6 dc) (zd (aC.b3) rfl) dR),?_,?_,fun _ _ _ _ _ _ aE=>obl rfl (zo (aE 0 dc) dR),fun _ _ _ _ _ _ aF=>obl rfl (xc (aF 10 dc) dR),?_,trivial⟩ ?_
 refine fun J _ _ bq br R S=>?_
 have hkk:=xk bq br
 rcases hkk with rfl|rfl
 have aG:=R
 refine obl rfl ?_
 have aH:no.toNat<e.length:=bo
 obtain⟨_,_,ae,rfl,hoke358⟩:=aG.rowAtD (i:=2) (j:=no.toNat) rfl aH
 exact lD ((e.getD no.toNat default).v) mT (S 3 dc) (ae.get (j:=1) rfl) dR
 obtain⟨g,D,aI⟩:=R
 refine obl rfl ?_
 have aJ:no.toNat<e.length:=bo
 obtain⟨_,_,af,rfl,hoke362⟩:=aI.rowAtD (i:=3) (j:=no.toNat) rfl aJ
 exact lD ((e.getD no.toNat default).v) mT (S 3 dc) (af.get (j:=1) rfl) dR
 refine ob1 0 fun _ _ (aK:Sep _ _ _ _) aL=>(obl rfl ((zI (k:=1) (parts':=[(0,Iv arg)]) (c:=#[Iv arg]) lR tT tR dc (Zi ⟨rfl,(aL 7 dc),trivial⟩) kr ?_)))
 intro w278 g aM
 exact fun y A B=>⟨(exiA g (zx A (aK.new aM))),trivial⟩
 refine ob1 1 fun vals _ aN T=>?_
 obtain⟨g,D,aO⟩:=aN
 refine obl rfl ((zH (f:=127) (vals:=[(e.getD no.toNat default).v,Iw d,(Iy g 1 1)]) (cap:=[]) rfl (yE ⟨(T 4 dc),(T 5 dc),D,trivial⟩) Tryz.call127 (JZ (aO.mv1) (p.1) (harg) ((by have h9:((l.getD no.toNat default).set).length≤1000:=hfew;omega))) ?_))
 rintro m w292 ⟨_,rfl,U⟩
 have aP:=U.r0
 exact fun y A B=>⟨(exiA g (exiA m (zx ((B 8 dc).trans D) (zx A U)))),trivial⟩
 refine ob1 2 fun _ _ aQ aR=>?_
 obtain⟨g,m,D,K,V⟩:=aQ
 refine obl rfl ?_
 have F:=V.r0
 have aT:=(V.mv2).emp1
 refine(yP (α:=CelS) (j:=no.toNat) (o:=1) (u:=m) (us:=[m]) (x1:=(⟨(e.getD no.toNat default).n,m⟩:CelS)) aT wT bo (aR 11 (by decide)) K (congrArg Array.toList (xy F.1.one)) (Nat.le_of_ble_eq_true rfl) (zX ⟨F.1.one,trivial⟩) (fun _ _ _ hel _=>(by rw[←zB default (by omega)]at hel;obtain⟨rfl,hok⟩:=hel;exact⟨rfl,⟨hok.n,F.1.one⟩⟩)) ?_)
 intro w318 X
 have aU:=X.r0
 exact fun y A B=>⟨(exiA g (exiA m (zx ((B 8 dc).trans D) (zx ((B 9 dc).trans K) X)))),trivial⟩
 intro vals bs aV hA400
 obtain⟨g,m,D,K,aW⟩:=aV
 refine zT (kv:=[(0,.agg #[Iv (fl.kind),Iv (fl.policy),.bool (fl.floor),dm,vc,Iv no,Iv arg]),(1,Ix I 0),(5,.agg #[Iv (fl.kind),Iv (fl.policy),.bool (fl.floor),dm,vc,Iv no,Iv arg]),(6,Ix (sb vc) (so vc+no.toNat*2)),(2,Ix (sb vc) (so vc+no.toNat*2)),(3,Iw d),(4,.bool (decide (arg∈((l.getD no.toNat default).set)))),(17,.bool (decide (arg∈((l.getD no.toNat default).set)))),(18,.bool true)]) sEv (fun ρw398=>(zb (UB lA ?_)))
 have Y:Sep _ _ ((CelW vc 140 3 (l.set no.toNat (⟨(l.getD no.toNat default).n,(((l.getD no.toNat default).set).take d++arg::((l.getD no.toNat default).set).drop d)⟩:Cel)))::_) _:=CelW.close (i:=no.toNat) (s:=(⟨(e.getD no.toNat default).n,m⟩:CelS)) (c:=(⟨(l.getD no.toNat default).n,(((l.getD no.toNat default).set).take d++arg::((l.getD no.toNat default).set).drop d)⟩:Cel)) E.1 E.2 om (E.2 _ om) (aW.s4_bcad)
 have aX:Sep G W ((CelW vc 140 3 (l.set no.toNat (yZ fl (yy l no) 3 arg)))::bw::Rs) bs:=by
  rw[zaZ];rw[zdD (l:=(l.getD no.toNat default).set) hasc p.1 p.2.1 p.2.2 C]at Y
  exact Y
 refine⟨rfl,(aX.s2_a)⟩
set_option maxHeartbeats 4000000 in
theorem zcb {fl:Fld}{dm vc:Value}{no arg:Int}{l:List Cel}(hS0:Sep G W ((CelW vc 140 3 l)::Rs) w)(hno:0≤no∧no<l.length)(hno0:InR no)(harg:InR arg)(hasc:Asc (yy l no).set):Ret Tryz.prog 107 [.agg #[.int .i64 (fl.kind),.int .i64 (fl.policy),.bool (fl.floor),dm,vc,.int .i64 (no),.int .i64 (arg)]] w (fun r w'=>r=(.tuple #[]:Value)∧Sep G W ((CelW vc 140 3 (l.set no.toNat (yZ fl (yy l no) 4 arg)))::Rs) w'):=by
 refine zi Tryz.func107 rfl rfl ?_
 let n:=Ix (sb vc) (so vc+no.toNat*2)
 obtain⟨g,A,aq⟩:=CelW.open hS0
 have hsh2l:=A.1
 have aM:=aq.r0
 have hr4s:_*32≤_:=aM.2
 have av:Sep G W ((RowE (α:=CelS) own 140 vc g)::(Star (SetRows 3 g l))::Rs) w:=aq
 refine za (R0 fun _=>st (zM rfl ?_))
 intro w7 M aN
 let ay:=Blk M #[Iv (fl.kind),Iv (fl.policy),.bool (fl.floor),dm,vc,Iv no,Iv arg] 135
 have ar:=av.new aN
 refine zb (za (R0 fun _=>st (zh nT oT rfl rfl (CellsAt.all (ar.b0)) ?_)))
 refine st (zH (f:=102) (vals:=[.agg #[Iv (fl.kind),Iv (fl.policy),.bool (fl.floor),dm,vc,Iv no,Iv arg]]) (cap:=[]) rfl rfl pT (Xf (ar.mv1) bo) ?_)
 rintro _ aO ⟨rfl,N⟩
 have aw:=N.r0
 have hr12s:_*32≤_:=aw.2
 have O:Sep G W ((RowE (α:=Int) own 3 ((g.getD no.toNat default).v) ((l.getD no.toNat default).set))::(Star ((SetRows 3 g l).set no.toNat Emp))::(RowE own 140 vc g)::(Blk M #[Iv (fl.kind),Iv (fl.policy),.bool (fl.floor),dm,vc,Iv no,Iv arg] 135)::Rs) aO:=Sep.takeStar (N.mv2) (SetRows.get om om)
 have ax:=O.r0
 have hr15s:_*8≤_:=ax.2
 refine st (aS n (zb (za ?_)))
 refine WD4 ((fun TT au=>WF [fun vals wq=>Sep G W (au::TT) wq,fun vals wq=> ∃(d:Nat),(vals 6=(.tuple #[Iw d,.bool (decide (arg∈((l.getD no.toNat default).set)))]:Value))∧(d≤((l.getD no.toNat default).set).length∧(∀q,q<d→((l.getD no.toNat default).set).getD q 0<arg)∧(∀q,d≤q→q<((l.getD no.toNat default).set).length→arg≤((l.getD no.toNat default).set).getD q 0))∧Sep G W (au::TT) wq]) ((Star ((SetRows 3 g l).set no.toNat Emp))::(RowE (α:=CelS) own 140 vc g)::ay::Rs) (RowE (α:=Int) own 3 ((g.getD no.toNat default).v) ((l.getD no.toNat default).set))) (AF [Vl 0 n,Vl 1 n,Vl 2 (Ix (sb vc) (so vc+no.toNat*2+1)),Vl 3 ((g.getD no.toNat default).v),Vl 4 (Ix M 6),Vl 5 (Iv arg),fun _=>True,fun vals=> ∀(d:Nat),vals 6=(.tuple #[Iw d,.bool (decide (arg∈((l.getD no.toNat default).set)))]:Value)→vals 7=(.tuple #[Iw d,.bool (decide (arg∈((l.getD no.toNat default).set)))]:Value),fun vals=> ∀(d:Nat),vals 6=(.tuple #[Iw d,.bool (decide (arg∈((l.getD no.toNat default).set)))]:Value)→vals 8=(Iw d:Value),Vl 9 (.bool (decide (arg∈((l.getD no.toNat default).set)))),fun vals=> ∀(d:Nat),vals 6=(.tuple #[Iw d,.bool (decide (arg∈((l.getD no.toNat default).set)))]:Value)→vals 10=(Iw d:Value),Vl 11 (.bool (decide (arg∈((l.getD no.toNat default).set))))]) [[],[0],[0,1],[0,1,2],[],[4],(rg 6),(rg 7),(rg 8),(rg 8),(rg 9),(rg 11)] [6] [(0,0),(0,0),(0,0),(0,0),(0,0),(0,0),(0,0),(1,1),(1,1),(1,1),(1,1),(1,1)] O ⟨fun _ _ _ _ _ _ _=>obl rfl (mV n dR),fun _ _ _ _ _ _ S=>obl rfl (zo (b:=sb vc) (o:=so vc+no.toNat*2) (S 0 dc) dR),fun _ _ _ _ _ _ T=>obl rfl (xc (T 1 dc) dR),?_,fun _ _ _ _ _ _ _=>obl rfl (xL rfl dR),ob1 0 fun _ _ (U:Sep _ _ _ _) V=>obl rfl (lD (Iv arg) kT (V 4 dc) (zd (U.b3) rfl) dR),?_,?_,?_,?_,?_,fun _ _ _ _ _ _ X=>obl rfl (zY (v:=.bool (decide (arg∈((l.getD no.toNat default).set)))) (X 9 dc) dR),trivial⟩ ?_ (hlocA:=yX ⟨dA,dA,dA,dA,dA,dA,dT,fun vals y z h=>fun d p=>(z 7 (.inl rfl)).trans (h d ((z 6 (.inr dc)).symm.trans p)),fun vals y z h=>fun d p=>(z 8 (.inl rfl)).trans (h d ((z 6 (.inr dc)).symm.trans p)),dA,fun vals y z h=>fun d p=>(z 10 (.inl rfl)).trans (h d ((z 6 (.inr dc)).symm.trans p)),dA,trivial⟩)
 refine ob1 0 fun _ _ (Y:Sep _ _ _ _) Z=>(obl rfl ?_)
 have aa:no.toNat<g.length:=bo
 obtain⟨_,_,P,rfl,hoke148⟩:=Y.rowAtD (i:=2) (j:=no.toNat) rfl aa
 exact lD ((g.getD no.toNat default).v) mT (Z 2 dc) (P.get (j:=1) rfl) dR
 refine ob1 0 fun vals _ (az:Sep _ _ _ _) Q=>(obl rfl ?_)
 obtain⟨G69,aA,hB72,aB,aC⟩:=az.lend
 have F:=RowE.rd aA
 have hrd75s:_*8≤_:=F.small
 refine(zH (f:=126) (vals:=[(g.getD no.toNat default).v,Iv arg]) (cap:=[]) rfl (yE ⟨(Q 3 dc),(Q 5 dc),trivial⟩) pR (Xr F om aB (hasc)) ?_)
 rintro _ w78 ⟨d,rfl,e,aD⟩
 have aE:=aC _ _ aD
 exact fun y z C=>⟨(exiA d (zx z (zx e aE))),trivial⟩
 refine ob1 1 fun _ _ ab _=>?_
 obtain⟨d,m,e,hS170⟩:=ab
 refine obl rfl (yi m (fun y z C=>⟨rfl,?_⟩))
 intro H p
 rw[C 6 (by decide)]at p;cases m.symm.trans p
 exact z
 refine ob1 1 fun vals _ ac ad=>?_
 obtain⟨d,m,e,hS177⟩:=ac
 have aF:=ad 7 dc d m
 refine obl rfl (zm aF rfl (fun y z C=>⟨rfl,?_⟩))
 intro H p
 rw[C 6 (by decide)]at p;cases m.symm.trans p
 exact z
 refine ob1 1 fun vals _ ae af=>?_
 obtain⟨d,m,e,hS185⟩:=ae
 have aG:=af 7 dc d m
 exact obl rfl (zm aG rfl dR)
 refine ob1 1 fun vals _ ag ah=>?_
 obtain⟨d,m,e,hS193⟩:=ag
 have aH:=ah 8 dc d m
 refine obl rfl (zY aH (fun y z C=>⟨rfl,?_⟩))
 intro H p
 rw[C 6 (by decide)]at p;cases m.symm.trans p
 exact z
 intro vals aI ai I
 obtain⟨d,m,e,D⟩:=ai
 have aJ:=I 10 dc d m
 have aK:=I 11 dc
 refine zT (kv:=[(0,.agg #[Iv (fl.kind),Iv (fl.policy),.bool (fl.floor),dm,vc,Iv no,Iv arg]),(1,Ix M 0),(5,.agg #[Iv (fl.kind),Iv (fl.policy),.bool (fl.floor),dm,vc,Iv no,Iv arg]),(6,Ix (sb vc) (so vc+no.toNat*2)),(2,Ix (sb vc) (so vc+no.toNat*2)),(3,Iw d),(4,.bool (decide (arg∈((l.getD no.toNat default).set))))]) ⟨rfl,rfl,rfl,rfl,rfl,(by exact aJ),(by exact aK),trivial⟩ (fun ρw202=>(zb (za (R0 fun _=>st (mV (.bool (decide (arg∈((l.getD no.toNat default).set)))) (zb ?_))))))
 cases t:decide (arg∈((l.getD no.toNat default).set))
 have t:=fD t
 refine ze rfl (zl (UB mA ?_))
 have aj:Sep _ _ ((CelW vc 140 3 l)::_) _:=CelW.close0 A.1 A.2 om D
 have ak:Sep G W ((CelW vc 140 3 (l.set no.toNat (yZ fl (yy l no) 4 arg)))::ay::Rs) aI:=by
  rw[Kj (show ¬arg∈(yy l no).set from t),show l.set no.toNat (yy l no)=l from Zo default (by omega)]
  exact aj
 refine⟨rfl,(ak.s2_a)⟩
 have t:=tD t
 refine zg rfl (R0 fun _=>st (mV n (st (mV n (st (zo rfl (st (xc rfl ?_))))))))
 have al:no.toNat<g.length:=bo
 obtain⟨_,_,R,rfl,hoke212⟩:=D.rowAtD (i:=2) (j:=no.toNat) rfl al
 refine st (lD ((g.getD no.toNat default).v) mT rfl (R.get (j:=1) rfl) (st (mV (Iw d) (st (mV (Iw d) ?_)))))
 have am:InR ((d+1:Nat):Int):=bo
 refine st (zP (r:=((d+1:Nat):Int)) (k:=.i64) (a:=((d:Nat):Int)) (b:=1) rfl rfl (by rw[show(((d:Nat):Int)+1:Int)=((d+1:Nat):Int)from bo];exact zF am) (st (cL Tryz.call128 (zai D ((zaT (l:=(l.getD no.toNat default).set) hasc e.1 e.2.1 e.2.2 t).1)) ?_)))
 rintro E w216 ⟨_,rfl,J⟩
 have B:=J.r0
 refine st (zo rfl (st (xc rfl ?_)))
 have an:=(J.mv2).emp1
 refine stn (yP (α:=CelS) (j:=no.toNat) (o:=1) (u:=E) (us:=[E]) (x1:=(⟨(g.getD no.toNat default).n,E⟩:CelS)) an wT bo rfl rfl (congrArg Array.toList (xy B.1.one)) (Nat.le_of_ble_eq_true rfl) (zX ⟨B.1.one,trivial⟩) (fun _ _ _ hel _=>(by rw[←zB default (by omega)]at hel;obtain⟨rfl,hok⟩:=hel;exact⟨rfl,⟨hok.n,B.1.one⟩⟩)) ?_)
 intro aL K
 have ao:=K.r0
 refine zb (UB mA ?_)
 have L:Sep _ _ ((CelW vc 140 3 (l.set no.toNat (⟨(l.getD no.toNat default).n,(((l.getD no.toNat default).set).take d++((l.getD no.toNat default).set).drop (d+1))⟩:Cel)))::_) _:=CelW.close (i:=no.toNat) (s:=(⟨(g.getD no.toNat default).n,E⟩:CelS)) (c:=(⟨(l.getD no.toNat default).n,(((l.getD no.toNat default).set).take d++((l.getD no.toNat default).set).drop (d+1))⟩:Cel)) A.1 A.2 om (A.2 _ om) (K.s4_bcad)
 have ap:Sep G W ((CelW vc 140 3 (l.set no.toNat (yZ fl (yy l no) 4 arg)))::ay::Rs) aL:=by
  rw[zaf];rw[(zaT (l:=(l.getD no.toNat default).set) hasc e.1 e.2.1 e.2.2 t).2]at L
  exact L
 refine⟨rfl,(ap.s2_a)⟩
theorem D_rdo {op:Int}{x:Rul}{fl:Fld}{dm vc:Value}{no arg:Int}{l:List Cel}(hS0:Sep G W ((CelW vc 140 3 l)::Rs) w)(hno:0≤no∧no<l.length)(hno0:InR no)(harg:InR arg)(hx:Zz ZB op=some x)(hop:op=1∨op=2∨op=3∨op=4∨op=5)(hdm:RdS W G dm fl.moves)(hak:((op=3∨op=4)→Asc (yy l no).set)∧(op=5→0≤arg∧arg<fl.moves.length))(hfew:op=3→(yy l no).set.length≤1000):Ret Tryz.prog x.does [.agg #[.int .i64 (fl.kind),.int .i64 (fl.policy),.bool (fl.floor),dm,vc,.int .i64 (no),.int .i64 (arg)]] w (fun r w'=>r=(.tuple #[]:Value)∧Sep G W ((CelW vc 140 3 (l.set no.toNat (yZ fl (yy l no) op arg)))::Rs) w'):=by
 rcases hop with rfl|rfl|rfl|rfl|rfl<;>cases hx
 ·exact zcD hS0 hno hno0 harg
 ·exact zcB hS0 hno hno0 harg
 ·exact zcf hS0 hno hno0 harg (hak.1 (.inl rfl)) (hfew rfl)
 ·exact zcb hS0 hno hno0 harg (hak.1 (.inr rfl))
 ·exact zbk hS0 hno hno0 harg hdm (hak.2 rfl)
theorem SetRows.step {Ti:TypeId}{sh:List CelS}{l:List Cel}{k:Nat}(s:CelS)(hlen:sh.length=l.length)(hk:k<l.length):SetRows Ti ((sh.set k s).take (k+1)) (l.take (k+1))=SetRows Ti (sh.take k) (l.take k)++[RowE (α:=Int) own Ti s.v (l.getD k default).set]:=by
 have e1:(sh.set k s).take (k+1)=sh.take k++[s]:=by
  rw[List.take_succ_eq_append_getElem (by rw[List.length_set];omega),List.getElem_set_self,List.take_set_of_le (Nat.le_refl _)]
 have e2:l.take (k+1)=l.take k++[l.getD k default]:=by rw[List.take_succ_eq_append_getElem hk,zB _ hk]
 rw[e1,e2]
 exact SetRows.snoc s _ (by rw[List.length_take,List.length_take];omega)
theorem zaP {sh:List CelS}{l:List Cel}{k:Nat}{v:Value}(hlen:sh.length=l.length)(hn: ∀i,i<l.length→(sh.getD i default).n=(l.getD i default).n)(hk:k<l.length): ∀i,i<l.length→((sh.set k ⟨(sh.getD k default).n,v⟩).getD i default).n=(l.getD i default).n:=by
 intro i hi
 have h:=(Km (s:=⟨(sh.getD k default).n,v⟩) (c:=l.getD k default) hlen hn (hn k hk) hk).2 i (by rw[List.length_set];exact hi)
 rwa [Zo default hk]at h
theorem zar {t:Typ}{c:List Cel}{f op arg:Int}(hf:f.toNat<c.length)(h:op≠1∧op≠2∧op≠3∧op≠4∧op≠5):doL t c f op arg=c:=by
 unfold doL yZ
 rw[if_neg h.1,if_neg h.2.1,if_neg h.2.2.1,if_neg h.2.2.2.1,if_neg h.2.2.2.2]
 exact Zo default hf
set_option maxHeartbeats 4000000 in
theorem D_Do {t:Typ}{dt0:Value}(hdt0:RdS W G dt0 t.fields)(ot:t.Ok){vc:Value}{c:List Cel}(hc:RdS W G vc c){f:Int}(hf:InR f){op:Int}(hop:InR op){arg:Int}(harg:InR arg)(hS0:Sep G W Rs w)(hak:Yw t c f op arg)(hfew:op=3→(yy c f).set.length≤1000):Ret Tryz.prog 61 [.agg (t.cells dt0).toArray,vc,.int .i64 (f),.int .i64 (op),.int .i64 (arg)] w (fun r w'=> ∃(v:Value),r=(v:Value)∧Sep G W ((RowE (α:=Cel) own 140 v (doL t c f op arg))::Rs) w'):=by
 let aP:=zN W (sb dt0) (so dt0+f.toNat*4+3)
 have hcs:_*32≤_:=hc.small
 have hf0:=hak.1;have hf1:=hak.2.1;have hf2:=hak.2.2.1
 refine zi Tryz.func61 rfl rfl ?_
 refine za (R0 fun _=>st (zM rfl ?_))
 intro w3 b2 aO
 let aT:=Blk b2 (t.cells dt0).toArray 74
 refine st (aS (Iz) (zb (za (R0 fun _=>st (mV vc (st (cL Tryz.call92 (Ww hc (hS0.new aO)) ?_)))))))
 rintro d w6 ⟨_,rfl,aA⟩
 have aQ:=aA.r0
 have hr8s:_*32≤_:=aQ.2
 obtain⟨m,aD,aE,aF⟩:=aA.celShare
 have C:Sep G W ((RowE (α:=CelS) own 140 d m)::aT::Rs) w6:=aF
 have Q:=C.r0
 have hr13s:_*32≤_:=Q.2
 refine st (aS d (zb (za (za (R0 fun _=>st (mV d (st (zJ rT rfl Q.1 (st (mV (Iv 0) (zb (zn ?_))))))))))))
 have aG:Sep G W ((Star [])::(RowE (α:=CelS) own 140 d m)::aT::Rs) w6:=C.nilStar
 refine zZ (fun mq σ R=> ∃k shk ρ,mq=c.length-k∧σ=yd ρ [(1,vc),(2,Iv f),(3,Iv op),(4,Iv arg),(5,Ix b2 0),(10,(Iz)),(11,d),(18,Iw m.length),(19,Iw k)]∧(k≤c.length)∧(shk.length=c.length)∧(∀i,i<c.length→(shk.getD i default).n=(c.getD i default).n)∧Sep G W ((RowE own 140 d shk)::(Star (SetRows 3 (shk.take k) (c.take k)))::(Blk b2 (t.cells dt0).toArray 74)::Rs) R) ⟨0,m,_,rfl,sSf,Nat.zero_le _,aD,(fun i h=>(aE i h).1),(aG.mv1)⟩ ?_
 rintro m17 σ18 aR ⟨k,shk,ρl1,rfl,rfl,hkk,hshl,hshn,g⟩
 have A:=g.r0
 have hr20s:_*32≤_:=A.2
 refine za (R0 fun _=>st (zC rfl rfl (zb (za ?_))))
 cases y:decide (((k:Nat):Int)<((m.length:Nat):Int))
 have y:=fD y
 refine ze rfl (ya (zS (za (za (R0 fun _=>?_)))))
 have hkl:k=c.length:=by omega
 rw[hkl]at g
 rw[List.take_of_length_le (Nat.le_of_eq hshl),List.take_length]at g
 have aH:Sep G W ((CelW d 140 3 c)::aT::Rs) aR:=CelW.mk g ⟨hshl,hshn⟩
 refine st (cL mY (Je aH) ?_)
 rintro _ w24 ⟨D,rfl,z⟩
 refine st (mV (Iv op) ?_)
 have hops:(op=1∨op=2∨op=3∨op=4∨op=5)∨(op≠1∧op≠2∧op≠3∧op≠4∧op≠5):=by omega
 rcases hops with hop|hop
 obtain⟨rx,hrx⟩:=Vt hop
 refine st (YL (α:=Rul) (a:=rx) qT lT rfl rfl (z.map_ (i:=0) rfl) hrx ?_)
 rintro _ rfl
 refine st (mV (.tuple #[.agg #[.func (.func rx.may) #[] #[],.func (.func rx.does) #[] #[]],.bool true]) (st (zm rfl rfl (st (zm rfl rfl (st (zq sT ?_)))))))
 intro w28 E aI
 have S:=z.new aI
 refine stn (zp (v:=.agg #[.func (.func rx.may) #[] #[],.func (.func rx.does) #[] #[]]) (c':=#[.func (.func rx.may) #[] #[],.func (.func rx.does) #[] #[]]) mR rfl rfl (S.b0) (zX ⟨rfl,rfl,trivial⟩) yqc rfl ?_)
 intro w30 aJ
 refine st (aS (.bool true) (zb (za (R0 fun _=>st (mV (.bool true) (zb (zg rfl ?_)))))))
 refine WD4 ((fun TT aB aC=>WF [fun vals R=>Sep G W (aB::aC::(CelW d 140 3 c)::TT) R,fun vals R=>(vals 11=(.tuple #[]:Value))∧Sep G W ((CelW d 140 3 (c.set f.toNat (yZ (t.fields.getD f.toNat default) (yy c f) op arg)))::aB::aC::TT) R]) (aT::Rs) (Blk E #[.func (.func rx.may) #[] #[],.func (.func rx.does) #[] #[]] 130) (Yx D ZB)) (AF [Vl 0 (Ix E 1),Vl 1 (.func (.func rx.does) #[] #[]),Vl 2 (Ix b2 0),Vl 3 (dt0),Vl 4 (Iv f),Vl 5 (Ix (sb dt0) (so dt0+f.toNat*4)),Vl 6 (.agg ((t.fields.getD f.toNat default).cells aP).toArray),Vl 7 (d),Vl 8 (Iv f),Vl 9 (Iv arg),Vl 10 (.agg #[Iv ((t.fields.getD f.toNat default).kind),Iv ((t.fields.getD f.toNat default).policy),.bool ((t.fields.getD f.toNat default).floor),aP,d,Iv f,Iv arg]),fun _=>True]) [[],[0],[],[2],[],[2,3,4],[2,3,4,5],[],[],[],[2,3,4,5,6,7,8,9],(rg 11)] [11] [(0,0),(0,0),(0,0),(0,0),(0,0),(0,0),(0,0),(0,0),(0,0),(0,0),(0,0),(0,0)] (S.pt0 aJ) ⟨fun _ _ _ _ _ _ _=>obl rfl (zcT rfl dR),ob1 0 fun _ _ (ac:Sep _ _ _ _) ad=>obl rfl (lD (.func (.func rx.does) #[] #[]) Tryz.isAgg128 (ad 0 dc) (zd (ac.b0) rfl) dR),fun _ _ _ _ _ _ _=>obl rfl (yS rfl dR),ob1 0 fun _ _ (ae:Sep _ _ _ _) af=>obl rfl (lD dt0 nY (af 2 dc) (zd (ae.b3) rfl) dR),fun _ _ _ _ _ _ _=>obl rfl (mV (Iv f) dR),?_,?_,fun _ _ _ _ _ _ _=>obl rfl (mV d dR),fun _ _ _ _ _ _ _=>obl rfl (mV (Iv f) dR),fun _ _ _ _ _ _ _=>obl rfl (mV (Iv arg) dR),?_,?_,trivial⟩ ?_
 refine ob1 0 fun _ _ _ F=>(obl rfl ?_)
 have hi178:f.toNat<t.fields.length:=(by have T:=hak.1;have U:=hak.2.1;have V:=hak.2.2.1;omega)
 exact zr (k:=4) (i:=f) oY nR (F 3 dc) hdt0.sl (F 4 dc) ⟨by omega,by omega⟩ dR
 refine ob1 0 fun _ _ (ag:Sep _ _ _ _) ah=>(obl rfl ?_)
 have H:f.toNat<t.fields.length:=(by have T:=hak.1;have U:=hak.2.1;have V:=hak.2.2.1;omega)
 obtain⟨X,B,hoke187⟩:=hdt0.fldD H
 have Y:=ag.cells X (hdt0.foot (ne_of_lt H))
 exact zh pY nR rfl (ah 5 dc) Y dR
 exact fun _ _ _ _ _ _ p=>obl rfl (zL (parts':=[(0,.agg ((t.fields.getD f.toNat default).cells aP).toArray),(1,d),(2,Iv f),(3,Iv arg)]) (v:=.agg #[Iv ((t.fields.getD f.toNat default).kind),Iv ((t.fields.getD f.toNat default).policy),.bool ((t.fields.getD f.toNat default).floor),aP,d,Iv f,Iv arg]) (Zi ⟨rfl,(p 6 (by decide)),rfl,(p 7 (by decide)),rfl,(p 8 (by decide)),rfl,(p 9 (by decide)),trivial⟩) (by obtain⟨_,_,ai,_⟩:=A.1;rw[show d=Value.slice _ _ _ from ai];simp[Instr.build,Instr.fill,Ev.cells,go_sem,Mv.cells,Fld.cells,Typ.cells,Prj.cells,Dcl.cells,Cel.cells,AskR.cells]) dR)
 refine ob1 0 fun vals _ (aj:Sep _ _ _ _) I=>(obl rfl ?_)
 have J:=aj.mv2
 have K:f.toNat<t.fields.length:=(by have T:=hak.1;have U:=hak.2.1;have V:=hak.2.2.1;omega)
 obtain⟨Z,s,hoke128⟩:=hdt0.fldD K
 refine(zH (f:=rx.does) (vals:=[.agg #[Iv ((t.fields.getD f.toNat default).kind),Iv ((t.fields.getD f.toNat default).policy),.bool ((t.fields.getD f.toNat default).floor),aP,d,Iv f,Iv arg]]) (cap:=[]) (I 1 dc) (yE ⟨(I 10 dc),trivial⟩) (VF hop hrx).2 (D_rdo J (⟨hak.1,hak.2.2.1⟩) (hf) (harg) (hrx) (hop) (s) (⟨hak.2.2.2.1,fun h=>⟨(hak.2.2.2.2 h).1,(hak.2.2.2.2 h).2.1⟩⟩) (hfew)) ?_)
 rintro _ w132 ⟨rfl,ak⟩
 exact fun vals' hv hv'=>⟨(zx hv ak),trivial⟩
 intro vals aK al hA222
 obtain⟨he134,am⟩:=al
 refine zT (kv:=[(1,vc),(2,Iv f),(3,Iv op),(4,Iv arg),(5,Ix b2 0),(10,(Iz)),(11,d),(18,Iw m.length),(19,Iw k),(20,.bool false),(34,.map (some D)),(35,Iv op),(36,.tuple #[.agg #[.func (.func rx.may) #[] #[],.func (.func rx.does) #[] #[]],.bool true]),(33,.tuple #[.agg #[.func (.func rx.may) #[] #[],.func (.func rx.does) #[] #[]],.bool true]),(37,.agg #[.func (.func rx.may) #[] #[],.func (.func rx.does) #[] #[]]),(38,.bool true),(13,Ix E 0),(14,.bool true),(39,.bool true)]) sEv (fun ρw220=>(zb (za (R0 fun _=>st (mV d (st (aS d (zb (zk (zG nA rfl ?_))))))))))
 have an:Sep _ _ ((RowE (α:=Cel) own 140 d (c.set f.toNat (yZ (t.fields.getD f.toNat default) (yy c f) op arg)))::_) _:=CelW.row am
 have ao:Sep G W ((RowE (α:=Cel) own 140 d (doL t c f op arg))::(Blk E #[.func (.func rx.may) #[] #[],.func (.func rx.does) #[] #[]] 130)::(Yx D ZB)::aT::Rs) aK:=an
 refine⟨d,rfl,(ao.s4_a)⟩
 refine st (YH (α:=Rul) (zc:=[.nilFunc,.nilFunc]) qT lT sT rfl rfl (z.map_ (i:=0) rfl) (WE hop) (st (mV (.tuple #[.agg #[.nilFunc,.nilFunc],.bool false]) (st (zm (vs:=[.agg #[.nilFunc,.nilFunc],.bool false]) (i:=0) (v:=.agg #[.nilFunc,.nilFunc]) rfl rfl (st (zm (vs:=[.agg #[.nilFunc,.nilFunc],.bool false]) (i:=1) (v:=.bool false) rfl rfl (st (zq sT ?_)))))))))
 intro w229 aL ap
 have L:=z.new ap
 refine stn (zp (v:=.agg #[.nilFunc,.nilFunc]) (c':=#[.nilFunc,.nilFunc]) mR rfl rfl (L.b0) (zX ⟨rfl,rfl,trivial⟩) yqc rfl ?_)
 intro aM aq
 refine st (aS (.bool false) (zb (za (R0 fun _=>st (mV (.bool false) (zb (ze rfl (zl (za (R0 fun _=>st (mV d (st (aS d (zb (zk (zG nA rfl ?_))))))))))))))))
 have ar:Sep _ _ ((RowE (α:=Cel) own 140 d c)::_) _:=CelW.row ((L.pt0 aq).mv2)
 have au:Sep G W ((RowE (α:=Cel) own 140 d (doL t c f op arg))::(Blk aL #[.nilFunc,.nilFunc] 130)::(Yx (α:=Rul) D ZB)::(Blk b2 (t.cells dt0).toArray 74)::Rs) aM:=by rw[zar (by omega) hop];exact ar
 refine⟨d,rfl,(au.s4_a)⟩
 have y:=tD y
 refine zg rfl (zl (za (zn (za (R0 fun _=>st (mV (Iw k) (st (aS (Iw k) (zb (R0 fun _=>st (mV d (st (mV (Iw k) (st (mV vc (st (mV (Iw k) ?_)))))))))))))))))
 have av:k<c.length:=(by have T:=hak.1;have U:=hak.2.1;have V:=hak.2.2.1;omega)
 refine st (zj rT uT rfl hc.sl rfl av (st (xc rfl ?_)))
 have M:k<c.length:=(by have T:=hak.1;have U:=hak.2.1;have V:=hak.2.2.1;omega)
 obtain⟨aa,x,hoke239⟩:=hc.celD M
 have ab:=g.cells aa (hc.foot (ne_of_lt M))
 refine st (lD (zN W (sb vc) (so vc+k*2+1)) mT rfl (ab.get (j:=1) rfl) (st (cL Tryz.call82 (Zr x g) ?_)))
 rintro e w244 ⟨_,rfl,N⟩
 have q:=N.r0
 have aw:k<shk.length:=(by have T:=hak.1;have U:=hak.2.1;have V:=hak.2.2.1;omega)
 refine st (zj rT uT rfl A.1 rfl aw (st (xc rfl ?_)))
 have ax:=(N.mv1).emp1
 refine stn (yP (α:=CelS) (j:=k) (o:=1) (u:=e) (us:=[e]) (x1:=(⟨(shk.getD k default).n,e⟩:CelS)) ax wT bo rfl rfl (congrArg Array.toList (xy q.1.one)) (Nat.le_of_ble_eq_true rfl) (zX ⟨q.1.one,trivial⟩) (fun _ _ _ hel _=>(by rw[←zB default (by omega)]at hel;obtain⟨rfl,hok⟩:=hel;exact⟨rfl,⟨hok.n,q.1.one⟩⟩)) ?_)
 intro aN O
 have ay:=O.r0
 refine zb (R0 fun _=>?_)
 have az:InR ((k+1:Nat):Int):=bo
 refine st (zP (r:=((k+1:Nat):Int)) (k:=.i64) (a:=((k:Nat):Int)) (b:=1) rfl rfl (by rw[show(((k:Nat):Int)+1:Int)=((k+1:Nat):Int)from bo];exact zF az) (st (mV (Iw (k+1)) (zb ?_))))
 have P:Sep G W ((Star (SetRows 3 (shk.take k) (c.take k)++[(RowE (α:=Int) own 3 e ((c.getD k default).set))]))::(RowE (α:=CelS) own 140 d (shk.set k (⟨(shk.getD k default).n,e⟩:CelS)))::aT::Rs) aN:=(O.s4_bcad).snocStar
 rw[←SetRows.step (⟨(shk.getD k default).n,e⟩:CelS) hshl (by omega)]at P
 exact⟨_,by omega,k+1,shk.set k (⟨(shk.getD k default).n,e⟩:CelS),_,rfl,sSf,by omega,by rw[List.length_set];exact hshl,(zaP hshl hshn (by omega)),(P.mv1)⟩
end
end Go.Proofs.YtbcdijeggfoabaaGreatDoor
