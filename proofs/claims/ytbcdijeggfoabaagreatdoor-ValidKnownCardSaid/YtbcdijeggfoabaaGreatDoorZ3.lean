import Derived.Test.YtbcdijeggfoabaaGreatDoorZ2
import Derived.Shelf.Spec.SlicesInsertGrow
import Derived.Shelf.Slices.Delete
set_option maxRecDepth 8000
set_option maxHeartbeats 4000000
set_option linter.unusedSimpArgs false
set_option linter.unusedVariables false
set_option linter.unusedSectionVars false
set_option linter.deprecated false
open Go.Proofs.Tryz renaming isAgg3→kT,underlying3→lT,isAgg42→mT,isAgg135→nT,sizeOf135→oT,call102→pT,underlying132→qT,underlying75→rT,zeroValue130→sT,sizeOf3→tT,sizeOf140→uT,sizeOf143→vT,sizeOf42→wT,isAgg4→kR,underlying42→lR,sizeOf130→mR,sizeOf106→nR,isAgg75→oR,call126→pR,isAgg104→qR,underlying104→rR,results40→sR,zeroValue3→tR,func102→uR,results102→vR,results100→wR,results105→kY,call103→lY,call79→mY,isAgg72→nY,underlying72→oY,isAgg106→pY,underlying0→qY,isAgg0→rY,sizeOf0→sY,zeroValue0→tY,underlying4→uY,sizeOf4→vY,zeroValue4→wY,zeroValue42→kA,results106→lA,results107→mA,results61→nA
namespace Go.Proofs.YtbcdijeggfoabaaGreatDoor
variable {G:Nat→Prop}{W w:World}{Rs:List HP}
section
open Go.Proofs Go.RowKit
theorem yqc {a b:Nat}(h:Nat.ble a b=true:=by rfl):a≤b:=Nat.le_of_ble_eq_true h
theorem UC {a:AskR}{da0:Value}(hda0:RdS W G da0 a.fld.moves){da1:Value}(hda1:RdS W G da1 a.cls)(oa:a.Ok)(hS0:Sep G W Rs w)(hno:0≤a.no∧a.no<a.cls.length):Ret Tryz.prog 102 [.agg (a.cells da0 da1).toArray] w (fun r w'=>r=(.pointer (some ⟨sb da1,so da1+a.no.toNat*2,none⟩):Value)∧Sep G W Rs w'):=by
 refine zm uR rfl rfl ?_
 refine za (R0 fun _=>st (zT rfl ?_))
 intro w3 b2 c
 have b:=hS0.new c
 refine st (aS (.pointer none) (zb (za (R0 fun _=>st (UG rfl (st (lD da1 oR rfl (zd (b.b0) rfl) (st (Jp rfl (st (lD (Iv (a.no)) kT rfl (zd (b.b0) rfl) ?_)))))))))))
 refine st (zA rT uT rfl hda1.sl rfl ⟨by omega,by omega⟩ (st (aS (Ix (sb da1) (so da1+a.no.toNat*2)) (zb (zo (zN vR rfl ?_))))))
 refine⟨rfl,(b.s1_)⟩
theorem Ko {a:AskR}{da0:Value}(hda0:RdS W G da0 a.fld.moves){da1:Value}(hda1:RdS W G da1 a.cls)(oa:a.Ok)(hS0:Sep G W Rs w):Ret Tryz.prog 103 [.agg (a.cells da0 da1).toArray] w (fun r w'=>r=(.bool true:Value)∧Sep G W Rs w'):=by
 refine zm Tryz.func103 rfl rfl ?_
 refine za (R0 fun _=>st (zT rfl ?_))
 intro w3 b2 b
 refine st (aS (.bool false) (zb (za (R0 fun _=>st (aS (.bool true) (zb (zo (zN Tryz.results103 rfl ?_))))))))
 refine⟨rfl,((hS0.new b).s1_)⟩
theorem zbq {a:AskR}{da0:Value}(hda0:RdS W G da0 a.fld.moves){da1:Value}(hda1:RdS W G da1 a.cls)(oa:a.Ok)(hS0:Sep G W Rs w)(hno:0≤a.no∧a.no<a.cls.length):Ret Tryz.prog 100 [.agg (a.cells da0 da1).toArray] w (fun r w'=>r=(.bool (xO a.fld a.cls (yH a.cls a.no) 1 a.arg):Value)∧Sep G W Rs w'):=by
 let n:=(a.cls.gd a.no.toNat).n
 let ae:=IntKind.i64.wrap (n+a.arg)
 let ac:=decide (n<Zv (n+a.arg))== decide (0<a.arg)
 let ab:=decide ((IntKind.i64.wrap (n+a.arg))<0)
 let ad:=a.fld.floor&&ab
 refine zm Tryz.func100 rfl rfl ?_
 refine za (R0 fun _=>st (zT rfl ?_))
 intro w3 b2 aa
 have E:=hS0.new aa
 refine st (aS (.bool false) (zb (za (R0 fun _=>st (ze nT oT rfl rfl (zi (E.b0)) ?_)))))
 refine st (cL pT (UC (a:=a) hda0 hda1 oa E bo) ?_)
 rintro _ w5 ⟨rfl,e⟩
 refine st (zx rfl (st (xr rfl ?_)))
 have F:a.no.toNat<a.cls.length:=bo
 obtain⟨H,m,C⟩:=hda1.celD F
 have D:=e.cells H (hda1.foot (ne_of_lt F))
 refine st (lD (Iv n) kT rfl (D.get (j:=0) rfl) (st (aS (Iv n) (zb (za (zy kr (st (Zj rfl (st (lD (Iv (a.arg)) kT rfl (zd (e.b0) rfl) (st (zR rfl rfl (st (mV (.bool (decide (a.arg=0))) (stc (V:=Iv n) rfl rfl (fun I=>?_) ?_)))))))))))))))
 exact mV (Iv n) rflB
 refine stc (V:=Ix b2 6) rfl rfl (fun J=>?_) ?_
 exact Zj rfl rflB
 refine stc (V:=Iv (a.arg)) rfl rfl (fun p=>?_) ?_
 exact lD (Iv (a.arg)) kT (ifpC p) (zd (e.b0) rfl) rflB
 cases c:decide (a.arg=0)
 have f:=c
 have c:=fD c
 refine sty rfl rfl (cL Tryz.call125 (D_sum C.n oa.arg e) ?_)
 rintro _ w18 ⟨rfl,i⟩
 refine st (yb rfl rfl (st (mV (.bool ac) (stc (V:=Ix b2 0) rfl rfl (fun K=>?_) ?_))))
 have L:=K
 exact WD rfl rflB
 refine stc (V:=Ix b2 2) rfl rfl (fun q=>?_) ?_
 have M:=q
 exact WG (ifpC q) rflB
 refine stc (V:=.bool (a.fld.floor)) rfl rfl (fun s=>?_) ?_
 have N:=s
 exact lD (.bool (a.fld.floor)) kR (ifpC s) (zd (i.b0) rfl) rflB
 refine stc (V:=.bool (a.fld.floor)) rfl rfl (fun t=>?_) ?_
 have O:=t
 exact yg (ifpC t) rflB
 refine xn (V:=Iv n) rfl rfl (fun u=>?_) ?_
 have P:=u.1
 exact mV (Iv n) rflB
 refine xn (V:=Ix b2 6) rfl rfl (fun z=>?_) ?_
 have Q:=z.1
 exact Zj rfl rflB
 refine xn (V:=Iv (a.arg)) rfl rfl (fun g=>?_) ?_
 have R:=g.1
 exact lD (Iv (a.arg)) kT (ifpC ⟨g.1,g.2⟩) (zd (i.b0) rfl) rflB
 refine xn (V:=Iv ae) rfl rfl (fun d=>?_) ?_
 have S:=d.1
 exact zU (r:=IntKind.i64.wrap (n+a.arg)) (ifpC ⟨d.1,d.2⟩) (ifpC ⟨d.1,d.2⟩) rfl rflB
 refine xn (V:=.bool ab) rfl rfl (fun h=>?_) ?_
 have T:=h.1
 exact zI (ifpC ⟨h.1,h.2⟩) rfl rflB
 refine stc (V:=.bool ad) rfl rfl (fun l=>?_) ?_
 have U:=l
 exact zF (ifpC l) (fun hbp=>(ifpC ⟨l,hbp⟩)) rflB
 refine stc (V:=.bool (!ad)) rfl rfl (fun A=>?_) ?_
 have X:=A
 exact yw (ifpC A) rflB
 refine st (zF rfl (fun hbp=>(ifpC hbp)) (st (aS (.bool (ac&&(!ad))) (zb (zo (zN wR rfl ?_))))))
 refine⟨?_,(i.s1_)⟩
 unfold xO
 rw[ifpC rfl,f]
 rfl
 have f:=c
 have c:=tD c
 refine stx rfl rfl (st (yc rfl rfl (st (mV (.bool true) (sty rfl rfl (WD rfl (sty rfl rfl (WG rfl (sty rfl rfl (lD (.bool (a.fld.floor)) kR rfl (zd (e.b0) rfl) (sty rfl rfl (mV (.bool (a.fld.floor)) (stc (V:=Iv n) rfl rfl (fun hb48=>?_) ?_)))))))))))))
 exact mV (Iv n) rflB
 refine stc (V:=Ix b2 6) rfl rfl (fun hb50=>?_) ?_
 exact Zj rfl rflB
 refine stc (V:=Iv (a.arg)) rfl rfl (fun Y=>?_) ?_
 exact lD (Iv (a.arg)) kT (ifpC Y) (zd (e.b0) rfl) rflB
 refine stc (V:=Iv ae) rfl rfl (fun B=>?_) ?_
 exact zU (r:=IntKind.i64.wrap (n+a.arg)) (ifpC B) (ifpC B) rfl rflB
 refine stc (V:=.bool ab) rfl rfl (fun Z=>?_) ?_
 exact zI (ifpC Z) rfl rflB
 refine sty rfl rfl (zF rfl (fun hbp=>(ifpC hbp)) (sty rfl rfl (yw rfl (st (yc rfl rfl (st (aS (.bool (!ad)) (zb (zo (zN wR rfl ?_))))))))))
 refine⟨?_,(e.s1_)⟩
 unfold xO
 rw[ifpC rfl,f]
 rfl
theorem zck {a:AskR}{da0:Value}(hda0:RdS W G da0 a.fld.moves){da1:Value}(hda1:RdS W G da1 a.cls)(oa:a.Ok)(hS0:Sep G W Rs w)(hno:0≤a.no∧a.no<a.cls.length)(hasc:Asc (yH a.cls a.no).set):Ret Tryz.prog 105 [.agg (a.cells da0 da1).toArray] w (fun r w'=>r=(.bool (xO a.fld a.cls (yH a.cls a.no) 3 a.arg):Value)∧Sep G W Rs w'):=by
 let aE:=zV W (sb da1) (so da1+a.no.toNat*2+1)
 refine zm Tryz.func105 rfl rfl ?_
 refine za (R0 fun _=>st (zT rfl ?_))
 intro w3 b2 aD
 refine st (aS (.bool false) (zb (za ?_)))
 refine WD4 ((fun L=>WF [fun vals M=>Sep G W (L::Rs) M,fun vals M=>(vals 1=(Ix (sb da1) (so da1+a.no.toNat*2):Value))∧Sep G W (L::Rs) M,fun vals M=> ∃c,(vals 1=(Ix (sb da1) (so da1+a.no.toNat*2):Value))∧(vals 7=(.tuple #[Iw c,.bool (decide (a.arg∈((a.cls.gd a.no.toNat).set)))]:Value))∧(c≤((a.cls.gd a.no.toNat).set).length∧(∀q,q<c→((a.cls.gd a.no.toNat).set).getD q 0<a.arg)∧(∀q,c≤q→q<((a.cls.gd a.no.toNat).set).length→a.arg≤((a.cls.gd a.no.toNat).set).getD q 0))∧Sep G W (L::Rs) M]) (Blk b2 (a.cells da0 da1).toArray 135)) (AF [Vl 0 (.agg (a.cells da0 da1).toArray),fun _=>True,Vl 2 (Ix (sb da1) (so da1+a.no.toNat*2)),Vl 3 (Ix (sb da1) (so da1+a.no.toNat*2+1)),Vl 4 aE,Vl 5 (Ix b2 6),Vl 6 (Iv (a.arg)),fun _=>True,fun vals=> ∀(c:Nat),vals 7=(.tuple #[Iw c,.bool (decide (a.arg∈((a.cls.gd a.no.toNat).set)))]:Value)→vals 8=(.tuple #[Iw c,.bool (decide (a.arg∈((a.cls.gd a.no.toNat).set)))]:Value),fun vals=> ∀(c:Nat),vals 7=(.tuple #[Iw c,.bool (decide (a.arg∈((a.cls.gd a.no.toNat).set)))]:Value)→vals 9=(Iw c:Value),Vl 10 (.bool (decide (a.arg∈((a.cls.gd a.no.toNat).set)))),fun vals=> ∀(c:Nat),vals 7=(.tuple #[Iw c,.bool (decide (a.arg∈((a.cls.gd a.no.toNat).set)))]:Value)→vals 11=(Iw c:Value),Vl 12 (.bool (decide (a.arg∈((a.cls.gd a.no.toNat).set))))]) [[],[0],[0,1],[0,1,2],(rg 4),[],[5],(rg 7),(rg 8),(rg 9),(rg 9),(rg 10),(rg 12)] [1,7] [(0,0),(0,0),(1,1),(1,1),(1,1),(0,1),(0,1),(1,1),(2,2),(2,2),(2,2),(2,2),(2,2)] (hS0.new aD) ⟨ob1 0 fun _ _ (U:Sep _ _ _ _) _=>obl rfl (ze nT oT rfl rfl (zi (U.b0)) dR),?_,?_,fun _ _ _ _ _ _ X=>obl rfl (xl (X 2 dc) dR),?_,fun _ _ _ _ _ _ _=>obl rfl (Zj rfl dR),?_,?_,?_,?_,?_,?_,fun _ _ _ _ _ _ Y=>obl rfl (ya (Y 10 dc) dR),zj⟩ ?_ (hlocA:=xd ⟨dA,dT,dA,dA,dA,dA,dA,dT,fun vals m p h=>fun c e=>(p 8 (.inl rfl)).trans (h c ((p 7 (.inr dc)).symm.trans e)),fun vals m p h=>fun c e=>(p 9 (.inl rfl)).trans (h c ((p 7 (.inr dc)).symm.trans e)),dA,fun vals m p h=>fun c e=>(p 11 (.inl rfl)).trans (h c ((p 7 (.inr dc)).symm.trans e)),dA,zj⟩)
 refine ob1 0 fun vals _ (aq:Sep _ _ _ _) ar=>(obl rfl ?_)
 refine(zO (vals:=[.agg (a.cells da0 da1).toArray]) rfl (yK ⟨(ar 0 dc),zj⟩) pT (UC (a:=a) hda0 hda1 oa aq bo) ?_)
 rintro _ w20 ⟨rfl,au⟩
 exact fun m p u=>⟨(zG p au),zj⟩
 refine ob1 1 fun _ _ Z _=>?_
 obtain⟨g,hS132⟩:=Z
 exact obl rfl (zx g dR)
 refine ob1 1 fun _ _ aa ab=>?_
 obtain⟨g,ac⟩:=aa
 refine obl rfl ?_
 have E:a.no.toNat<a.cls.length:=bo
 obtain⟨N,D,hoke148⟩:=hda1.celD E
 have O:=ac.cells N (hda1.foot (ne_of_lt E))
 exact lD aE mT (ab 3 dc) (O.get (j:=1) rfl) dR
 refine fun B _ _ av aw F H=>?_
 have hkk:=xz av aw
 rcases hkk with rfl|rfl
 have ad:=F
 exact obl rfl (lD (Iv (a.arg)) kT (H 5 dc) (zd (ad.b0) rfl) dR)
 obtain⟨g,ae⟩:=F
 exact obl rfl (lD (Iv (a.arg)) kT (H 5 dc) (zd (ae.b0) rfl) dR)
 refine ob1 1 fun vals _ ax P=>?_
 obtain⟨g,Q⟩:=ax
 refine obl rfl ?_
 have R:a.no.toNat<a.cls.length:=bo
 obtain⟨af,A,hoke72⟩:=hda1.celD R
 refine(zO (vals:=[aE,Iv (a.arg)]) rfl (yK ⟨(P 4 dc),(P 6 dc),zj⟩) pR (XS A oa.arg Q hasc) ?_)
 rintro _ w78 ⟨c,rfl,s,ay⟩
 exact fun m p u=>⟨(exiA c (zG ((u 1 dc).trans g) (zG p (zG s ay)))),zj⟩
 refine ob1 2 fun _ _ ag _=>?_
 obtain⟨c,g,d,s,hS174⟩:=ag
 refine obl rfl (yg d (fun m p u=>⟨rfl,?_⟩))
 intro I e
 rw[u 7 (by decide)]at e;cases d.symm.trans e
 exact p
 refine ob1 2 fun vals _ ah ai=>?_
 obtain⟨c,g,d,s,hS181⟩:=ah
 have az:=ai 8 dc c d
 refine obl rfl (zl az rfl (fun m p u=>⟨rfl,?_⟩))
 intro I e
 rw[u 7 (by decide)]at e;cases d.symm.trans e
 exact p
 refine ob1 2 fun vals _ aj ak=>?_
 obtain⟨c,g,d,s,hS189⟩:=aj
 have aA:=ak 8 dc c d
 exact obl rfl (zl aA rfl dR)
 refine ob1 2 fun vals _ al am=>?_
 obtain⟨c,g,d,s,hS197⟩:=al
 have aB:=am 9 dc c d
 refine obl rfl (ya aB (fun m p u=>⟨rfl,?_⟩))
 intro I e
 rw[u 7 (by decide)]at e;cases d.symm.trans e
 exact p
 intro vals w206 an ao
 obtain⟨c,g,d,s,C⟩:=an
 have aC:=ao 12 dc
 refine yd (kv:=[(0,.agg (a.cells da0 da1).toArray),(1,Ix b2 0),(2,.bool false),(4,.bool (decide (a.arg∈((a.cls.gd a.no.toNat).set))))]) ⟨rfl,rfl,rfl,(by exact aC),zj⟩ (fun ρw206=>(zb (za (zy kr (st (mV (.bool (decide (a.arg∈((a.cls.gd a.no.toNat).set)))) (st (mV (.bool (decide (a.arg∈((a.cls.gd a.no.toNat).set)))) (stc (V:=.agg (a.cells da0 da1).toArray) rfl rfl (fun ap=>?_) ?_)))))))))
 exact ze nT oT rfl rfl (zi (C.b0)) rflB
 cases t:decide (a.arg∈((a.cls.gd a.no.toNat).set))
 have y:=t
 have t:=fD t
 refine sty rfl rfl (cL pT (UC (a:=a) hda0 hda1 oa C bo) ?_)
 rintro _ w214 ⟨rfl,J⟩
 refine sty rfl rfl (zx rfl (sty rfl rfl (xl rfl ?_)))
 have K:a.no.toNat<a.cls.length:=bo
 obtain⟨S,z,hoke216⟩:=hda1.celD K
 have T:=J.cells S (hda1.foot (ne_of_lt K))
 refine sty rfl rfl (lD aE mT rfl (T.get (j:=1) rfl) (sty rfl rfl (zS lR rfl z.sl (sty rfl rfl (zI rfl rfl (st (yb rfl rfl (st (aS (.bool (decide (((((a.cls.gd a.no.toNat).set).length:Nat):Int)<64))) (zb (zo (zN kY (show _=(.bool (decide (((((a.cls.gd a.no.toNat).set).length:Nat):Int)<64)):Value)from rfl) ?_))))))))))))
 refine⟨?_,(J.s1_)⟩
 unfold xO
 rw[ifnC (by decide),ifpC rfl,show decide (a.arg∈(yH a.cls a.no).set)=_ from y]
 rfl
 have y:=t
 have t:=tD t
 refine stx rfl rfl (stx rfl rfl (stx rfl rfl (stx rfl rfl (stx rfl rfl (stx rfl rfl (st (yc rfl rfl (st (aS (.bool true) (zb (zo (zN kY rfl ?_))))))))))))
 refine⟨?_,(C.s1_)⟩
 unfold xO
 rw[ifnC (by decide),ifpC rfl,show decide (a.arg∈(yH a.cls a.no).set)=_ from y]
 rfl
theorem JT {a:AskR}{da0:Value}(hda0:RdS W G da0 a.fld.moves){da1:Value}(hda1:RdS W G da1 a.cls)(oa:a.Ok)(hS0:Sep G W Rs w)(hno:0≤a.no∧a.no<a.cls.length)(hmv:0≤a.arg∧a.arg<a.fld.moves.length)(hnd:(Yk a.fld a.arg).need<0∨(Yk a.fld a.arg).need<a.cls.length):Ret Tryz.prog 108 [.agg (a.cells da0 da1).toArray] w (fun r w'=>r=(.bool (xO a.fld a.cls (yH a.cls a.no) 5 a.arg):Value)∧Sep G W Rs w'):=by
 let n:=(a.fld.moves.gd a.arg.toNat).cells
 have hda0s:_*32≤_:=hda0.small
 have hda1s:_*32≤_:=hda1.small
 have hnd1:(a.fld.moves.gd a.arg.toNat).need<0∨(a.fld.moves.gd a.arg.toNat).need<a.cls.length:=hnd
 refine zm Tryz.func108 rfl rfl ?_
 refine za (R0 fun _=>st (zT rfl ?_))
 intro w3 b2 ba
 have L:=hS0.new ba
 refine st (aS (.bool false) (zb (za (R0 fun _=>st (WD rfl (st (yQ rfl (st (lD da0 qR rfl (zd (L.b0) rfl) (st (Zj rfl (st (lD (Iv (a.arg)) kT rfl (zd (L.b0) rfl) ?_)))))))))))))
 have hi5:a.arg.toNat<a.fld.moves.length:=bo
 refine st (zA rR vT rfl hda0.sl rfl ⟨by omega,by omega⟩ ?_)
 have aN:a.arg.toNat<a.fld.moves.length:=bo
 obtain⟨aP,hoke6⟩:=hda0.mvD aN
 have aQ:=L.cells aP (hda0.foot (ne_of_lt aN))
 refine st (ze Tryz.isAgg143 vT rfl rfl aQ (st (zv Tryz.zeroValue143 ?_)))
 intro w11 D bb
 have ab:=L.new bb
 refine stn (zr (v:=.agg n.toArray) vT rfl rfl (ab.b0) (zZ ⟨rfl,rfl,rfl,rfl,zj⟩) yqc rfl ?_)
 intro w13 aR
 refine zb (za ?_)
 refine WD4 ((fun TT aO=>WF [fun vals wq=>Sep G W (aO::TT) wq,fun vals wq=>(vals 1=(Ix (sb da1) (so da1+a.no.toNat*2):Value))∧Sep G W (aO::TT) wq]) ((Blk b2 (a.cells da0 da1).toArray 135)::Rs) (Blk D n.toArray 143)) (AF [Vl 0 (.agg (a.cells da0 da1).toArray),fun _=>True,Vl 2 (Ix (sb da1) (so da1+a.no.toNat*2)),Vl 3 (Ix (sb da1) (so da1+a.no.toNat*2)),Vl 4 (Iv ((a.cls.gd a.no.toNat).n)),Vl 5 (Ix D 0),Vl 6 (Iv ((a.fld.moves.gd a.arg.toNat).frm)),Vl 7 (.bool (decide (((a.cls.gd a.no.toNat).n)=((a.fld.moves.gd a.arg.toNat).frm)))),Vl 8 (.bool (decide (((a.cls.gd a.no.toNat).n)=((a.fld.moves.gd a.arg.toNat).frm)))),Vl 9 (if(decide (((a.cls.gd a.no.toNat).n)=((a.fld.moves.gd a.arg.toNat).frm)))=true then Ix D 2 else undef),Vl 10 (if(decide (((a.cls.gd a.no.toNat).n)=((a.fld.moves.gd a.arg.toNat).frm)))=true then Iv ((a.fld.moves.gd a.arg.toNat).need)else undef),Vl 11 (if(decide (((a.cls.gd a.no.toNat).n)=((a.fld.moves.gd a.arg.toNat).frm)))=true then .bool (decide (((a.fld.moves.gd a.arg.toNat).need)<0))else undef),Vl 12 (if(decide (((a.cls.gd a.no.toNat).n)=((a.fld.moves.gd a.arg.toNat).frm)))=true then .bool (decide (((a.fld.moves.gd a.arg.toNat).need)<0))else undef),Vl 13 (if((decide (((a.cls.gd a.no.toNat).n)=((a.fld.moves.gd a.arg.toNat).frm)))=true)∧(decide (((a.fld.moves.gd a.arg.toNat).need)<0))=false then Ix b2 4 else undef),Vl 14 (if((decide (((a.cls.gd a.no.toNat).n)=((a.fld.moves.gd a.arg.toNat).frm)))=true)∧(decide (((a.fld.moves.gd a.arg.toNat).need)<0))=false then da1 else undef),Vl 15 (if((decide (((a.cls.gd a.no.toNat).n)=((a.fld.moves.gd a.arg.toNat).frm)))=true)∧(decide (((a.fld.moves.gd a.arg.toNat).need)<0))=false then Ix D 2 else undef),Vl 16 (if((decide (((a.cls.gd a.no.toNat).n)=((a.fld.moves.gd a.arg.toNat).frm)))=true)∧(decide (((a.fld.moves.gd a.arg.toNat).need)<0))=false then Iv ((a.fld.moves.gd a.arg.toNat).need)else undef),Vl 17 (if((decide (((a.cls.gd a.no.toNat).n)=((a.fld.moves.gd a.arg.toNat).frm)))=true)∧(decide (((a.fld.moves.gd a.arg.toNat).need)<0))=false then Ix (sb da1) (so da1+(((a.fld.moves.gd a.arg.toNat).need).toNat)*2)else undef),Vl 18 (if((decide (((a.cls.gd a.no.toNat).n)=((a.fld.moves.gd a.arg.toNat).frm)))=true)∧(decide (((a.fld.moves.gd a.arg.toNat).need)<0))=false then Ix (sb da1) (so da1+(((a.fld.moves.gd a.arg.toNat).need).toNat)*2)else undef),Vl 19 (if((decide (((a.cls.gd a.no.toNat).n)=((a.fld.moves.gd a.arg.toNat).frm)))=true)∧(decide (((a.fld.moves.gd a.arg.toNat).need)<0))=false then Iv ((a.cls.gd (((a.fld.moves.gd a.arg.toNat).need).toNat)).n)else undef),Vl 20 (if((decide (((a.cls.gd a.no.toNat).n)=((a.fld.moves.gd a.arg.toNat).frm)))=true)∧(decide (((a.fld.moves.gd a.arg.toNat).need)<0))=false then Ix D 3 else undef),Vl 21 (if((decide (((a.cls.gd a.no.toNat).n)=((a.fld.moves.gd a.arg.toNat).frm)))=true)∧(decide (((a.fld.moves.gd a.arg.toNat).need)<0))=false then Iv ((a.fld.moves.gd a.arg.toNat).least)else undef),Vl 22 (if((decide (((a.cls.gd a.no.toNat).n)=((a.fld.moves.gd a.arg.toNat).frm)))=true)∧(decide (((a.fld.moves.gd a.arg.toNat).need)<0))=false then .bool (decide (((a.fld.moves.gd a.arg.toNat).least)≤((a.cls.gd (((a.fld.moves.gd a.arg.toNat).need).toNat)).n)))else undef),Vl 23 (if(decide (((a.cls.gd a.no.toNat).n)=((a.fld.moves.gd a.arg.toNat).frm)))=true then .bool ((decide (((a.fld.moves.gd a.arg.toNat).need)<0))||(decide (((a.fld.moves.gd a.arg.toNat).least)≤((a.cls.gd (((a.fld.moves.gd a.arg.toNat).need).toNat)).n))))else undef),Vl 24 (.bool ((decide (((a.cls.gd a.no.toNat).n)=((a.fld.moves.gd a.arg.toNat).frm)))&&((decide (((a.fld.moves.gd a.arg.toNat).need)<0))||(decide (((a.fld.moves.gd a.arg.toNat).least)≤((a.cls.gd (((a.fld.moves.gd a.arg.toNat).need).toNat)).n)))))),Vl 25 (.bool ((decide (((a.cls.gd a.no.toNat).n)=((a.fld.moves.gd a.arg.toNat).frm)))&&((decide (((a.fld.moves.gd a.arg.toNat).need)<0))||(decide (((a.fld.moves.gd a.arg.toNat).least)≤((a.cls.gd (((a.fld.moves.gd a.arg.toNat).need).toNat)).n))))))]) [[],[0],[0,1],[0,1,2],(rg 4),[],[5],(rg 7),(rg 8),(rg 9),(rg 10),(rg 11),(rg 12),(rg 13),(rg 14),(rg 13),[0,1,2,3,4,5,6,7,8,9,10,11,12,15],(rg 17),(rg 18),(rg 19),(rg 13),[0,1,2,3,4,5,6,7,8,9,10,11,12,20],(rg 22),(rg 23),(rg 24),(rg 25)] [1] [(0,0),(0,0),(1,1),(1,1),(1,1),(0,1),(0,1),(1,1),(1,1),(1,1),(1,1),(1,1),(1,1),(1,1),(1,1),(1,1),(1,1),(1,1),(1,1),(1,1),(1,1),(1,1),(1,1),(1,1),(1,1),(1,1)] (ab.pt0 aR) ⟨ob1 0 fun _ _ (ag:Sep _ _ _ _) _=>obl rfl (ze nT oT rfl rfl (zi (ag.b1)) dR),?_,?_,fun _ _ _ _ _ _ ah=>obl rfl (xr (ah 2 dc) dR),?_,fun _ _ _ _ _ _ _=>obl rfl (UY rfl dR),?_,?_,fun _ _ _ _ _ _ ai=>obl rfl (yg (ai 7 dc) dR),?_,?_,?_,?_,?_,?_,?_,?_,?_,?_,?_,?_,?_,?_,?_,?_,fun _ _ _ _ _ _ aj=>obl rfl (ya (aj 24 dc) dR),zj⟩ ?_
 refine ob1 0 fun vals _ (aU:Sep _ _ _ _) aV=>(obl rfl ?_)
 refine(zO (vals:=[.agg (a.cells da0 da1).toArray]) rfl (yK ⟨(aV 0 dc),zj⟩) pT (UC (a:=a) hda0 hda1 oa aU bo) ?_)
 rintro _ w31 ⟨rfl,aW⟩
 exact fun c d hv'=>⟨(zG d aW),zj⟩
 refine ob1 1 fun _ _ ak _=>?_
 obtain⟨e,hS290⟩:=ak
 exact obl rfl (zx e dR)
 refine ob1 1 fun _ _ al am=>?_
 obtain⟨e,an⟩:=al
 refine obl rfl ?_
 have M:a.no.toNat<a.cls.length:=bo
 obtain⟨ac,J,hoke306⟩:=hda1.celD M
 have hsm308:((a.cls.gd a.no.toNat).set).length*8≤140737488355328:=J.small
 have ad:=an.cells ac (hda1.foot (ne_of_lt M))
 exact lD (Iv ((a.cls.gd a.no.toNat).n)) kT (am 3 dc) (ad.get (j:=0) rfl) dR
 refine fun E _ _ aX aY N O=>?_
 have hkk:=xz aX aY
 rcases hkk with rfl|rfl
 have ao:=N
 exact obl rfl (lD (Iv ((a.fld.moves.gd a.arg.toNat).frm)) kT (O 5 dc) (zd (ao.b0) rfl) dR)
 obtain⟨e,ap⟩:=N
 exact obl rfl (lD (Iv ((a.fld.moves.gd a.arg.toNat).frm)) kT (O 5 dc) (zd (ap.b0) rfl) dR)
 refine ob1 1 fun _ _ aq P=>?_
 obtain⟨e,hS332⟩:=aq
 exact obl rfl (zR (P 4 dc) (P 6 dc) dR)
 refine fun _ _ _ _ _ _ ar=>(yq rfl rfl (ar 8 dc) (fun C=>?_) yD)
 have hl350:=tD C
 exact Yw rfl (yC C)
 refine ob1 1 fun _ _ au Q=>?_
 obtain⟨e,av⟩:=au
 refine yq rfl rfl (Q 8 dc) (fun u=>?_) yD
 have hl361:=tD u
 exact lD (Iv ((a.fld.moves.gd a.arg.toNat).need)) kT (zH (Q 9 dc) (ifpC u)) (zd (av.b0) rfl) (yC u)
 refine ob1 1 fun _ _ aw R=>?_
 obtain⟨e,hS368⟩:=aw
 refine yq rfl rfl (R 8 dc) (fun x=>?_) yD
 have hl372:=tD x
 exact zI (zH (R 10 dc) (ifpC x)) rfl (yC x)
 refine fun _ _ _ _ _ _ S=>(yq rfl rfl (S 8 dc) (fun y=>?_) yD)
 have hl382:=tD y
 exact yg (zH (S 11 dc) (ifpC y)) (yC y)
 refine fun _ _ _ _ _ _ ax=>(Zf rfl rfl (ax 12 dc) (fun z=>?_) yD)
 have hl391:=tD z.1
 have hl392:=fD z.2
 exact UG rfl (yC z)
 refine ob1 1 fun _ _ ay T=>?_
 obtain⟨e,az⟩:=ay
 refine Zf rfl rfl (T 12 dc) (fun l=>?_) yD
 have hl403:=tD l.1
 have hl404:=fD l.2
 exact lD da1 oR (zH (T 13 dc) (ifpC ⟨l.1,l.2⟩)) (zd (az.b1) rfl) (yC l)
 refine fun _ _ _ _ _ _ aA=>(Zf rfl rfl (aA 12 dc) (fun A=>?_) yD)
 have hl413:=tD A.1
 have hl414:=fD A.2
 exact Yw rfl (yC A)
 refine ob1 1 fun _ _ aB U=>?_
 obtain⟨e,aC⟩:=aB
 refine Zf rfl rfl (U 12 dc) (fun m=>?_) yD
 have hl425:=tD m.1
 have hl426:=fD m.2
 exact lD (Iv ((a.fld.moves.gd a.arg.toNat).need)) kT (zH (U 15 dc) (ifpC ⟨m.1,m.2⟩)) (zd (aC.b0) rfl) (yC m)
 refine ob1 1 fun _ _ aD F=>?_
 obtain⟨e,hS433⟩:=aD
 refine Zf rfl rfl (F 12 dc) (fun g=>?_) yD
 have hl438:=tD g.1
 have hl439:=fD g.2
 have hi440:((a.fld.moves.gd a.arg.toNat).need).toNat<a.cls.length:=bo
 exact zA (k:=2) (i:=(a.fld.moves.gd a.arg.toNat).need) rT uT (zH (F 14 dc) (ifpC ⟨g.1,g.2⟩)) hda1.sl (zH (F 16 dc) (ifpC ⟨g.1,g.2⟩)) ⟨by omega,by omega⟩ (yC g)
 refine fun _ _ _ _ _ _ V=>(Zf rfl rfl (V 12 dc) (fun p=>?_) yD)
 exact xr (zH (V 17 dc) (ifpC ⟨p.1,p.2⟩)) (yC p)
 refine ob1 1 fun _ _ aE X=>?_
 obtain⟨e,aF⟩:=aE
 refine Zf rfl rfl (X 12 dc) (fun q=>?_) yD
 have Y:((a.fld.moves.gd a.arg.toNat).need).toNat<a.cls.length:=bo
 obtain⟨ae,K,hoke464⟩:=hda1.celD Y
 have af:=aF.cells ae (hda1.foot (ne_of_lt Y))
 exact lD (Iv ((a.cls.gd (((a.fld.moves.gd a.arg.toNat).need).toNat)).n)) kT (zH (X 18 dc) (ifpC ⟨q.1,q.2⟩)) (af.get (j:=0) rfl) (yC q)
 refine fun _ _ _ _ _ _ aG=>(Zf rfl rfl (aG 12 dc) (fun B=>?_) yD)
 exact UO rfl (yC B)
 refine ob1 1 fun _ _ aH Z=>?_
 obtain⟨e,aI⟩:=aH
 refine Zf rfl rfl (Z 12 dc) (fun s=>?_) yD
 exact lD (Iv ((a.fld.moves.gd a.arg.toNat).least)) kT (zH (Z 20 dc) (ifpC ⟨s.1,s.2⟩)) (zd (aI.b0) rfl) (yC s)
 refine ob1 1 fun _ _ aJ H=>?_
 obtain⟨e,hS496⟩:=aJ
 refine Zf rfl rfl (H 12 dc) (fun h=>?_) yD
 exact xh (zH (H 19 dc) (ifpC ⟨h.1,h.2⟩)) (zH (H 21 dc) (ifpC ⟨h.1,h.2⟩)) (yC h)
 refine fun _ _ _ _ _ _ I=>(yq rfl rfl (I 8 dc) (fun t=>?_) yD)
 exact zz (zH (I 12 dc) (ifpC t)) (fun hbp=>(zH (I 22 dc) (ifpC ⟨t,hbp⟩))) (yC t)
 exact fun _ _ _ _ _ _ aa=>obl rfl (zF (aa 8 dc) (fun hbp=>(zH (aa 23 dc) (ifpC hbp))) dR)
 intro vals w529 aK aL
 obtain⟨e,aM⟩:=aK
 have aZ:=aL 25 dc
 refine yd (kv:=[(0,.agg (a.cells da0 da1).toArray),(1,Ix b2 0),(2,.bool ((decide (((a.cls.gd a.no.toNat).n)=((a.fld.moves.gd a.arg.toNat).frm)))&&((decide (((a.fld.moves.gd a.arg.toNat).need)<0))||(decide (((a.fld.moves.gd a.arg.toNat).least)≤((a.cls.gd (((a.fld.moves.gd a.arg.toNat).need).toNat)).n)))))),(4,Ix b2 0),(5,Ix b2 3),(6,da0),(7,Ix b2 6),(8,Iv (a.arg)),(9,Ix (sb da0) (so da0+a.arg.toNat*4)),(10,.agg ((a.fld.moves.gd a.arg.toNat).cells).toArray),(3,Ix D 0)]) ⟨rfl,rfl,(by exact aZ),rfl,rfl,rfl,rfl,rfl,rfl,rfl,rfl,zj⟩ (fun ρw529=>(zb (zo ?_)))
 refine zN Tryz.results108 rfl ?_
 refine⟨?_,(aM.s2_)⟩
 unfold xO
 rw[ifnC (by decide),ifnC (by decide),ifpC rfl]
 rfl
abbrev YR:=And.intro (@Ev.cells.eq_1) (And.intro (@Mv.cells.eq_1) (And.intro (@Fld.cells.eq_1) (And.intro (@Typ.cells.eq_1) (And.intro (@Prj.cells.eq_1) (And.intro (@Dcl.cells.eq_1) (And.intro (@Cel.cells.eq_1) (@AskR.cells.eq_1)))))))
theorem yqd {α:Sort _}{a:α}{X:Prop}(h:a≠a):X:=absurd rfl h
structure Rul where
 may:Nat
 does:Nat
instance:Rep Rul where
 k:=2
 rd _ _ cs x:=cs=[.func (.func x.may) #[] #[],.func (.func x.does) #[] #[]]
 bytes:=16
 bpos:=by decide
 kpos:=by decide
 len h:=by rw[h];rfl
 one h:=by rw[h];exact zZ ⟨rfl,rfl,trivial⟩
 mono h _:=h
instance:Flat Rul:=⟨fun h=>h⟩
def Yc:List (Int×Rul):=[(1,⟨100,101⟩),(2,⟨103,104⟩),(3,⟨105,106⟩),(4,⟨103,107⟩),(5,⟨108,109⟩)]
theorem Vr {op:Int}(h:op≠1∧op≠2∧op≠3∧op≠4∧op≠5):Ya Yc op=none:=by
 unfold Ya
 rw[Option.map_eq_none_iff,List.find?_eq_none]
 intro p hp
 simp only[Yc,List.mem_cons,List.not_mem_nil,or_false]at hp
 rcases hp with rfl|rfl|rfl|rfl|rfl<;>simp<;>omega
theorem JO (hS0:Sep G W Rs w):Ret Tryz.prog 79 [] w (fun r w'=> ∃(m:Nat),r=(.map (some m):Value)∧Sep G W ((YX (α:=Rul) m Yc)::Rs) w'):=by
 refine zm Tryz.func79 rfl rfl ?_
 refine za (R0 fun _=>st (aS (.map none) (zb (za (R0 fun _=>st (Yz ?_))))))
 intro D x
 obtain⟨a,l⟩: ∃z,z=w.heap.size:=⟨_,rfl⟩;rw[←l]
 have n:Sep G W ((YX (α:=Rul) a [])::Rs) D:=(by rw[l];exact hS0.mapNew x)
 refine st (zQ (parts':=[(0,.func (.func 100) #[] #[]),(1,.func (.func 101) #[] #[])]) (v:=.agg #[.func (.func 100) #[] #[],.func (.func 101) #[] #[]]) rfl (by simp+zetaDelta [Instr.build,Instr.fill,go_sem,YR]) (stn (Yi (α:=Rul) (x1:=(⟨100,101⟩:Rul)) qT lT rfl rfl rfl (by decide) (n.map_ (i:=0) rfl) rfl (fun h=>h) ?_)))
 intro E y p
 have o:Sep G W ((YX (α:=Rul) a (ZN ([]:List (Int×Rul)) 1 (⟨100,101⟩:Rul)))::Rs) E:=n.mapPut (i:=0) rfl y p
 refine st (zQ (parts':=[(0,.func (.func 103) #[] #[]),(1,.func (.func 104) #[] #[])]) (v:=.agg #[.func (.func 103) #[] #[],.func (.func 104) #[] #[]]) rfl (by simp+zetaDelta [Instr.build,Instr.fill,go_sem,YR]) (stn (Yi (α:=Rul) (x1:=(⟨103,104⟩:Rul)) qT lT rfl rfl rfl (by decide) (o.map_ (i:=0) rfl) rfl (fun h=>h) ?_)))
 intro H q f
 have b:Sep G W ((YX (α:=Rul) a (ZN (ZN ([]:List (Int×Rul)) 1 (⟨100,101⟩:Rul)) 2 (⟨103,104⟩:Rul)))::Rs) H:=o.mapPut (i:=0) rfl q f
 refine st (zQ (parts':=[(0,.func (.func 105) #[] #[]),(1,.func (.func 106) #[] #[])]) (v:=.agg #[.func (.func 105) #[] #[],.func (.func 106) #[] #[]]) rfl (by simp+zetaDelta [Instr.build,Instr.fill,go_sem,YR]) (stn (Yi (α:=Rul) (x1:=(⟨105,106⟩:Rul)) qT lT rfl rfl rfl (by decide) (b.map_ (i:=0) rfl) rfl (fun h=>h) ?_)))
 intro A s g
 have c:Sep G W ((YX (α:=Rul) a (ZN (ZN (ZN ([]:List (Int×Rul)) 1 (⟨100,101⟩:Rul)) 2 (⟨103,104⟩:Rul)) 3 (⟨105,106⟩:Rul)))::Rs) A:=b.mapPut (i:=0) rfl s g
 refine st (zQ (parts':=[(0,.func (.func 103) #[] #[]),(1,.func (.func 107) #[] #[])]) (v:=.agg #[.func (.func 103) #[] #[],.func (.func 107) #[] #[]]) rfl (by simp+zetaDelta [Instr.build,Instr.fill,go_sem,YR]) (stn (Yi (α:=Rul) (x1:=(⟨103,107⟩:Rul)) qT lT rfl rfl rfl (by decide) (c.map_ (i:=0) rfl) rfl (fun h=>h) ?_)))
 intro B t j
 have d:Sep G W ((YX (α:=Rul) a (ZN (ZN (ZN (ZN ([]:List (Int×Rul)) 1 (⟨100,101⟩:Rul)) 2 (⟨103,104⟩:Rul)) 3 (⟨105,106⟩:Rul)) 4 (⟨103,107⟩:Rul)))::Rs) B:=c.mapPut (i:=0) rfl t j
 refine st (zQ (parts':=[(0,.func (.func 108) #[] #[]),(1,.func (.func 109) #[] #[])]) (v:=.agg #[.func (.func 108) #[] #[],.func (.func 109) #[] #[]]) rfl (by simp+zetaDelta [Instr.build,Instr.fill,go_sem,YR]) (stn (Yi (α:=Rul) (x1:=(⟨108,109⟩:Rul)) qT lT rfl rfl rfl (by decide) (d.map_ (i:=0) rfl) rfl (fun h=>h) ?_)))
 intro C u k
 have e:Sep G W ((YX (α:=Rul) a (ZN (ZN (ZN (ZN (ZN ([]:List (Int×Rul)) 1 (⟨100,101⟩:Rul)) 2 (⟨103,104⟩:Rul)) 3 (⟨105,106⟩:Rul)) 4 (⟨103,107⟩:Rul)) 5 (⟨108,109⟩:Rul)))::Rs) C:=d.mapPut (i:=0) rfl u k
 refine st (mV (.map (some a)) (st (aS (.map (some a)) (zb (zo (zN Tryz.results79 rfl ?_))))))
 have hz:ZN (ZN (ZN (ZN (ZN ([]:List (Int×Rul)) 1 (⟨100,101⟩:Rul)) 2 (⟨103,104⟩:Rul)) 3 (⟨105,106⟩:Rul)) 4 (⟨103,107⟩:Rul)) 5 (⟨108,109⟩:Rul)=Yc:=rfl
 rw[hz]at e
 refine⟨a,rfl,e⟩
theorem Ug {op:Int}(h:op=1∨op=2∨op=3∨op=4∨op=5): ∃x,Ya Yc op=some x:=by rcases h with rfl|rfl|rfl|rfl|rfl<;>exact⟨_,rfl⟩
theorem Ur {op:Int}{x:Rul}(h:op=1∨op=2∨op=3∨op=4∨op=5)(hx:Ya Yc op=some x):(∀args w,(callFunc x.may args).run Tryz.prog w=.ok (.enter x.may args) w)∧(∀args w,(callFunc x.does args).run Tryz.prog w=.ok (.enter x.does args) w):=by
 rcases h with rfl|rfl|rfl|rfl|rfl<;>cases hx
 ·exact⟨Tryz.call100,Tryz.call101⟩
 ·exact⟨lY,Tryz.call104⟩
 ·exact⟨Tryz.call105,Tryz.call106⟩
 ·exact⟨lY,Tryz.call107⟩
 ·exact⟨Tryz.call108,Tryz.call109⟩
theorem zeq {op:Int}{x:Rul}{a:AskR}{da0:Value}(hda0:RdS W G da0 a.fld.moves){da1:Value}(hda1:RdS W G da1 a.cls)(oa:a.Ok)(hS0:Sep G W Rs w)(hx:Ya Yc op=some x)(hop:op=1∨op=2∨op=3∨op=4∨op=5)(hak:0≤a.no∧a.no<a.cls.length∧((op=3∨op=4)→Asc (yH a.cls a.no).set)∧(op=5→0≤a.arg∧a.arg<a.fld.moves.length∧((Yk a.fld a.arg).need<0∨(Yk a.fld a.arg).need<a.cls.length))):Ret Tryz.prog x.may [.agg (a.cells da0 da1).toArray] w (fun r w'=>r=(.bool (xO a.fld a.cls (yH a.cls a.no) op a.arg):Value)∧Sep G W Rs w'):=by
 rcases hop with rfl|rfl|rfl|rfl|rfl<;>cases hx
 ·exact zbq hda0 hda1 oa hS0 ⟨hak.1,hak.2.1⟩
 ·exact Ko hda0 hda1 oa hS0
 ·exact zck hda0 hda1 oa hS0 ⟨hak.1,hak.2.1⟩ (hak.2.2.1 (.inl rfl))
 ·exact Ko hda0 hda1 oa hS0
 ·exact JT hda0 hda1 oa hS0 ⟨hak.1,hak.2.1⟩ ⟨(hak.2.2.2 rfl).1,(hak.2.2.2 rfl).2.1⟩ (hak.2.2.2 rfl).2.2
set_option maxHeartbeats 4000000 in
theorem zdR {t:Typ}{dt0:Value}(hdt0:RdS W G dt0 t.fields)(ot:t.Ok){vc:Value}{c:List Cel}(hc:RdS W G vc c){f:Int}(hf:InR f){op:Int}(hop:InR op){arg:Int}(harg:InR arg)(hS0:Sep G W Rs w)(hak:YU t c f op arg):Ret Tryz.prog 40 [.agg (t.cells dt0).toArray,vc,.int .i64 (f),.int .i64 (op),.int .i64 (arg)] w (fun r w'=>r=(.int .i64 (yN t c f op arg):Value)∧Sep G W Rs w'):=by
 have hdt0s:_*48≤_:=hdt0.small
 have hcs:_*32≤_:=hc.small
 have hf0:=hak.1;have hf1:=hak.2.1;have hf2:=hak.2.2.1
 refine zm Tryz.func40 rfl rfl ?_
 refine za (R0 fun _=>st (zT rfl ?_))
 intro w3 b2 aM
 refine st (aS (Iv 0) (zb (za (za (R0 fun _=>st (cL mY (JO (hS0.new aM)) ?_))))))
 rintro _ w6 ⟨Q,rfl,A⟩
 refine st (mV (Iv op) ?_)
 have hops:(op=1∨op=2∨op=3∨op=4∨op=5)∨(op≠1∧op≠2∧op≠3∧op≠4∧op≠5):=by omega
 rcases hops with hop|hop
 obtain⟨rx,hrx⟩:=Ug hop
 refine st (Xm (α:=Rul) (a:=rx) qT lT rfl rfl (A.map_ (i:=0) rfl) hrx ?_)
 rintro _ rfl
 refine st (mV (.tuple #[.agg #[.func (.func rx.may) #[] #[],.func (.func rx.does) #[] #[]],.bool true]) (st (zl rfl rfl (st (zl rfl rfl (st (zv sT ?_)))))))
 intro w10 b9 aN
 have R:=A.new aN
 refine stn (zr (v:=.agg #[.func (.func rx.may) #[] #[],.func (.func rx.does) #[] #[]]) mR rfl rfl (R.b0) (zZ ⟨rfl,rfl,zj⟩) yqc rfl ?_)
 intro w12 aF
 refine st (aS (.bool true) (zb (za ?_)))
 refine WD4 ((fun TT s=>WF [fun vals u=>Sep G W (s::TT) u,fun vals u=>(vals 13=(.bool (xO (⟨((t.fields.gd f.toNat)),c,f,arg⟩:AskR).fld (⟨((t.fields.gd f.toNat)),c,f,arg⟩:AskR).cls (yH (⟨((t.fields.gd f.toNat)),c,f,arg⟩:AskR).cls (⟨((t.fields.gd f.toNat)),c,f,arg⟩:AskR).no) op (⟨((t.fields.gd f.toNat)),c,f,arg⟩:AskR).arg):Value))∧Sep G W (s::TT) u]) ((YX Q Yc)::(Blk b2 (t.cells dt0).toArray 74)::Rs) (Blk b9 #[.func (.func rx.may) #[] #[],.func (.func rx.does) #[] #[]] 130)) (AF [Vl 0 (.bool true),Vl 1 (.bool true),Vl 2 (Ix b9 0),Vl 3 (.func (.func rx.may) #[] #[]),Vl 4 (Ix b2 0),Vl 5 dt0,Vl 6 (Iv f),Vl 7 (Ix (sb dt0) (so dt0+f.toNat*4)),Vl 8 (.agg ((t.fields.gd f.toNat).cells (zV W (sb dt0) (so dt0+f.toNat*4+3))).toArray),Vl 9 vc,Vl 10 (Iv f),Vl 11 (Iv arg),Vl 12 (.agg ((⟨((t.fields.gd f.toNat)),c,f,arg⟩:AskR).cells (zV W (sb dt0) (so dt0+f.toNat*4+3)) vc).toArray),fun _=>True,Vl 14 (.bool (!(xO (⟨((t.fields.gd f.toNat)),c,f,arg⟩:AskR).fld (⟨((t.fields.gd f.toNat)),c,f,arg⟩:AskR).cls (yH (⟨((t.fields.gd f.toNat)),c,f,arg⟩:AskR).cls (⟨((t.fields.gd f.toNat)),c,f,arg⟩:AskR).no) op (⟨((t.fields.gd f.toNat)),c,f,arg⟩:AskR).arg))),Vl 15 (.bool (!(xO (⟨((t.fields.gd f.toNat)),c,f,arg⟩:AskR).fld (⟨((t.fields.gd f.toNat)),c,f,arg⟩:AskR).cls (yH (⟨((t.fields.gd f.toNat)),c,f,arg⟩:AskR).cls (⟨((t.fields.gd f.toNat)),c,f,arg⟩:AskR).no) op (⟨((t.fields.gd f.toNat)),c,f,arg⟩:AskR).arg)))]) [[],[0],[0,1],[0,1,2],[0,1],[0,1,4],[0,1],[0,1,4,5,6],[0,1,4,5,6,7],[0,1],[0,1],[0,1],[0,1,4,5,6,7,8,9,10,11],(rg 13),(rg 14),(rg 15)] [13] [(0,0),(0,0),(0,0),(0,0),(0,0),(0,0),(0,0),(0,0),(0,0),(0,0),(0,0),(0,0),(0,0),(0,0),(1,1),(1,1)] (R.pt0 aF) ⟨fun _ _ _ _ _ _ _=>obl rfl (mV (.bool true) dR),fun _ _ _ _ _ _ V=>obl rfl (yg (V 0 dc) dR),?_,?_,?_,?_,?_,?_,?_,?_,?_,?_,?_,?_,?_,fun _ _ _ _ _ _ B=>obl rfl (yc (B 1 dc) (B 14 dc) dR),zj⟩ ?_
 refine fun _ _ _ _ _ _ X=>(yq rfl rfl (X 1 dc) (fun _=>?_) yqd)
 exact zdG rfl dR
 refine ob1 0 fun _ _ (Y:Sep _ _ _ _) C=>(yq rfl rfl (C 1 dc) (fun _=>?_) yqd)
 exact lD (.func (.func rx.may) #[] #[]) Tryz.isAgg127 (C 2 dc) (zd (Y.b0) rfl) dR
 refine fun _ _ _ _ _ _ Z=>(yq rfl rfl (Z 1 dc) (fun _=>?_) yqd)
 exact xi rfl dR
 refine ob1 0 fun _ _ (aa:Sep _ _ _ _) D=>(yq rfl rfl (D 1 dc) (fun _=>?_) yqd)
 exact lD dt0 nY (D 4 dc) (zd (aa.b2) rfl) dR
 refine fun _ _ _ _ _ _ ab=>(yq rfl rfl (ab 1 dc) (fun _=>?_) yqd)
 exact mV (Iv f) dR
 refine ob1 0 fun _ _ _ n=>(yq rfl rfl (n 1 dc) (fun _=>?_) yqd)
 have hi224:f.toNat<t.fields.length:=(by have h1:=hak.1;have h2:=hak.2.1;have h3:=hak.2.2.1;omega)
 exact zA (k:=4) (i:=f) oY nR (n 5 dc) hdt0.sl (n 6 dc) ⟨by omega,by omega⟩ dR
 refine ob1 0 fun _ _ (ac:Sep _ _ _ _) E=>(yq rfl rfl (E 1 dc) (fun _=>?_) yqd)
 have F:f.toNat<t.fields.length:=(by have h1:=hak.1;have h2:=hak.2.1;have h3:=hak.2.2.1;omega)
 obtain⟨S,x,hoke234⟩:=hdt0.fldD F
 have hsm236:((t.fields.gd f.toNat).moves).length*32≤140737488355328:=x.small
 have T:=ac.cells S (hdt0.foot (ne_of_lt F))
 exact ze pY nR rfl (E 7 dc) T dR
 refine fun _ _ _ _ _ _ ad=>(yq rfl rfl (ad 1 dc) (fun _=>?_) yqd)
 exact mV vc dR
 refine fun _ _ _ _ _ _ ae=>(yq rfl rfl (ae 1 dc) (fun _=>?_) yqd)
 exact mV (Iv f) dR
 refine fun _ _ _ _ _ _ af=>(yq rfl rfl (af 1 dc) (fun _=>?_) yqd)
 exact mV (Iv arg) dR
 refine fun _ _ _ _ _ _ e=>(yq rfl rfl (e 1 dc) (fun _=>?_) yqd)
 have ag:f.toNat<t.fields.length:=(by have h1:=hak.1;have h2:=hak.2.1;have h3:=hak.2.2.1;omega)
 obtain⟨hce270,y,l⟩:=hdt0.fldD ag
 have hsm272:((t.fields.gd f.toNat).moves).length*32≤140737488355328:=y.small
 have ok273:AskR.Ok (⟨((t.fields.gd f.toNat)),c,f,arg⟩:AskR):=⟨⟨(show InR ((t.fields.gd f.toNat).kind)from l.kind),(show InR ((t.fields.gd f.toNat).policy)from l.policy)⟩,(show InR (f)from om),(show InR (arg)from om)⟩
 exact zQ (parts':=[(0,.agg ((t.fields.getD f.toNat default).cells (zV W (sb dt0) (so dt0+f.toNat*4+3))).toArray),(1,vc),(2,Iv f),(3,Iv arg)]) (v:=.agg ((⟨((t.fields.getD f.toNat default)),c,f,arg⟩:AskR).cells (zV W (sb dt0) (so dt0+f.toNat*4+3)) vc).toArray) (ZH ⟨rfl,(e 8 (by decide)),rfl,(e 9 (by decide)),rfl,(e 10 (by decide)),rfl,(e 11 (by decide)),zj⟩) (by obtain⟨_,_,ah,_⟩:=hc.sl;rw[show vc=Value.slice _ _ _ from ah];simp[Instr.build,Instr.fill,go_sem,YR]) dR
 refine ob1 0 fun vals _ (H:Sep _ _ _ _) o=>(yq rfl rfl (o 1 dc) (fun _=>?_) yqd)
 have I:f.toNat<t.fields.length:=(by have h1:=hak.1;have h2:=hak.2.1;have h3:=hak.2.2.1;omega)
 obtain⟨U,j,m⟩:=hdt0.fldD I
 have hsm140:((t.fields.gd f.toNat).moves).length*32≤140737488355328:=j.small
 have hcw141:=H.cells U (hdt0.foot (ne_of_lt I))
 have ai:AskR.Ok (⟨((t.fields.gd f.toNat)),c,f,arg⟩:AskR):=⟨⟨(show InR ((t.fields.gd f.toNat).kind)from m.kind),(show InR ((t.fields.gd f.toNat).policy)from m.policy)⟩,(show InR (f)from om),(show InR (arg)from om)⟩
 refine(zO (vals:=[.agg ((⟨((t.fields.gd f.toNat)),c,f,arg⟩:AskR).cells (zV W (sb dt0) (so dt0+f.toNat*4+3)) vc).toArray]) (o 3 dc) (yK ⟨(o 12 dc),zj⟩) (Ur hop hrx).1 (zeq j hc ai H hrx hop (⟨hak.1,hak.2.2.1,hak.2.2.2.1,hak.2.2.2.2⟩)) ?_)
 rintro _ w143 ⟨rfl,aj⟩
 exact fun b d aO=>⟨(zG d aj),zj⟩
 refine ob1 1 fun _ _ ak al=>?_
 obtain⟨J,hS281⟩:=ak
 refine yq rfl rfl (al 1 dc) (fun _=>?_) yqd
 exact yw J dR
 intro vals w291 am an
 obtain⟨J,K⟩:=am
 have aJ:=an 15 dc
 refine yd (kv:=[(0,.agg (t.cells dt0).toArray),(1,vc),(2,Iv f),(3,Iv op),(4,Iv arg),(5,Ix b2 0),(10,Iv 0),(14,.map (some Q)),(15,Iv op),(16,.tuple #[.agg #[.func (.func rx.may) #[] #[],.func (.func rx.does) #[] #[]],.bool true]),(13,.tuple #[.agg #[.func (.func rx.may) #[] #[],.func (.func rx.does) #[] #[]],.bool true]),(17,.agg #[.func (.func rx.may) #[] #[],.func (.func rx.does) #[] #[]]),(18,.bool true),(11,Ix b9 0),(12,.bool true),(34,.bool (!(xO (⟨((t.fields.gd f.toNat)),c,f,arg⟩:AskR).fld (⟨((t.fields.gd f.toNat)),c,f,arg⟩:AskR).cls (yH (⟨((t.fields.gd f.toNat)),c,f,arg⟩:AskR).cls (⟨((t.fields.gd f.toNat)),c,f,arg⟩:AskR).no) op (⟨((t.fields.gd f.toNat)),c,f,arg⟩:AskR).arg)))]) ⟨rfl,rfl,rfl,rfl,rfl,rfl,rfl,rfl,rfl,rfl,rfl,rfl,rfl,rfl,rfl,(by exact aJ),zj⟩ (fun ρw291=>(zb ?_))
 cases h: !(xO (⟨((t.fields.gd f.toNat)),c,f,arg⟩:AskR).fld (⟨((t.fields.gd f.toNat)),c,f,arg⟩:AskR).cls (yH (⟨((t.fields.gd f.toNat)),c,f,arg⟩:AskR).cls (⟨((t.fields.gd f.toNat)),c,f,arg⟩:AskR).no) op (⟨((t.fields.gd f.toNat)),c,f,arg⟩:AskR).arg)
 try simp only[zh]at h
 refine zf rfl (zp (za (R0 fun _=>st (aS (Iv 0) (zb (zo (zN sR (show _=(Iv 0:Value)from rfl) ?_)))))))
 refine⟨?_,(K.s3_)⟩
 have hm:xO (xC t f) c (yH c f) op arg=true:=h
 unfold yN
 rw[hm]
 rfl
 try simp only[zh]at h
 refine zg rfl (za (R0 fun _=>st (aS (Iv 10) (zb (zo (zN sR (show _=(Iv 10:Value)from rfl) ?_))))))
 refine⟨?_,(K.s3_)⟩
 have hm:xO (xC t f) c (yH c f) op arg=false:=h
 unfold yN
 rw[hm]
 rfl
 refine st (Xi (α:=Rul) (zc:=[.nilFunc,.nilFunc]) qT lT sT rfl rfl (A.map_ (i:=0) rfl) (Vr hop) (st (mV (.tuple #[.agg #[.nilFunc,.nilFunc],.bool false]) (st (zl rfl rfl (st (zl rfl rfl (st (zv sT ?_)))))))))
 intro w301 z ao
 have L:=A.new ao
 refine stn (zr (v:=.agg #[.nilFunc,.nilFunc]) mR rfl rfl (L.b0) (zZ ⟨rfl,rfl,zj⟩) yqc rfl ?_)
 intro w303 ap
 refine st (aS (.bool false) (zb (za (WD4 ((fun TT s=>WF [fun vals u=>Sep G W (s::TT) u,fun vals u=>Sep G W (s::TT) u]) ((YX (α:=Rul) Q Yc)::(Blk b2 (t.cells dt0).toArray 74)::Rs) (Blk z #[.nilFunc,.nilFunc] 130)) (AF [Vl 0 (.bool false),Vl 1 (.bool false),Vl 2 undef,Vl 3 undef,Vl 4 undef,Vl 5 undef,Vl 6 undef,Vl 7 undef,Vl 8 undef,Vl 9 undef,Vl 10 undef,Vl 11 undef,Vl 12 undef,fun _=>True,Vl 14 undef,Vl 15 (.bool false)]) [[],[0],[0,1],[0,1,2],[0,1],[0,1,4],[0,1],[0,1,4,5,6],[0,1,4,5,6,7],[0,1],[0,1],[0,1],[0,1,4,5,6,7,8,9,10,11],(rg 13),(rg 14),(rg 15)] [13] [(0,0),(0,0),(0,0),(0,0),(0,0),(0,0),(0,0),(0,0),(0,0),(0,0),(0,0),(0,0),(0,0),(0,0),(1,1),(1,1)] (L.pt0 ap) ⟨fun _ _ _ _ _ _ _=>obl rfl (mV (.bool false) dR),fun _ _ _ _ _ _ aq=>obl rfl (yg (aq 0 dc) dR),?_,?_,?_,?_,?_,?_,?_,?_,?_,?_,?_,?_,?_,?_,zj⟩ ?_))))
 exact fun _ _ _ _ _ _ ar=>(yq rfl rfl (ar 1 dc) (fun hb=>absurd hb dc) (fun _ b d _=>⟨zj,d⟩))
 refine ob1 0 fun _ _ _ M=>?_
 exact yq rfl rfl (M 1 dc) (fun hb=>absurd hb dc) (fun _ b d _=>⟨zj,d⟩)
 exact fun _ _ _ _ _ _ au=>(yq rfl rfl (au 1 dc) (fun hb=>absurd hb dc) (fun _ b d _=>⟨zj,d⟩))
 refine ob1 0 fun _ _ _ N=>?_
 exact yq rfl rfl (N 1 dc) (fun hb=>absurd hb dc) (fun _ b d _=>⟨zj,d⟩)
 exact fun _ _ _ _ _ _ av=>(yq rfl rfl (av 1 dc) (fun hb=>absurd hb dc) (fun _ b d _=>⟨zj,d⟩))
 refine ob1 0 fun _ _ _ p=>?_
 exact yq rfl rfl (p 1 dc) (fun hb=>absurd hb dc) (fun _ b d _=>⟨zj,d⟩)
 refine ob1 0 fun _ _ _ O=>?_
 exact yq rfl rfl (O 1 dc) (fun hb=>absurd hb dc) (fun _ b d _=>⟨zj,d⟩)
 exact fun _ _ _ _ _ _ aw=>(yq rfl rfl (aw 1 dc) (fun hb=>absurd hb dc) (fun _ b d _=>⟨zj,d⟩))
 exact fun _ _ _ _ _ _ ax=>(yq rfl rfl (ax 1 dc) (fun hb=>absurd hb dc) (fun _ b d _=>⟨zj,d⟩))
 exact fun _ _ _ _ _ _ ay=>(yq rfl rfl (ay 1 dc) (fun hb=>absurd hb dc) (fun _ b d _=>⟨zj,d⟩))
 refine fun _ _ _ _ _ _ g=>?_
 exact yq rfl rfl (g 1 dc) (fun hb=>absurd hb dc) (fun _ b d _=>⟨zj,d⟩)
 refine ob1 0 fun _ aK (az:Sep _ _ _ _) q=>?_
 refine yq rfl rfl (q 1 dc) (fun hb=>absurd hb dc) (fun _ b d aO=>?_)
 refine⟨?_,zj⟩
 show Sep G W ((Blk z #[.nilFunc,.nilFunc] 130)::(YX (α:=Rul) Q Yc)::(Blk b2 (t.cells dt0).toArray 74)::Rs) aK
 exact az
 exact ob1 1 fun _ _ _ aA=>(yq rfl rfl (aA 1 dc) (fun hb=>absurd hb dc) (fun _ b d _=>⟨zj,d⟩))
 refine fun _ _ _ _ _ _ P=>?_
 exact obl rfl (yb (P 1 dc) rfl dR)
 intro vals w554 aB aC
 have aD:=aB
 have aL:=aC 15 dc
 refine yd (kv:=[(0,.agg (t.cells dt0).toArray),(1,vc),(2,Iv f),(3,Iv op),(4,Iv arg),(5,Ix b2 0),(10,Iv 0),(14,.map (some Q)),(15,Iv op),(16,.tuple #[.agg #[.nilFunc,.nilFunc],.bool false]),(13,.tuple #[.agg #[.nilFunc,.nilFunc],.bool false]),(17,.agg #[.nilFunc,.nilFunc]),(18,.bool false),(11,Ix z 0),(12,.bool false),(34,.bool false)]) ⟨rfl,rfl,rfl,rfl,rfl,rfl,rfl,rfl,rfl,rfl,rfl,rfl,rfl,rfl,rfl,(by exact aL),zj⟩ (fun ρw554=>(zb (zf rfl (zp (za (R0 fun _=>st (aS (Iv 0) (zb (zo (zN sR rfl ?_))))))))))
 refine⟨?_,(aD.s3_)⟩
 have hm:xO (xC t f) c (yH c f) op arg=true:=by unfold xO;rw[ifnC hop.1,ifnC hop.2.2.1,ifnC hop.2.2.2.2]
 unfold yN
 rw[hm]
 rfl
end
section
open Go.Proofs Go.Shelf
def zcn:Go.Shelf.Ren:=⟨fun|21=>127|27=>146|28=>147|35=>155|39=>157|23=>128|n=>n,fun|0=>0|3=>3|4=>4|22=>42|n=>n,fun|n=>n⟩
theorem zeh:Go.Proofs.Lays2.n21 Tryz.prog zcn:={
 mixed:=by kernel_rfl,
 f21:=Tryz.func127.trans (congrArg some (by kernel_rfl)),
 f27:=Tryz.func146.trans (congrArg some (by kernel_rfl)),
 f28:=Tryz.func147.trans (congrArg some (by kernel_rfl)),
 f35:=Tryz.func155.trans (congrArg some (by kernel_rfl)),
 f39:=Tryz.func157.trans (congrArg some (by kernel_rfl)),
 t0:=qY,
 a0:=rY,
 z0:=sY,
 v0:=tY,
 t3:=lT,
 a3:=kT,
 z3:=tT,
 v3:=tR,
 t4:=uY,
 a4:=kR,
 z4:=vY,
 v4:=wY,
 t22:=lR,
 a22:=mT,
 z22:=wT,
 v22:=kA,
 i3:=by kernel_rfl
}
theorem zec:Go.Proofs.Lays2.n23 Tryz.prog zcn:={
 mixed:=by kernel_rfl,
 f23:=Tryz.func128.trans (congrArg some (by kernel_rfl)),
 t0:=qY,
 a0:=rY,
 z0:=sY,
 v0:=tY,
 t3:=lT,
 a3:=kT,
 z3:=tT,
 v3:=tR,
 t4:=uY,
 a4:=kR,
 z4:=vY,
 v4:=wY,
 t22:=lR,
 a22:=mT,
 z22:=wT,
 v22:=kA,
 i3:=by kernel_rfl
}
end
section
open Go.RowKit Go.Sort
structure Wr (w w':World) (b:Nat) (c':List Value) (T:TypeId):Prop where
 at_: ∃a:Array Value,a.toList=c'∧w'.heap[b]? =some (.cells a T)
 other: ∀i,i≠b→w'.heap[i]? =w.heap[i]?
 size:w'.heap.size=w.heap.size
 os:w'.os=w.os
 tape:w'.tape=w.tape
 output:w'.output=w.output
 drawn:w.drawn≤w'.drawn
theorem Wr.trans {w1 w2 w3:World}{b:Nat}{c c':List Value}{T:TypeId}(h:Wr w1 w2 b c T)(k:Wr w2 w3 b c' T):Wr w1 w3 b c' T:=
 ⟨k.at_,fun i hi=>(k.other i hi).trans (h.other i hi),k.size.trans h.size,k.os.trans h.os,k.tape.trans h.tape,k.output.trans h.output,Nat.le_trans h.drawn k.drawn⟩
theorem Wr.drew {w:World}{b:Nat}{a:Array Value}{T:TypeId}(h:w.heap[b]? =some (.cells a T)):Wr w w.drew b a.toList T:=⟨⟨a,rfl,h⟩,fun _ _=>rfl,rfl,rfl,rfl,rfl,Nat.le_succ _⟩
theorem Wr.ahead {w:World}{b q:Nat}{a:Array Value}{T:TypeId}(h:w.heap[b]? =some (.cells a T)):Wr w (Sort.ahead w q) b a.toList T:=⟨⟨a,rfl,h⟩,fun _ _=>rfl,rfl,rfl,rfl,rfl,Nat.le_add_right _ _⟩
theorem Wr.chg {w w':World}{b:Nat}{c:List Value}{T:TypeId}(h:Wr w w' b c T){c0:Array Value}(h0:w.heap[b]? =some (.cells c0 T)):Chg (fun i=>i=b) w w':=
 ⟨h.os,h.tape,h.output,Nat.le_of_eq h.size.symm,fun i _ hne=>h.other i hne,fun i ⟨a,t,hi⟩=>by
  by_cases e:i=b
  ·subst e;obtain⟨z,_,hz⟩:=h.at_;exact⟨z,T,hz⟩
  ·exact⟨a,t,by rw[h.other i e];exact hi⟩,h.drawn⟩
theorem KF {w:World}{b o:Nat}{a:Array Value}{T:TypeId}(h:w.heap[b]? =some (.cells a T))(v:Value):Wr w (w.setCell ⟨b,o,none⟩ v) b (a.toList.set o v) T:=by
 refine⟨⟨a.setIfInBounds o v,by simp,?_⟩,fun i hi=>?_,by simp[World.setCell],rfl,rfl,rfl,Nat.le_refl _⟩
 ·simp[World.setCell,Array.getElem?_modify,h]
 ·simp only[World.setCell,Array.getElem?_modify];rw[if_neg (fun e=>hi e.symm)]
def zcE (c:List Value)(o:Nat):List Value→List Value
 |[]=>c
 |v::vs=>zcE (c.set o v) (o+1) vs
theorem Zo {b:Nat}{T:TypeId}: ∀(vs:List Value) (o:Nat) (w:World) (a:Array Value),w.heap[b]? =some (.cells a T)→Wr w (w.setCells b o vs) b (zcE a.toList o vs) T
 |[],_,w,a,h=>⟨⟨a,rfl,h⟩,fun _ _=>rfl,rfl,rfl,rfl,rfl,Nat.le_refl _⟩
 |v::vs,o,w,a,h=>by
  have h1:=KF (o:=o) h v
  obtain⟨a1,e1,h2⟩:=h1.at_
  have h3:=Zo vs (o+1) _ a1 h2
  rw[e1]at h3
  exact h1.trans h3
theorem Xe: ∀(vs:List Value) (o:Nat) (c:List Value),o+vs.length≤c.length→zcE c o vs=c.take o++vs++c.drop (o+vs.length)
 |[],o,c,_=>by simp[zcE]
 |v::vs,o,c,h=>by
  simp only[List.length_cons]at h
  rw[zcE,Xe vs (o+1) (c.set o v) (by simp;omega)]
  have e1:(c.set o v).take (o+1)=c.take o++[v]:=by
   rw[List.take_set,List.take_succ_eq_append_getElem (by omega),List.set_append_right _ _ (by simp;omega),List.length_take,Nat.min_eq_left (by omega),Nat.sub_self];rfl
  have e2:(c.set o v).drop (o+1+vs.length)=c.drop (o+1+vs.length):=by rw[List.drop_set_of_lt (by omega)]
  rw[e1,e2,List.length_cons,show o+1+vs.length=o+(vs.length+1) by omega]
  simp only[List.append_assoc,List.cons_append,List.nil_append]
section
variable {G:Nat→Prop}{W w:World}{Rs:List HP}{Ti:TypeId}{v:Value}{l:List Int}
def yY (l:List Int):List Value:=l.map fun x=>Value.int .i64 x
theorem VZ {q:List Value→Int→Prop}(hq: ∀cs x,q cs x→cs=[.int .i64 x]): ∀{css:List (List Value)} {l:List Int},EP q css l→css.flatten=yY l
 |[],[],_=>rfl
 |_::_,_::_,h=>by rw[List.flatten_cons,hq _ _ h.1,VZ hq h.2];rfl
 |[],_::_,h=>h.elim
 |_::_,[],h=>h.elim
theorem Jb {q:List Value→Int→Prop}: ∀{l:List Int},(∀x∈l,q [.int .i64 x] x)→EP q (l.map fun x=>[Value.int .i64 x]) l
 |[],_=>trivial
 |x::l,h=>⟨h x (by simp),Jb (fun y hy=>h y (by simp[hy]))⟩
theorem XE (l:List Int):(l.map fun x=>[Value.int .i64 x]).flatten=yY l:=by
 induction l with
 |nil=>rfl
 |cons x l ih=>simp[yY]at*;exact ih
theorem Sep.intRow (h:Sep G W (RowE (α:=Int) own Ti v l::Rs) w):(∀x∈l,InR x)∧l.length*8≤140737488355328∧((v=.slice none 0 0∧l=[])∨ ∃g cap cur,v=.slice (some ⟨g,0,none⟩) l.length cap∧w.heap[g]? =some (.cells cur Ti)∧l.length≤cap∧cap≤maxLen∧cur.size=cap∧cur.toList.take l.length=yY l∧
 ∀w' v' (l':List Int) cur',Wr w w' g cur' Ti→v'=.slice (some ⟨g,0,none⟩) l'.length cap→l'.length≤cap→cur'.length=cap→cur'.take l'.length=yY l'→(∀x∈l',InR x)→l'.length*8≤140737488355328→Sep G W (RowE (α:=Int) own Ti v' l'::Rs) w'):=by
 obtain⟨f,hA,hl,hT⟩:=h.take (i:=0) rfl
 obtain⟨css,hE,hown,hrow,hsm⟩:=hA
 have hin: ∀x∈l,InR x:=by
  intro x hx
  obtain⟨i,hi,rfl⟩:=List.getElem_of_mem hx
  exact(EP.at2 hE i (by rw[hE.length];exact hi) hi).2
 refine⟨hin,hsm,?_⟩
 have hcf:css.flatten=yY l:=VZ (fun cs x h=>h.1) hE
 rcases hown.2 with⟨rfl,h0⟩|⟨g,cap,cur,rfl,hg,hb,hn,hm,hs,ht⟩
 ·exact .inl ⟨rfl,List.length_eq_zero_iff.1 h0⟩
 ·have hk:Rep.k Int=1:=rfl
  rw[hk,Nat.mul_one]at hs ht
  refine .inr ⟨g,cap,cur,rfl,hb,hn,hm,hs,by rw[ht,hcf],fun w' v' l' cur' hw hv' hl' hc' ht' hin' hsm'=>?_⟩
  obtain⟨a,ha,hat⟩:=hw.at_
  refine hT w' _ f ((hw.chg hb).weak (fun i _ hi=>by subst hi;exact hrow _ rfl)) ⟨l'.map fun x=>[Value.int .i64 x],Jb (fun x hx=>⟨rfl,hin' x hx⟩),⟨by rw[XE];simp[yY,hk],.inr ⟨g,cap,a,hv',hg,hat,hl',hm,?_,?_⟩⟩,fun b hb'=>?_,hsm'⟩ (fun _ h=>.inl h)
  ·rw[hk,Nat.mul_one,←hc',←ha];simp
  ·rw[hk,Nat.mul_one,XE,←ht',←ha]
  ·subst hv';exact hrow b hb'
theorem Sep.intNew (h:Sep G W Rs w){w':World}{cap:Nat}{cur':List Value}{l':List Int}{c0:Array Value}{w1:World}(hn:New w w1 w.heap.size (.cells c0 Ti))(hw:Wr w1 w' w.heap.size cur' Ti)(hl':l'.length≤cap)(hc':cur'.length=cap)(hm:cap≤maxLen)(ht':cur'.take l'.length=yY l')(hin': ∀x∈l',InR x)(hsm':l'.length*8≤140737488355328):
 Sep G W (RowE (α:=Int) own Ti (.slice (some ⟨w.heap.size,0,none⟩) l'.length cap) l'::Rs) w':=by
 obtain⟨a,ha,hat⟩:=hw.at_
 have hk:Rep.k Int=1:=rfl
 have hx:Ext w w':=hn.ext.new (hw.chg hn.at_) (fun i hi e=>by omega)
 refine h.push hx (f:=fun b=>b=w.heap.size) ⟨l'.map fun x=>[Value.int .i64 x],Jb (fun x hx=>⟨rfl,hin' x hx⟩),⟨by rw[XE];simp[yY,hk],.inr ⟨w.heap.size,cap,a,rfl,Nat.zero_le _,hat,hl',hm,?_,?_⟩⟩,fun b hb'=>?_,hsm'⟩ (fun b h=>by omega)
 ·rw[hk,Nat.mul_one,←hc',←ha];simp
 ·rw[hk,Nat.mul_one,XE,←ht',←ha]
 ·simp only[Value.ownBlock,Option.some.injEq]at hb';exact hb'.symm
theorem Sep.intNew' (h:Sep G W Rs w){w':World}{cap:Nat}{l':List Int}{c0:Array Value}(hn:New w w' w.heap.size (.cells c0 Ti))(hl':l'.length≤cap)(hc':c0.toList.length=cap)(hm:cap≤maxLen)(ht':c0.toList.take l'.length=yY l')(hin': ∀x∈l',InR x)(hsm':l'.length*8≤140737488355328):
 Sep G W (RowE (α:=Int) own Ti (.slice (some ⟨w.heap.size,0,none⟩) l'.length cap) l'::Rs) w':=
 h.intNew hn ⟨⟨c0,rfl,hn.at_⟩,fun _ _=>rfl,rfl,rfl,rfl,rfl,Nat.le_refl _⟩ hl' hc' hm ht' hin' hsm'
theorem Js {w:World}{b o:Nat}{a:Array Value}{T:TypeId}{u:Value}(h:w.heap[b]? =some (.cells a T))(hu:a.toList[o]? =some u):w.cell? ⟨b,o,none⟩=some u:=ZC h (by simpa using hu)
theorem Kt (l:List Int): ∀u∈yY l,u.oneCell'=true:=by
 intro u hu;simp only[yY,List.mem_map]at hu;obtain⟨x,_,rfl⟩:=hu;rfl
theorem zaQ (a b:List Int):yY (a++b)=yY a++yY b:=by simp[yY]
theorem yS (a:List Int):(yY a).length=a.length:=by simp[yY]
theorem zbM (n:Nat):(Builtin.zeroCells (Value.int .i64 0).cells n).toList.length=n:=by simp[Builtin.zeroCells,Value.cells]
theorem KG (w:World)(o:Obj):New w (w.alloc o) w.heap.size o:=New.mk' w o
theorem zat (w:World)(o:Obj):New w (w.drew.alloc o) w.heap.size o:=
 have h:New w.drew (w.drew.alloc o) w.heap.size o:=New.mk' w.drew o
 ⟨Chg.trans (QL (w0:=w.drew) rfl rfl rfl ⟨rfl,Nat.le_succ _⟩) h.ext,h.eq,h.size,h.at_⟩
set_option maxHeartbeats 1000000 in
theorem zdN {P:Program}{ρ:Go.Shelf.Ren}(L:Go.Proofs.Lays2.n21 P ρ){i b:Nat}{x:Int}(hTi:ρ.t 3=Ti)(hS0:Sep G W (RowE (α:=Int) own Ti v l::Blk b #[.int .i64 x] Ti::Rs) w)(hi:i≤l.length)(hx:InR x)(hbig:(l.length+1)*8≤140737488355328):
 Ret P (ρ.f 21) [v,.int .i64 ((i:Nat):Int),.slice (some ⟨b,0,none⟩) 1 1] w (fun r w'=>Sep G W (RowE (α:=Int) own Ti r (l.take i++x::l.drop i)::Rs) w'):=by
 have hb:=hS0.blk (i:=1) rfl
 have hvs: ∀j u,[Value.int .i64 x][j]? =some u→w.cell? ⟨b,0+j,none⟩=some u:=fun j u hu=>by rw[Nat.zero_add];exact Js hb hu
 have h1v: ∀u∈[Value.int .i64 x],u.oneCell'=true:=by intro u hu;simp at hu;subst hu;rfl
 have hS:Sep G W (RowE (α:=Int) own Ti v l::Rs) w:=hS0.sel 2 [0] (Nat.le_add_left _ _) rfl rfl
 have hR:Sep G W Rs w:=hS.sel 1 [] (Nat.le_add_left _ _) rfl rfl
 obtain⟨hin,hsm,hc⟩:=hS.intRow
 have hin': ∀y∈l.take i++x::l.drop i,InR y:=by
  intro y hy
  rcases List.mem_append.1 hy with h|h
  ·exact hin y (List.mem_of_mem_take h)
  ·rcases List.mem_cons.1 h with rfl|h
   ·exact hx
   ·exact hin y (List.mem_of_mem_drop h)
 have hlen:(l.take i++x::l.drop i).length=l.length+1:=by simp;omega
 have hsm':(l.take i++x::l.drop i).length*8≤140737488355328:=by rw[hlen];exact hbig
 have hml:l.length+1≤maxLen:=by unfold maxLen;omega
 have henc:yY (l.take i++x::l.drop i)=yY (l.take i)++[.int .i64 x]++yY (l.drop i):=by simp[yY]
 have hend:i=l.length→yY (l.take i++x::l.drop i)=yY l++[.int .i64 x]:=fun e=>by subst e;rw[henc,List.take_length,List.drop_length];simp[yY]
 have grow: ∀(base:Option Addr) (c:Nat),v=.slice base l.length c→i=l.length→c<l.length+1→l.length≤c→(base=none→l.length=0)→(∀a,base=some a→ ∀j u,(yY l)[j]? =some u→w.cell? (a.add j)=some u)→
  Ret P (ρ.f 21) [v,.int .i64 ((i:Nat):Int),.slice (some ⟨b,0,none⟩) 1 1] w (fun r w'=>Sep G W (RowE (α:=Int) own Ti r (l.take i++x::l.drop i)::Rs) w'):=by
  intro base c hv hil hcl hlc hnil hcs
  have h:=Any2.slices_Insert_int_end_grow L base l.length c b 0 1 1 (yY l) [.int .i64 x] w (by omega) hlc hcl hbig (yS l) rfl hnil hcs hvs h1v
  subst hv
  refine Calls.mono (by subst hil;exact h) ?_
  rintro e w' ⟨rfl,rfl⟩
  refine⟨_,rfl,?_⟩
  rw[hTi]
  have hg:=grownCap_ge w (l.length+1) c Ti
  have hgm:=grownCap_le_maxLen w (l.length+1) c Ti hml
  have hn:=zat w (.cells ((yY l++[Value.int .i64 x]).toArray++Builtin.zeroCells (Value.int .i64 0).cells (grownCap w (l.length+1) c Ti-(l.length+1))) Ti)
  have:=hR.intNew' hn (cap:=grownCap w (l.length+1) c Ti) (l':=l.take i++x::l.drop i) (by rw[hlen];exact hg) ?_ hgm ?_ hin' hsm'
  ·rw[hlen]at this;exact this
  ·simp only[Array.toList_append,List.length_append,yS,zbM,List.length_cons,List.length_nil];omega
  ·rw[hlen,hend hil]
   simp only[Array.toList_append]
   rw[List.take_append_of_le_length (by simp[yS])]
   exact List.take_of_length_le (by simp[yS])
 rcases hc with⟨rfl,rfl⟩|⟨g,cap,cur,rfl,hg,hlc,hcm,hcs,ht,back⟩
 ·exact grow none 0 rfl (by simpa using hi) (by simp) (by simp) (fun _=>rfl) (fun a h=>by cases h)
 ·have hne:b≠g:=by
   obtain⟨f1,f2,hA,hB,hd,_,_⟩:=hS0.apart2 (i:=0) (j:=1) rfl rfl (by decide)
   obtain⟨_,_,_,hrow,_⟩:=hA
   exact fun e=>hd g (hrow g rfl) (e▸hB.2)
  have hcells: ∀j u,(yY l)[j]? =some u→w.cell? ⟨g,0+j,none⟩=some u:=fun j u hu=>by
   rw[Nat.zero_add]
   refine Js hg ?_
   rw[←ht,List.getElem?_take]at hu
   split at hu
   ·exact hu
   ·cases hu
  have hlc':cur.toList.length=cap:=by simpa using hcs
  have hcell: ∀j,j<cap→(w.cell? ⟨g,0+j,none⟩).isSome=true:=fun j hj=>by
   rw[Nat.zero_add,Js hg (List.getElem?_eq_getElem (by omega))];rfl
  have hfz: ∀j,w.frozen? ⟨g,j,none⟩=false:=fun j=>by simp[World.frozen?,hg]
  by_cases hil:i=l.length
  ·by_cases hroom:l.length+1≤cap
   ·have h:=Any2.slices_Insert_int_end_room L g 0 l.length cap b 0 1 1 [.int .i64 x] w (by omega) hroom (by unfold maxLen at hcm;omega) rfl (fun j hj=>by rw[Nat.add_assoc];exact hcell _ (by omega)) (fun j _=>hfz _) hvs h1v
    refine Calls.mono (by subst hil;exact h) ?_
    rintro e w' ⟨rfl,rfl⟩
    refine⟨_,rfl,?_⟩
    have hw:=Zo [.int .i64 x] (0+l.length) w cur hg
    rw[Nat.zero_add,Xe _ _ _ (by simp only[List.length_cons,List.length_nil];omega)]at hw
    rw[Nat.zero_add]
    refine back _ _ _ _ hw (by rw[hlen]) (by rw[hlen];exact hroom) (by simp;omega) ?_ hin' hsm'
    rw[hlen,hend hil,ht,List.take_append_of_le_length (by simp[yS])]
    exact List.take_of_length_le (by simp[yS])
   ·exact grow (some ⟨g,0,none⟩) cap rfl hil (by omega) hlc (fun h=>by cases h) (fun a ha j u hu=>by cases ha;rw[Kh];exact hcells j u hu)
  ·have hlt:i<l.length:=by omega
   have ed:(yY l).drop i=yY (l.drop i):=by simp[yY,List.map_drop]
   have et:(yY l).take i=yY (l.take i):=by simp[yY,List.map_take]
   by_cases hroom:l.length+1≤cap
   ·have h:=Any2.slices_Insert_int_shift L g 0 l.length cap i b 0 1 1 (yY l) [.int .i64 x] w hlt (by omega) hroom (by unfold maxLen at hcm;omega) hne (yS l) rfl hcells (fun j hj=>hcell j (by omega)) (fun j _=>by rw[Nat.zero_add];exact hfz _) hvs (Kt l) h1v
     Ti Ti 1 cap (by simp[World.shape?,hb]) (by simp[World.shape?,hg,hcs]) (by omega) (by simp[World.frozen?,hb]) (by simp[World.frozen?,hb])
    refine Calls.mono h ?_
    rintro e w' ⟨rfl,rfl⟩
    refine⟨_,rfl,?_⟩
    have h1:=Wr.drew hg
    obtain⟨a1,e1,hg1⟩:=h1.at_
    have h2:=Zo ((yY l).drop i) (0+(i+1)) w.drew a1 hg1
    rw[e1,Nat.zero_add,Xe _ _ _ (by simp only[List.length_drop,yS];omega)]at h2
    obtain⟨a2,e2,hg2⟩:=h2.at_
    have h3:=Zo [.int .i64 x] (0+i) _ a2 hg2
    rw[e2,Nat.zero_add,Xe _ _ _ (by simp only[List.length_append,List.length_take,List.length_drop,yS,List.length_cons,List.length_nil];omega)]at h3
    rw[Nat.zero_add,Nat.zero_add]
    refine back _ _ _ _ ((h1.trans h2).trans h3) (by rw[hlen]) (by rw[hlen];exact hroom) (by simp[yS];omega) ?_ hin' hsm'
    rw[hlen,henc,ed]
    have k1:(cur.toList.take (i+1)++yY (l.drop i)++cur.toList.drop (i+1+(yY (l.drop i)).length)).take i=yY (l.take i):=by
     rw[List.append_assoc,List.take_append_of_le_length (by simp;omega),List.take_take,Nat.min_eq_left (by omega),←et,←ht,List.take_take,Nat.min_eq_left (by omega)]
    have k2:(cur.toList.take (i+1)++yY (l.drop i)++cur.toList.drop (i+1+(yY (l.drop i)).length)).drop (i+[Value.int .i64 x].length)=yY (l.drop i)++cur.toList.drop (i+1+(yY (l.drop i)).length):=by
     have hh:(cur.toList.take (i+1)).length=i+1:=by rw[List.length_take];omega
     show(cur.toList.take (i+1)++yY (l.drop i)++cur.toList.drop (i+1+(yY (l.drop i)).length)).drop (i+1)=_
     rw[List.append_assoc];exact List.drop_left' hh
    rw[k1,k2,←List.append_assoc,List.take_append_of_le_length (by simp[yS];omega)]
    exact List.take_of_length_le (by simp[yS];omega)
   ·have h:=Any2.slices_Insert_int_grow L g 0 l.length cap i b 0 1 1 (yY l) [.int .i64 x] w hlt (by omega) hlc (by omega) hbig (yS l) rfl hcells hvs (Kt l) h1v
    refine Calls.mono h ?_
    rintro e w' ⟨rfl,rfl⟩
    refine⟨_,rfl,?_⟩
    rw[hTi]
    have hg':=grownCap_ge w (l.length+1) cap Ti
    have hgm:=grownCap_le_maxLen w (l.length+1) cap Ti hml
    obtain⟨gc,hgc⟩: ∃gc,gc=grownCap w (l.length+1) cap Ti:=⟨_,rfl⟩
    rw[←hgc]at hg' hgm⊢
    have hn:=KG w (.cells (((yY l).take i).toArray++Builtin.zeroCells (Value.int .i64 0).cells (l.length+1-i)++Builtin.zeroCells (Value.int .i64 0).cells (gc-(l.length+1))) Ti)
    have hlen0:(((yY l).take i).toArray++Builtin.zeroCells (Value.int .i64 0).cells (l.length+1-i)++Builtin.zeroCells (Value.int .i64 0).cells (gc-(l.length+1))).toList.length=gc:=by
     simp only[Array.toList_append,List.length_append,zbM,List.length_take,yS];omega
    have htk0:(((yY l).take i).toArray++Builtin.zeroCells (Value.int .i64 0).cells (l.length+1-i)++Builtin.zeroCells (Value.int .i64 0).cells (gc-(l.length+1))).toList.take i=yY (l.take i):=by
     simp only[Array.toList_append]
     rw[List.append_assoc,List.take_append_of_le_length (by simp[yS];omega),et]
     exact List.take_of_length_le (by simp[yS];omega)
    obtain⟨A0,hA0⟩: ∃A0,A0=((yY l).take i).toArray++Builtin.zeroCells (Value.int .i64 0).cells (l.length+1-i)++Builtin.zeroCells (Value.int .i64 0).cells (gc-(l.length+1)):=⟨_,rfl⟩
    rw[←hA0]at hn hlen0 htk0⊢
    have h1:=Wr.drew hn.at_
    obtain⟨a1,e1,hg1⟩:=h1.at_
    have h2:=Zo [.int .i64 x] i _ a1 hg1
    rw[e1,Xe _ _ _ (by simp only[List.length_cons,List.length_nil];omega)]at h2
    obtain⟨a2,e2,hg2⟩:=h2.at_
    have h3:=Wr.drew hg2
    obtain⟨a3,e3,hg3⟩:=h3.at_
    have h4:=Zo ((yY l).drop i) (i+1) _ a3 hg3
    have hl2:(A0.toList.take i++[Value.int .i64 x]++A0.toList.drop (i+[Value.int .i64 x].length)).length=gc:=by
     simp only[List.length_append,List.length_take,List.length_drop,List.length_cons,List.length_nil];omega
    rw[e3,e2,Xe _ _ _ (by rw[hl2];simp only[List.length_drop,yS];omega)]at h4
    have hpre:(A0.toList.take i++[Value.int .i64 x]++A0.toList.drop (i+[Value.int .i64 x].length)).take (i+1)=A0.toList.take i++[Value.int .i64 x]:=by
     have hh:(A0.toList.take i++[Value.int .i64 x]).length=i+1:=by rw[List.length_append,List.length_take,List.length_cons,List.length_nil];omega
     exact List.take_left' hh
    have:=hR.intNew hn (((h1.trans h2).trans h3).trans h4) (cap:=gc) (l':=l.take i++x::l.drop i) (by rw[hlen];exact hg') ?_ hgm ?_ hin' hsm'
    ·rw[hlen]at this;exact this
    ·simp only[List.length_append,List.length_take,List.length_drop,hl2,yS];omega
    ·rw[hlen,henc,hpre,htk0,ed,List.take_append_of_le_length (by simp[yS];omega)]
     exact List.take_of_length_le (by simp[yS];omega)
theorem VJ (d:List Int)(c:Array Value)(h:d.length≤c.size):(putCells (Value.int .i64) 0 d.toArray c).toList=yY d++c.toList.drop d.length:=by
 refine List.ext_getElem (by simp[putCells,yY];omega) (fun j h1 h2=>?_)
 have hj:j<c.size:=by simpa[putCells]using h1
 by_cases hd:j<d.length
 ·rw[List.getElem_append_left (by simpa[yY]using hd)]
  simp[putCells,yY,hd]
 ·rw[List.getElem_append_right (by simp[yY];omega)]
  simp[putCells,yY,hd,show d.length+(j-d.length)=j by omega]
theorem zaj {b:Nat}{a:Array Value}{T:TypeId}(h:w.heap[b]? =some (.cells a T))(d:List Int)(hd:d.length≤a.size):Wr w (putRow (Value.int .i64) w b 0 d.toArray) b (yY d++a.toList.drop d.length) T:=by
 refine⟨⟨putCells (Value.int .i64) 0 d.toArray a,VJ d a hd,?_⟩,fun i hi=>?_,by simp,rfl,rfl,rfl,Nat.le_refl _⟩
 ·simp[putRow,mapBlock,Array.getElem?_modify,h,onCells]
 ·simp only[putRow,mapBlock,Array.getElem?_modify];rw[if_neg (fun e=>hi e.symm)]
theorem zdd {P:Program}{ρ:Go.Shelf.Ren}(L:Go.Proofs.Lays2.n23 P ρ){i:Nat}(hS:Sep G W (RowE (α:=Int) own Ti v l::Rs) w)(hi:i<l.length):
 Ret P (ρ.f 23) [v,.int .i64 ((i:Nat):Int),.int .i64 ((i+1:Nat):Int)] w (fun r w'=>Sep G W (RowE (α:=Int) own Ti r (l.take i++l.drop (i+1))::Rs) w'):=by
 obtain⟨hin,hsm,hc⟩:=hS.intRow
 rcases hc with⟨rfl,rfl⟩|⟨g,cap,cur,rfl,hg,hlc,hcm,hcs,ht,back⟩
 ·exact absurd hi (Nat.not_lt_zero i)
 ·have hH:Holds (Value.int .i64) w g 0 l.toArray:=by
   intro j hj
   have hj':j<l.length:=by simpa using hj
   refine⟨?_,by simp[World.frozen?,hg]⟩
   rw[Nat.zero_add]
   refine Js hg ?_
   have:(yY l)[j]? =some (.int .i64 l[j]):=by simp[yY,hj']
   rw[←ht,List.getElem?_take,if_pos hj']at this
   rw[this]
   simp[hj']
  have h:=Any.slices_Delete_int L g 0 cap i (i+1) l w hH hlc (by unfold maxLen at hcm;omega) (by omega) hi
  refine Calls.mono h ?_
  rintro e w' ⟨rfl,q,rfl⟩
  refine⟨_,rfl,?_⟩
  have h1:=Wr.ahead (q:=q) hg
  obtain⟨a1,e1,hg1⟩:=h1.at_
  have ha1:a1.size=cap:=by have:=congrArg List.length e1;simpa[hcs]using this
  have hdl:(l.take i++l.drop (i+1)++List.replicate (i+1-i) 0).length=l.length:=by simp;omega
  have h2:=zaj hg1 (l.take i++l.drop (i+1)++List.replicate (i+1-i) 0) (by rw[hdl];omega)
  have hlen:(l.take i++l.drop (i+1)).length=l.length-(i+1-i):=by simp;omega
  refine back _ _ _ _ (h1.trans h2) (by rw[hlen]) (by rw[hlen];omega) ?_ ?_ (fun x hx=>?_) (by rw[hlen];omega)
  ·have ha2:a1.toList.length=cap:=by simpa using ha1
   rw[List.length_append,yS,hdl,List.length_drop,ha2];omega
  ·rw[hlen,zaQ,List.append_assoc,List.take_append_of_le_length (by rw[yS,hlen];exact Nat.le_refl _)]
   exact List.take_of_length_le (by rw[yS,hlen];exact Nat.le_refl _)
  ·rcases List.mem_append.1 hx with h|h
   ·exact hin x (List.mem_of_mem_take h)
   ·exact hin x (List.mem_of_mem_drop h)
end
end
section
open Go.Proofs Go.RowKit
theorem zaF {vl:Value}{l:List Int}{i:Nat}{b:Nat}{x:Int}(hS0:Sep G W ((RowE (α:=Int) own 3 vl l)::(Blk b #[.int .i64 x] 3)::Rs) w)(hi:i≤l.length)(hx:InR x)(hbig:(l.length+1)*8≤140737488355328):Ret Tryz.prog 127 [vl,.int .i64 ((i:Nat):Int),.slice (some ⟨b,0,none⟩) 1 1] w (fun r w'=> ∃(v:Value),r=(v:Value)∧Sep G W ((RowE (α:=Int) own 3 v (l.take i++x::l.drop i))::Rs) w'):=by
 exact Ret.mono (zdN zeh rfl hS0 hi hx hbig) (fun r w1 h=>⟨r,rfl,h⟩)
theorem zaN {vl:Value}{l:List Int}{i:Nat}(hS0:Sep G W ((RowE (α:=Int) own 3 vl l)::Rs) w)(hi:i<l.length):Ret Tryz.prog 128 [vl,.int .i64 ((i:Nat):Int),.int .i64 ((i+1:Nat):Int)] w (fun r w'=> ∃(v:Value),r=(v:Value)∧Sep G W ((RowE (α:=Int) own 3 v (l.take i++l.drop (i+1)))::Rs) w'):=by
 exact Ret.mono (zdd zec hS0 hi) (fun r w1 h=>⟨r,rfl,h⟩)
theorem zeg {l:List Int}{i:Nat}{x:Int}(ha:Asc l)(hi:i≤l.length)(hlo: ∀q,q<i→l.getD q 0<x)(hhi: ∀q,i≤q→q<l.length→x≤l.getD q 0)(hn: ¬x∈l):l.take i++x::l.drop i=Yg l x:=by
 have h1: ∀y∈l.take i,y<x:=by
  intro y hy
  obtain⟨q,hq,rfl⟩:=List.getElem_of_mem hy
  rw[List.length_take]at hq
  have:=hlo q (by omega)
  rw[zK _ (by omega)]at this
  rw[List.getElem_take];exact this
 have h2: ∀y∈l.drop i,x<y:=by
  intro y hy
  obtain⟨q,hq,rfl⟩:=List.getElem_of_mem hy
  rw[List.length_drop]at hq
  have:=hhi (i+q) (by omega) (by omega)
  rw[zK _ (by omega)]at this
  rw[List.getElem_drop]
  have hne:l[i+q]≠x:=fun e=>hn (e▸List.getElem_mem _)
  omega
 unfold Yg
 rw[if_neg hn]
 have e1:l.filter (fun y=>decide (y<x))=l.take i:=by
  conv=>lhs;rw[←List.take_append_drop i l]
  rw[List.filter_append,List.filter_eq_self.2 (fun y hy=>by simpa using h1 y hy),List.filter_eq_nil_iff.2 (fun y hy=>by have:=h2 y hy;simp;omega),List.append_nil]
 have e2:l.filter (fun y=>decide (x<y))=l.drop i:=by
  conv=>lhs;rw[←List.take_append_drop i l]
  rw[List.filter_append,List.filter_eq_nil_iff.2 (fun y hy=>by have:=h1 y hy;simp;omega),List.filter_eq_self.2 (fun y hy=>by simpa using h2 y hy),List.nil_append]
 rw[e1,e2]
theorem zby {l:List Int}{i:Nat}{x:Int}(ha:Asc l)(hi:i≤l.length)(hlo: ∀q,q<i→l.getD q 0<x)(hhi: ∀q,i≤q→q<l.length→x≤l.getD q 0)(hn:x∈l):i<l.length∧l.take i++l.drop (i+1)=ZG l x:=by
 have hm:=Ql ha hi hlo hhi
 rw[decide_eq_true hn]at hm
 have hm2:=hm.symm
 simp only[Bool.and_eq_true,decide_eq_true_eq]at hm2
 obtain⟨hil,hx⟩:=hm2
 refine⟨hil,?_⟩
 have h1: ∀y∈l.take i,y≠x:=by
  intro y hy
  obtain⟨q,hq,rfl⟩:=List.getElem_of_mem hy
  rw[List.length_take]at hq
  have:=hlo q (by omega)
  rw[zK _ (by omega)]at this
  rw[List.getElem_take];omega
 have h2: ∀y∈l.drop (i+1),y≠x:=by
  intro y hy
  obtain⟨q,hq,rfl⟩:=List.getElem_of_mem hy
  rw[List.length_drop]at hq
  have:=Qp ha (show i<i+1+q by omega) (by omega)
  rw[hx,zK _ (by omega)]at this
  rw[List.getElem_drop];omega
 unfold ZG
 conv=>rhs;rw[←List.take_append_drop i l]
 rw[List.filter_append,List.filter_eq_self.2 (fun y hy=>by simpa using h1 y hy),List.drop_eq_getElem_cons hil,List.filter_cons,if_neg (by rw[zK _ hil]at hx;simp[hx]),List.filter_eq_self.2 (fun y hy=>by simpa using h2 y hy)]
theorem Vt (n:Int):InR (IntKind.i64.wrap n):=Wk n
theorem XG {fl:Fld}{dm vc:Value}{no arg:Int}{sh:List CelS}(hS0:Sep G W ((RowE (α:=CelS) own 140 vc sh)::Rs) w)(hno:0≤no∧no<sh.length):Ret Tryz.prog 102 [.agg #[.int .i64 (fl.kind),.int .i64 (fl.policy),.bool (fl.floor),dm,vc,.int .i64 (no),.int .i64 (arg)]] w (fun r w'=>r=(.pointer (some ⟨sb vc,so vc+no.toNat*2,none⟩):Value)∧Sep G W ((RowE (α:=CelS) own 140 vc sh)::Rs) w'):=by
 refine zm uR rfl rfl ?_
 have b:=hS0.r0
 refine za (R0 fun _=>st (zT rfl ?_))
 intro w4 b3 c
 have a:=hS0.new c
 refine st (aS (.pointer none) (zb (za (R0 fun _=>st (UG rfl (st (lD vc oR rfl (zd (a.b0) rfl) (st (Jp rfl (st (lD (Iv no) kT rfl (zd (a.b0) rfl) ?_)))))))))))
 refine st (zA rT uT rfl b.1 rfl ⟨by omega,by omega⟩ (st (aS (Ix (sb vc) (so vc+no.toNat*2)) (zb (zo (zN vR rfl ?_))))))
 refine⟨rfl,(a.s2_b)⟩
set_option maxHeartbeats 4000000 in
theorem zdn {fl:Fld}{dm vc:Value}{no arg:Int}{l:List Cel}(hS0:Sep G W ((CelW vc 140 3 l)::Rs) w)(hno:0≤no∧no<l.length)(hno0:InR no)(harg:InR arg):Ret Tryz.prog 104 [.agg #[.int .i64 (fl.kind),.int .i64 (fl.policy),.bool (fl.floor),dm,vc,.int .i64 (no),.int .i64 (arg)]] w (fun r w'=>r=(.tuple #[]:Value)∧Sep G W ((CelW vc 140 3 (l.set no.toNat (xp fl (yH l no) 2 arg)))::Rs) w'):=by
 refine zm Tryz.func104 rfl rfl ?_
 obtain⟨a,d,C⟩:=CelW.open hS0
 have T:=C.r0
 have F:Sep G W ((RowE (α:=CelS) own 140 vc a)::(Star (SetRows 3 a l))::Rs) w:=C
 refine za (R0 fun _=>st (zT rfl ?_))
 intro w7 H U
 refine zb ?_
 refine WD4 ((fun TT g D=>WF [fun vals h=>Sep G W (g::D::TT) h,fun vals h=>(vals 1=(Ix (sb vc) (so vc+no.toNat*2):Value))∧Sep G W (D::g::TT) h,fun vals h=>(vals 1=(Ix (sb vc) (so vc+no.toNat*2):Value))∧Sep G W ((RowE own 140 vc (a.set no.toNat (⟨arg,(a.gd no.toNat).v⟩:CelS)))::g::TT) h]) ((Star (SetRows 3 a l))::Rs) (Blk H #[Iv (fl.kind),Iv (fl.policy),.bool (fl.floor),dm,vc,Iv no,Iv arg] 135) (RowE own 140 vc a)) (AF [Vl 0 (.agg #[Iv (fl.kind),Iv (fl.policy),.bool (fl.floor),dm,vc,Iv no,Iv arg]),fun _=>True,Vl 2 (Ix H 6),Vl 3 (Iv arg),Vl 4 (Ix (sb vc) (so vc+no.toNat*2)),Vl 5 (Ix (sb vc) (so vc+no.toNat*2)),fun _=>True]) [[],[0],[],[2],(rg 4),(rg 5),(rg 6)] [1,6] [(0,0),(0,0),(0,1),(0,1),(1,1),(1,1),(1,1)] (F.new U) ⟨ob1 0 fun _ _ (I:Sep _ _ _ _) _=>obl rfl (ze nT oT rfl rfl (zi (I.b0)) dR),?_,fun _ _ _ _ _ _ _=>obl rfl (Zj rfl dR),?_,?_,fun _ _ _ _ _ _ x=>obl rfl (xr (x 4 dc) dR),?_,zj⟩ ?_
 refine ob1 0 fun vals _ (J:Sep _ _ _ _) K=>(obl rfl ?_)
 refine(zO (vals:=[.agg #[Iv (fl.kind),Iv (fl.policy),.bool (fl.floor),dm,vc,Iv no,Iv arg]]) rfl (yK ⟨(K 0 dc),zj⟩) pT (XG (J.mv1) bo) ?_)
 rintro _ w25 ⟨rfl,n⟩
 have L:=n.r0
 exact fun y V E=>⟨(zG V n),zj⟩
 refine fun e _ _ X Y p q=>?_
 have hkk:=xz X Y
 rcases hkk with rfl|rfl
 have M:=p
 exact obl rfl (lD (Iv arg) kT (q 2 dc) (zd (M.b0) rfl) dR)
 obtain⟨c,N⟩:=p
 exact obl rfl (lD (Iv arg) kT (q 2 dc) (zd (N.b1) rfl) dR)
 refine ob1 1 fun _ _ O _=>?_
 obtain⟨c,hS99⟩:=O
 exact obl rfl (zx c dR)
 refine ob1 1 fun _ _ P s=>?_
 obtain⟨c,Q⟩:=P
 refine obl rfl ?_
 have R:=Q.emp1
 refine(xe (α:=CelS) (j:=no.toNat) (o:=0) (us:=[Iv arg]) (x1:=(⟨arg,(a.getD no.toNat default).v⟩:CelS)) R tT bo (s 5 (by decide)) (s 3 (by decide)) rfl (xJ rfl) (zZ ⟨rfl,zj⟩) (fun _ _ _ hel _=>(by rw[←zK default (by omega)]at hel;obtain⟨rfl,hok⟩:=hel;exact⟨rfl,⟨(show InR (arg)from(by omega)),hok.one⟩⟩)) ?_)
 intro w66 t
 have S:=t.r0
 exact fun y V E=>⟨(zG ((E 1 dc).trans c) t),zj⟩
 intro vals w107 z hA109
 obtain⟨c,A⟩:=z
 refine yd (kv:=[(0,.agg #[Iv (fl.kind),Iv (fl.policy),.bool (fl.floor),dm,vc,Iv no,Iv arg]),(1,Ix H 0)]) sEv (fun ρw107=>(zb (Qq Tryz.results104 ?_)))
 have B:Sep _ _ ((CelW vc 140 3 (l.set no.toNat ⟨arg,(l.gd no.toNat).set⟩))::_) _:=CelW.closeN d.1 d.2 om (A.s3_acb)
 refine⟨rfl,(B.s2_a)⟩
set_option maxHeartbeats 4000000 in
theorem zdp {fl:Fld}{dm vc:Value}{no arg:Int}{l:List Cel}(hS0:Sep G W ((CelW vc 140 3 l)::Rs) w)(hno:0≤no∧no<l.length)(hno0:InR no)(harg:InR arg):Ret Tryz.prog 101 [.agg #[.int .i64 (fl.kind),.int .i64 (fl.policy),.bool (fl.floor),dm,vc,.int .i64 (no),.int .i64 (arg)]] w (fun r w'=>r=(.tuple #[]:Value)∧Sep G W ((CelW vc 140 3 (l.set no.toNat (xp fl (yH l no) 1 arg)))::Rs) w'):=by
 refine zm Tryz.func101 rfl rfl ?_
 let n:=Ix (sb vc) (so vc+no.toNat*2)
 obtain⟨c,e,U⟩:=CelW.open hS0
 have ah:=U.r0
 have Y:Sep G W ((RowE (α:=CelS) own 140 vc c)::(Star (SetRows 3 c l))::Rs) w:=U
 refine za (R0 fun _=>st (zT rfl ?_))
 intro w7 Z ai
 refine zb ?_
 refine WD4 ((fun TT x V=>WF [fun vals y=>Sep G W (x::V::TT) y,fun vals y=>(vals 1=(Ix (sb vc) (so vc+no.toNat*2):Value))∧Sep G W (V::x::TT) y,fun vals y=>(vals 1=(Ix (sb vc) (so vc+no.toNat*2):Value))∧Sep G W ((RowE own 140 vc (c.set no.toNat (⟨IntKind.i64.wrap (((c.gd no.toNat).n)+arg),(c.gd no.toNat).v⟩:CelS)))::x::TT) y]) ((Star (SetRows 3 c l))::Rs) (Blk Z #[Iv (fl.kind),Iv (fl.policy),.bool (fl.floor),dm,vc,Iv no,Iv arg] 135) (RowE own 140 vc c)) (AF [Vl 0 (.agg #[Iv (fl.kind),Iv (fl.policy),.bool (fl.floor),dm,vc,Iv no,Iv arg]),fun _=>True,Vl 2 n,Vl 3 n,Vl 4 (Iv ((c.gd no.toNat).n)),Vl 5 (Ix Z 6),Vl 6 (Iv arg),Vl 7 (Iv (IntKind.i64.wrap (((c.gd no.toNat).n)+arg))),Vl 8 n,Vl 9 n,fun _=>True]) [[],[0],[0,1],[0,1,2],(rg 4),[],[5],(rg 7),(rg 8),(rg 9),(rg 10)] [1,10] [(0,0),(0,0),(1,1),(1,1),(1,1),(0,1),(0,1),(1,1),(1,1),(1,1),(1,1)] (Y.new ai) ⟨ob1 0 fun _ _ (C:Sep _ _ _ _) _=>obl rfl (ze nT oT rfl rfl (zi (C.b0)) dR),?_,?_,fun _ _ _ _ _ _ D=>obl rfl (xr (D 2 dc) dR),?_,fun _ _ _ _ _ _ _=>obl rfl (Zj rfl dR),?_,?_,?_,fun _ _ _ _ _ _ E=>obl rfl (xr (E 8 dc) dR),?_,zj⟩ ?_
 refine ob1 0 fun vals _ (aa:Sep _ _ _ _) ab=>(obl rfl ?_)
 refine(zO (vals:=[.agg #[Iv (fl.kind),Iv (fl.policy),.bool (fl.floor),dm,vc,Iv no,Iv arg]]) rfl (yK ⟨(ab 0 dc),zj⟩) pT (XG (aa.mv1) bo) ?_)
 rintro _ w25 ⟨rfl,z⟩
 have ac:=z.r0
 exact fun F hv X=>⟨(zG hv z),zj⟩
 refine ob1 1 fun _ _ H _=>?_
 obtain⟨d,hS116⟩:=H
 exact obl rfl (zx d dR)
 refine ob1 1 fun _ _ I J=>?_
 obtain⟨d,K⟩:=I
 refine obl rfl ?_
 have L:no.toNat<c.length:=bo
 obtain⟨_,_,A,rfl,hoke132⟩:=K.rowAtD (i:=0) (j:=no.toNat) rfl L
 exact lD (Iv ((c.gd no.toNat).n)) kT (J 3 dc) (A.get (j:=0) rfl) dR
 refine fun g _ _ ad ae h p=>?_
 have hkk:=xz ad ae
 rcases hkk with rfl|rfl
 have M:=h
 exact obl rfl (lD (Iv arg) kT (p 5 dc) (zd (M.b0) rfl) dR)
 obtain⟨d,N⟩:=h
 exact obl rfl (lD (Iv arg) kT (p 5 dc) (zd (N.b1) rfl) dR)
 refine ob1 1 fun _ _ O q=>?_
 obtain⟨d,hS156⟩:=O
 exact obl rfl (zU (r:=IntKind.i64.wrap (((c.gd no.toNat).n)+arg)) (q 4 dc) (q 6 dc) rfl dR)
 refine ob1 1 fun _ _ P _=>?_
 obtain⟨d,hS165⟩:=P
 exact obl rfl (zx d dR)
 refine ob1 1 fun _ _ af B=>?_
 obtain⟨d,ag⟩:=af
 refine obl rfl ?_
 have Q:=ag.emp1
 refine(xe (α:=CelS) (j:=no.toNat) (o:=0) (us:=[Iv (IntKind.i64.wrap (((c.getD no.toNat default).n)+arg))]) (x1:=(⟨IntKind.i64.wrap (((c.getD no.toNat default).n)+arg),(c.getD no.toNat default).v⟩:CelS)) Q tT bo (B 9 (by decide)) (B 7 (by decide)) rfl (xJ rfl) (zZ ⟨rfl,zj⟩) (fun _ _ _ hel _=>(by rw[←zK default (by omega)]at hel;obtain⟨rfl,hok⟩:=hel;exact⟨rfl,⟨(show InR (IntKind.i64.wrap (((c.getD no.toNat default).n)+arg))from(Vt _)),hok.one⟩⟩)) ?_)
 intro w99 s
 have R:=s.r0
 exact fun F hv X=>⟨(zG ((X 1 dc).trans d) s),zj⟩
 intro vals w173 S hA175
 obtain⟨d,T⟩:=S
 refine yd (kv:=[(0,.agg #[Iv (fl.kind),Iv (fl.policy),.bool (fl.floor),dm,vc,Iv no,Iv arg]),(1,Ix Z 0)]) sEv (fun ρw173=>(zb (Qq Tryz.results101 ?_)))
 have t:Sep _ _ ((CelW vc 140 3 (l.set no.toNat ⟨IntKind.i64.wrap (((c.gd no.toNat).n)+arg),(l.gd no.toNat).set⟩))::_) _:=CelW.closeN e.1 e.2 om (T.s3_acb)
 rw[e.2 _ (by omega)]at t
 refine⟨rfl,(t.s2_a)⟩
set_option maxHeartbeats 4000000 in
theorem zbU {fl:Fld}{dm vc:Value}{no arg:Int}{l:List Cel}(hS0:Sep G W ((CelW vc 140 3 l)::Rs) w)(hno:0≤no∧no<l.length)(hno0:InR no)(harg:InR arg)(hdm:RdS W G dm fl.moves)(hmv:0≤arg∧arg<fl.moves.length):Ret Tryz.prog 109 [.agg #[.int .i64 (fl.kind),.int .i64 (fl.policy),.bool (fl.floor),dm,vc,.int .i64 (no),.int .i64 (arg)]] w (fun r w'=>r=(.tuple #[]:Value)∧Sep G W ((CelW vc 140 3 (l.set no.toNat (xp fl (yH l no) 5 arg)))::Rs) w'):=by
 refine zm Tryz.func109 rfl rfl ?_
 obtain⟨d,p,al⟩:=CelW.open hS0
 have aE:=al.r0
 have ao:Sep G W ((RowE (α:=CelS) own 140 vc d)::(Star (SetRows 3 d l))::Rs) w:=al
 refine za (R0 fun _=>st (zT rfl ?_))
 intro w7 J aF
 refine zb ?_
 refine WD4 ((fun TT K am=>WF [fun vals L=>Sep G W (K::am::TT) L,fun vals L=>(vals 1=(Ix (sb vc) (so vc+no.toNat*2):Value))∧Sep G W (am::K::TT) L,fun vals L=>(vals 1=(Ix (sb vc) (so vc+no.toNat*2):Value))∧Sep G W ((RowE own 140 vc (d.set no.toNat (⟨(fl.moves.gd arg.toNat).to,(d.gd no.toNat).v⟩:CelS)))::K::TT) L]) ((Star (SetRows 3 d l))::Rs) (Blk J #[Iv (fl.kind),Iv (fl.policy),.bool (fl.floor),dm,vc,Iv no,Iv arg] 135) (RowE own 140 vc d)) (AF [Vl 0 (.agg #[Iv (fl.kind),Iv (fl.policy),.bool (fl.floor),dm,vc,Iv no,Iv arg]),fun _=>True,Vl 2 (Ix J 0),Vl 3 (Ix J 3),Vl 4 dm,Vl 5 (Ix J 6),Vl 6 (Iv arg),Vl 7 (Ix (sb dm) (so dm+arg.toNat*4)),Vl 8 (Ix (sb dm) (so dm+arg.toNat*4+1)),Vl 9 (Iv ((fl.moves.gd arg.toNat).to)),Vl 10 (Ix (sb vc) (so vc+no.toNat*2)),Vl 11 (Ix (sb vc) (so vc+no.toNat*2)),fun _=>True]) [[],[0],[],[2],[2,3],[],[5],[2,3,4,5,6],[2,3,4,5,6,7],[2,3,4,5,6,7,8],(rg 10),(rg 11),(rg 12)] [1,12] [(0,0),(0,0),(0,1),(0,1),(0,1),(0,1),(0,1),(0,1),(0,1),(0,1),(1,1),(1,1),(1,1)] (ao.new aF) ⟨ob1 0 fun _ _ (S:Sep _ _ _ _) _=>obl rfl (ze nT oT rfl rfl (zi (S.b0)) dR),?_,fun _ _ _ _ _ _ _=>obl rfl (WD rfl dR),fun _ _ _ _ _ _ T=>obl rfl (yQ (T 2 dc) dR),?_,fun _ _ _ _ _ _ _=>obl rfl (Zj rfl dR),?_,?_,fun _ _ _ _ _ _ U=>obl rfl (UP (U 7 dc) dR),?_,?_,fun _ _ _ _ _ _ V=>obl rfl (xr (V 10 dc) dR),?_,zj⟩ ?_
 refine ob1 0 fun vals _ (ap:Sep _ _ _ _) aq=>(obl rfl ?_)
 refine(zO (vals:=[.agg #[Iv (fl.kind),Iv (fl.policy),.bool (fl.floor),dm,vc,Iv no,Iv arg]]) rfl (yK ⟨(aq 0 dc),zj⟩) pT (XG (ap.mv1) bo) ?_)
 rintro _ w25 ⟨rfl,M⟩
 have ar:=M.r0
 exact fun X hv an=>⟨(zG hv M),zj⟩
 refine fun e _ _ au av q s=>?_
 have hkk:=xz au av
 rcases hkk with rfl|rfl
 have Y:=q
 exact obl rfl (lD dm qR (s 3 dc) (zd (Y.b0) rfl) dR)
 obtain⟨a,Z⟩:=q
 exact obl rfl (lD dm qR (s 3 dc) (zd (Z.b1) rfl) dR)
 refine fun g _ _ ay az t x=>?_
 have hkk:=xz ay az
 rcases hkk with rfl|rfl
 have aa:=t
 exact obl rfl (lD (Iv arg) kT (x 5 dc) (zd (aa.b0) rfl) dR)
 obtain⟨a,ab⟩:=t
 exact obl rfl (lD (Iv arg) kT (x 5 dc) (zd (ab.b1) rfl) dR)
 refine fun h _ _ aA aB y c=>?_
 have hkk:=xz aA aB
 rcases hkk with rfl|rfl
 refine obl rfl ?_
 exact zA rR vT (c 4 dc) hdm.sl (c 6 dc) ⟨by omega,by omega⟩ dR
 obtain⟨a,hS178⟩:=y
 refine obl rfl ?_
 exact zA rR vT (c 4 dc) hdm.sl (c 6 dc) ⟨by omega,by omega⟩ dR
 refine fun n _ _ aC aD z A=>?_
 have hkk:=xz aC aD
 rcases hkk with rfl|rfl
 have ac:=z
 refine obl rfl ?_
 have B:arg.toNat<fl.moves.length:=bo
 obtain⟨N,hoke197⟩:=hdm.mvD B
 have O:=ac.cells N (hdm.foot (ne_of_lt B))
 exact lD (Iv ((fl.moves.gd arg.toNat).to)) kT (A 8 dc) (O.get rfl) dR
 obtain⟨a,ad⟩:=z
 refine obl rfl ?_
 have C:arg.toNat<fl.moves.length:=bo
 obtain⟨P,hoke202⟩:=hdm.mvD C
 have Q:=ad.cells P (hdm.foot (ne_of_lt C))
 exact lD (Iv ((fl.moves.gd arg.toNat).to)) kT (A 8 dc) (Q.get rfl) dR
 refine ob1 1 fun _ _ ae _=>?_
 obtain⟨a,hS211⟩:=ae
 exact obl rfl (zx a dR)
 refine ob1 1 fun _ _ af D=>?_
 obtain⟨a,E⟩:=af
 refine obl rfl ?_
 have F:arg.toNat<fl.moves.length:=bo
 obtain⟨R,I⟩:=hdm.mvD F
 have ag:=E.emp1
 refine(xe (α:=CelS) (j:=no.toNat) (o:=0) (us:=[Iv ((fl.moves.getD arg.toNat default).to)]) (x1:=(⟨(fl.moves.getD arg.toNat default).to,(d.getD no.toNat default).v⟩:CelS)) ag tT bo (D 11 (by decide)) (D 9 (by decide)) rfl (xJ rfl) (zZ ⟨rfl,zj⟩) (fun _ _ _ hel _=>(by rw[←zK default (by omega)]at hel;obtain⟨rfl,hok⟩:=hel;exact⟨rfl,⟨(show InR ((fl.moves.getD arg.toNat default).to)from I.to),hok.one⟩⟩)) ?_)
 intro w115 H
 have ah:=H.r0
 exact fun X hv an=>⟨(zG ((an 1 dc).trans a) H),zj⟩
 intro vals w219 ai hA221
 obtain⟨a,aj⟩:=ai
 refine yd (kv:=[(0,.agg #[Iv (fl.kind),Iv (fl.policy),.bool (fl.floor),dm,vc,Iv no,Iv arg]),(1,Ix J 0)]) sEv (fun ρw219=>(zb (Qq Tryz.results109 ?_)))
 have ak:Sep _ _ ((CelW vc 140 3 (l.set no.toNat ⟨(fl.moves.gd arg.toNat).to,(l.gd no.toNat).set⟩))::_) _:=CelW.closeN p.1 p.2 om (aj.s3_acb)
 refine⟨rfl,(ak.s2_a)⟩
theorem zbH {l:List Int}{x:Int}(h: ¬x∈l):ZG l x=l:=by
 unfold ZG
 exact List.filter_eq_self.2 (fun y hy=>by simp only[decide_eq_true_eq];intro e;exact h (e▸hy))
theorem Ku {fl:Fld}{c:Cel}{arg:Int}(h:arg∈c.set):xp fl c 3 arg=c:=by
 unfold xp;rw[if_neg (by decide),if_neg (by decide),if_pos rfl,Wf h]
theorem KW {fl:Fld}{c:Cel}{arg:Int}(h: ¬arg∈c.set):xp fl c 4 arg=c:=by
 unfold xp;rw[if_neg (by decide),if_neg (by decide),if_neg (by decide),if_pos rfl,zbH h]
theorem zbF {fl:Fld}{c:Cel}{arg:Int}:xp fl c 3 arg=⟨c.n,Yg c.set arg⟩:=rfl
theorem zaL {fl:Fld}{c:Cel}{arg:Int}:xp fl c 4 arg=⟨c.n,ZG c.set arg⟩:=rfl
set_option maxHeartbeats 4000000 in
theorem zcS {fl:Fld}{dm vc:Value}{no arg:Int}{l:List Cel}(hS0:Sep G W ((CelW vc 140 3 l)::Rs) w)(hno:0≤no∧no<l.length)(hno0:InR no)(harg:InR arg)(hasc:Asc (yH l no).set)(hfew:(yH l no).set.length≤1000):Ret Tryz.prog 106 [.agg #[.int .i64 (fl.kind),.int .i64 (fl.policy),.bool (fl.floor),dm,vc,.int .i64 (no),.int .i64 (arg)]] w (fun r w'=>r=(.tuple #[]:Value)∧Sep G W ((CelW vc 140 3 (l.set no.toNat (xp fl (yH l no) 3 arg)))::Rs) w'):=by
 refine zm Tryz.func106 rfl rfl ?_
 let bx:=Ix (sb vc) (so vc+no.toNat*2+1)
 let n:=Ix (sb vc) (so vc+no.toNat*2)
 obtain⟨e,E,aY⟩:=CelW.open hS0
 have bt:=aY.r0
 have ba:Sep G W ((RowE (α:=CelS) own 140 vc e)::(Star (SetRows 3 e l))::Rs) w:=aY
 refine za (R0 fun _=>st (zT rfl ?_))
 intro w7 I bu
 let bw:=Blk I #[Iv (fl.kind),Iv (fl.policy),.bool (fl.floor),dm,vc,Iv no,Iv arg] 135
 have aZ:=ba.new bu
 refine zb (za (R0 fun _=>st (ze nT oT rfl rfl (zi (aZ.b0)) ?_)))
 refine st (zO (vals:=[.agg #[Iv (fl.kind),Iv (fl.policy),.bool (fl.floor),dm,vc,Iv no,Iv arg]]) rfl rfl pT (XG (aZ.mv1) bo) ?_)
 rintro _ bv ⟨rfl,Z⟩
 have bb:=Z.r0
 have aa:Sep G W ((RowE (α:=Int) own 3 ((e.gd no.toNat).v) ((l.gd no.toNat).set))::(Star ((SetRows 3 e l).set no.toNat Emp))::(RowE own 140 vc e)::(Blk I #[Iv (fl.kind),Iv (fl.policy),.bool (fl.floor),dm,vc,Iv no,Iv arg] 135)::Rs) bv:=Sep.takeStar (Z.mv2) (SetRows.get om om)
 have bc:=aa.r0
 refine st (aS n (zb (za ?_)))
 refine WD4 ((fun TT L=>WF [fun vals H=>Sep G W (L::TT) H,fun vals H=> ∃d,(vals 6=(.tuple #[Iw d,.bool (decide (arg∈((l.gd no.toNat).set)))]:Value))∧(d≤((l.gd no.toNat).set).length∧(∀q,q<d→((l.gd no.toNat).set).getD q 0<arg)∧(∀q,d≤q→q<((l.gd no.toNat).set).length→arg≤((l.gd no.toNat).set).getD q 0))∧Sep G W (L::TT) H]) ((Star ((SetRows 3 e l).set no.toNat Emp))::(RowE own 140 vc e)::bw::Rs) (RowE own 3 ((e.gd no.toNat).v) ((l.gd no.toNat).set))) (AF [Vl 0 n,Vl 1 n,Vl 2 bx,Vl 3 ((e.gd no.toNat).v),Vl 4 (Ix I 6),Vl 5 (Iv arg),fun _=>True,fun vals=> ∀(d:Nat),vals 6=(.tuple #[Iw d,.bool (decide (arg∈((l.gd no.toNat).set)))]:Value)→vals 7=(.tuple #[Iw d,.bool (decide (arg∈((l.gd no.toNat).set)))]:Value),fun vals=> ∀(d:Nat),vals 6=(.tuple #[Iw d,.bool (decide (arg∈((l.gd no.toNat).set)))]:Value)→vals 8=(Iw d:Value),Vl 9 (.bool (decide (arg∈((l.gd no.toNat).set)))),fun vals=> ∀(d:Nat),vals 6=(.tuple #[Iw d,.bool (decide (arg∈((l.gd no.toNat).set)))]:Value)→vals 10=(Iw d:Value),Vl 11 (.bool (decide (arg∈((l.gd no.toNat).set))))]) [[],[0],[0,1],[0,1,2],[],[4],(rg 6),(rg 7),(rg 8),(rg 8),(rg 9),(rg 11)] [6] [(0,0),(0,0),(0,0),(0,0),(0,0),(0,0),(0,0),(1,1),(1,1),(1,1),(1,1),(1,1)] aa ⟨fun _ _ _ _ _ _ _=>obl rfl (mV n dR),fun _ _ _ _ _ _ ag=>obl rfl (zx (ag 0 dc) dR),fun _ _ _ _ _ _ ah=>obl rfl (xl (ah 1 dc) dR),?_,fun _ _ _ _ _ _ _=>obl rfl (Zj rfl dR),ob1 0 fun _ _ (ai:Sep _ _ _ _) aj=>obl rfl (lD (Iv arg) kT (aj 4 dc) (zd (ai.b3) rfl) dR),?_,?_,?_,?_,?_,fun _ _ _ _ _ _ ak=>obl rfl (ya (ak 9 dc) dR),zj⟩ ?_ (hlocA:=xd ⟨dA,dA,dA,dA,dA,dA,dT,fun vals y A h=>fun d z=>(A 7 (.inl rfl)).trans (h d ((A 6 (.inr dc)).symm.trans z)),fun vals y A h=>fun d z=>(A 8 (.inl rfl)).trans (h d ((A 6 (.inr dc)).symm.trans z)),dA,fun vals y A h=>fun d z=>(A 10 (.inl rfl)).trans (h d ((A 6 (.inr dc)).symm.trans z)),dA,zj⟩)
 refine ob1 0 fun _ _ (al:Sep _ _ _ _) am=>(obl rfl ?_)
 have an:no.toNat<e.length:=bo
 obtain⟨_,_,ab,rfl,hoke148⟩:=al.rowAtD (i:=2) (j:=no.toNat) rfl an
 exact lD ((e.gd no.toNat).v) mT (am 2 dc) (ab.get (j:=1) rfl) dR
 refine ob1 0 fun vals _ (bd:Sep _ _ _ _) ac=>(obl rfl ?_)
 obtain⟨G69,be,hB72,bf,bg⟩:=bd.lend
 have M:=RowE.rd be
 refine(zO (vals:=[(e.gd no.toNat).v,Iv arg]) rfl (yK ⟨(ac 3 dc),(ac 5 dc),zj⟩) pR (XS M om bf hasc) ?_)
 rintro _ w78 ⟨d,rfl,p,bh⟩
 have bi:=bg _ _ bh
 exact fun y A B=>⟨(exiA d (zG A (zG p bi))),zj⟩
 refine ob1 1 fun _ _ ao _=>?_
 obtain⟨d,t,p,hS170⟩:=ao
 refine obl rfl (yg t (fun y A B=>⟨rfl,?_⟩))
 intro N z
 rw[B 6 (by decide)]at z;cases t.symm.trans z
 exact A
 refine ob1 1 fun vals _ ap aq=>?_
 obtain⟨d,t,p,hS177⟩:=ap
 have bj:=aq 7 dc d t
 refine obl rfl (zl bj rfl (fun y A B=>⟨rfl,?_⟩))
 intro N z
 rw[B 6 (by decide)]at z;cases t.symm.trans z
 exact A
 refine ob1 1 fun vals _ ar au=>?_
 obtain⟨d,t,p,hS185⟩:=ar
 have bk:=au 7 dc d t
 exact obl rfl (zl bk rfl dR)
 refine ob1 1 fun vals _ av aw=>?_
 obtain⟨d,t,p,hS193⟩:=av
 have bl:=aw 8 dc d t
 refine obl rfl (ya bl (fun y A B=>⟨rfl,?_⟩))
 intro N z
 rw[B 6 (by decide)]at z;cases t.symm.trans z
 exact A
 intro vals bm ax O
 obtain⟨d,t,p,P⟩:=ax
 have bn:=O 10 dc d t
 have bp:=O 11 dc
 refine yd (kv:=[(0,.agg #[Iv (fl.kind),Iv (fl.policy),.bool (fl.floor),dm,vc,Iv no,Iv arg]),(1,Ix I 0),(5,.agg #[Iv (fl.kind),Iv (fl.policy),.bool (fl.floor),dm,vc,Iv no,Iv arg]),(6,Ix (sb vc) (so vc+no.toNat*2)),(2,Ix (sb vc) (so vc+no.toNat*2)),(3,Iw d),(4,.bool (decide (arg∈((l.gd no.toNat).set))))]) ⟨rfl,rfl,rfl,rfl,rfl,(by exact bn),(by exact bp),zj⟩ (fun ρw202=>(zb (za (R0 fun _=>st (mV (.bool (decide (arg∈((l.gd no.toNat).set)))) (st (yw rfl (zb ?_))))))))
 cases C: !(decide (arg∈((l.gd no.toNat).set)))
 have C:=zB C
 refine zf rfl (zp (Qq lA ?_))
 have ay:Sep _ _ ((CelW vc 140 3 l)::_) _:=CelW.close0 E.1 E.2 om P
 have az:Sep G W ((CelW vc 140 3 (l.set no.toNat (xp fl (yH l no) 3 arg)))::bw::Rs) bm:=by
  rw[Ku (show arg∈(yH l no).set from C),show l.set no.toNat (yH l no)=l from ZP default (by omega)]
  exact ay
 refine⟨rfl,(az.s2_a)⟩
 have C:=zC C
 refine zg rfl ?_
 refine WD4 ((fun TT L Q ad=>WF [fun vals H=>Sep G W (L::Q::ad::TT) H,fun vals H=> ∃g,(vals 8=((Iy g 1 1):Value))∧Sep G W ((Blk g #[Iv arg] 3)::L::Q::ad::TT) H,fun vals H=> ∃g m,(vals 8=((Iy g 1 1):Value))∧(vals 9=m)∧Sep G W ((RowE own 3 m (((l.gd no.toNat).set).take d++arg::((l.gd no.toNat).set).drop d))::Q::ad::TT) H,fun vals H=> ∃g m,(vals 8=((Iy g 1 1):Value))∧(vals 9=m)∧Sep G W ((RowE own 140 vc (e.set no.toNat (⟨(e.gd no.toNat).n,m⟩:CelS)))::(RowE own 3 m (((l.gd no.toNat).set).take d++arg::((l.gd no.toNat).set).drop d))::Q::TT) H]) (bw::Rs) (RowE own 3 ((e.gd no.toNat).v) ((l.gd no.toNat).set)) (Star ((SetRows 3 e l).set no.toNat Emp)) (RowE own 140 vc e)) (AF [Vl 0 n,Vl 1 n,Vl 2 n,Vl 3 bx,Vl 4 ((e.gd no.toNat).v),Vl 5 (Iw d),Vl 6 (Ix I 6),Vl 7 (Iv arg),fun _=>True,fun _=>True,Vl 10 n,Vl 11 bx,fun _=>True]) [[],[],[1],[1,2],[1,2,3],[],[],[6],[6,7],[1,2,3,4,5,6,7,8],(rg 10),(rg 11),(rg 12)] [8,9,12] [(0,2),(0,1),(0,1),(0,1),(0,1),(0,1),(0,0),(0,0),(0,0),(1,1),(2,2),(2,2),(2,2)] P ⟨fun _ _ _ _ _ _ _=>obl rfl (mV n dR),fun _ _ _ _ _ _ _=>obl rfl (mV n dR),fun _ _ _ _ _ _ aA=>obl rfl (zx (aA 1 dc) dR),fun _ _ _ _ _ _ aB=>obl rfl (xl (aB 2 dc) dR),?_,fun _ _ _ _ _ _ _=>obl rfl (mV (Iw d) dR),fun _ _ _ _ _ _ _=>obl rfl (Zj rfl dR),ob1 0 fun _ _ (aC:Sep _ _ _ _) aD=>obl rfl (lD (Iv arg) kT (aD 6 dc) (zd (aC.b3) rfl) dR),?_,?_,fun _ _ _ _ _ _ aE=>obl rfl (zx (aE 0 dc) dR),fun _ _ _ _ _ _ aF=>obl rfl (xl (aF 10 dc) dR),?_,zj⟩ ?_
 refine fun J _ _ bq br R S=>?_
 have hkk:=xz bq br
 rcases hkk with rfl|rfl
 have aG:=R
 refine obl rfl ?_
 have aH:no.toNat<e.length:=bo
 obtain⟨_,_,ae,rfl,hoke358⟩:=aG.rowAtD (i:=2) (j:=no.toNat) rfl aH
 exact lD ((e.gd no.toNat).v) mT (S 3 dc) (ae.get (j:=1) rfl) dR
 obtain⟨g,D,aI⟩:=R
 refine obl rfl ?_
 have aJ:no.toNat<e.length:=bo
 obtain⟨_,_,af,rfl,hoke362⟩:=aI.rowAtD (i:=3) (j:=no.toNat) rfl aJ
 exact lD ((e.gd no.toNat).v) mT (S 3 dc) (af.get (j:=1) rfl) dR
 refine ob1 0 fun _ _ (aK:Sep _ _ _ _) aL=>(obl rfl ((zL (k:=1) (parts':=[(0,Iv arg)]) (c:=#[Iv arg]) lR tT tR dc (ZH ⟨rfl,(aL 7 dc),zj⟩) kr ?_)))
 intro w278 g aM
 exact fun y A B=>⟨(exiA g (zG A (aK.new aM))),zj⟩
 refine ob1 1 fun vals _ aN T=>?_
 obtain⟨g,D,aO⟩:=aN
 refine obl rfl ((zO (vals:=[(e.gd no.toNat).v,Iw d,(Iy g 1 1)]) rfl (yK ⟨(T 4 dc),(T 5 dc),D,zj⟩) Tryz.call127 (zaF (aO.mv1) (p.1) harg ((by have h9:((l.gd no.toNat).set).length≤1000:=hfew;omega))) ?_))
 rintro m w292 ⟨_,rfl,U⟩
 have aP:=U.r0
 exact fun y A B=>⟨(exiA g (exiA m (zG ((B 8 dc).trans D) (zG A U)))),zj⟩
 refine ob1 2 fun _ _ aQ aR=>?_
 obtain⟨g,m,D,K,V⟩:=aQ
 refine obl rfl ?_
 have F:=V.r0
 have aT:=(V.mv2).emp1
 refine(xe (α:=CelS) (j:=no.toNat) (o:=1) (us:=[m]) (x1:=(⟨(e.getD no.toNat default).n,m⟩:CelS)) aT wT bo (aR 11 (by decide)) K (congrArg Array.toList (xS F.1.one)) (xJ rfl) (zZ ⟨F.1.one,zj⟩) (fun _ _ _ hel _=>(by rw[←zK default (by omega)]at hel;obtain⟨rfl,hok⟩:=hel;exact⟨rfl,⟨hok.n,F.1.one⟩⟩)) ?_)
 intro w318 X
 have aU:=X.r0
 exact fun y A B=>⟨(exiA g (exiA m (zG ((B 8 dc).trans D) (zG ((B 9 dc).trans K) X)))),zj⟩
 intro vals bs aV hA400
 obtain⟨g,m,D,K,aW⟩:=aV
 refine yd (kv:=[(0,.agg #[Iv (fl.kind),Iv (fl.policy),.bool (fl.floor),dm,vc,Iv no,Iv arg]),(1,Ix I 0),(5,.agg #[Iv (fl.kind),Iv (fl.policy),.bool (fl.floor),dm,vc,Iv no,Iv arg]),(6,Ix (sb vc) (so vc+no.toNat*2)),(2,Ix (sb vc) (so vc+no.toNat*2)),(3,Iw d),(4,.bool (decide (arg∈((l.gd no.toNat).set)))),(17,.bool (decide (arg∈((l.gd no.toNat).set)))),(18,.bool true)]) sEv (fun ρw398=>(zb (Qq lA ?_)))
 have Y:Sep _ _ ((CelW vc 140 3 (l.set no.toNat (⟨(l.gd no.toNat).n,(((l.gd no.toNat).set).take d++arg::((l.gd no.toNat).set).drop d)⟩:Cel)))::_) _:=CelW.close (i:=no.toNat) (s:=(⟨(e.gd no.toNat).n,m⟩:CelS)) E.1 E.2 om (E.2 _ om) (aW.s4_bcad)
 have aX:Sep G W ((CelW vc 140 3 (l.set no.toNat (xp fl (yH l no) 3 arg)))::bw::Rs) bs:=by
  rw[zbF];rw[zeg (l:=(l.getD no.toNat default).set) hasc p.1 p.2.1 p.2.2 C]at Y
  exact Y
 refine⟨rfl,(aX.s2_a)⟩
set_option maxHeartbeats 4000000 in
theorem zcM {fl:Fld}{dm vc:Value}{no arg:Int}{l:List Cel}(hS0:Sep G W ((CelW vc 140 3 l)::Rs) w)(hno:0≤no∧no<l.length)(hno0:InR no)(harg:InR arg)(hasc:Asc (yH l no).set):Ret Tryz.prog 107 [.agg #[.int .i64 (fl.kind),.int .i64 (fl.policy),.bool (fl.floor),dm,vc,.int .i64 (no),.int .i64 (arg)]] w (fun r w'=>r=(.tuple #[]:Value)∧Sep G W ((CelW vc 140 3 (l.set no.toNat (xp fl (yH l no) 4 arg)))::Rs) w'):=by
 refine zm Tryz.func107 rfl rfl ?_
 let n:=Ix (sb vc) (so vc+no.toNat*2)
 obtain⟨g,A,aq⟩:=CelW.open hS0
 have hsh2l:=A.1
 have aM:=aq.r0
 have hr4s:_*32≤_:=aM.2
 have av:Sep G W ((RowE (α:=CelS) own 140 vc g)::(Star (SetRows 3 g l))::Rs) w:=aq
 refine za (R0 fun _=>st (zT rfl ?_))
 intro w7 M aN
 let ay:=Blk M #[Iv (fl.kind),Iv (fl.policy),.bool (fl.floor),dm,vc,Iv no,Iv arg] 135
 have ar:=av.new aN
 refine zb (za (R0 fun _=>st (ze nT oT rfl rfl (zi (ar.b0)) ?_)))
 refine st (zO (vals:=[.agg #[Iv (fl.kind),Iv (fl.policy),.bool (fl.floor),dm,vc,Iv no,Iv arg]]) rfl rfl pT (XG (ar.mv1) bo) ?_)
 rintro _ aO ⟨rfl,N⟩
 have aw:=N.r0
 have hr12s:_*32≤_:=aw.2
 have O:Sep G W ((RowE (α:=Int) own 3 ((g.gd no.toNat).v) ((l.gd no.toNat).set))::(Star ((SetRows 3 g l).set no.toNat Emp))::(RowE own 140 vc g)::(Blk M #[Iv (fl.kind),Iv (fl.policy),.bool (fl.floor),dm,vc,Iv no,Iv arg] 135)::Rs) aO:=Sep.takeStar (N.mv2) (SetRows.get om om)
 have ax:=O.r0
 have hr15s:_*8≤_:=ax.2
 refine st (aS n (zb (za ?_)))
 refine WD4 ((fun TT au=>WF [fun vals wq=>Sep G W (au::TT) wq,fun vals wq=> ∃d,(vals 6=(.tuple #[Iw d,.bool (decide (arg∈((l.gd no.toNat).set)))]:Value))∧(d≤((l.gd no.toNat).set).length∧(∀q,q<d→((l.gd no.toNat).set).getD q 0<arg)∧(∀q,d≤q→q<((l.gd no.toNat).set).length→arg≤((l.gd no.toNat).set).getD q 0))∧Sep G W (au::TT) wq]) ((Star ((SetRows 3 g l).set no.toNat Emp))::(RowE own 140 vc g)::ay::Rs) (RowE own 3 ((g.gd no.toNat).v) ((l.gd no.toNat).set))) (AF [Vl 0 n,Vl 1 n,Vl 2 (Ix (sb vc) (so vc+no.toNat*2+1)),Vl 3 ((g.gd no.toNat).v),Vl 4 (Ix M 6),Vl 5 (Iv arg),fun _=>True,fun vals=> ∀(d:Nat),vals 6=(.tuple #[Iw d,.bool (decide (arg∈((l.gd no.toNat).set)))]:Value)→vals 7=(.tuple #[Iw d,.bool (decide (arg∈((l.gd no.toNat).set)))]:Value),fun vals=> ∀(d:Nat),vals 6=(.tuple #[Iw d,.bool (decide (arg∈((l.gd no.toNat).set)))]:Value)→vals 8=(Iw d:Value),Vl 9 (.bool (decide (arg∈((l.gd no.toNat).set)))),fun vals=> ∀(d:Nat),vals 6=(.tuple #[Iw d,.bool (decide (arg∈((l.gd no.toNat).set)))]:Value)→vals 10=(Iw d:Value),Vl 11 (.bool (decide (arg∈((l.gd no.toNat).set))))]) [[],[0],[0,1],[0,1,2],[],[4],(rg 6),(rg 7),(rg 8),(rg 8),(rg 9),(rg 11)] [6] [(0,0),(0,0),(0,0),(0,0),(0,0),(0,0),(0,0),(1,1),(1,1),(1,1),(1,1),(1,1)] O ⟨fun _ _ _ _ _ _ _=>obl rfl (mV n dR),fun _ _ _ _ _ _ S=>obl rfl (zx (S 0 dc) dR),fun _ _ _ _ _ _ T=>obl rfl (xl (T 1 dc) dR),?_,fun _ _ _ _ _ _ _=>obl rfl (Zj rfl dR),ob1 0 fun _ _ (U:Sep _ _ _ _) V=>obl rfl (lD (Iv arg) kT (V 4 dc) (zd (U.b3) rfl) dR),?_,?_,?_,?_,?_,fun _ _ _ _ _ _ X=>obl rfl (ya (X 9 dc) dR),zj⟩ ?_ (hlocA:=xd ⟨dA,dA,dA,dA,dA,dA,dT,fun vals y z h=>fun d p=>(z 7 (.inl rfl)).trans (h d ((z 6 (.inr dc)).symm.trans p)),fun vals y z h=>fun d p=>(z 8 (.inl rfl)).trans (h d ((z 6 (.inr dc)).symm.trans p)),dA,fun vals y z h=>fun d p=>(z 10 (.inl rfl)).trans (h d ((z 6 (.inr dc)).symm.trans p)),dA,zj⟩)
 refine ob1 0 fun _ _ (Y:Sep _ _ _ _) Z=>(obl rfl ?_)
 have aa:no.toNat<g.length:=bo
 obtain⟨_,_,P,rfl,hoke148⟩:=Y.rowAtD (i:=2) (j:=no.toNat) rfl aa
 exact lD ((g.gd no.toNat).v) mT (Z 2 dc) (P.get (j:=1) rfl) dR
 refine ob1 0 fun vals _ (az:Sep _ _ _ _) Q=>(obl rfl ?_)
 obtain⟨G69,aA,hB72,aB,aC⟩:=az.lend
 have F:=RowE.rd aA
 have hrd75s:_*8≤_:=F.small
 refine(zO (vals:=[(g.gd no.toNat).v,Iv arg]) rfl (yK ⟨(Q 3 dc),(Q 5 dc),zj⟩) pR (XS F om aB hasc) ?_)
 rintro _ w78 ⟨d,rfl,e,aD⟩
 have aE:=aC _ _ aD
 exact fun y z C=>⟨(exiA d (zG z (zG e aE))),zj⟩
 refine ob1 1 fun _ _ ab _=>?_
 obtain⟨d,m,e,hS170⟩:=ab
 refine obl rfl (yg m (fun y z C=>⟨rfl,?_⟩))
 intro H p
 rw[C 6 (by decide)]at p;cases m.symm.trans p
 exact z
 refine ob1 1 fun vals _ ac ad=>?_
 obtain⟨d,m,e,hS177⟩:=ac
 have aF:=ad 7 dc d m
 refine obl rfl (zl aF rfl (fun y z C=>⟨rfl,?_⟩))
 intro H p
 rw[C 6 (by decide)]at p;cases m.symm.trans p
 exact z
 refine ob1 1 fun vals _ ae af=>?_
 obtain⟨d,m,e,hS185⟩:=ae
 have aG:=af 7 dc d m
 exact obl rfl (zl aG rfl dR)
 refine ob1 1 fun vals _ ag ah=>?_
 obtain⟨d,m,e,hS193⟩:=ag
 have aH:=ah 8 dc d m
 refine obl rfl (ya aH (fun y z C=>⟨rfl,?_⟩))
 intro H p
 rw[C 6 (by decide)]at p;cases m.symm.trans p
 exact z
 intro vals aI ai I
 obtain⟨d,m,e,D⟩:=ai
 have aJ:=I 10 dc d m
 have aK:=I 11 dc
 refine yd (kv:=[(0,.agg #[Iv (fl.kind),Iv (fl.policy),.bool (fl.floor),dm,vc,Iv no,Iv arg]),(1,Ix M 0),(5,.agg #[Iv (fl.kind),Iv (fl.policy),.bool (fl.floor),dm,vc,Iv no,Iv arg]),(6,Ix (sb vc) (so vc+no.toNat*2)),(2,Ix (sb vc) (so vc+no.toNat*2)),(3,Iw d),(4,.bool (decide (arg∈((l.gd no.toNat).set))))]) ⟨rfl,rfl,rfl,rfl,rfl,(by exact aJ),(by exact aK),zj⟩ (fun ρw202=>(zb (za (R0 fun _=>st (mV (.bool (decide (arg∈((l.gd no.toNat).set)))) (zb ?_))))))
 cases t:decide (arg∈((l.gd no.toNat).set))
 have t:=fD t
 refine zf rfl (zp (Qq mA ?_))
 have aj:Sep _ _ ((CelW vc 140 3 l)::_) _:=CelW.close0 A.1 A.2 om D
 have ak:Sep G W ((CelW vc 140 3 (l.set no.toNat (xp fl (yH l no) 4 arg)))::ay::Rs) aI:=by
  rw[KW (show ¬arg∈(yH l no).set from t),show l.set no.toNat (yH l no)=l from ZP default (by omega)]
  exact aj
 refine⟨rfl,(ak.s2_a)⟩
 have t:=tD t
 refine zg rfl (R0 fun _=>st (mV n (st (mV n (st (zx rfl (st (xl rfl ?_))))))))
 have al:no.toNat<g.length:=bo
 obtain⟨_,_,R,rfl,hoke212⟩:=D.rowAtD (i:=2) (j:=no.toNat) rfl al
 refine st (lD ((g.gd no.toNat).v) mT rfl (R.get (j:=1) rfl) (st (mV (Iw d) (st (mV (Iw d) ?_)))))
 have am:InR ((d+1:Nat):Int):=bo
 refine st (zU (r:=((d+1:Nat):Int)) rfl rfl (by rw[show(((d:Nat):Int)+1:Int)=((d+1:Nat):Int)from bo];exact zJ am) (st (cL Tryz.call128 (zaN D ((zby (l:=(l.getD no.toNat default).set) hasc e.1 e.2.1 e.2.2 t).1)) ?_)))
 rintro E w216 ⟨_,rfl,J⟩
 have B:=J.r0
 refine st (zx rfl (st (xl rfl ?_)))
 have an:=(J.mv2).emp1
 refine stn (xe (α:=CelS) (j:=no.toNat) (o:=1) (us:=[E]) (x1:=(⟨(g.getD no.toNat default).n,E⟩:CelS)) an wT bo rfl rfl (congrArg Array.toList (xS B.1.one)) (xJ rfl) (zZ ⟨B.1.one,zj⟩) (fun _ _ _ hel _=>(by rw[←zK default (by omega)]at hel;obtain⟨rfl,hok⟩:=hel;exact⟨rfl,⟨hok.n,B.1.one⟩⟩)) ?_)
 intro aL K
 have ao:=K.r0
 refine zb (Qq mA ?_)
 have L:Sep _ _ ((CelW vc 140 3 (l.set no.toNat (⟨(l.gd no.toNat).n,(((l.gd no.toNat).set).take d++((l.gd no.toNat).set).drop (d+1))⟩:Cel)))::_) _:=CelW.close (i:=no.toNat) (s:=(⟨(g.gd no.toNat).n,E⟩:CelS)) A.1 A.2 om (A.2 _ om) (K.s4_bcad)
 have ap:Sep G W ((CelW vc 140 3 (l.set no.toNat (xp fl (yH l no) 4 arg)))::ay::Rs) aL:=by
  rw[zaL];rw[(zby (l:=(l.getD no.toNat default).set) hasc e.1 e.2.1 e.2.2 t).2]at L
  exact L
 refine⟨rfl,(ap.s2_a)⟩
theorem D_rdo {op:Int}{x:Rul}{fl:Fld}{dm vc:Value}{no arg:Int}{l:List Cel}(hS0:Sep G W ((CelW vc 140 3 l)::Rs) w)(hno:0≤no∧no<l.length)(hno0:InR no)(harg:InR arg)(hx:Ya Yc op=some x)(hop:op=1∨op=2∨op=3∨op=4∨op=5)(hdm:RdS W G dm fl.moves)(hak:((op=3∨op=4)→Asc (yH l no).set)∧(op=5→0≤arg∧arg<fl.moves.length))(hfew:op=3→(yH l no).set.length≤1000):Ret Tryz.prog x.does [.agg #[.int .i64 (fl.kind),.int .i64 (fl.policy),.bool (fl.floor),dm,vc,.int .i64 (no),.int .i64 (arg)]] w (fun r w'=>r=(.tuple #[]:Value)∧Sep G W ((CelW vc 140 3 (l.set no.toNat (xp fl (yH l no) op arg)))::Rs) w'):=by
 rcases hop with rfl|rfl|rfl|rfl|rfl<;>cases hx
 ·exact zdp hS0 hno hno0 harg
 ·exact zdn hS0 hno hno0 harg
 ·exact zcS hS0 hno hno0 harg (hak.1 (.inl rfl)) (hfew rfl)
 ·exact zcM hS0 hno hno0 harg (hak.1 (.inr rfl))
 ·exact zbU hS0 hno hno0 harg hdm (hak.2 rfl)
theorem SetRows.step {Ti:TypeId}{sh:List CelS}{l:List Cel}{k:Nat}(s:CelS)(hlen:sh.length=l.length)(hk:k<l.length):SetRows Ti ((sh.set k s).take (k+1)) (l.take (k+1))=SetRows Ti (sh.take k) (l.take k)++[RowE (α:=Int) own Ti s.v (l.getD k default).set]:=by
 have e1:(sh.set k s).take (k+1)=sh.take k++[s]:=by
  rw[List.take_succ_eq_append_getElem (by rw[List.length_set];omega),List.getElem_set_self,List.take_set_of_le (Nat.le_refl _)]
 have e2:l.take (k+1)=l.take k++[l.getD k default]:=by rw[List.take_succ_eq_append_getElem hk,zK _ hk]
 rw[e1,e2]
 exact SetRows.snoc s _ (by rw[List.length_take,List.length_take];omega)
theorem zbv {sh:List CelS}{l:List Cel}{k:Nat}{v:Value}(hlen:sh.length=l.length)(hn: ∀i,i<l.length→(sh.getD i default).n=(l.getD i default).n)(hk:k<l.length): ∀i,i<l.length→((sh.set k ⟨(sh.getD k default).n,v⟩).getD i default).n=(l.getD i default).n:=by
 intro i hi
 have h:=(KZ (s:=⟨(sh.getD k default).n,v⟩) (c:=l.getD k default) hlen hn (hn k hk) hk).2 i (by rw[List.length_set];exact hi)
 rwa [ZP default hk]at h
theorem zaW {t:Typ}{c:List Cel}{f op arg:Int}(hf:f.toNat<c.length)(h:op≠1∧op≠2∧op≠3∧op≠4∧op≠5):doL t c f op arg=c:=by
 unfold doL xp
 rw[if_neg h.1,if_neg h.2.1,if_neg h.2.2.1,if_neg h.2.2.2.1,if_neg h.2.2.2.2]
 exact ZP default hf
set_option maxHeartbeats 4000000 in
theorem D_Do {t:Typ}{dt0:Value}(hdt0:RdS W G dt0 t.fields)(ot:t.Ok){vc:Value}{c:List Cel}(hc:RdS W G vc c){f:Int}(hf:InR f){op:Int}(hop:InR op){arg:Int}(harg:InR arg)(hS0:Sep G W Rs w)(hak:YU t c f op arg)(hfew:op=3→(yH c f).set.length≤1000):Ret Tryz.prog 61 [.agg (t.cells dt0).toArray,vc,.int .i64 (f),.int .i64 (op),.int .i64 (arg)] w (fun r w'=> ∃(v:Value),r=(v:Value)∧Sep G W ((RowE (α:=Cel) own 140 v (doL t c f op arg))::Rs) w'):=by
 let aP:=zV W (sb dt0) (so dt0+f.toNat*4+3)
 have hcs:_*32≤_:=hc.small
 have hf0:=hak.1;have hf1:=hak.2.1;have hf2:=hak.2.2.1
 refine zm Tryz.func61 rfl rfl ?_
 refine za (R0 fun _=>st (zT rfl ?_))
 intro w3 b2 aO
 let aT:=Blk b2 (t.cells dt0).toArray 74
 refine st (aS Iz (zb (za (R0 fun _=>st (mV vc (st (cL Tryz.call92 (Vh hc (hS0.new aO)) ?_)))))))
 rintro d w6 ⟨_,rfl,aA⟩
 have aQ:=aA.r0
 have hr8s:_*32≤_:=aQ.2
 obtain⟨m,aD,aE,aF⟩:=aA.celShare
 have C:Sep G W ((RowE (α:=CelS) own 140 d m)::aT::Rs) w6:=aF
 have Q:=C.r0
 have hr13s:_*32≤_:=Q.2
 refine st (aS d (zb (za (za (R0 fun _=>st (mV d (st (zS rT rfl Q.1 (st (mV (Iv 0) (zb (zu ?_))))))))))))
 have aG:Sep G W ((Star [])::(RowE (α:=CelS) own 140 d m)::aT::Rs) w6:=C.nilStar
 refine yf (fun mq σ R=> ∃k shk ρ,mq=c.length-k∧σ=yo ρ [(1,vc),(2,Iv f),(3,Iv op),(4,Iv arg),(5,Ix b2 0),(10,(Iz)),(11,d),(18,Iw m.length),(19,Iw k)]∧(k≤c.length)∧(shk.length=c.length)∧(∀i,i<c.length→(shk.gd i).n=(c.gd i).n)∧Sep G W ((RowE own 140 d shk)::(Star (SetRows 3 (shk.take k) (c.take k)))::(Blk b2 (t.cells dt0).toArray 74)::Rs) R) ⟨0,m,_,rfl,sSf,zY _,aD,(fun i h=>(aE i h).1),(aG.mv1)⟩ ?_
 rintro m17 σ18 aR ⟨k,shk,ρl1,rfl,rfl,hkk,hshl,hshn,g⟩
 have A:=g.r0
 have hr20s:_*32≤_:=A.2
 refine za (R0 fun _=>st (zI rfl rfl (zb (za ?_))))
 cases y:decide (((k:Nat):Int)<((m.length:Nat):Int))
 have y:=fD y
 refine zf rfl (yh (zX (za (za (R0 fun _=>?_)))))
 have hkl:k=c.length:=by omega
 rw[hkl]at g
 rw[List.take_of_length_le (Nat.le_of_eq hshl),List.take_length]at g
 have aH:Sep G W ((CelW d 140 3 c)::aT::Rs) aR:=CelW.mk g ⟨hshl,hshn⟩
 refine st (cL mY (JO aH) ?_)
 rintro _ w24 ⟨D,rfl,z⟩
 refine st (mV (Iv op) ?_)
 have hops:(op=1∨op=2∨op=3∨op=4∨op=5)∨(op≠1∧op≠2∧op≠3∧op≠4∧op≠5):=by omega
 rcases hops with hop|hop
 obtain⟨rx,hrx⟩:=Ug hop
 refine st (Xm (α:=Rul) (a:=rx) qT lT rfl rfl (z.map_ (i:=0) rfl) hrx ?_)
 rintro _ rfl
 refine st (mV (.tuple #[.agg #[.func (.func rx.may) #[] #[],.func (.func rx.does) #[] #[]],.bool true]) (st (zl rfl rfl (st (zl rfl rfl (st (zv sT ?_)))))))
 intro w28 E aI
 have S:=z.new aI
 refine stn (zr (v:=.agg #[.func (.func rx.may) #[] #[],.func (.func rx.does) #[] #[]]) mR rfl rfl (S.b0) (zZ ⟨rfl,rfl,zj⟩) yqc rfl ?_)
 intro w30 aJ
 refine st (aS (.bool true) (zb (za (R0 fun _=>st (mV (.bool true) (zb (zg rfl ?_)))))))
 refine WD4 ((fun TT aB aC=>WF [fun vals R=>Sep G W (aB::aC::(CelW d 140 3 c)::TT) R,fun vals R=>(vals 11=(.tuple #[]:Value))∧Sep G W ((CelW d 140 3 (c.set f.toNat (xp (t.fields.gd f.toNat) (yH c f) op arg)))::aB::aC::TT) R]) (aT::Rs) (Blk E #[.func (.func rx.may) #[] #[],.func (.func rx.does) #[] #[]] 130) (YX D Yc)) (AF [Vl 0 (Ix E 1),Vl 1 (.func (.func rx.does) #[] #[]),Vl 2 (Ix b2 0),Vl 3 dt0,Vl 4 (Iv f),Vl 5 (Ix (sb dt0) (so dt0+f.toNat*4)),Vl 6 (.agg ((t.fields.gd f.toNat).cells aP).toArray),Vl 7 d,Vl 8 (Iv f),Vl 9 (Iv arg),Vl 10 (.agg #[Iv ((t.fields.gd f.toNat).kind),Iv ((t.fields.gd f.toNat).policy),.bool ((t.fields.gd f.toNat).floor),aP,d,Iv f,Iv arg]),fun _=>True]) [[],[0],[],[2],[],[2,3,4],[2,3,4,5],[],[],[],[2,3,4,5,6,7,8,9],(rg 11)] [11] [(0,0),(0,0),(0,0),(0,0),(0,0),(0,0),(0,0),(0,0),(0,0),(0,0),(0,0),(0,0)] (S.pt0 aJ) ⟨fun _ _ _ _ _ _ _=>obl rfl (zdD rfl dR),ob1 0 fun _ _ (ac:Sep _ _ _ _) ad=>obl rfl (lD (.func (.func rx.does) #[] #[]) Tryz.isAgg128 (ad 0 dc) (zd (ac.b0) rfl) dR),fun _ _ _ _ _ _ _=>obl rfl (xi rfl dR),ob1 0 fun _ _ (ae:Sep _ _ _ _) af=>obl rfl (lD dt0 nY (af 2 dc) (zd (ae.b3) rfl) dR),fun _ _ _ _ _ _ _=>obl rfl (mV (Iv f) dR),?_,?_,fun _ _ _ _ _ _ _=>obl rfl (mV d dR),fun _ _ _ _ _ _ _=>obl rfl (mV (Iv f) dR),fun _ _ _ _ _ _ _=>obl rfl (mV (Iv arg) dR),?_,?_,zj⟩ ?_
 refine ob1 0 fun _ _ _ F=>(obl rfl ?_)
 have hi178:f.toNat<t.fields.length:=(by have T:=hak.1;have U:=hak.2.1;have V:=hak.2.2.1;omega)
 exact zA (k:=4) (i:=f) oY nR (F 3 dc) hdt0.sl (F 4 dc) ⟨by omega,by omega⟩ dR
 refine ob1 0 fun _ _ (ag:Sep _ _ _ _) ah=>(obl rfl ?_)
 have H:f.toNat<t.fields.length:=(by have T:=hak.1;have U:=hak.2.1;have V:=hak.2.2.1;omega)
 obtain⟨X,B,hoke187⟩:=hdt0.fldD H
 have Y:=ag.cells X (hdt0.foot (ne_of_lt H))
 exact ze pY nR rfl (ah 5 dc) Y dR
 exact fun _ _ _ _ _ _ p=>obl rfl (zQ (parts':=[(0,.agg ((t.fields.getD f.toNat default).cells aP).toArray),(1,d),(2,Iv f),(3,Iv arg)]) (v:=.agg #[Iv ((t.fields.getD f.toNat default).kind),Iv ((t.fields.getD f.toNat default).policy),.bool ((t.fields.getD f.toNat default).floor),aP,d,Iv f,Iv arg]) (ZH ⟨rfl,(p 6 (by decide)),rfl,(p 7 (by decide)),rfl,(p 8 (by decide)),rfl,(p 9 (by decide)),zj⟩) (by obtain⟨_,_,ai,_⟩:=A.1;rw[show d=Value.slice _ _ _ from ai];simp[Instr.build,Instr.fill,go_sem,YR]) dR)
 refine ob1 0 fun vals _ (aj:Sep _ _ _ _) I=>(obl rfl ?_)
 have J:=aj.mv2
 have K:f.toNat<t.fields.length:=(by have T:=hak.1;have U:=hak.2.1;have V:=hak.2.2.1;omega)
 obtain⟨Z,s,hoke128⟩:=hdt0.fldD K
 refine(zO (vals:=[.agg #[Iv ((t.fields.gd f.toNat).kind),Iv ((t.fields.gd f.toNat).policy),.bool ((t.fields.gd f.toNat).floor),aP,d,Iv f,Iv arg]]) (I 1 dc) (yK ⟨(I 10 dc),zj⟩) (Ur hop hrx).2 (D_rdo J (⟨hak.1,hak.2.2.1⟩) hf harg hrx hop s (⟨hak.2.2.2.1,fun h=>⟨(hak.2.2.2.2 h).1,(hak.2.2.2.2 h).2.1⟩⟩) hfew) ?_)
 rintro _ w132 ⟨rfl,ak⟩
 exact fun vals' hv hv'=>⟨(zG hv ak),zj⟩
 intro vals aK al hA222
 obtain⟨he134,am⟩:=al
 refine yd (kv:=[(1,vc),(2,Iv f),(3,Iv op),(4,Iv arg),(5,Ix b2 0),(10,(Iz)),(11,d),(18,Iw m.length),(19,Iw k),(20,.bool false),(34,.map (some D)),(35,Iv op),(36,.tuple #[.agg #[.func (.func rx.may) #[] #[],.func (.func rx.does) #[] #[]],.bool true]),(33,.tuple #[.agg #[.func (.func rx.may) #[] #[],.func (.func rx.does) #[] #[]],.bool true]),(37,.agg #[.func (.func rx.may) #[] #[],.func (.func rx.does) #[] #[]]),(38,.bool true),(13,Ix E 0),(14,.bool true),(39,.bool true)]) sEv (fun ρw220=>(zb (za (R0 fun _=>st (mV d (st (aS d (zb (zo (zN nA rfl ?_))))))))))
 have an:Sep _ _ ((RowE (α:=Cel) own 140 d (c.set f.toNat (xp (t.fields.gd f.toNat) (yH c f) op arg)))::_) _:=CelW.row am
 have ao:Sep G W ((RowE (α:=Cel) own 140 d (doL t c f op arg))::(Blk E #[.func (.func rx.may) #[] #[],.func (.func rx.does) #[] #[]] 130)::(YX D Yc)::aT::Rs) aK:=an
 refine⟨d,rfl,(ao.s4_a)⟩
 refine st (Xi (α:=Rul) (zc:=[.nilFunc,.nilFunc]) qT lT sT rfl rfl (z.map_ (i:=0) rfl) (Vr hop) (st (mV (.tuple #[.agg #[.nilFunc,.nilFunc],.bool false]) (st (zl rfl rfl (st (zl rfl rfl (st (zv sT ?_)))))))))
 intro w229 aL ap
 have L:=z.new ap
 refine stn (zr (v:=.agg #[.nilFunc,.nilFunc]) mR rfl rfl (L.b0) (zZ ⟨rfl,rfl,zj⟩) yqc rfl ?_)
 intro aM aq
 refine st (aS (.bool false) (zb (za (R0 fun _=>st (mV (.bool false) (zb (zf rfl (zp (za (R0 fun _=>st (mV d (st (aS d (zb (zo (zN nA rfl ?_))))))))))))))))
 have ar:Sep _ _ ((RowE (α:=Cel) own 140 d c)::_) _:=CelW.row ((L.pt0 aq).mv2)
 have au:Sep G W ((RowE (α:=Cel) own 140 d (doL t c f op arg))::(Blk aL #[.nilFunc,.nilFunc] 130)::(YX (α:=Rul) D Yc)::(Blk b2 (t.cells dt0).toArray 74)::Rs) aM:=by rw[zaW (by omega) hop];exact ar
 refine⟨d,rfl,(au.s4_a)⟩
 have y:=tD y
 refine zg rfl (zp (za (zu (za (R0 fun _=>st (mV (Iw k) (st (aS (Iw k) (zb (R0 fun _=>st (mV d (st (mV (Iw k) (st (mV vc (st (mV (Iw k) ?_)))))))))))))))))
 have av:k<c.length:=(by have T:=hak.1;have U:=hak.2.1;have V:=hak.2.2.1;omega)
 refine st (zn rT uT rfl hc.sl rfl av (st (xl rfl ?_)))
 have M:k<c.length:=(by have T:=hak.1;have U:=hak.2.1;have V:=hak.2.2.1;omega)
 obtain⟨aa,x,hoke239⟩:=hc.celD M
 have ab:=g.cells aa (hc.foot (ne_of_lt M))
 refine st (lD (zV W (sb vc) (so vc+k*2+1)) mT rfl (ab.get (j:=1) rfl) (st (cL Tryz.call82 (ZQ x g) ?_)))
 rintro e w244 ⟨_,rfl,N⟩
 have q:=N.r0
 have aw:k<shk.length:=(by have T:=hak.1;have U:=hak.2.1;have V:=hak.2.2.1;omega)
 refine st (zn rT uT rfl A.1 rfl aw (st (xl rfl ?_)))
 have ax:=(N.mv1).emp1
 refine stn (xe (α:=CelS) (j:=k) (o:=1) (us:=[e]) (x1:=(⟨(shk.getD k default).n,e⟩:CelS)) ax wT bo rfl rfl (congrArg Array.toList (xS q.1.one)) (xJ rfl) (zZ ⟨q.1.one,zj⟩) (fun _ _ _ hel _=>(by rw[←zK default (by omega)]at hel;obtain⟨rfl,hok⟩:=hel;exact⟨rfl,⟨hok.n,q.1.one⟩⟩)) ?_)
 intro aN O
 have ay:=O.r0
 refine zb (R0 fun _=>?_)
 have az:InR ((k+1:Nat):Int):=bo
 refine st (zU (r:=((k+1:Nat):Int)) rfl rfl (by rw[show(((k:Nat):Int)+1:Int)=((k+1:Nat):Int)from bo];exact zJ az) (st (mV (Iw (k+1)) (zb ?_))))
 have P:Sep G W ((Star (SetRows 3 (shk.take k) (c.take k)++[(RowE (α:=Int) own 3 e ((c.gd k).set))]))::(RowE own 140 d (shk.set k (⟨(shk.gd k).n,e⟩:CelS)))::aT::Rs) aN:=(O.s4_bcad).snocStar
 rw[←SetRows.step (⟨(shk.getD k default).n,e⟩:CelS) hshl (by omega)]at P
 exact⟨_,by omega,k+1,shk.set k (⟨(shk.getD k default).n,e⟩:CelS),_,rfl,sSf,by omega,by rw[List.length_set];exact hshl,(zbv hshl hshn (by omega)),(P.mv1)⟩
end
end Go.Proofs.YtbcdijeggfoabaaGreatDoor
