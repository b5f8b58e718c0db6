import Derived.Test.YtbcdijeggfoabaaGreatDoorZ5
set_option maxRecDepth 8000
set_option maxHeartbeats 4000000
set_option linter.unusedSimpArgs false
set_option linter.unusedVariables false
set_option linter.unusedSectionVars false
set_option linter.deprecated false
open Go.Proofs.Tryz renaming isAgg3→kT,sizeOf44→lT,sizeOf41→mT,sizeOf74→nT,isAgg44→oT,isAgg41→pT,underlying26→qT,sizeOf25→rT,isAgg42→sT,isAgg75→tT,sizeOf77→uT,underlying22→vT,isAgg74→wT,underlying72→kR,underlying56→lR,zeroValue77→mR,isAgg25→nR,sizeOf96→oR,isAgg22→pR,results27→qR,zeroValue44→rR,sizeOf106→sR,isAgg98→tR,isAgg77→uR,zeroValue74→vR,sizeOf165→wR,isAgg125→kY,sizeOf125→lY,underlying98→mY,results91→nY,call58→oY,isAgg56→pY,underlying42→qY,underlying23→rY,zeroValue96→sY,underlying75→tY,isAgg99→uY,isAgg165→vY,call82→wY,sizeOf42→kA,results120→lA,results121→mA,results57→nA,sizeOf75→pA,sizeOf140→qA,zeroValue25→rA,isAgg72→sA,zeroValue41→tA,zeroValue165→uA,underlying99→vA,zeroValue26→wA,results5→kB,sizeOf3→lB
namespace Go.Proofs.YtbcdijeggfoabaaGreatDoor
variable {G:Nat→Prop}{W w:World}{Rs:List HP}
section
open Go.Proofs Go.RowKit
theorem Wq {e:Ev}{de0:Value}(hde0:RdS W G de0 e.deps)(oe:e.Ok)(hS0:Sep G W Rs w):Ret Tryz.prog 58 [.agg (e.cells de0).toArray] w (fun r w'=> ∃(v:Value),r=(.agg (e.cells v).toArray:Value)∧Sep G W ((RowE (α:=Int) own 3 v e.deps)::Rs) w'):=by
 refine zm Tryz.func58 rfl rfl ?_
 refine za (R0 fun _=>st (zT rfl ?_))
 intro w3 b2 n
 refine st (zv rR ?_)
 intro w7 p o
 have i:=(hS0.new n).new o
 refine zb (za (R0 fun _=>st (xg rfl (st (lD de0 sT rfl (zd (i.b1) rfl) (st (cL wY (ZQ hde0 i) ?_)))))))
 rintro g w10 ⟨_,rfl,a⟩
 have d:=a.r0
 refine st (xg rfl (stn (yr kA rfl rfl (a.b2) d.1.one rfl rfl ?_)))
 intro w13 j
 have f:=a.pt2 j
 refine zb (za (R0 fun _=>st (ze oT lT rfl rfl (zi (f.b2)) (stn (zr (v:=.agg (e.cells g).toArray) lT rfl rfl (f.b1) (zZ ⟨rfl,rfl,rfl,d.1.one,rfl,rfl,rfl,rfl,rfl,rfl,zj⟩) yqc rfl ?_)))))
 intro w17 m
 have h:=f.pt1 m
 refine zb (zo (VU Tryz.results58 oT lT rfl rfl (zi (h.b1)) ?_))
 refine⟨g,rfl,(h.s3_a)⟩
instance:Flat Prj:=⟨fun h=>h⟩
theorem el23:Elem Tryz.prog 23 112 5 40:=⟨rY,_,_,rfl,rfl,rfl,rfl,rfl⟩
theorem KN {vl:Value}{l:List Prj}(hl:RdS W G vl l)(hS0:Sep G W Rs w):Ret Tryz.prog 120 [vl] w (fun r w'=> ∃(v:Value),r=(v:Value)∧Sep G W ((RowE (α:=Prj) own 112 v l)::Rs) w'):=by
 have hls:_*40≤_:=hl.small
 refine zm Tryz.func120 rfl rfl ?_
 refine za (R0 fun _=>st (aS Iz (zb (za (za (R0 fun _=>st (mV vl (st (ZO (v:=vl) rY rfl hl.sl (zb ?_))))))))))
 cases i:ZI vl
 refine zf rfl (zp (za (R0 fun _=>st (zL (c:=#[]) rY Tryz.sizeOf112 Tryz.zeroValue112 dc rfl kr ?_))))
 intro o p j
 refine st (mV vl ?_)
 have d:Sep G W ((RowE (α:=Prj) own 112 (Iy p 0 0) [])::Rs) o:=Sep.blkRow (css:=[]) (hS0.new j) rfl trivial yqa
 have e:=d.r0
 refine st (Zy (src:=own) (bytes:=40) d el23 rfl rfl hl yqb rfl (hq':=fun _ _ h _ _=>WX h) ?_)
 intro b q a
 have a:Sep G W ((RowE (α:=Prj) own 112 b l)::Rs) q:=a
 have f:=a.r0
 refine st (aS b (zb (zo (zN lA rfl ?_))))
 refine⟨b,rfl,a⟩
 have m:=Xa hl.sl i
 refine zg rfl (za (R0 fun _=>st (aS Iz (zb (zo (zN lA rfl ?_))))))
 have g:Sep G W ((RowE (α:=Prj) own 112 Iz [])::Rs) w:=hS0.rowNil own 112
 have n:=List.length_eq_zero_iff.1 m
 subst n
 refine⟨(Iz),rfl,g⟩
theorem el72:Elem Tryz.prog 72 106 4 48:=⟨kR,_,_,rfl,rfl,rfl,rfl,rfl⟩
theorem Kv {vl:Value}{l:List Fld}(hl:RdS W G vl l)(hS0:Sep G W Rs w):Ret Tryz.prog 121 [vl] w (fun r w'=> ∃(v:Value),r=(v:Value)∧Sep G W ((RowE (α:=Fld) (shr G W) 106 v l)::Rs) w'):=by
 have hls:_*48≤_:=hl.small
 refine zm Tryz.func121 rfl rfl ?_
 refine za (R0 fun _=>st (aS Iz (zb (za (za (R0 fun _=>st (mV vl (st (ZO (v:=vl) kR rfl hl.sl (zb ?_))))))))))
 cases i:ZI vl
 refine zf rfl (zp (za (R0 fun _=>st (zL (c:=#[]) kR sR Tryz.zeroValue106 dc rfl kr ?_))))
 intro o p j
 refine st (mV vl ?_)
 have d:Sep G W ((RowE (α:=Fld) (shr G W) 106 (Iy p 0 0) [])::Rs) o:=Sep.blkRow (css:=[]) (hS0.new j) rfl trivial yqa
 have e:=d.r0
 refine st (Zy (src:=(shr G W)) (bytes:=48) d el72 rfl rfl hl yqb rfl (hq':=fun _ _ h _ _=>h) ?_)
 intro b q a
 have a:Sep G W ((RowE (α:=Fld) (shr G W) 106 b l)::Rs) q:=a
 have f:=a.r0
 refine st (aS b (zb (zo (zN mA rfl ?_))))
 refine⟨b,rfl,a⟩
 have m:=Xa hl.sl i
 refine zg rfl (za (R0 fun _=>st (aS Iz (zb (zo (zN mA rfl ?_))))))
 have g:Sep G W ((RowE (α:=Fld) (shr G W) 106 Iz [])::Rs) w:=hS0.rowNil (shr G W) 106
 have n:=List.length_eq_zero_iff.1 m
 subst n
 refine⟨(Iz),rfl,g⟩
theorem zcP:Elem Tryz.prog 56 96 13 120:=⟨lR,_,_,rfl,rfl,rfl,rfl,rfl⟩
theorem KA {vl:Value}{l:List Ent}(hl:RdS W G vl l)(hS0:Sep G W Rs w):Ret Tryz.prog 57 [vl] w (fun r w'=> ∃(v:Value),r=(v:Value)∧Sep G W ((RowE (α:=Ent) (shr G W) 96 v l)::Rs) w'):=by
 have hls:_*120≤_:=hl.small
 refine zm (args:=[vl]) Tryz.func57 rfl rfl ?_
 refine za (R0 fun _=>st (aS Iz (zb (za (za (R0 fun _=>st (mV vl (st (ZO (v:=vl) lR rfl hl.sl (zb ?_))))))))))
 cases i:ZI vl
 refine zf rfl (zp (za (R0 fun _=>st (zL (k:=13) (parts':=[]) (c:=#[]) lR oR sY dc rfl kr ?_))))
 intro o p j
 refine st (mV vl ?_)
 have d:Sep G W ((RowE (α:=Ent) (shr G W) 96 (Iy p 0 0) [])::Rs) o:=Sep.blkRow (css:=[]) (hS0.new j) rfl trivial yqa
 have e:=d.r0
 refine st (Zy (src:=(shr G W)) (bytes:=120) d zcP rfl rfl hl yqb rfl (hq':=fun _ _ h _ _=>h) ?_)
 intro b q a
 have a:Sep G W ((RowE (α:=Ent) (shr G W) 96 b l)::Rs) q:=a
 have f:=a.r0
 refine st (aS b (zb (zo (zN nA (show _=(b:Value)from rfl) ?_))))
 refine⟨b,rfl,a⟩
 have m:=Xa hl.sl i
 refine zg rfl (za (R0 fun _=>st (aS Iz (zb (zo (zN nA (show _=((Iz):Value)from rfl) ?_))))))
 have g:Sep G W ((RowE (α:=Ent) (shr G W) 96 Iz [])::Rs) w:=hS0.rowNil (shr G W) 96
 have n:=List.length_eq_zero_iff.1 m
 subst n
 refine⟨(Iz),rfl,g⟩
theorem zcI {x:Sta}{dx0:Value}(hdx0:RdS W G dx0 x.cls)(ox:x.Ok)(hS0:Sep G W Rs w):Ret Tryz.prog 78 [.agg (x.cells dx0).toArray] w (fun r w'=> ∃(v:Value),r=(.agg (x.cells v).toArray:Value)∧Sep G W ((RowE (α:=Cel) own 140 v x.cls)::Rs) w'):=by
 have hdx0s:_*32≤_:=hdx0.small
 refine zm Tryz.func78 rfl rfl ?_
 refine za (R0 fun _=>st (zT rfl ?_))
 intro w3 b2 aD
 refine st (zv mR ?_)
 intro w7 R aE
 have aw:=(hS0.new aD).new aE
 refine zb (za (R0 fun _=>st (xu rfl (st (lD dx0 tT rfl (zd (aw.b1) rfl) (st (cL Tryz.call92 (Vh hdx0 aw) ?_)))))))
 rintro m w10 ⟨_,rfl,F⟩
 have H:=F.r0
 have hr12s:_*32≤_:=H.2
 refine st (xu rfl (stn (yr pA rfl rfl (F.b2) H.1.one rfl rfl ?_)))
 intro w13 ax
 have ok15:Sta.Ok x:=⟨(show InR (x.ver)from ox.ver)⟩
 have S:=F.pt2 ax
 refine zb (za (za (R0 fun _=>st (xu rfl (st (lD m tT rfl (zd (S.b2) rfl) (st (zS tY rfl H.1 (st (mV (Iv 0) (zb (zu ?_))))))))))))
 have ay:=S.toMix
 refine yf (fun mq σ y=> ∃k ρ,mq=x.cls.length-k∧σ=yo ρ [(1,Ix b2 0),(2,Ix R 0),(10,Iw x.cls.length),(11,Iw k)]∧(k≤x.cls.length)∧Sep G W ((RowE (mix G W) 140 m (ZV k x.cls))::(Blk R #[Iv 0,(Iz)] 77)::(Blk b2 (x.cells m).toArray 77)::Rs) y) ⟨0,_,rfl,sSf,zY _,ay⟩ ?_
 rintro m19 σ20 aF ⟨k,ρl1,rfl,rfl,hkk,I⟩
 have J:=I.r0
 rw[Zs]at J
 refine za (R0 fun _=>st (zI rfl rfl (zb (za ?_))))
 cases z:decide (((k:Nat):Int)<((x.cls.length:Nat):Int))
 have z:=fD z
 have A:Sep G W ((RowE (α:=Cel) own 140 m x.cls)::(Blk R #[Iv 0,(Iz)] 77)::(Blk b2 (x.cells m).toArray 77)::Rs) aF:=I.ofMix om
 have T:=A.r0
 have hr25s:_*32≤_:=T.2
 refine zf rfl (yh (zX (za (R0 fun _=>st (ze uR uT rfl rfl (zi (A.b2)) (stn (zr (v:=.agg (x.cells m).toArray) uT rfl rfl (A.b1) (zZ ⟨rfl,T.1.one,zj⟩) yqc rfl ?_)))))))
 intro w26 az
 have U:=A.pt1 az
 refine zb (zo (VU Tryz.results78 uR uT rfl rfl (zi (U.b1)) ?_))
 refine⟨m,rfl,(U.s3_a)⟩
 have z:=tD z
 refine zg rfl (zp (za (zu (za (R0 fun _=>st (mV (Iw k) (st (aS (Iw k) (zb ?_)))))))))
 refine WD4 ((fun TT V=>WF [fun vals y=>Sep G W (V::TT) y,fun vals y=> ∃e,(vals 8=e)∧(RdS W G e (x.cls.gd k).set)∧(Cel.Ok (x.cls.gd k))∧Sep G W (V::TT) y,fun vals y=> ∃e p,(vals 8=e)∧(vals 9=p)∧(RdS W G e (x.cls.gd k).set)∧(Cel.Ok (x.cls.gd k))∧Sep G W ((RowE own 3 p ((x.cls.gd k).set))::V::TT) y,fun vals y=> ∃e p,(vals 8=e)∧(vals 9=p)∧(RdS W G e (x.cls.gd k).set)∧(Cel.Ok (x.cls.gd k))∧Sep G W ((RowE (mix G W) 140 m (ZV (k+1) x.cls))::TT) y]) ((Blk R #[Iv 0,(Iz)] 77)::(Blk b2 (x.cells m).toArray 77)::Rs) (RowE (mix G W) 140 m (ZV k x.cls))) (AF [Vl 0 (Ix b2 1),Vl 1 m,Vl 2 (Iw k),Vl 3 (Ix b2 1),Vl 4 m,Vl 5 (Iw k),Vl 6 (Ix (sb m) (so m+k*2)),Vl 7 (Ix (sb m) (so m+k*2+1)),fun _=>True,fun _=>True,Vl 10 (Ix (sb m) (so m+k*2)),Vl 11 (Ix (sb m) (so m+k*2+1)),fun _=>True]) [[],[0],[],[],[3],[],[3,4,5],[3,4,5,6],[3,4,5,6,7],[3,4,5,6,7,8],(rg 10),(rg 11),(rg 12)] [8,9,12] [(0,2),(0,2),(0,2),(0,0),(0,0),(0,0),(0,0),(0,0),(0,0),(1,1),(2,2),(2,2),(2,2)] I ⟨fun _ _ _ _ _ _ _=>obl rfl (xu rfl dR),?_,fun _ _ _ _ _ _ _=>obl rfl (mV (Iw k) dR),fun _ _ _ _ _ _ _=>obl rfl (xu rfl dR),ob1 0 fun _ _ (Z:Sep _ _ _ _) aa=>obl rfl (lD m tT (aa 3 dc) (zd (Z.b2) rfl) dR),fun _ _ _ _ _ _ _=>obl rfl (mV (Iw k) dR),?_,fun _ _ _ _ _ _ ab=>obl rfl (xl (ab 6 dc) dR),?_,?_,?_,fun _ _ _ _ _ _ ac=>obl rfl (xl (ac 10 dc) dR),?_,zj⟩ ?_
 refine fun t _ _ aA aB B C=>?_
 have hkk:=zaw aA aB
 rcases hkk with rfl|rfl|rfl
 have ad:=B
 exact obl rfl (lD m tT (C 0 dc) (zd (ad.b2) rfl) dR)
 obtain⟨e,q,g,h,ae⟩:=B
 exact obl rfl (lD m tT (C 0 dc) (zd (ae.b2) rfl) dR)
 obtain⟨e,p,q,s,g,h,af⟩:=B
 exact obl rfl (lD m tT (C 0 dc) (zd (af.b3) rfl) dR)
 refine ob1 0 fun _ _ _ K=>(obl rfl ?_)
 have ag:k<x.cls.length:=bo
 exact zn tY qA (K 4 dc) J.1 (K 5 dc) ag dR
 refine ob1 0 fun _ _ (X:Sep _ _ _ _) aC=>(obl rfl ?_)
 have Y:k<x.cls.length:=bo
 obtain⟨_,L,e,rfl,g,h⟩:=X.mixAt (i:=0) (j:=k) rfl (Nat.le_refl _) Y
 rw[←zK default Y]at L g h
 exact(lD e sT (aC 7 dc) (L.get (j:=1) rfl) (fun M hv E=>⟨(exiA e (zG hv (zG g (zG h X)))),zj⟩))
 refine ob1 1 fun vals _ ai _=>?_
 obtain⟨e,q,g,h,aj⟩:=ai
 refine obl rfl ((zO (vals:=[e]) rfl (yK ⟨q,zj⟩) wY (ZQ g aj) ?_))
 rintro p w106 ⟨_,rfl,N⟩
 have ak:=N.r0
 have hr108s:_*8≤_:=ak.2
 exact fun M hv E=>⟨(exiA e (exiA p (zG ((E 8 dc).trans q) (zG hv (zG g (zG h N)))))),zj⟩
 refine ob1 2 fun _ _ al O=>?_
 obtain⟨e,p,q,s,g,h,hS208⟩:=al
 refine obl rfl ?_
 have am:k<x.cls.length:=bo
 exact zn tY qA (O 1 dc) J.1 (O 2 dc) am dR
 refine ob1 2 fun _ _ an ao=>?_
 obtain⟨e,p,q,s,g,h,ap⟩:=an
 refine obl rfl ?_
 have P:=ap.mv1
 have Q:k<x.cls.length:=bo
 have D:=P.r1
 have hr139s:_*8≤_:=D.2
 refine(XR (α:=Cel) (j:=k) (o:=1) (u:=p) (us:=[p]) P kA Q (ao 11 (by decide)) s (congrArg Array.toList (xS D.1.one)) (xJ rfl) (zZ ⟨D.1.one,zj⟩) (fun w f cs0 hr hN=>(by obtain⟨d,rfl,hd,hok⟩:=hr;exact⟨_,rfl,(by rw[←zK default Q];exact RowE.soft hN),hok⟩)) ?_)
 intro w135 aq
 exact fun M hv E=>⟨(exiA e (exiA p (zG ((E 8 dc).trans q) (zG ((E 9 dc).trans s) (zG g (zG h aq)))))),zj⟩
 intro vals w219 ar hA221
 obtain⟨e,p,q,s,g,h,au⟩:=ar
 refine yd (kv:=[(1,Ix b2 0),(2,Ix R 0),(10,Iw x.cls.length),(11,Iw k),(12,.bool true),(13,Iw k),(3,Iw k)]) sEv (fun ρw219=>(zb (R0 fun _=>?_)))
 have av:InR ((k+1:Nat):Int):=bo
 refine st (zU (r:=((k+1:Nat):Int)) rfl rfl (by rw[show(((k:Nat):Int)+1:Int)=((k+1:Nat):Int)from bo];exact zJ av) (st (mV (Iw (k+1)) (zb ?_))))
 exact⟨_,by omega,k+1,_,rfl,sSf,by omega,au⟩
theorem el22:Elem Tryz.prog 22 74 1 24:=⟨vT,_,_,rfl,rfl,rfl,rfl,rfl⟩
theorem KO {d:Dcl}{dd0:Value}(hdd0:RdS W G dd0 d.types){dd1:Value}(hdd1:RdS W G dd1 d.projs)(od:d.Ok)(hS0:Sep G W Rs w):Ret Tryz.prog 95 [.agg (d.cells dd0 dd1).toArray] w (fun r w'=> ∃(v1:Value) (v2:Value),r=(.agg (d.cells v1 v2).toArray:Value)∧Sep G W ((RowE (α:=Typ) own 74 v1 d.types)::(RowE (α:=Prj) own 112 v2 d.projs)::Rs) w'):=by
 have hdd0s:_*24≤_:=hdd0.small
 have hdd1s:_*40≤_:=hdd1.small
 refine zm Tryz.func95 rfl rfl ?_
 refine za (R0 fun _=>st (zT rfl ?_))
 intro w3 b2 aH
 refine st (zv rA ?_)
 intro w7 H aI
 have ag:=(hS0.new aH).new aI
 refine zb (za (R0 fun _=>st (Ym rfl (st (lD dd1 Tryz.isAgg23 rfl (zd (ag.b1) rfl) (st (cL Tryz.call120 (KN hdd1 ag) ?_)))))))
 rintro g w10 ⟨_,rfl,I⟩
 have s:=I.r0
 have hr12s:_*40≤_:=s.2
 have ok13:Dcl.Ok (⟨[],d.projs⟩:Dcl):=⟨⟩
 refine st (zQ (parts':=[(1,g)]) (v:=.agg ((⟨[],d.projs⟩:Dcl).cells Iz g).toArray) rfl (by obtain⟨_,_,ai,_⟩:=s.1;rw[show g=Value.slice _ _ _ from ai];simp[Instr.build,Instr.fill,go_sem,ZZ]) (st (zv rA ?_)))
 intro w17 z aj
 have J:=I.new aj
 refine stn (zr (v:=.agg ((⟨[],d.projs⟩:Dcl).cells Iz g).toArray) rT rfl rfl (J.b0) (zZ ⟨rfl,s.1.one,zj⟩) yqc rfl ?_)
 intro w19 ak
 have K:=J.pt0 ak
 refine zb (za (za (R0 fun _=>st (yJ rfl (st (lD dd0 pR rfl (zd (K.b3) rfl) (st (zS vT rfl hdd0.sl (st (mV (Iv 0) (zb (zu ?_))))))))))))
 have al:Sep _ _ ((RowE (α:=Typ) own 74 Iz [])::_) _:=K.rowNil own 74
 refine yf (fun mq σ wq=> ∃k vo ρ,mq=d.types.length-k∧σ=yo ρ [(1,Ix b2 0),(2,Ix H 0),(3,Ix z 0),(13,dd0),(14,Iw d.types.length),(15,Iw k)]∧(k≤d.types.length)∧Sep G W ((RowE own 74 vo (d.types.take k))::(Blk z #[vo,g] 25)::(RowE own 112 g d.projs)::(Blk H #[(Iz),(Iz)] 25)::(Blk b2 (d.cells dd0 dd1).toArray 25)::Rs) wq) ⟨0,(Iz),_,rfl,sSf,zY _,al⟩ ?_
 rintro m24 σ25 w23 ⟨k,vo,ρl1,rfl,rfl,hkk,h⟩
 have an:=h.r0
 have hr27s:_*24≤_:=an.2
 refine za (R0 fun _=>st (zI rfl rfl (zb (za ?_))))
 cases t:decide (((k:Nat):Int)<((d.types.length:Nat):Int))
 have t:=fD t
 have hkn:k=d.types.length:=by omega
 rw[hkn,List.take_of_length_le (Nat.le_refl d.types.length)]at h
 have L:=h.r0
 have hr29s:_*24≤_:=L.2
 refine zf rfl (yh (zX (za (R0 fun _=>?_))))
 have ok30:Dcl.Ok d:=⟨⟩
 refine st (ze nR rT rfl rfl (zi (h.b1)) (stn (zr (v:=.agg (d.cells vo g).toArray) rT rfl rfl (h.b3) (zZ ⟨L.1.one,s.1.one,zj⟩) yqc rfl ?_)))
 intro aJ ao
 have M:=h.pt3 ao
 refine zb (zo (VU Tryz.results95 nR rT rfl rfl (zi (M.b3)) ?_))
 have ap:Sep G W ((RowE (α:=Typ) own 74 vo d.types)::(RowE own 112 g d.projs)::Rs) aJ:=M.sel 5 [0,2] (yL _ _) rfl rfl
 refine⟨vo,g,rfl,ap⟩
 have t:=tD t
 refine zg rfl (zp (za (zu (za (R0 fun _=>?_)))))
 have aq:k<d.types.length:=bo
 refine st (zn vT nT rfl hdd0.sl rfl aq ?_)
 have N:k<d.types.length:=bo
 obtain⟨ad,m,hoke36⟩:=hdd0.typD N
 have hsm38:((d.types.getD k default).fields).length*48≤140737488355328:=m.small
 have ae:=h.cells ad (hdd0.foot (ne_of_lt N))
 refine st (ze wT nT rfl rfl ae (st (zv vR ?_)))
 intro w42 O ar
 have P:=h.new ar
 refine stn (zr (v:=.agg ((d.types.getD k default).cells (zV W (sb dd0) (so dd0+k*1+0))).toArray) nT rfl rfl (P.b0) (zZ ⟨m.sl.one,zj⟩) yqc rfl ?_)
 intro w44 au
 have Q:=P.pt0 au
 refine zb (za (R0 fun _=>st (xi rfl (st (lD (zV W (sb dd0) (so dd0+k*1+0)) sA rfl (zd (Q.b0) rfl) (st (cL Tryz.call121 (Kv m Q) ?_)))))))
 rintro e w48 ⟨_,rfl,R⟩
 have S:=R.r0
 have hr50s:_*48≤_:=S.2
 refine st (aS e (zb (za (za (R0 fun _=>st (mV e (st (zS kR rfl S.1 (st (mV (Iv 0) (zb (zu ?_))))))))))))
 have av:=R.toMix
 refine yf (fun mq σ wq=> ∃q ρ,mq=((d.types.getD k default).fields).length-q∧σ=yo ρ [(1,Ix b2 0),(2,Ix H 0),(3,Ix z 0),(5,Ix O 0),(6,e),(13,dd0),(14,Iw d.types.length),(15,Iw k),(23,Iw (((d.types.getD k default).fields).length)),(24,Iw q)]∧(q≤((d.types.getD k default).fields).length)∧Sep G W ((RowE (mix G W) 106 e (ZV q ((d.types.getD k default).fields)))::(Blk O ((d.types.getD k default).cells (zV W (sb dd0) (so dd0+k*1+0))).toArray 74)::(RowE own 74 vo (d.types.take k))::(Blk z #[vo,g] 25)::(RowE own 112 g d.projs)::(Blk H #[(Iz),(Iz)] 25)::(Blk b2 (d.cells dd0 dd1).toArray 25)::Rs) wq) ⟨0,_,rfl,sSf,zY _,av⟩ ?_
 rintro m53 σ54 aK ⟨q,ρl2,rfl,rfl,hkq,x⟩
 have B:=x.r0
 rw[Zs]at B
 refine za (R0 fun _=>st (zI rfl rfl (zb (za ?_))))
 cases y:decide (((q:Nat):Int)<((((d.types.getD k default).fields).length:Nat):Int))
 have y:=fD y
 have C:Sep G W ((RowE (α:=Fld) own 106 e ((d.types.getD k default).fields))::(Blk O ((d.types.getD k default).cells (zV W (sb dd0) (so dd0+k*1+0))).toArray 74)::(RowE own 74 vo (d.types.take k))::(Blk z #[vo,g] 25)::(RowE own 112 g d.projs)::(Blk H #[(Iz),(Iz)] 25)::(Blk b2 (d.cells dd0 dd1).toArray 25)::Rs) aK:=x.ofMix om
 have T:=C.r0
 have hr59s:_*48≤_:=T.2
 refine zf rfl (yh (zX (R0 fun _=>st (yJ rfl (st (lD vo pR rfl (zd (C.b3) rfl) (st (mV e ?_))))))))
 have aw:Typ.Ok (d.types.getD k default):=⟨⟩
 refine st (zQ (parts':=[(0,e)]) (v:=.agg ((d.types.getD k default).cells e).toArray) rfl (by obtain⟨_,_,ax,_⟩:=T.1;rw[show e=Value.slice _ _ _ from ax];simp[Instr.build,Instr.fill,go_sem,ZZ]) (st (zL (c:=((d.types.getD k default).cells e).toArray) vT nT vR (by decide) rfl (by kernel_rfl) ?_)))
 intro w64 b63 ay
 have U:=C.new ay
 have af:=U.b0
 refine st (yx (src:=own) (bytes:=24) (x1:=(d.types.getD k default)) (U.s8_dbcefgh) el22 rfl rfl af (fun _ _ hN=>⟨_,rfl,RowE.soft hN,aw⟩) yqb rfl ?_)
 intro V w66 D
 have X:=D.r0
 refine st (yJ rfl (stn (yr Tryz.sizeOf22 rfl rfl (D.b2) X.1.one rfl rfl ?_)))
 intro w72 aA
 refine zb (R0 fun _=>?_)
 have aB:InR ((k+1:Nat):Int):=bo
 refine st (zU (r:=((k+1:Nat):Int)) rfl rfl (by rw[show(((k:Nat):Int)+1:Int)=((k+1:Nat):Int)from bo];exact zJ aB) (st (mV (Iw (k+1)) (zb ?_))))
 have Y:=(D.pt2 aA).s6_acdef
 have aC:(d.types.take (k+1))=(d.types.take k)++[(d.types.getD k default)]:=(List.take_getD om)
 rw[←aC]at Y
 exact⟨_,by omega,k+1,V,_,rfl,sSf,by omega,Y⟩
 have y:=tD y
 refine zg rfl (zp (za (zu (za (R0 fun _=>st (mV (Iw q) (st (aS (Iw q) (zb (R0 fun _=>st (mV e (st (mV (Iw q) (st (mV e (st (mV (Iw q) ?_)))))))))))))))))
 have aD:q<((d.types.getD k default).fields).length:=bo
 refine st (zn kR sR rfl B.1 rfl aD (st (yQ rfl ?_)))
 have Z:q<((d.types.getD k default).fields).length:=bo
 obtain⟨_,F,A,rfl,p,aa⟩:=x.mixAt (i:=0) (j:=q) rfl (Nat.le_refl _) Z
 rw[←zK default Z]at F p aa
 refine st (lD A Tryz.isAgg104 rfl (F.get (j:=3) rfl) (st (cL Tryz.call122 (Ux p x) ?_)))
 rintro ah w83 ⟨_,rfl,ab⟩
 have E:=ab.r0
 have aE:q<((d.types.getD k default).fields).length:=bo
 refine st (zn kR sR rfl B.1 rfl aE (st (yQ rfl ?_)))
 have ac:q<((d.types.getD k default).fields).length:=bo
 refine stn (XR (α:=Fld) (j:=q) (o:=3) (u:=ah) (us:=[ah]) (ab.mv1) Tryz.sizeOf104 ac rfl rfl (congrArg Array.toList (xS E.1.one)) (xJ rfl) (zZ ⟨E.1.one,zj⟩) (fun w f cs0 hr hN=>(by obtain⟨d,rfl,hd,hok⟩:=hr;exact⟨_,rfl,(by rw[←zK default ac];exact RowE.soft hN),hok⟩)) ?_)
 intro w87 aF
 refine zb (R0 fun _=>?_)
 have aG:InR ((q+1:Nat):Int):=bo
 refine st (zU (r:=((q+1:Nat):Int)) rfl rfl (by rw[show(((q:Nat):Int)+1:Int)=((q+1:Nat):Int)from bo];exact zJ aG) (st (mV (Iw (q+1)) (zb ?_))))
 exact⟨_,by omega,q+1,_,rfl,sSf,by omega,aF⟩
theorem zdX {d:Dcl}{dd0:Value}(hdd0:RdS W G dd0 d.types){dd1:Value}(hdd1:RdS W G dd1 d.projs)(od:d.Ok)(hS0:Sep G W Rs w):Ret Tryz.prog 70 [.agg (d.cells dd0 dd1).toArray] w (fun r w'=> ∃(b:Nat),r=(.pointer (some ⟨b,0,none⟩):Value)∧Sep G W ((ViewO b d [] [])::Rs) w'):=by
 refine zm Tryz.func70 rfl rfl ?_
 refine za (R0 fun _=>st (zT rfl ?_))
 intro w3 b2 y
 have l:=hS0.new y
 refine st (aS (.pointer none) (zb (za (R0 fun _=>st (ze nR rT rfl rfl (zi (l.b0)) (st (cL Tryz.call95 (KO hdd0 hdd1 od l) ?_)))))))
 rintro _ C ⟨a,c,rfl,h⟩
 have A:=h.r0
 have n:=h.r1
 refine st (Yz ?_)
 intro m o
 obtain⟨e,i⟩: ∃z,z=C.heap.size:=⟨_,rfl⟩;rw[←i]
 have p:Sep G W ((MapO xB E1 e (fun _=>none))::(RowE (α:=Typ) own 74 a d.types)::(RowE own 112 c d.projs)::(Blk b2 (d.cells dd0 dd1).toArray 25)::Rs) m:=(by rw[i];exact h.mapoNew o)
 refine st (Yz ?_)
 intro B q
 obtain⟨f,j⟩: ∃z,z=m.heap.size:=⟨_,rfl⟩;rw[←j]
 have s:Sep G W ((MapO Zx E2 f (fun _=>none))::(MapO xB E1 e (fun _=>none))::(RowE (α:=Typ) own 74 a d.types)::(RowE own 112 c d.projs)::(Blk b2 (d.cells dd0 dd1).toArray 25)::Rs) B:=(by rw[j];exact p.mapoNew q)
 refine st (zQ (parts':=[(0,.agg (d.cells a c).toArray),(2,.map (some e)),(3,.map (some f))]) (v:=.agg #[a,c,(Iz),.map (some e),.map (some f)]) rfl (by simp[Instr.build,Instr.fill,go_sem,Dcl.cells]) (st (zT rfl ?_)))
 intro w21 g t
 refine st (aS (Ix g 0) (zb (zo (zN Tryz.results70 rfl ?_))))
 have u:Sep _ _ ((RowE (α:=Ent) own 96 Iz [])::_) _:=(s.new t).rowNil own 96
 have x:Sep _ _ ((ViewO g d [] [])::_) _:=ViewO.close (u.s7_befadcg)
 refine⟨g,rfl,(x.s2_a)⟩
theorem WC {P:Program}{n:Nat}{c:Code}{Q:ZW}{σ:Env}{w:World}(J:Env→World→Prop)(h:WP P n c (fun e σ w=>e=.normal∧J σ w) σ w)(hq: ∀σ w,J σ w→Q .normal σ w):WP P n c Q σ w:=fun a hs=>
 wp_mono (h a hs) (by rintro e a' w' ⟨σ'',hs'',rfl,hj⟩;exact⟨σ'',hs'',hq _ _ hj⟩)
abbrev RwV (v:Value)(l:List Ev):HP:=RowE (α:=Ev) own 44 v l
abbrev RwN (v:Value)(l:List Ent):HP:=RowE (α:=Ent) own 96 v l
abbrev RwT (v:Value)(l:List Typ):HP:=RowE (α:=Typ) own 74 v l
abbrev RwP (v:Value)(l:List Prj):HP:=RowE (α:=Prj) own 112 v l
abbrev RwI (v:Value)(l:List Int):HP:=RowE (α:=Int) own 3 v l
abbrev RwC (v:Value)(l:List Cel):HP:=RowE (α:=Cel) own 140 v l
abbrev Ms1 (m:Nat)(d:Dcl)(M:List Ent)(k:Int×Int)(vc:Value):HP:=ZS xB E1 Kj m (zt d M) k (.agg #[.int .i64 ((yn k M:Nat):Int),vc])
abbrev Md1 (m:Nat)(M:List Ent)(e:Ev)(v:Value):HP:=ZS Zx E2 (.slice none 0 0) m (yW M) (e.typ,e.agg,e.field) v
abbrev BkP (b:Nat)(e:Ev):HP:=Blk b #[.int .i64 e.typ,.int .i64 e.agg,.int .i64 e.field] 165
abbrev BkT (b:Nat)(d:Dcl)(e:Ev)(W:World)(v:Value):HP:=Blk b ((d.types.getD e.typ.toNat default).cells (zV W (sb v) (so v+e.typ.toNat*1+0))).toArray 74
abbrev BkV (b:Nat)(vt vp ve:Value)(m4 m5:Nat):HP:=Blk b #[vt,vp,ve,.map (some m4),.map (some m5)] 101
abbrev BkS (b:Nat)(M:List Ent)(k:Int×Int)(v:Value):HP:=Blk b #[.int .i64 ((yn k M:Nat):Int),v] 77
abbrev clL (d:Dcl)(M:List Ent)(e:Ev):List Cel:=zM d (e.typ,e.agg) M
theorem YT {P:Program}{σ:Env}{w:World}{fn:Func}{a u:Tmp}{t:TypeId}{R:Value→World→Prop}{b k:Nat}{cs:List Value}{v':Value}(hr:fn.results=#[.tmp u,.cell a t])(hA: ∀w,(isAgg t).run P w=.ok true w)(hS: ∀w,(sizeOf t).run P w=.ok k w)(hk:cs.length=k)
 (hv:σ a=.pointer (some ⟨b,0,none⟩)) (hc:CellsAt w b 0 cs) (hu:σ u=v') (h:R (.tuple #[v',.agg cs.toArray]) w):Xp P fn R .ret σ w:=by
 subst hk
 refine⟨_,fun tmps ht=>?_,h⟩
 have:=xo (P:=P) (w:=w) b 0 cs 0 #[] (fun j hj=>by simpa using hc j hj)
 have e:tmps[a]?.getD undef=.pointer (some ⟨b,0,none⟩):=by rw[←hv,←ht a];simp
 have e2:tmps[u]?.getD undef=v':=by rw[←hu,←ht u];simp
 simp[results,hr,e,e2,asAddr,loadVar,hA,hS,loadCells,this,go_sem]
theorem JB {p:Ev→Bool}: ∀{l:List Ev} {k:Nat},k<l.length→(∀i,i<k→p (l.getD i default)=false)→p (l.getD k default)=true→l.find? p=some (l.getD k default)
 |[],k,hk,_,_=>absurd hk (Nat.not_lt_zero k)
 |x::l,0,_,_,h1=>by have h1:p x=true:=h1;rw[List.find?_cons,h1];rfl
 |x::l,k+1,hk,h0,h1=>by
  have hx:p x=false:=h0 0 (Nat.succ_pos _)
  rw[List.find?_cons,hx]
  exact JB (by simpa using hk) (fun i hi=>h0 (i+1) (by omega)) h1
theorem zcV {p:Ev→Bool}{l:List Ev}(h: ∀i,i<l.length→p (l.getD i default)=false):l.find? p=none:=by
 rw[List.find?_eq_none]
 intro x hx
 obtain⟨i,hi,rfl⟩:=List.getElem_of_mem hx
 have:=h i hi
 rw[zK _ hi]at this
 rw[this];decide
theorem zaJ (k:Int×Int×Int)(L:List Ent):(yG k L).length≤L.length:=by unfold yG;rw[List.length_map];exact List.length_filter_le _ _
section
variable {d:Dcl}{M:List Ent}{e:Ev}
theorem VA (h: ¬xb d e.typ e.field e.op e.arg=0):ye d M e=(true,0,0):=by unfold ye;rw[if_pos h]
theorem zef {k:Nat}(h:xb d e.typ e.field e.op e.arg=0)(hk:k<(yG (e.typ,e.agg,e.field) M).length)(h0: ∀i,i<k→xt ((d.types.getD e.typ.toNat default).fields.getD e.field.toNat default) ((yG (e.typ,e.agg,e.field) M).getD i default) e=false)
 (h1:xt ((d.types.getD e.typ.toNat default).fields.getD e.field.toNat default) ((yG (e.typ,e.agg,e.field) M).getD k default) e=true):ye d M e=(true,((yG (e.typ,e.agg,e.field) M).getD k default).origin,((yG (e.typ,e.agg,e.field) M).getD k default).seq):=by
 unfold ye xR
 rw[if_neg (by simpa using h),JB (p:=fun x=>xt ((d.types.getD e.typ.toNat default).fields.getD e.field.toNat default) x e) hk h0 h1]
theorem zbQ (h:xb d e.typ e.field e.op e.arg=0)(h0: ∀i,i<(yG (e.typ,e.agg,e.field) M).length→xt ((d.types.getD e.typ.toNat default).fields.getD e.field.toNat default) ((yG (e.typ,e.agg,e.field) M).getD i default) e=false):
 ye d M e=if ¬yN (d.types.getD e.typ.toNat default) (zM d (e.typ,e.agg) M) e.field e.op e.arg=0 then(true,0,0)else(false,0,0):=by
 unfold ye xR
 rw[if_neg (by simpa using h),zcV (p:=fun x=>xt ((d.types.getD e.typ.toNat default).fields.getD e.field.toNat default) x e) h0]
end
theorem Kg {G:Nat→Prop}{W w:World}{As:List HP}{d:Dcl}{M:List Ent}{v2 vc:Value}{k:Int×Int}(h:Sep G W (RowE (α:=Cel) own 140 v2 (zM d k M)::As) w)(hv:v2=vc∨yn k M=0):Sep G W (XT E1 (.agg #[.int .i64 ((yn k M:Nat):Int),vc]) (zt d M k)::As) w:=by
 refine h.impl (i:=0) rfl (fun f hA=>?_)
 unfold zt
 by_cases he:yn k M=0
 ·rw[if_pos he];exact trivial
 ·rw[if_neg he]
  obtain rfl:=hv.resolve_right he
  exact⟨v2,rfl,hA⟩
theorem QC {d:Dcl}{M:List Ent}{k:Int×Int}(h:(zt d M k).isSome=false):yn k M=0:=by
 unfold zt at h
 by_cases h8:yn k M=0
 ·exact h8
 ·rw[if_neg h8]at h;cases h
theorem Qt {d:Dcl}{M:List Ent}{k:Int×Int}(h:(zt d M k).isSome=true): ¬yn k M=0:=by
 intro h8
 unfold zt at h
 rw[if_pos h8]at h;cases h
theorem Ky {t:Typ}{c:List Cel}{f:Int}(h:Right t c)(h0:0≤f)(h1:f<t.fields.length):(yH c f).set.length≤1000:=by
 have:=h.most f.toNat (by have:=h.len;omega)
 exact Nat.le_trans this (by omega)
theorem QF:Elem Tryz.prog 26 44 10 96:=⟨qT,_,_,rfl,rfl,rfl,rfl,rfl⟩
set_option maxHeartbeats 8000000 in
theorem D_try {b:Nat}{d:Dcl}{L:List Ent}{M:List Ent}{e:Ev}{ve0:Value}(oe:e.Ok)(hKN:RdS W G (.slice (some ⟨0,0,none⟩) 6 6) kindsL)(hS0:Sep G W ((ViewO b d L M)::(RowE (α:=Int) own 3 ve0 e.deps)::Rs) w)(hd:DclOk d)(hinv:Inv d M)(hml:M.length≤1000000):Ret Tryz.prog 91 [.pointer (some ⟨b,0,none⟩),.agg (e.cells ve0).toArray] w (fun r w'=>r=(.tuple #[.bool ((ye d M e).1),.agg #[.int .i64 ((ye d M e).2.1),.int .i64 ((ye d M e).2.2)]]:Value)∧(InR (ye d M e).2.1∧InR (ye d M e).2.2)∧Sep G W ((ViewO b d L (M++[yI d M e]))::Rs) w'):=by
 let jZ:=ViewO b d L (M++[yI d M e])
 let bi:=(e.typ,e.agg,e.field)
 have hKNs:_*8≤_:=hKN.small
 refine zm (args:=[Ix b 0,.agg (e.cells ve0).toArray]) Tryz.func91 rfl rfl ?_
 obtain⟨l,O,T,P,R,jN⟩:=ViewO.open hS0
 let jX:=MapO Zx E2 R (yW M)
 let jV:=MapO xB E1 P (zt d M)
 let hv:=MapO xB E1 P (YF (zt d M) (e.typ,e.agg) (yn (e.typ,e.agg) M+1,(doL (d.types.gd e.typ.toNat) (clL d M e) e.field e.op e.arg)))
 have bb:Sep G W ((BkV b l O T P R)::(RwT l d.types)::(RwP O d.projs)::(RwN T L)::jV::jX::(RwI ve0 e.deps)::Rs) w:=jN
 have jO:=bb.r1
 have hr7s:_*24≤_:=jO.2
 have jP:=bb.r2
 have hr8s:_*40≤_:=jP.2
 have jQ:=bb.r3
 have hr9s:_*120≤_:=jQ.2
 have jn:=bb.r6
 have hr10s:_*8≤_:=jn.2
 refine za (R0 fun _=>st (zT (v:=.agg (e.cells ve0).toArray) rfl ?_))
 intro w13 s jo
 let bG:=Blk s (e.cells ve0).toArray 44
 refine st (aS (.bool false) (st (zv tA ?_)))
 intro w17 I jp
 let jU:=Blk I #[Iv 0,Iv 0] 41
 refine zb (za (za ?_))
 refine WD4 ((fun TT J ab ad=>WF [fun vals B=>Sep G W (J::ab::ad::(RwT l d.types)::(RwP O d.projs)::TT) B,fun vals B=>(vals 12=(Iv (xb d e.typ e.field e.op e.arg):Value))∧Sep G W ((RwT l d.types)::(RwP O d.projs)::J::ab::ad::TT) B]) ((RwN T L)::jV::jX::(RwI ve0 e.deps)::Rs) jU bG (BkV b l O T P R)) (AF [Vl 0 (Ix b 0),Vl 1 (Ix b 0),Vl 2 (Ix b 0),Vl 3 (.agg (d.cells l O).toArray),Vl 4 (Ix s 4),Vl 5 (Iv (e.typ)),Vl 6 (Ix s 6),Vl 7 (Iv (e.field)),Vl 8 (Ix s 7),Vl 9 (Iv (e.op)),Vl 10 (Ix s 8),Vl 11 (Iv (e.arg)),fun _=>True,Vl 13 (.bool (!decide ((xb d e.typ e.field e.op e.arg)=0)))]) [[],[0],[0,1],[0,1,2],[],[4],[],[6],[],[8],[],[10],(rg 12),(rg 13)] [12] [(0,0),(0,0),(0,0),(0,0),(0,0),(0,0),(0,0),(0,0),(0,0),(0,0),(0,0),(0,0),(0,0),(1,1)] ((bb.new jo).new jp) ⟨fun _ _ _ _ _ _ _=>obl rfl (mV (Ix b 0) dR),fun _ _ _ _ _ _ gu=>obl rfl (zx (b:=b) (o:=0) (gu 0 dc) dR),fun _ _ _ _ _ _ gv=>obl rfl (JN (gv 1 dc) dR),?_,fun _ _ _ _ _ _ _=>obl rfl (xL rfl dR),ob1 0 fun _ _ (gw:Sep _ _ _ _) gx=>obl rfl (lD (Iv (e.typ)) kT (gx 4 dc) (zd (gw.b1) rfl) dR),fun _ _ _ _ _ _ _=>obl rfl (xN rfl dR),ob1 0 fun _ _ (gy:Sep _ _ _ _) gz=>obl rfl (lD (Iv (e.field)) kT (gz 6 dc) (zd (gy.b1) rfl) dR),fun _ _ _ _ _ _ _=>obl rfl (xP rfl dR),ob1 0 fun _ _ (gA:Sep _ _ _ _) gB=>obl rfl (lD (Iv (e.op)) kT (gB 8 dc) (zd (gA.b1) rfl) dR),fun _ _ _ _ _ _ _=>obl rfl (Zc rfl dR),ob1 0 fun _ _ (gC:Sep _ _ _ _) gD=>obl rfl (lD (Iv (e.arg)) kT (gD 10 dc) (zd (gC.b1) rfl) dR),?_,?_,zj⟩ ?_
 refine ob1 0 fun _ _ (gE:Sep _ _ _ _) gF=>(obl rfl ?_)
 have ok172:Dcl.Ok d:=⟨⟩
 exact ze (k:=2) nR rT rfl (gF 2 dc) (CellsAt.sub (zi (gE.b2)) 0 rfl) dR
 refine ob1 0 fun vals _ (gG:Sep _ _ _ _) aq=>(obl rfl ?_)
 obtain⟨G117,gH,gI,gJ,gK⟩:=(gG.mv3).lend
 have bK:=RowE.rd gH
 have hrd123s:_*24≤_:=bK.small
 obtain⟨G125,gL,cT,gM,gN⟩:=(gJ.mv3).lend
 have bL:=RowE.rd gL
 have hrd131s:_*40≤_:=bL.small
 refine(zO (f:=76) (vals:=[.agg (d.cells l O).toArray,Iv (e.typ),Iv (e.field),Iv (e.op),Iv (e.arg)]) (cap:=[]) rfl (yK ⟨(aq 3 dc),(aq 5 dc),(aq 7 dc),(aq 9 dc),(aq 11 dc),zj⟩) Tryz.call76 (zcL (d:=d) (ty:=e.typ) (f:=e.field) (op:=e.op) (arg:=e.arg) (zk bK cT) bL (⟨⟩:Dcl.Ok d) oe.typ oe.field oe.op oe.arg (zk (zk hKN gI) cT) gM) ?_)
 rintro _ w132 ⟨rfl,gO⟩
 have gP:=gN _ _ gO
 have gQ:=gK _ _ gP
 exact fun C Q D=>⟨(zG Q gQ),zj⟩
 refine ob1 1 fun _ _ gR _=>?_
 obtain⟨cU,hS235⟩:=gR
 exact obl rfl (yj (k:=.i64) (a:=xb d e.typ e.field e.op e.arg) (b:=0) cU rfl dR)
 intro vals p gS gT
 let bF:=zV p (sb l) (so l+e.typ.toNat*1+0)
 let jR:=(d.types.gd e.typ.toNat).cells bF
 obtain⟨cU,cV⟩:=gS
 have jq:=gT 13 dc
 refine yd (kv:=[(0,Ix b 0),(1,.agg (e.cells ve0).toArray),(3,Ix s 0),(4,.bool false),(5,Ix I 0),(25,.bool (!decide ((xb d e.typ e.field e.op e.arg)=0)))]) ⟨rfl,rfl,rfl,rfl,rfl,(by exact jq),zj⟩ (fun ρw236=>(zb ?_))
 cases ag: !decide ((xb d e.typ e.field e.op e.arg)=0)
 have ag:=zB ag
 have hfo:=ZM ag
 have hfz:=ag
 have dM:=hfo.1;have dN:=hfo.2.1;have hft:=hfo.2.2
 have hfl:=hft.lo;have hfh:=hft.hi
 refine zf rfl (zp (za ?_))
 have cW:=cV.s9_acdeghibf
 generalize bx:((RwP O d.projs)::(RwN T L)::Rs)=aj at cW
 obtain⟨N,gU,hB248,gV,bz⟩:=cW.lend
 have K:=RowE.rd gU
 have hrd251s:_*24≤_:=K.small
 refine WD6 ((fun TT J=>WF [fun vals B=>Sep N p (J::TT) B,fun vals B=> ∃(j:Nat),(vals 17=(Ix j 0:Value))∧Sep N p ((Blk j #[(Iz)] 74)::J::TT) B,fun vals B=> ∃(g:Nat),(vals 18=(Ix g 0:Value))∧Sep N p ((Blk g #[Iv 0,Iv 0,Iv 0] 165)::J::TT) B,fun vals B=> ∃(j:Nat) (g:Nat),(vals 17=(Ix j 0:Value))∧(vals 18=(Ix g 0:Value))∧Sep N p ((Blk g #[Iv 0,Iv 0,Iv 0] 165)::(Blk j #[(Iz)] 74)::J::TT) B,fun _ _=>True,fun _ _=>True,fun _ _=>True,fun vals B=> ∃(j:Nat) (g:Nat),(vals 17=(Ix j 0:Value))∧(vals 18=(Ix g 0:Value))∧Sep N p ((Blk g #[Iv 0,Iv 0,Iv 0] 165)::(BkT j d e p l)::J::TT) B,fun _ _=>True,fun _ _=>True,fun _ _=>True,fun _ _=>True,fun _ _=>True,fun _ _=>True,fun _ _=>True,fun vals B=> ∃(j:Nat) (g:Nat),(vals 17=(Ix j 0:Value))∧(vals 18=(Ix g 0:Value))∧Sep N p ((BkP g e)::(BkT j d e p l)::J::TT) B]) (bG::(BkV b l O T P R)::jV::jX::(RwI ve0 e.deps)::aj) jU) (AF [Vl 0 (Ix b 0),Vl 1 (Ix b 0),Vl 2 (Ix b 0),Vl 3 (Ix b 0),Vl 4 l,Vl 5 (Ix s 4),Vl 6 (Iv (e.typ)),Vl 7 (Ix (sb l) (so l+e.typ.toNat*1)),Vl 8 (.agg jR.toArray),Vl 9 (Ix s 4),Vl 10 (Iv (e.typ)),Vl 11 (Ix s 5),Vl 12 (Iv (e.agg)),Vl 13 (.agg #[Iv (e.typ),Iv (e.agg)]),Vl 14 (Ix s 6),Vl 15 (Iv (e.field)),Vl 16 (.agg #[Iv (e.typ),Iv (e.agg),Iv (e.field)]),fun _=>True,fun _=>True,fun _=>True,fun _=>True]) [[],[0],[0,1],[0,1,2],(rg 4),[],[5],(rg 7),(rg 8),[],[9],[],[11],[9,10,11,12],[],[14],[9,10,11,12,13,14,15],[],[],[0,1,2,3,4,5,6,7,8,17,18],(rg 20)] [17,18,19,20] [(rg 4),(rg 4),(rg 4),(rg 4),(rg 4),(rg 4),(rg 4),(rg 4),(rg 4),[0,1,2,3,7],[0,1,2,3,7],[0,1,2,3,7],[0,1,2,3,7],[0,1,2,3,7],[0,1,2,3,7],[0,1,2,3,7],[0,1,2,3,7],[0,2],[0,1],[3],[7]] gV ⟨fun _ _ _ _ _ _=>obl rfl (mV (Ix b 0) dR),fun _ _ _ _ _ gW=>obl rfl (zx (b:=b) (o:=0) (gW 0 (by decide)) dR),fun _ _ _ _ _ gX=>obl rfl (JN (gX 1 (by decide)) dR),fun _ _ _ _ _ gY=>obl rfl (yJ (gY 2 (by decide)) dR),?_,fun _ _ _ _ _ _=>obl rfl (xL rfl dR),?_,?_,?_,fun _ _ _ _ _ _=>obl rfl (xL rfl dR),?_,fun _ _ _ _ _ _=>obl rfl (Ye rfl dR),?_,fun _ _ _ _ _ cX=>obl rfl (zQ (parts':=[(0,Iv (e.typ)),(1,Iv (e.agg))]) (v:=.agg #[Iv (e.typ),Iv (e.agg)]) (ZH ⟨rfl,(cX 10 (by decide)),rfl,(cX 12 (by decide)),zj⟩) (by simp+zetaDelta [Instr.build,Instr.fill,go_sem,ZZ]) dR),fun _ _ _ _ _ _=>obl rfl (xN rfl dR),?_,fun _ _ _ _ _ cY=>obl rfl (zQ (parts':=[(0,.agg #[Iv (e.typ),Iv (e.agg)]),(1,Iv (e.field))]) (v:=.agg #[Iv (e.typ),Iv (e.agg),Iv (e.field)]) (ZH ⟨rfl,(cY 13 (by decide)),rfl,(cY 15 (by decide)),zj⟩) (by simp+zetaDelta [Instr.build,Instr.fill,go_sem,ZZ]) dR),?_,?_,?_,?_,zj⟩ ?_
 intro jr vals w439 gZ aK aL
 have bM:jr∈[0,1,2,3]:=gZ
 simp only[yF]at bM
 rcases bM with rfl|rfl|rfl|rfl
 have ha:Sep _ _ _ _:=aK
 exact obl rfl (lD l pR (aL 3 dc) (zd (ha.b2) rfl) dR)
 obtain⟨j,y,hb⟩:=aK
 exact obl rfl (lD l pR (aL 3 dc) (zd (hb.b3) rfl) dR)
 obtain⟨g,z,hc⟩:=aK
 exact obl rfl (lD l pR (aL 3 dc) (zd (hc.b3) rfl) dR)
 obtain⟨j,g,y,z,he⟩:=aK
 exact obl rfl (lD l pR (aL 3 dc) (zd (he.b4) rfl) dR)
 intro js vals w457 hf aM aN
 have bN:js∈[0,1,2,3]:=hf
 simp only[yF]at bN
 rcases bN with rfl|rfl|rfl|rfl
 have hg:Sep _ _ _ _:=aM
 exact obl rfl (lD (Iv (e.typ)) kT (aN 5 dc) (zd (hg.b1) rfl) dR)
 obtain⟨j,y,hh⟩:=aM
 exact obl rfl (lD (Iv (e.typ)) kT (aN 5 dc) (zd (hh.b2) rfl) dR)
 obtain⟨g,z,hj⟩:=aM
 exact obl rfl (lD (Iv (e.typ)) kT (aN 5 dc) (zd (hj.b2) rfl) dR)
 obtain⟨j,g,y,z,hk⟩:=aM
 exact obl rfl (lD (Iv (e.typ)) kT (aN 5 dc) (zd (hk.b3) rfl) dR)
 intro jt vals w470 hl aO ae
 have bO:jt∈[0,1,2,3]:=hl
 simp only[yF]at bO
 rcases bO with rfl|rfl|rfl|rfl
 have hS474:Sep _ _ _ _:=aO
 refine obl rfl ?_
 have hi477:e.typ.toNat<d.types.length:=bo
 exact zA (k:=1) (i:=e.typ) vT nT (ae 4 dc) K.sl (ae 6 dc) ⟨by omega,by omega⟩ dR
 obtain⟨j,y,hS478⟩:=aO
 refine obl rfl ?_
 have hi481:e.typ.toNat<d.types.length:=bo
 exact zA (k:=1) (i:=e.typ) vT nT (ae 4 dc) K.sl (ae 6 dc) ⟨by omega,by omega⟩ dR
 obtain⟨g,z,hS482⟩:=aO
 refine obl rfl ?_
 have hi485:e.typ.toNat<d.types.length:=bo
 exact zA (k:=1) (i:=e.typ) vT nT (ae 4 dc) K.sl (ae 6 dc) ⟨by omega,by omega⟩ dR
 obtain⟨j,g,y,z,hS486⟩:=aO
 refine obl rfl ?_
 have hi489:e.typ.toNat<d.types.length:=bo
 exact zA (k:=1) (i:=e.typ) vT nT (ae 4 dc) K.sl (ae 6 dc) ⟨by omega,by omega⟩ dR
 intro ju vals w491 hm aP aQ
 have bP:ju∈[0,1,2,3]:=hm
 simp only[yF]at bP
 rcases bP with rfl|rfl|rfl|rfl
 have hn:Sep _ _ _ _:=aP
 refine obl rfl ?_
 have cZ:e.typ.toNat<d.types.length:=bo
 obtain⟨dO,cO,hoke497⟩:=K.typD cZ
 have hsm499:((d.types.gd e.typ.toNat).fields).length*48≤140737488355328:=cO.small
 have dP:=hn.cells dO (K.foot (ne_of_lt cZ))
 exact ze (k:=1) wT nT rfl (aQ 7 dc) dP dR
 obtain⟨j,y,ho⟩:=aP
 refine obl rfl ?_
 have da:e.typ.toNat<d.types.length:=bo
 obtain⟨dQ,cP,hoke503⟩:=K.typD da
 have hsm505:((d.types.gd e.typ.toNat).fields).length*48≤140737488355328:=cP.small
 have dS:=ho.cells dQ (K.foot (ne_of_lt da))
 exact ze (k:=1) wT nT rfl (aQ 7 dc) dS dR
 obtain⟨g,z,hp⟩:=aP
 refine obl rfl ?_
 have db:e.typ.toNat<d.types.length:=bo
 obtain⟨dU,cQ,hoke509⟩:=K.typD db
 have hsm511:((d.types.gd e.typ.toNat).fields).length*48≤140737488355328:=cQ.small
 have dV:=hp.cells dU (K.foot (ne_of_lt db))
 exact ze (k:=1) wT nT rfl (aQ 7 dc) dV dR
 obtain⟨j,g,y,z,hq⟩:=aP
 refine obl rfl ?_
 have dd:e.typ.toNat<d.types.length:=bo
 obtain⟨dW,cR,hoke515⟩:=K.typD dd
 have hsm517:((d.types.gd e.typ.toNat).fields).length*48≤140737488355328:=cR.small
 have dX:=hq.cells dW (K.foot (ne_of_lt dd))
 exact ze (k:=1) wT nT rfl (aQ 7 dc) dX dR
 intro jv vals w525 hr ar au
 have bQ:jv∈[0,1,2,3,7]:=hr
 simp only[yF]at bQ
 rcases bQ with rfl|rfl|rfl|rfl|rfl
 have hs:Sep _ _ _ _:=ar
 exact obl rfl (lD (Iv (e.typ)) kT (au 9 dc) (zd (hs.b1) rfl) dR)
 obtain⟨j,y,ht⟩:=ar
 exact obl rfl (lD (Iv (e.typ)) kT (au 9 dc) (zd (ht.b2) rfl) dR)
 obtain⟨g,z,hu⟩:=ar
 exact obl rfl (lD (Iv (e.typ)) kT (au 9 dc) (zd (hu.b2) rfl) dR)
 obtain⟨j,g,y,z,hw⟩:=ar
 exact obl rfl (lD (Iv (e.typ)) kT (au 9 dc) (zd (hw.b3) rfl) dR)
 obtain⟨j,g,y,z,hx⟩:=ar
 exact obl rfl (lD (Iv (e.typ)) kT (au 9 dc) (zd (hx.b3) rfl) dR)
 intro jw vals w545 hy av aw
 have bR:jw∈[0,1,2,3,7]:=hy
 simp only[yF]at bR
 rcases bR with rfl|rfl|rfl|rfl|rfl
 have hz:Sep _ _ _ _:=av
 exact obl rfl (lD (Iv (e.agg)) kT (aw 11 dc) (zd (hz.b1) rfl) dR)
 obtain⟨j,y,hA⟩:=av
 exact obl rfl (lD (Iv (e.agg)) kT (aw 11 dc) (zd (hA.b2) rfl) dR)
 obtain⟨g,z,hB⟩:=av
 exact obl rfl (lD (Iv (e.agg)) kT (aw 11 dc) (zd (hB.b2) rfl) dR)
 obtain⟨j,g,y,z,hC⟩:=av
 exact obl rfl (lD (Iv (e.agg)) kT (aw 11 dc) (zd (hC.b3) rfl) dR)
 obtain⟨j,g,y,z,hD⟩:=av
 exact obl rfl (lD (Iv (e.agg)) kT (aw 11 dc) (zd (hD.b3) rfl) dR)
 intro jx vals w572 hE ax ay
 have bS:jx∈[0,1,2,3,7]:=hE
 simp only[yF]at bS
 rcases bS with rfl|rfl|rfl|rfl|rfl
 have hF:Sep _ _ _ _:=ax
 exact obl rfl (lD (Iv (e.field)) kT (ay 14 dc) (zd (hF.b1) rfl) dR)
 obtain⟨j,y,hG⟩:=ax
 exact obl rfl (lD (Iv (e.field)) kT (ay 14 dc) (zd (hG.b2) rfl) dR)
 obtain⟨g,z,hH⟩:=ax
 exact obl rfl (lD (Iv (e.field)) kT (ay 14 dc) (zd (hH.b2) rfl) dR)
 obtain⟨j,g,y,z,hI⟩:=ax
 exact obl rfl (lD (Iv (e.field)) kT (ay 14 dc) (zd (hI.b3) rfl) dR)
 obtain⟨j,g,y,z,hJ⟩:=ax
 exact obl rfl (lD (Iv (e.field)) kT (ay 14 dc) (zd (hJ.b3) rfl) dR)
 intro jy vals w594 hK de hA595
 have bT:jy∈[0,2]:=hK
 simp only[yF]at bT
 rcases bT with rfl|rfl
 have hL:Sep _ _ _ _:=de
 refine obl rfl ((zv vR ?_))
 intro w601 j hM
 exact fun C Q D=>⟨(exiA j (zG Q (hL.new hM))),zj⟩
 obtain⟨g,z,hO⟩:=de
 refine obl rfl ((zv vR ?_))
 intro w606 j hP
 exact fun C Q D=>⟨(exiA j (exiA g (zG Q (zG ((D 18 dc).trans z) ((hO.new hP).mv1))))),zj⟩
 intro jz vals w610 hQ df hA611
 have bU:jz∈[0,1]:=hQ
 simp only[yF]at bU
 rcases bU with rfl|rfl
 have hR:Sep _ _ _ _:=df
 refine obl rfl ((zv uA ?_))
 intro w617 g hS
 exact fun C Q D=>⟨(exiA g (zG Q (hR.new hS))),zj⟩
 obtain⟨j,y,hU⟩:=df
 refine obl rfl ((zv uA ?_))
 intro w622 g hV
 exact fun C Q D=>⟨(exiA j (exiA g (zG ((D 17 dc).trans y) (zG Q (hU.new hV))))),zj⟩
 intro jA vals w625 hW hX hY
 have bV:jA∈[3]:=hW
 simp only[yF]at bV
 subst bV
 obtain⟨j,g,y,z,bA⟩:=hX
 refine obl rfl ?_
 have dg:e.typ.toNat<d.types.length:=bo
 obtain⟨dY,bc,hoke633⟩:=K.typD dg
 have hsm635:((d.types.gd e.typ.toNat).fields).length*48≤140737488355328:=bc.small
 have hcw636:=bA.cells dY (K.foot (ne_of_lt dg))
 refine(zr (v:=.agg jR.toArray) (c':=jR.toArray) nT y (hY 8 dc) (bA.b1) (zZ ⟨bc.sl.one,zj⟩) yqc rfl ?_)
 intro w631 hZ
 exact fun C Q D=>⟨(exiA j (exiA g (zG ((D 17 dc).trans y) (zG ((D 18 dc).trans z) (bA.pt1 hZ))))),zj⟩
 intro jB vals w639 ia ib ic
 have bW:jB∈[7]:=ia
 simp only[yF]at bW
 subst bW
 obtain⟨j,g,y,z,dh⟩:=ib
 refine obl rfl ((zr (v:=.agg #[Iv (e.typ),Iv (e.agg),Iv (e.field)]) (c':=#[Iv (e.typ),Iv (e.agg),Iv (e.field)]) wR z (ic 16 dc) (dh.b0) (zZ ⟨rfl,rfl,rfl,zj⟩) yqc rfl ?_))
 intro w645 id
 exact fun C Q D=>⟨(exiA j (exiA g (zG ((D 17 dc).trans y) (zG ((D 18 dc).trans z) (dh.pt0 id))))),zj⟩
 intro vals w648 ie hA650
 obtain⟨j,g,y,z,di⟩:=ie
 refine yd (kv:=[(0,Ix b 0),(1,.agg (e.cells ve0).toArray),(3,Ix s 0),(4,.bool false),(5,Ix I 0),(25,.bool false),(6,Ix j 0),(7,Ix g 0)]) ⟨rfl,rfl,rfl,rfl,rfl,rfl,(by exact y),(by exact z),zj⟩ (fun ρw648=>(zb (za (za ?_))))
 have dj:e.typ.toNat<d.types.length:=bo
 obtain⟨dZ,V,aG⟩:=K.typD dj
 have hsm654:((d.types.gd e.typ.toNat).fields).length*48≤140737488355328:=V.small
 have hcw655:=di.cells dZ (K.foot (ne_of_lt dj))
 obtain⟨m,ea,ig⟩:=(di.mv6).mapoTake (Iz) bi
 let ka:=RwV m (yG bi M)
 have dk:Sep _ _ (ka::_) _:=zbA (ig.mv1) ea
 have dl:=dk.r0
 have hr662s:_*96≤_:=dl.2
 have hdl9:=zaJ bi M
 refine WD4 (WF [fun vals B=>Sep N p (ka::(Md1 R M e m)::(BkP g e)::(BkT j d e p l)::jU::bG::(BkV b l O T P R)::jV::(RwI ve0 e.deps)::aj) B]) (AF [Vl 0 (Ix b 0),Vl 1 (Ix b 0),Vl 2 (Ix b 4),Vl 3 (.map (some R)),Vl 4 (.agg #[Iv (e.typ),Iv (e.agg),Iv (e.field)]),Vl 5 m,Vl 6 (Iw ((yG bi M).length)),Vl 7 (Iv 0)]) [[],[0],[0,1],[0,1,2],[],(rg 5),(rg 6),[]] [] [(0,0),(0,0),(0,0),(0,0),(0,0),(0,0),(0,0),(0,0)] dk ⟨fun _ _ _ _ _ _ _=>obl rfl (mV (Ix b 0) dR),fun _ _ _ _ _ _ ih=>obl rfl (zx (b:=b) (o:=0) (ih 0 dc) dR),fun _ _ _ _ _ _ ii=>obl rfl (Jf (ii 1 dc) dR),ob1 0 fun _ _ (ij:Sep _ _ _ _) ik=>obl rfl (lD (.map (some R)) uY (ik 2 dc) (zd (ij.b6) rfl) dR),ob1 0 fun _ _ (il:Sep _ _ _ _) _=>obl rfl (ze (k:=3) vY wR rfl rfl (zi (il.b2)) dR),ob1 0 fun _ _ (im:Sep _ _ _ _) dm=>obl rfl (KH im (i:=1) rfl K3 vA wA (dm 3 dc) (dm 4 dc) dR),ob1 0 fun _ _ _ io=>obl rfl (zS (n:=(yG bi M).length) qT (io 5 dc) dl.1 dR),fun _ _ _ _ _ _ _=>obl rfl (mV (Iv 0) dR),zj⟩ ?_
 intro vals Y ip bB
 have iq:Sep _ _ _ _:=ip
 have jC:=bB 5 dc
 have jD:=bB 6 dc
 have jE:=bB 7 dc
 refine yd (kv:=[(0,Ix b 0),(1,.agg (e.cells ve0).toArray),(3,Ix s 0),(4,.bool false),(5,Ix I 0),(25,.bool false),(6,Ix j 0),(7,Ix g 0),(49,m),(50,Iw ((yG bi M).length)),(51,Iv 0)]) ⟨rfl,rfl,rfl,rfl,rfl,rfl,rfl,rfl,(by exact jC),(by exact jD),(by exact jE),zj⟩ (fun ρw779=>(zb (zu ?_)))
 obtain⟨bd,ir,az,it,dp⟩:=iq.lend
 have aA:=RowE.rd ir
 have hrd792s:_*96≤_:=aA.small
 have dq:=it.s8_bcdefhag
 generalize dr:((Md1 R M e m)::(MapO xB E1 P (zt d M))::aj)=bC at dq
 refine yf (fun mq σ B=> ∃(k:Nat) (ρ:Env),mq=(yG (e.typ,e.agg,e.field) M).length-k∧σ=yo ρ [(0,Ix b 0),(3,Ix s 0),(5,Ix I 0),(6,Ix j 0),(7,Ix g 0),(49,m),(50,Iw ((yG (e.typ,e.agg,e.field) M).length)),(51,Iw k)]∧(k≤(yG (e.typ,e.agg,e.field) M).length)∧(∀i,i<k→xt ((d.types.gd e.typ.toNat).fields.gd e.field.toNat) ((yG (e.typ,e.agg,e.field) M).gd i) e=false)∧Sep bd Y ((BkP g e)::(BkT j d e p l)::(Blk I #[Iv 0,Iv 0] 41)::(Blk s (e.cells ve0).toArray 44)::(BkV b l O T P R)::(RwI ve0 e.deps)::bC) B) ⟨0,_,rfl,sSf,zY _,(fun i h=>absurd h (yO i)),dq⟩ ?_
 rintro m797 σ798 jF ⟨k,ρl1,rfl,rfl,hkk,hno,aB⟩
 let jS:=zV Y (sb m) (so m+k*10+3)
 let jT:=((yG bi M).gd k).cells jS
 refine za (R0 fun _=>st (zI (k:=.i64) (a:=((k:Nat):Int)) (b:=(((yG bi M).length:Nat):Int)) rfl rfl (zb (za ?_))))
 cases aR:decide (((k:Nat):Int)<(((yG (e.typ,e.agg,e.field) M).length:Nat):Int))
 have aR:=fD aR
 try simp+zetaDelta only at aB
 rw[←dr]at aB
 have iu:=dp _ _ aB
 have hfree:=zbQ hfz (fun i hi=>hno i om)
 refine zf rfl (yh (zX (za ?_)))
 obtain⟨vs803,eb,iv⟩:=(iu.mv8).mapoTake Kj (e.typ,e.agg)
 obtain⟨H,rfl,iw⟩:=Uu (iv.mv1) eb
 let jY:=Ms1 P d M (e.typ,e.agg) H
 have bX:Sep N p ((RwC H (stL d (e.typ,e.agg) M))::jY::ka::(BkP g e)::(BkT j d e p l)::jU::bG::(BkV b l O T P R)::(RwI ve0 e.deps)::(Md1 R M e m)::aj) jF:=iw
 have ds:=bX.r0
 have hr809s:_*32≤_:=ds.2
 have dt:=bX.s10_abdeghjcif
 generalize du:((Md1 R M e m)::(RwV m (yG (e.typ,e.agg,e.field) M))::(RwI ve0 e.deps)::(Blk I #[Iv 0,Iv 0] 41)::aj)=bD at dt
 have hve9:=ZJ (e.typ,e.agg) M
 refine WD4 ((fun TT J=>WF [fun vals B=>Sep N p (J::TT) B,fun vals B=> ∃(u:Nat),(vals 10=(Ix u 0:Value))∧Sep N p ((Blk u #[Iv 0,(Iz)] 77)::J::TT) B,fun vals B=> ∃(u:Nat),(vals 10=(Ix u 0:Value))∧Sep N p ((BkS u M (e.typ,e.agg) H)::J::TT) B]) (jY::(BkP g e)::(BkT j d e p l)::bG::(BkV b l O T P R)::bD) (RwC H (stL d (e.typ,e.agg) M))) (AF [Vl 0 (Ix b 0),Vl 1 (Ix b 0),Vl 2 (Ix b 3),Vl 3 (.map (some P)),Vl 4 (Ix g 0),Vl 5 (.agg #[Iv (e.typ),Iv (e.agg)]),Vl 6 (.tuple #[.agg #[Iw (yn (e.typ,e.agg) M),H],.bool (((zt d M) (e.typ,e.agg)).isSome)]),Vl 7 (.tuple #[.agg #[Iw (yn (e.typ,e.agg) M),H],.bool (((zt d M) (e.typ,e.agg)).isSome)]),Vl 8 (.agg #[Iw (yn (e.typ,e.agg) M),H]),Vl 9 (.bool (((zt d M) (e.typ,e.agg)).isSome)),fun _=>True,fun _=>True,Vl 12 (.bool (((zt d M) (e.typ,e.agg)).isSome))]) [[],[0],[0,1],[0,1,2],[],[4],(rg 6),(rg 7),(rg 8),(rg 8),[],[0,1,2,3,4,5,6,7,8,10],(rg 12)] [10,11] [(0,1),(0,1),(0,1),(0,1),(0,1),(0,1),(0,1),(0,1),(0,1),(0,2),(0,0),(1,1),(2,2)] dt ⟨fun _ _ _ _ _ _ _=>obl rfl (mV (Ix b 0) dR),fun _ _ _ _ _ _ ix=>obl rfl (zx (b:=b) (o:=0) (ix 0 dc) dR),fun _ _ _ _ _ _ iy=>obl rfl (UK (iy 1 dc) dR),?_,fun _ _ _ _ _ _ _=>obl rfl (JA rfl dR),?_,?_,fun _ _ _ _ _ _ iz=>obl rfl (yg (v:=.tuple #[.agg #[Iw (yn (e.typ,e.agg) M),H],.bool (((zt d M) (e.typ,e.agg)).isSome)]) (iz 6 dc) dR),fun _ _ _ _ _ _ iA=>obl rfl (zl (vs:=[.agg #[Iw (yn (e.typ,e.agg) M),H],.bool (((zt d M) (e.typ,e.agg)).isSome)]) (i:=0) (v:=.agg #[Iw (yn (e.typ,e.agg) M),H]) (iA 7 dc) rfl dR),fun _ _ _ _ _ _ iB=>obl rfl (zl (vs:=[.agg #[Iw (yn (e.typ,e.agg) M),H],.bool (((zt d M) (e.typ,e.agg)).isSome)]) (i:=1) (v:=.bool (((zt d M) (e.typ,e.agg)).isSome)) (iB 7 dc) rfl dR),?_,?_,fun _ _ _ _ _ _ iC=>obl rfl (ya (v:=.bool (((zt d M) (e.typ,e.agg)).isSome)) (iC 9 dc) dR),zj⟩ ?_
 refine fun bE _ _ jG jH dv dw=>?_
 have hkk:=xz jG jH
 rcases hkk with rfl|rfl
 have iD:Sep _ _ _ _:=dv
 exact obl rfl (lD (.map (some P)) tR (dw 2 dc) (zd (iD.b5) rfl) dR)
 obtain⟨u,ah,iE⟩:=dv
 exact obl rfl (lD (.map (some P)) tR (dw 2 dc) (zd (iE.b6) rfl) dR)
 refine fun bH _ _ jI jJ dx dy=>?_
 have hkk:=xz jI jJ
 rcases hkk with rfl|rfl
 have iF:Sep _ _ _ _:=dx
 exact obl rfl (ze (k:=2) kY lY rfl (dy 4 dc) (CellsAt.sub (zi (iF.b2)) 0 rfl) dR)
 obtain⟨u,ah,iG⟩:=dx
 exact obl rfl (ze (k:=2) kY lY rfl (dy 4 dc) (CellsAt.sub (zi (iG.b3)) 0 rfl) dR)
 refine fun bI _ _ jK jL dz aT=>?_
 have hkk:=xz jK jL
 rcases hkk with rfl|rfl
 have iH:Sep _ _ _ _:=dz
 exact obl rfl (YI iH (i:=1) rfl K2 mY mR (aT 3 dc) (aT 5 dc) dR)
 obtain⟨u,ah,iI⟩:=dz
 exact obl rfl (YI iI (i:=2) rfl K2 mY mR (aT 3 dc) (aT 5 dc) dR)
 refine ob1 0 fun _ _ (iJ:Sep _ _ _ _) _=>(obl rfl ((zv mR ?_)))
 intro w894 u iK
 exact fun C Q D=>⟨(exiA u (zG Q (iJ.new iK))),zj⟩
 refine ob1 1 fun _ _ iL iM=>?_
 obtain⟨u,ah,dB⟩:=iL
 refine obl rfl ((zr (v:=.agg #[Iw (yn (e.typ,e.agg) M),H]) (c':=#[Iw (yn (e.typ,e.agg) M),H]) uT ah (iM 8 dc) (dB.b0) (zZ ⟨rfl,ds.1.one,zj⟩) yqc rfl ?_))
 intro w905 iN
 exact fun C Q D=>⟨(exiA u (zG ((D 10 dc).trans ah) (dB.pt0 iN))),zj⟩
 intro vals w1001 ec ed
 obtain⟨u,ah,be⟩:=ec
 have iO:=ed 12 dc
 refine yd (kv:=[(0,Ix b 0),(3,Ix s 0),(5,Ix I 0),(6,Ix j 0),(7,Ix g 0),(49,m),(50,Iw ((yG bi M).length)),(51,Iw k),(52,.bool false),(10,Ix u 0),(11,.bool (((zt d M) (e.typ,e.agg)).isSome))]) ⟨rfl,rfl,rfl,rfl,rfl,rfl,rfl,rfl,rfl,(by exact ah),(by exact iO),zj⟩ (fun ρw1001=>(zb (za (za (R0 fun _=>st (mV (.bool (((zt d M) (e.typ,e.agg)).isSome)) (st (yw (a:=((zt d M) (e.typ,e.agg)).isSome) rfl (zb ?_)))))))))
 refine WC (fun σ B=> ∃(U:Value) (ρ:Env),σ=yo ρ [(0,Ix b 0),(3,Ix s 0),(5,Ix I 0),(6,Ix j 0),(7,Ix g 0),(10,Ix u 0)]∧(U=H∨yn (e.typ,e.agg) M=0)∧Sep N p ((BkS u M (e.typ,e.agg) U)::(RwC U (clL d M e))::jY::(BkP g e)::(BkT j d e p l)::bG::(BkV b l O T P R)::bD) B) ?_ ?_
 cases aC: !(((zt d M) (e.typ,e.agg)).isSome)
 try simp only[zh]at aC
 refine zf rfl (zp ?_)
 have bf:=be.mv1
 try simp+zetaDelta only at bf
 rw[show stL d (e.typ,e.agg) M=(zM d (e.typ,e.agg) M)from ifnC (Qt aC)]at bf
 exact⟨rfl,H,_,yZ ⟨(show _=(Ix b 0:Value)from rfl),(show _=(Ix s 0:Value)from rfl),(show _=(Ix I 0:Value)from rfl),(show _=(Ix j 0:Value)from rfl),(show _=(Ix g 0:Value)from rfl),(show _=(Ix u 0:Value)from rfl),zj⟩,(.inl rfl),(bf.mv1)⟩
 try simp only[zh]at aC
 refine zg rfl (R0 fun _=>st (ze (k:=1) wT nT rfl rfl (zi (be.b4)) (st (cL Tryz.call37 (zbT (t:=(d.types.gd e.typ.toNat)) V aG be) ?_))))
 rintro bJ w1010 ⟨_,rfl,bg⟩
 have bY:=bg.r0
 have hr1012s:_*32≤_:=bY.2
 refine st (xu rfl (stn (yr (v:=bJ) (c:=[Iw (yn (e.typ,e.agg) M),H]) (c':=[Iw (yn (e.typ,e.agg) M),bJ]) pA rfl rfl (bg.b1) bY.1.one rfl rfl ?_)))
 intro w1013 ee
 have bh:=bg.pt1 ee
 refine zb ?_
 have jl:yn (e.typ,e.agg) M=0:=QC aC
 try simp+zetaDelta only at bh
 rw[show(List.replicate (d.types.getD e.typ.toNat default).fields.length (⟨0,[]⟩:Cel))=(zM d (e.typ,e.agg) M)from(WH (d:=d) jl).symm]at bh
 exact⟨rfl,bJ,_,yZ ⟨(show _=(Ix b 0:Value)from rfl),(show _=(Ix s 0:Value)from rfl),(show _=(Ix I 0:Value)from rfl),(show _=(Ix j 0:Value)from rfl),(show _=(Ix g 0:Value)from rfl),(show _=(Ix u 0:Value)from rfl),zj⟩,(.inr jl),(bh.s8_badefgh)⟩
 rintro _ w1017 ⟨U,ρj1,rfl,jM,ac⟩
 let kb:=RwC U (clL d M e)
 let jW:=BkS u M (e.typ,e.agg) U
 have ef:=ac.r1
 have hr1019s:_*32≤_:=ef.2
 refine za (za (R0 fun _=>st (ze (k:=1) wT nT rfl rfl (zi (ac.b4)) (st (xu rfl (st (lD U tT rfl (zd (ac.b0) rfl) (st (xN rfl (st (lD (Iv (e.field)) kT rfl (zd (ac.b5) rfl) (st (xP rfl (st (lD (Iv (e.op)) kT rfl (zd (ac.b5) rfl) (st (Zc rfl (st (lD (Iv (e.arg)) kT rfl (zd (ac.b5) rfl) ?_)))))))))))))))))))
 obtain⟨G1021,eg,eh,ei,ej⟩:=(ac.mv1).lend
 have bt:=RowE.rd eg
 have hrd1027s:_*32≤_:=bt.small
 refine st (cL Tryz.call40 (zdR (t:=(d.types.gd e.typ.toNat)) (c:=(zM d (e.typ,e.agg) M)) (vc:=U) (f:=e.field) (op:=e.op) (arg:=e.arg) (zk V eh) aG bt oe.field oe.op oe.arg ei ((hft.ask (hd.typ _ om) (hinv e.typ e.agg dM dN)))) ?_)
 rintro _ w1028 ⟨rfl,ek⟩
 have aD:=ej _ _ ek
 refine st (yj (k:=.i64) (a:=yN (d.types.gd e.typ.toNat) (zM d (e.typ,e.agg) M) e.field e.op e.arg) (b:=0) rfl rfl (zb ?_))
 cases af: !decide ((yN (d.types.gd e.typ.toNat) (zM d (e.typ,e.agg) M) e.field e.op e.arg)=0)
 have af:=zB af
 have hT:ye d M e=(false,0,0):=hfree.trans (ifnC (not_not_intro af))
 refine zf rfl (zp (za ?_))
 refine WD4 ((fun TT J ab ad=>WF [fun vals B=>Sep N p (J::ab::ad::TT) B,fun vals B=> ∃(A:Value),(vals 18=(A:Value))∧Sep N p (J::(RwC A (doL (d.types.gd e.typ.toNat) (clL d M e) e.field e.op e.arg))::ab::ad::TT) B,fun vals B=> ∃(A:Value),(vals 18=(A:Value))∧Sep N p (hv::J::ab::TT) B]) ((BkP g e)::(BkT j d e p l)::bG::(BkV b l O T P R)::bD) kb jW jY) (AF [Vl 0 (Ix b 0),Vl 1 (Ix b 0),Vl 2 (Ix b 3),Vl 3 (.map (some P)),Vl 4 (Ix g 0),Vl 5 (.agg #[Iv (e.typ),Iv (e.agg)]),Vl 6 (Ix u 0),Vl 7 (Iw (yn (e.typ,e.agg) M)),Vl 8 (Iw (yn (e.typ,e.agg) M+1)),Vl 9 (.agg jR.toArray),Vl 10 (Ix u 1),Vl 11 U,Vl 12 (Ix s 6),Vl 13 (Iv (e.field)),Vl 14 (Ix s 7),Vl 15 (Iv (e.op)),Vl 16 (Ix s 8),Vl 17 (Iv (e.arg)),fun _=>True,fun vals=> ∀(A:Value),vals 18=(A:Value)→vals 19=(.agg #[Iw (yn (e.typ,e.agg) M+1),A]:Value),fun _=>True]) [[],[0],[0,1],[0,1,2],[],[4],[],[6],[6,7],[],[],[10],[],[12],[],[14],[],[16],[9,10,11,12,13,14,15,16,17],[6,7,8,9,10,11,12,13,14,15,16,17,18],(rg 20)] [18,20] [(0,1),(0,1),(0,1),(0,1),(0,1),(0,1),(0,1),(0,1),(0,1),(0,0),(0,0),(0,0),(0,0),(0,0),(0,0),(0,0),(0,0),(0,0),(0,0),(1,1),(1,1)] aD ⟨fun _ _ _ _ _ _ _=>obl rfl (mV (Ix b 0) dR),fun _ _ _ _ _ _ el=>obl rfl (zx (b:=b) (o:=0) (el 0 dc) dR),fun _ _ _ _ _ _ em=>obl rfl (UK (em 1 dc) dR),?_,fun _ _ _ _ _ _ _=>obl rfl (JA rfl dR),?_,fun _ _ _ _ _ _ _=>obl rfl (Zr rfl dR),?_,?_,ob1 0 fun _ _ (en:Sep _ _ _ _) _=>obl rfl (ze (k:=1) wT nT rfl rfl (zi (en.b4)) dR),fun _ _ _ _ _ _ _=>obl rfl (xu rfl dR),ob1 0 fun _ _ (eo:Sep _ _ _ _) er=>obl rfl (lD U tT (er 10 dc) (zd (eo.b1) rfl) dR),fun _ _ _ _ _ _ _=>obl rfl (xN rfl dR),ob1 0 fun _ _ (es:Sep _ _ _ _) et=>obl rfl (lD (Iv (e.field)) kT (et 12 dc) (zd (es.b5) rfl) dR),fun _ _ _ _ _ _ _=>obl rfl (xP rfl dR),ob1 0 fun _ _ (eu:Sep _ _ _ _) ew=>obl rfl (lD (Iv (e.op)) kT (ew 14 dc) (zd (eu.b5) rfl) dR),fun _ _ _ _ _ _ _=>obl rfl (Zc rfl dR),ob1 0 fun _ _ (ex:Sep _ _ _ _) ey=>obl rfl (lD (Iv (e.arg)) kT (ey 16 dc) (zd (ex.b5) rfl) dR),?_,?_,?_,zj⟩ ?_ (hlocA:=xd ⟨dA,dA,dA,dA,dA,dA,dA,dA,dA,dA,dA,dA,dA,dA,dA,dA,dA,dA,dT,fun vals C Q h=>fun A ai=>(Q 19 (.inl rfl)).trans (h A ((Q 18 (.inr dc)).symm.trans ai)),dT,zj⟩)
 refine fun aU _ _ iP iQ bZ ca=>?_
 have hkk:=xz iP iQ
 rcases hkk with rfl|rfl
 have ez:Sep _ _ _ _:=bZ
 exact obl rfl (lD (.map (some P)) tR (ca 2 dc) (zd (ez.b6) rfl) dR)
 obtain⟨A,Z,eA⟩:=bZ
 exact obl rfl (lD (.map (some P)) tR (ca 2 dc) (zd (eA.b7) rfl) dR)
 refine fun aV _ _ iR iS cb cc=>?_
 have hkk:=xz iR iS
 rcases hkk with rfl|rfl
 have eB:Sep _ _ _ _:=cb
 exact obl rfl (ze (k:=2) kY lY rfl (cc 4 dc) (CellsAt.sub (zi (eB.b3)) 0 rfl) dR)
 obtain⟨A,Z,eC⟩:=cb
 exact obl rfl (ze (k:=2) kY lY rfl (cc 4 dc) (CellsAt.sub (zi (eC.b4)) 0 rfl) dR)
 refine fun aW _ _ iT iU cd ce=>?_
 have hkk:=xz iT iU
 rcases hkk with rfl|rfl
 have eD:Sep _ _ _ _:=cd
 exact obl rfl (lD (Iw (yn (e.typ,e.agg) M)) kT (ce 6 dc) (zd (eD.b1) rfl) dR)
 obtain⟨A,Z,eE⟩:=cd
 exact obl rfl (lD (Iw (yn (e.typ,e.agg) M)) kT (ce 6 dc) (zd (eE.b2) rfl) dR)
 refine fun aX _ _ iV iW cf cg=>?_
 have hkk:=xz iV iW
 rcases hkk with rfl|rfl
 have hS1278:Sep _ _ _ _:=cf
 refine obl rfl ?_
 have eF:InR ((yn (e.typ,e.agg) M+1:Nat):Int):=bo
 exact zU (r:=((yn (e.typ,e.agg) M+1:Nat):Int)) (k:=.i64) (a:=((yn (e.typ,e.agg) M:Nat):Int)) (b:=1) (cg 7 (by decide)) rfl (by rw[show(((yn (e.typ,e.agg) M:Nat):Int)+1:Int)=((yn (e.typ,e.agg) M+1:Nat):Int)from bo];exact zJ eF) dR
 obtain⟨A,Z,hS1281⟩:=cf
 refine obl rfl ?_
 have eG:InR ((yn (e.typ,e.agg) M+1:Nat):Int):=bo
 exact zU (r:=((yn (e.typ,e.agg) M+1:Nat):Int)) (k:=.i64) (a:=((yn (e.typ,e.agg) M:Nat):Int)) (b:=1) (cg 7 (by decide)) rfl (by rw[show(((yn (e.typ,e.agg) M:Nat):Int)+1:Int)=((yn (e.typ,e.agg) M+1:Nat):Int)from bo];exact zJ eG) dR
 refine ob1 0 fun vals _ (eH:Sep _ _ _ _) ak=>(obl rfl ?_)
 obtain⟨G1172,eI,eJ,eK,eL⟩:=eH.lend
 have bu:=RowE.rd eI
 have hrd1178s:_*32≤_:=bu.small
 refine(zO (f:=61) (vals:=[.agg ((d.types.gd e.typ.toNat).cells (zV p (sb l) (so l+e.typ.toNat*1+0))).toArray,U,Iv (e.field),Iv (e.op),Iv (e.arg)]) (cap:=[]) rfl (yK ⟨(ak 9 dc),(ak 11 dc),(ak 13 dc),(ak 15 dc),(ak 17 dc),zj⟩) Tryz.call61 (D_Do (t:=(d.types.gd e.typ.toNat)) (c:=(zM d (e.typ,e.agg) M)) (vc:=U) (f:=e.field) (op:=e.op) (arg:=e.arg) (zk V eJ) aG bu oe.field oe.op oe.arg eK ((hft.ask (hd.typ _ om) (hinv e.typ e.agg dM dN))) ((fun _=>Ky (hinv e.typ e.agg dM dN) hfl hfh))) ?_)
 rintro A w1180 ⟨_,rfl,ch⟩
 have eM:=ch.r0
 have hr1182s:_*32≤_:=eM.2
 have eN:=eL _ _ ch
 exact fun C Q D=>⟨(exiA A (zG Q eN)),zj⟩
 refine ob1 1 fun _ _ eO eP=>?_
 obtain⟨A,Z,eQ⟩:=eO
 refine obl rfl ?_
 have ci:=eQ.r1
 have hr1356s:_*32≤_:=ci.2
 refine zQ (parts':=[(0,Iw (yn (e.typ,e.agg) M+1)),(1,A)]) (v:=.agg #[Iw (yn (e.typ,e.agg) M+1),A]) (ZH ⟨rfl,(eP 8 (by decide)),rfl,Z,zj⟩) (by obtain⟨_,_,eR,_⟩:=ci.1;rw[show A=Value.slice _ _ _ from eR];simp[Instr.build,Instr.fill,go_sem,ZZ]) (fun C Q D=>⟨rfl,?_⟩)
 intro v1179q ai
 rw[D 18 (by decide)]at ai;cases Z.symm.trans ai
 exact Q
 refine ob1 1 fun vals _ eS bj=>?_
 obtain⟨A,Z,eT⟩:=eS
 have iX:vals 19=(.agg #[Iw (yn (e.typ,e.agg) M+1),A]:Value):=bj 19 dc A Z
 refine obl rfl ?_
 have eU:Sep _ _ ((E1 (.agg #[Iw (yn (e.typ,e.agg) M+1),A]) (yn (e.typ,e.agg) M+1,(doL (d.types.gd e.typ.toNat) (clL d M e) e.field e.op e.arg)))::_) _:=zab (n:=yn (e.typ,e.agg) M+1) (eT.mv1)
 refine(Xk (eU.mv3) K2 mY (bj 3 dc) (bj 5 dc) iX ?_)
 intro iY eV
 have dD:Sep N p (hv::kb::jW::(BkP g e)::(BkT j d e p l)::bG::(BkV b l O T P R)::bD) iY:=eV
 exact fun C Q D=>⟨(exiA A (zG ((D 18 dc).trans Z) dD)),zj⟩
 intro vals w1357 eW hA1359
 obtain⟨A,Z,bk⟩:=eW
 refine yd (kv:=[(0,Ix b 0),(3,Ix s 0),(5,Ix I 0),(6,Ix j 0),(7,Ix g 0),(10,Ix u 0),(82,.agg jR.toArray),(83,Ix u 1),(84,U),(85,Ix s 6),(86,Iv (e.field)),(87,Ix s 7),(88,Iv (e.op)),(89,Ix s 8),(90,Iv (e.arg)),(91,Iv (yN (d.types.gd e.typ.toNat) (zM d (e.typ,e.agg) M) e.field e.op e.arg)),(92,.bool false)]) sEv (fun ρw1357=>(zb (za ?_)))
 try simp+zetaDelta only at bk
 rw[←du]at bk
 refine WD4 ((fun TT J ab ad aH aI cj ck jm eX eY=>WF [fun vals B=>Sep N p (J::ab::ad::aH::aI::cj::ck::jm::eX::eY::TT) B,fun vals B=> ∃(F:Nat),(vals 6=((Iy F 1 1):Value))∧Sep N p ((Blk F (e.cells ve0).toArray 44)::J::ab::ad::aH::aI::cj::ck::jm::eX::eY::TT) B,fun vals B=> ∃(F:Nat) (q:Int),(vals 6=((Iy F 1 1):Value))∧(vals 7=(.tuple #[m,Iv q]:Value))∧Sep N p ((Ue Zx E2 R (yW M) bi q)::(Blk F (e.cells ve0).toArray 44)::J::ab::ad::aH::aI::cj::ck::eX::eY::TT) B,fun vals B=> ∃(F:Nat) (q:Int) (aa:Value),(vals 6=((Iy F 1 1):Value))∧(vals 7=(.tuple #[m,Iv q]:Value))∧(vals 9=(aa:Value))∧Sep N p ((RwV aa ((yG bi M)++[e]))::(Ue Zx E2 R (yW M) bi q)::J::ab::ad::aH::aI::cj::ck::TT) B,fun vals B=> ∃(F:Nat) (q:Int) (aa:Value),(vals 6=((Iy F 1 1):Value))∧(vals 7=(.tuple #[m,Iv q]:Value))∧(vals 9=(aa:Value))∧Sep N p ((MapO Zx E2 R (YF (yW M) bi ((yG bi M)++[e])))::J::ab::ad::aH::aI::cj::ck::TT) B]) (jU::aj) hv kb jW (BkP g e) (BkT j d e p l) bG (BkV b l O T P R) (Md1 R M e m) ka (RwI ve0 e.deps)) (AF [Vl 0 (Ix b 0),Vl 1 (Ix b 0),Vl 2 (Ix b 4),Vl 3 (.map (some R)),Vl 4 (.agg #[Iv (e.typ),Iv (e.agg),Iv (e.field)]),Vl 5 (.agg (e.cells ve0).toArray),fun _=>True,fun _=>True,Vl 8 m,fun _=>True,fun vals=> ∀(q:Int),vals 7=(.tuple #[m,Iv q]:Value)→vals 10=(Iv q:Value),fun _=>True]) [[],[0],[0,1],[0,1,2],[],[],[5],(rg 7),(rg 8),(rg 9),(rg 8),(rg 11)] [6,7,9,11] [(0,1),(0,1),(0,1),(0,1),(0,1),(0,0),(0,0),(1,1),(2,2),(2,2),(2,3),(3,3)] bk ⟨fun _ _ _ _ _ _ _=>obl rfl (mV (Ix b 0) dR),fun _ _ _ _ _ _ eZ=>obl rfl (zx (b:=b) (o:=0) (eZ 0 dc) dR),fun _ _ _ _ _ _ fa=>obl rfl (Jf (fa 1 dc) dR),?_,?_,ob1 0 fun _ _ (fb:Sep _ _ _ _) _=>obl rfl (ze (k:=10) oT lT rfl rfl (zi (fb.b5)) dR),?_,?_,?_,?_,?_,?_,zj⟩ ?_ (hlocA:=xd ⟨dA,dA,dA,dA,dA,dA,dT,dT,dA,dT,fun vals C Q h=>fun q ai=>(Q 10 (.inl rfl)).trans (h q ((Q 7 (.inr dc)).symm.trans ai)),dT,zj⟩)
 refine fun aY _ _ iZ ja cl cm=>?_
 have hkk:=xz iZ ja
 rcases hkk with rfl|rfl
 have fc:Sep _ _ _ _:=cl
 exact obl rfl (lD (.map (some R)) uY (cm 2 dc) (zd (fc.b6) rfl) dR)
 obtain⟨F,X,fd⟩:=cl
 exact obl rfl (lD (.map (some R)) uY (cm 2 dc) (zd (fd.b7) rfl) dR)
 refine fun aZ _ _ jb jc cn _=>?_
 have hkk:=xz jb jc
 rcases hkk with rfl|rfl
 have fe:Sep _ _ _ _:=cn
 exact obl rfl (ze (k:=3) vY wR rfl rfl (zi (fe.b3)) dR)
 obtain⟨F,X,ff⟩:=cn
 exact obl rfl (ze (k:=3) vY wR rfl rfl (zi (ff.b4)) dR)
 refine ob1 0 fun _ _ (fg:Sep _ _ _ _) fh=>(obl rfl ((zL (k:=10) (parts':=[(0,.agg (e.cells ve0).toArray)]) (c:=(e.cells ve0).toArray) qT lT rR dc (ZH ⟨rfl,(fh 5 dc),zj⟩) kr ?_)))
 intro w1413 F fi
 exact fun C Q D=>⟨(exiA F (zG Q (fg.new fi))),zj⟩
 refine ob1 1 fun _ _ fj co=>?_
 obtain⟨F,X,fk⟩:=fj
 refine obl rfl ((UQ (fk.mv8) K3 vA wA (co 3 dc) (co 4 dc) ?_))
 intro w1425 q fl
 exact fun C Q D=>⟨(exiA F (exiA q (zG ((D 6 dc).trans X) (zG Q fl)))),zj⟩
 refine ob1 2 fun _ _ fm _=>?_
 obtain⟨F,q,X,S,hS1522⟩:=fm
 exact obl rfl (zl (vs:=[m,Iv q]) (i:=0) (v:=m) S rfl dR)
 refine ob1 2 fun _ _ fn fo=>?_
 obtain⟨F,q,X,S,cp⟩:=fn
 refine obl rfl ?_
 have dE:=cp.b1
 refine(yx (src:=own) (bytes:=96) (x1:=e) (cp.s12_jkacdefghil) QF (fo 8 (by decide)) X dE (fun _ _ hN=>⟨_,rfl,RowE.soft hN,oe⟩) yqb rfl ?_)
 intro aa w1445 cq
 have fp:=cq.r0
 have hr1450s:_*96≤_:=fp.2
 exact fun C Q D=>⟨(exiA F (exiA q (exiA aa (zG ((D 6 dc).trans X) (zG ((D 7 dc).trans S) (zG Q cq)))))),zj⟩
 refine fun ba _ _ jd je cr _=>?_
 have hkk:ba=2∨ba=3:=by have h1:2≤ba:=jd;have h2:ba≤3:=je;omega
 rcases hkk with rfl|rfl
 obtain⟨F,q,X,S,hS1529⟩:=cr
 refine obl rfl (zl (vs:=[m,Iv q]) (i:=1) (v:=Iv q) S rfl (fun C Q D=>⟨rfl,?_⟩))
 intro dG ai
 rw[D 7 (by decide)]at ai;cases S.symm.trans ai
 exact Q
 obtain⟨F,q,aa,X,S,aE,hS1530⟩:=cr
 refine obl rfl (zl (vs:=[m,Iv q]) (i:=1) (v:=Iv q) S rfl (fun C Q D=>⟨rfl,?_⟩))
 intro dG ai
 rw[D 7 (by decide)]at ai;cases S.symm.trans ai
 exact Q
 refine ob1 3 fun vals _ fq ct=>?_
 obtain⟨F,q,aa,X,S,aE,fr⟩:=fq
 have jf:vals 10=(Iv q:Value):=ct 10 dc q S
 refine obl rfl ((WR (E:=E2) (v':=aa) (x':=(yG bi M)++[e]) (fr.mv1) (ct 3 dc) jf aE ?_))
 intro w1468 fs
 exact fun C Q D=>⟨(exiA F (exiA q (exiA aa (zG ((D 6 dc).trans X) (zG ((D 7 dc).trans S) (zG ((D 9 dc).trans aE) fs)))))),zj⟩
 intro vals w1531 ft hA1533
 obtain⟨F,q,aa,X,S,aE,fu⟩:=ft
 refine yd (kv:=[(0,Ix b 0),(3,Ix s 0),(5,Ix I 0),(6,Ix j 0),(7,Ix g 0),(10,Ix u 0),(82,.agg jR.toArray),(83,Ix u 1),(84,U),(85,Ix s 6),(86,Iv (e.field)),(87,Ix s 7),(88,Iv (e.op)),(89,Ix s 8),(90,Iv (e.arg)),(91,Iv (yN (d.types.gd e.typ.toNat) (zM d (e.typ,e.agg) M) e.field e.op e.arg)),(92,.bool false)]) sEv (fun ρw1531=>(zb (za ?_)))
 refine WD4 ((fun TT J=>WF [fun vals B=>Sep N p (J::TT) B,fun vals B=>Sep N p (J::TT) B]) (hv::kb::jW::(BkP g e)::(BkT j d e p l)::bG::(BkV b l O T P R)::jU::aj) (MapO Zx E2 R (YF (yW M) bi ((yG bi M)++[e])))) (AF [Vl 0 (.agg #[Iv 0,Iv 0]),Vl 1 (.bool false),fun _=>True]) [[],[],[0,1]] [2] [(0,0),(0,0),(0,0)] fu ⟨ob1 0 fun _ _ (fv:Sep _ _ _ _) _=>obl rfl (ze (k:=2) pT mT rfl rfl (zi (fv.b8)) dR),fun _ _ _ _ _ _ _=>obl rfl (aS (.bool false) dR),?_,zj⟩ ?_
 refine ob1 0 fun _ _ (cu:Sep _ _ _ _) fw=>(obl rfl ((zr (v:=.agg #[Iv 0,Iv 0]) (c':=#[Iv 0,Iv 0]) mT rfl (fw 0 dc) (cu.b8) (zZ ⟨rfl,rfl,zj⟩) yqc rfl ?_)))
 intro w1556 fx
 exact fun C Q D=>⟨(cu.pt8 fx),zj⟩
 intro vals w1572 fy fz
 have cv:Sep _ _ _ _:=fy
 have jg:=fz 1 dc
 refine yd (kv:=[(0,Ix b 0),(3,Ix s 0),(5,Ix I 0),(6,Ix j 0),(7,Ix g 0),(10,Ix u 0),(82,.agg jR.toArray),(83,Ix u 1),(84,U),(85,Ix s 6),(86,Iv (e.field)),(87,Ix s 7),(88,Iv (e.op)),(89,Ix s 8),(90,Iv (e.arg)),(91,Iv (yN (d.types.gd e.typ.toNat) (zM d (e.typ,e.agg) M) e.field e.op e.arg)),(92,.bool false),(4,.bool false)]) ⟨rfl,rfl,rfl,rfl,rfl,rfl,rfl,rfl,rfl,rfl,rfl,rfl,rfl,rfl,rfl,rfl,rfl,(by exact jg),zj⟩ (fun ρw1572=>(zb (zo (YT (b:=I) nY pT mT rfl rfl (zi (cv.b8)) (show _=(.bool false:Value)from rfl) ?_))))
 have al:=bz _ _ cv
 try simp+zetaDelta only at al
 rw[←bx]at al
 have am:(yI d M e).void=false:=by show(ye d M e).1=false;rw[hT]
 have bl:(zt d (M++[yI d M e]))=(YF (zt d M) (e.typ,e.agg) (yn (e.typ,e.agg) M+1,(doL (d.types.gd e.typ.toNat) (zM d (e.typ,e.agg) M) e.field e.op e.arg))):=Kl am
 have bm:(yW (M++[yI d M e]))=(YF (yW M) bi ((yG bi M)++[e])):=JW am
 try simp+zetaDelta only at al
 rw[←bl,←bm]at al
 have fA:Sep _ _ (jZ::_) _:=ViewO.close (d:=d) (L:=L) (M:=(M++[yI d M e])) (al.s12_iaklcbdefghj)
 rw[hT]
 refine⟨rfl,?_,(fA.s7_a)⟩
 exact⟨by decide,by decide⟩
 have af:=zC af
 have hT:ye d M e=(true,0,0):=hfree.trans (ifpC af)
 refine zg rfl (za ?_)
 try simp+zetaDelta only at aD
 rw[←du]at aD
 refine WD4 ((fun TT J=>WF [fun vals B=>Sep N p (J::TT) B,fun vals B=>Sep N p (J::TT) B]) (jW::jY::(BkP g e)::(BkT j d e p l)::bG::(BkV b l O T P R)::(Md1 R M e m)::ka::(RwI ve0 e.deps)::jU::aj) kb) (AF [Vl 0 (.agg #[Iv 0,Iv 0]),Vl 1 (.bool true),fun _=>True]) [[],[],[0,1]] [2] [(0,0),(0,0),(0,0)] aD ⟨ob1 0 fun _ _ (fB:Sep _ _ _ _) _=>obl rfl (ze (k:=2) pT mT rfl rfl (zi (fB.b10)) dR),fun _ _ _ _ _ _ _=>obl rfl (aS (.bool true) dR),?_,zj⟩ ?_
 refine ob1 0 fun _ _ (cw:Sep _ _ _ _) fC=>(obl rfl ((zr (v:=.agg #[Iv 0,Iv 0]) (c':=#[Iv 0,Iv 0]) mT rfl (fC 0 dc) (cw.b10) (zZ ⟨rfl,rfl,zj⟩) yqc rfl ?_)))
 intro w1602 fE
 exact fun C Q D=>⟨(cw.pt10 fE),zj⟩
 intro vals dC fF fG
 have cx:Sep _ _ _ _:=fF
 have jh:=fG 1 dc
 refine yd (kv:=[(0,Ix b 0),(3,Ix s 0),(5,Ix I 0),(6,Ix j 0),(7,Ix g 0),(10,Ix u 0),(82,.agg jR.toArray),(83,Ix u 1),(84,U),(85,Ix s 6),(86,Iv (e.field)),(87,Ix s 7),(88,Iv (e.op)),(89,Ix s 8),(90,Iv (e.arg)),(91,Iv (yN (d.types.gd e.typ.toNat) (zM d (e.typ,e.agg) M) e.field e.op e.arg)),(92,.bool true),(4,.bool true)]) ⟨rfl,rfl,rfl,rfl,rfl,rfl,rfl,rfl,rfl,rfl,rfl,rfl,rfl,rfl,rfl,rfl,rfl,(by exact jh),zj⟩ (fun ρw1618=>(zb (zo (YT (b:=I) nY pT mT rfl rfl (zi (cx.b10)) (show _=(.bool true:Value)from rfl) ?_))))
 have bn:=bz _ _ cx
 try simp+zetaDelta only at bn
 rw[←bx]at bn
 have fH:Sep _ _ ((XT E1 (.agg #[Iw (yn (e.typ,e.agg) M),H]) ((zt d M) (e.typ,e.agg)))::_) _:=Kg (bn.mv1) jM
 have fI:Sep G W (jV::(RwT l d.types)::jW::(BkP g e)::(BkT j d e p l)::bG::(BkV b l O T P R)::(Md1 R M e m)::ka::(RwI ve0 e.deps)::jU::(RwP O d.projs)::(RwN T L)::Rs) dC:=(fH.mv3).mapoPut
 have fJ:Sep _ _ ((XT E2 m ((yW M) bi))::_) _:=Ua (fI.mv8)
 have bp:Sep G W (jX::jV::(RwT l d.types)::jW::(BkP g e)::(BkT j d e p l)::bG::(BkV b l O T P R)::(RwI ve0 e.deps)::jU::(RwP O d.projs)::(RwN T L)::Rs) dC:=(fJ.mv8).mapoPut
 have am:(yI d M e).void=true:=by show(ye d M e).1=true;rw[hT]
 have bl:(zt d (M++[yI d M e]))=(zt d M):=(Zp am).1
 have bm:(yW (M++[yI d M e]))=(yW M):=(Zp (d:=d) am).2
 try simp+zetaDelta only at bp
 rw[←bl,←bm]at bp
 have fK:Sep _ _ (jZ::_) _:=ViewO.close (d:=d) (L:=L) (M:=(M++[yI d M e])) (bp.s12_hcklbadefgij)
 rw[hT]
 refine⟨rfl,?_,(fK.s7_a)⟩
 exact⟨by decide,by decide⟩
 have aR:=tD aR
 refine zg rfl (zp (za (zu (za (R0 fun _=>?_)))))
 have fL:k<(yG (e.typ,e.agg,e.field) M).length:=bo
 refine st (zn (k:=10) qT lT rfl aA.sl rfl fL ?_)
 have cy:k<(yG (e.typ,e.agg,e.field) M).length:=bo
 obtain⟨dH,an,bq⟩:=aA.evD cy
 have hsm1638:(((yG (e.typ,e.agg,e.field) M).gd k).deps).length*8≤140737488355328:=an.small
 have dI:=aB.cells dH (aA.foot (ne_of_lt cy))
 refine st (ze (k:=10) oT lT rfl rfl dI (st (zv rR ?_)))
 intro w1642 ap fM
 have cz:=aB.new fM
 refine stn (zr (v:=.agg jT.toArray) (c':=jT.toArray) lT rfl rfl (cz.b0) (zZ ⟨rfl,rfl,rfl,an.sl.one,rfl,rfl,rfl,rfl,rfl,rfl,zj⟩) yqc rfl ?_)
 intro w1644 fN
 refine zb (za ?_)
 refine WD4 ((fun J ab ad aH aI=>WF [fun vals B=>Sep bd Y (J::(BkP g e)::ab::ad::aH::aI::(RwI ve0 e.deps)::bC) B,fun vals B=>(vals 8=(.bool ((xt (((d.types.gd e.typ.toNat).fields).gd e.field.toNat) ((yG bi M).gd k) e)):Value))∧Sep bd Y ((RwI ve0 e.deps)::J::(BkP g e)::ab::ad::aH::aI::bC) B]) (Blk ap jT.toArray 44) (BkT j d e p l) jU bG (BkV b l O T P R)) (AF [Vl 0 (Ix j 0),Vl 1 bF,Vl 2 (Ix s 6),Vl 3 (Iv (e.field)),Vl 4 (Ix (sb bF) (so bF+e.field.toNat*4)),Vl 5 (.agg ((((d.types.gd e.typ.toNat).fields).gd e.field.toNat).cells (zV Y (sb bF) (so bF+e.field.toNat*4+3))).toArray),Vl 6 (.agg jT.toArray),Vl 7 (.agg (e.cells ve0).toArray),fun _=>True]) [[],[0],[],[2],(rg 4),(rg 5),[],[],(rg 8)] [8] [(0,0),(0,0),(0,0),(0,0),(0,0),(0,0),(0,0),(0,0),(0,0)] (cz.pt0 fN) ⟨fun _ _ _ _ _ _ _=>obl rfl (xi rfl dR),ob1 0 fun _ _ (fO:Sep _ _ _ _) fP=>obl rfl (lD bF sA (fP 0 dc) (zd (fO.b2) rfl) dR),fun _ _ _ _ _ _ _=>obl rfl (xN rfl dR),ob1 0 fun _ _ (fQ:Sep _ _ _ _) fR=>obl rfl (lD (Iv (e.field)) kT (fR 2 dc) (zd (fQ.b4) rfl) dR),?_,?_,ob1 0 fun _ _ (fS:Sep _ _ _ _) _=>obl rfl (ze (k:=10) oT lT rfl rfl (zi (fS.b0)) dR),ob1 0 fun _ _ (fT:Sep _ _ _ _) _=>obl rfl (ze (k:=10) oT lT rfl rfl (zi (fT.b4)) dR),?_,zj⟩ ?_
 refine ob1 0 fun _ _ _ cC=>(obl rfl ?_)
 have hi1774:e.field.toNat<((d.types.getD e.typ.toNat default).fields).length:=bo
 exact zA (k:=4) (i:=e.field) kR sR (cC 1 dc) (zk V az).sl (cC 3 dc) ⟨by omega,by omega⟩ dR
 refine ob1 0 fun _ _ (fU:Sep _ _ _ _) fV=>(obl rfl ?_)
 have cD:e.field.toNat<((d.types.getD e.typ.toNat default).fields).length:=bo
 obtain⟨dJ,cE,hoke1783⟩:=(zk V az).fldD cD
 have hsm1785:((((d.types.gd e.typ.toNat).fields).gd e.field.toNat).moves).length*32≤140737488355328:=cE.small
 have dK:=fU.cells dJ ((zk V az).foot (ne_of_lt cD))
 exact ze (k:=4) Tryz.isAgg106 sR rfl (fV 4 dc) dK dR
 refine ob1 0 fun vals _ (cF:Sep _ _ _ _) br=>(obl rfl ?_)
 have cG:e.field.toNat<((d.types.getD e.typ.toNat default).fields).length:=bo
 obtain⟨dL,aJ,cS⟩:=(zk V az).fldD cG
 have hsm1723:((((d.types.gd e.typ.toNat).fields).gd e.field.toNat).moves).length*32≤140737488355328:=aJ.small
 have hcw1724:=cF.cells dL ((zk V az).foot (ne_of_lt cG))
 obtain⟨G1726,fW,cH,fX,fY⟩:=(cF.mv6).lend
 have bv:=RowE.rd fW
 have hrd1732s:_*8≤_:=bv.small
 refine(zO (f:=118) (vals:=[.agg ((((d.types.gd e.typ.toNat).fields).gd e.field.toNat).cells (zV Y (sb bF) (so bF+e.field.toNat*4+3))).toArray,.agg jT.toArray,.agg (e.cells ve0).toArray]) (cap:=[]) rfl (yK ⟨(br 5 dc),(br 6 dc),(br 7 dc),zj⟩) Tryz.call118 (zdF (f:=(((d.types.gd e.typ.toNat).fields).gd e.field.toNat)) (x:=((yG bi M).gd k)) (e:=e) (zk aJ cH) cS (zk an cH) bq bv oe fX) ?_)
 rintro _ w1733 ⟨rfl,fZ⟩
 have ga:=fY _ _ fZ
 exact fun C Q D=>⟨(zG Q ga),zj⟩
 intro vals w1801 gc hA1803
 obtain⟨gd,cI⟩:=gc
 refine yd (kv:=[(0,Ix b 0),(3,Ix s 0),(5,Ix I 0),(6,Ix j 0),(7,Ix g 0),(49,m),(50,Iw ((yG bi M).length)),(51,Iw k),(52,.bool true),(53,Ix (sb m) (so m+k*10)),(54,.agg jT.toArray),(9,Ix ap 0),(63,.bool ((xt (((d.types.gd e.typ.toNat).fields).gd e.field.toNat) ((yG bi M).gd k) e)))]) ⟨rfl,rfl,rfl,rfl,rfl,rfl,rfl,rfl,rfl,rfl,rfl,rfl,(by exact gd),zj⟩ (fun ρw1801=>(zb ?_))
 cases cJ:(xt (((d.types.gd e.typ.toNat).fields).gd e.field.toNat) ((yG (e.typ,e.agg,e.field) M).gd k) e)
 refine zf rfl (zp (R0 fun _=>?_))
 have ge:InR ((k+1:Nat):Int):=bo
 refine st (zU (r:=((k+1:Nat):Int)) (k:=.i64) (a:=((k:Nat):Int)) (b:=1) rfl rfl (by rw[show(((k:Nat):Int)+1:Int)=((k+1:Nat):Int)from bo];exact zJ ge) (st (mV (Iw (k+1)) (zb ?_))))
 exact⟨_,by omega,k+1,_,rfl,sSf,by omega,(yU hno cJ),(cI.s7_cdefga)⟩
 have bw:=bq
 have hT:=zef hfz om hno cJ
 refine zg rfl (za ?_)
 refine WD4 ((fun TT J ab=>WF [fun vals B=>Sep bd Y ((RwI ve0 e.deps)::J::(BkP g e)::ab::jU::TT) B,fun vals B=>Sep bd Y ((RwI ve0 e.deps)::J::(BkP g e)::ab::(Blk I #[Iv (((yG bi M).gd k).origin),Iv (((yG bi M).gd k).seq)] 41)::TT) B]) (bG::(BkV b l O T P R)::bC) (Blk ap jT.toArray 44) (BkT j d e p l)) (AF [Vl 0 (Ix ap 0),Vl 1 (.agg #[Iv (((yG bi M).gd k).origin),Iv (((yG bi M).gd k).seq)]),Vl 2 (.bool true),fun _=>True]) [[],[0],[],[0,1,2]] [3] [(0,0),(0,0),(0,0),(0,0)] cI ⟨fun _ _ _ _ _ _ _=>obl rfl (yA rfl dR),ob1 0 fun _ _ (gf:Sep _ _ _ _) gg=>obl rfl (ze (k:=2) pT mT rfl (gg 0 dc) (CellsAt.sub (zi (gf.b1)) 0 rfl) dR),fun _ _ _ _ _ _ _=>obl rfl (aS (.bool true) dR),?_,zj⟩ ?_
 refine ob1 0 fun _ _ (cK:Sep _ _ _ _) gh=>(obl rfl ((zr (v:=.agg #[Iv (((yG bi M).gd k).origin),Iv (((yG bi M).gd k).seq)]) (c':=#[Iv (((yG bi M).gd k).origin),Iv (((yG bi M).gd k).seq)]) mT rfl (gh 1 dc) (cK.b4) (zZ ⟨rfl,rfl,zj⟩) yqc rfl ?_)))
 intro w1837 gi
 exact fun C Q D=>⟨(cK.pt4 gi),zj⟩
 intro vals ji gj gk
 have cM:Sep _ _ _ _:=gj
 have jj:=gk 2 dc
 refine yd (kv:=[(0,Ix b 0),(3,Ix s 0),(5,Ix I 0),(6,Ix j 0),(7,Ix g 0),(49,m),(50,Iw ((yG bi M).length)),(51,Iw k),(52,.bool true),(53,Ix (sb m) (so m+k*10)),(54,.agg jT.toArray),(9,Ix ap 0),(63,.bool true),(4,.bool true)]) ⟨rfl,rfl,rfl,rfl,rfl,rfl,rfl,rfl,rfl,rfl,rfl,rfl,rfl,(by exact jj),zj⟩ (fun ρw1860=>(zb (zo (YT (b:=I) nY pT mT rfl rfl (zi (cM.b4)) (show _=(.bool true:Value)from rfl) ?_))))
 have gl:=dp _ _ cM
 have ao:=bz _ _ gl
 try simp+zetaDelta only at ao
 rw[←dr]at ao
 try simp+zetaDelta only at ao
 rw[←bx]at ao
 have gm:Sep _ _ ((XT E2 m ((yW M) bi))::_) _:=Ua (ao.mv1)
 have bs:Sep G W (jX::(RwT l d.types)::(RwI ve0 e.deps)::(Blk ap jT.toArray 44)::(BkP g e)::(BkT j d e p l)::(Blk I #[Iv (((yG bi M).gd k).origin),Iv (((yG bi M).gd k).seq)] 41)::bG::(BkV b l O T P R)::jV::(RwP O d.projs)::(RwN T L)::Rs) ji:=(gm.mv9).mapoPut
 have am:(yI d M e).void=true:=by show(ye d M e).1=true;rw[hT]
 have bl:(zt d (M++[yI d M e]))=(zt d M):=(Zp am).1
 have bm:(yW (M++[yI d M e]))=(yW M):=(Zp (d:=d) am).2
 try simp+zetaDelta only at bs
 rw[←bl,←bm]at bs
 have gn:Sep _ _ (jZ::_) _:=ViewO.close (d:=d) (L:=L) (M:=(M++[yI d M e])) (bs.s12_ibkljacdefgh)
 rw[hT]
 refine⟨rfl,?_,(gn.s7_a)⟩
 exact⟨bw.origin,bw.seq⟩
 have ag:=zC ag
 have hT:ye d M e=(true,0,0):=VA ag
 refine zg rfl (za (WD4 ((fun TT=>WF [fun vals B=>Sep G W ((RwT l d.types)::TT) B,fun vals B=>Sep G W ((RwT l d.types)::TT) B]) ((RwP O d.projs)::jU::bG::(BkV b l O T P R)::(RwN T L)::jV::jX::(RwI ve0 e.deps)::Rs)) (AF [Vl 0 (.agg #[Iv 0,Iv 0]),Vl 1 (.bool true),fun _=>True]) [[],[],[0,1]] [2] [(0,0),(0,0),(0,0)] cV ⟨ob1 0 fun _ _ (go:Sep _ _ _ _) _=>obl rfl (ze (k:=2) pT mT rfl rfl (zi (go.b2)) dR),fun _ _ _ _ _ _ _=>obl rfl (aS (.bool true) dR),?_,zj⟩ ?_))
 refine ob1 0 fun _ _ (cN:Sep _ _ _ _) gp=>(obl rfl ((zr (v:=.agg #[Iv 0,Iv 0]) (c':=#[Iv 0,Iv 0]) mT rfl (gp 0 dc) (cN.b2) (zZ ⟨rfl,rfl,zj⟩) yqc rfl ?_)))
 intro w1895 gq
 exact fun C Q D=>⟨(cN.pt2 gq),zj⟩
 intro vals w1911 gr gs
 have aF:Sep _ _ _ _:=gr
 have jk:=gs 1 dc
 refine yd (kv:=[(0,Ix b 0),(1,.agg (e.cells ve0).toArray),(3,Ix s 0),(4,.bool true),(5,Ix I 0),(25,.bool true)]) ⟨rfl,rfl,rfl,(by exact jk),rfl,rfl,zj⟩ (fun ρw1911=>(zb (zo (YT (b:=I) nY pT mT rfl rfl (zi (aF.b2)) (show _=(.bool true:Value)from rfl) ?_))))
 have am:(yI d M e).void=true:=by show(ye d M e).1=true;rw[hT]
 have bl:(zt d (M++[yI d M e]))=(zt d M):=(Zp am).1
 have bm:(yW (M++[yI d M e]))=(yW M):=(Zp (d:=d) am).2
 try simp+zetaDelta only at aF
 rw[←bl,←bm]at aF
 have gt:Sep _ _ (jZ::_) _:=ViewO.close (d:=d) (L:=L) (M:=(M++[yI d M e])) (aF.s9_eabfghcdi)
 rw[hT]
 refine⟨rfl,?_,(gt.s4_a)⟩
 exact⟨by decide,by decide⟩
end
section
open Go.Proofs Go.RowKit
def yR (d:Dcl)(k:Int×Int)(L:List Ent):Sta:=⟨((yn k L:Nat):Int),stL d k L⟩
theorem xH (d:Dcl)(l:List Ev):(zq d l).length=l.length:=by
 induction l using Yr with
 |h0=>rfl
 |h1 l e ih=>rw[xT,List.length_append,List.length_append,ih];rfl
theorem Uf {d:Dcl}{l:List Ev}{k:Nat}(h:k<l.length):zq d (l.take (k+1))=zq d (l.take k)++[yI d (zq d (l.take k)) (l.getD k default)]:=by rw[List.take_getD (d:=default) h,xT]
theorem JJ {d:Dcl}{l:List Ev}{k:Nat}(h:l.length≤1000000):(zq d (l.take k)).length≤1000000:=by rw[xH,List.length_take];omega
set_option maxHeartbeats 8000000 in
theorem zdU {b:Nat}{d:Dcl}{L:List Ent}{e:Ev}{de0:Value}(hde0:RdS W G de0 e.deps)(oe:e.Ok)(hKN:RdS W G (.slice (some ⟨0,0,none⟩) 6 6) kindsL)(hS0:Sep G W ((ViewO b d L L)::Rs) w)(hd:DclOk d)(hinv:Inv d L)(hml:L.length≤1000000):Ret Tryz.prog 60 [.pointer (some ⟨b,0,none⟩),.agg (e.cells de0).toArray] w (fun r w'=> ∃(v:Value),r=(.agg ((yI d L e).cells v).toArray:Value)∧Sep G W ((ViewO b d (L++[yI d L e]) (L++[yI d L e]))::(RowE (α:=Int) own 3 v e.deps)::Rs) w'):=by
 refine zm Tryz.func60 rfl rfl ?_
 refine za (R0 fun _=>st (zT rfl ?_))
 intro w3 b2 bz
 let bF:=Blk b2 (e.cells de0).toArray 44
 refine st (zv sY ?_)
 intro w7 U bA
 let bo:=Blk U #[Iv 0,Iv 0,Iv 0,(Iz),Iv 0,Iv 0,Iv 0,Iv 0,Iv 0,Iv 0,.bool false,Iv 0,Iv 0] 96
 have bb:=(hS0.new bz).new bA
 refine zb (za (R0 fun _=>st (mV (Ix b 0) (st (ze oT lT rfl rfl (zi (bb.b1)) (st (cL oY (Wq hde0 oe bb) ?_)))))))
 rintro _ w10 ⟨v9,rfl,ah⟩
 have bd:=ah.r0
 refine st (cL Tryz.call91 (D_try oe hKN (ah.mv3) hd hinv hml) ?_)
 rintro _ w15 ⟨rfl,V,be⟩
 refine st (mV (.tuple #[.bool ((ye d L e).1),.agg #[Iv ((ye d L e).2.1),Iv ((ye d L e).2.2)]]) (st (zl rfl rfl (st (zl rfl rfl (st (zv tA ?_)))))))
 intro w19 T bf
 let bB:=Blk T #[Iv ((ye d L e).2.1),Iv ((ye d L e).2.2)] 41
 have ai:=be.new bf
 refine st (aS (.bool ((ye d L e).1)) (stn (zr (v:=.agg #[Iv ((ye d L e).2.1),Iv ((ye d L e).2.2)]) mT rfl rfl (ai.b0) (zZ ⟨rfl,rfl,zj⟩) yqc rfl ?_)))
 intro bC bg
 refine zb (za ?_)
 have hek:Ent.Ok (yI d L e):=⟨oe,V.1,V.2⟩
 obtain⟨q,s,t,A,B,bh⟩:=ViewO.open ((ai.pt0 bg).mv1)
 let bE:=MapO Zx E2 B (yW (L++[yI d L e]))
 let bD:=MapO xB E1 A (zt d (L++[yI d L e]))
 have H:Sep G W ((BkV b q s t A B)::(RwT q d.types)::(RwP s d.projs)::(RwN t L)::bD::bE::bB::bo::bF::Rs) bC:=bh
 have bi:=H.r1
 have bj:=H.r2
 have bk:=H.r3
 refine WD4 ((fun TT F C D I=>WF [fun vals z=>Sep G W (F::C::D::I::TT) z,fun vals z=> ∃g,(vals 6=(.agg (e.cells g).toArray:Value))∧Sep G W ((RwI g e.deps)::F::C::D::I::TT) z,fun vals z=> ∃g l,(vals 6=(.agg (e.cells g).toArray:Value))∧(vals 10=((Iy l 1 1):Value))∧Sep G W ((Blk l ((yI d L e).cells g).toArray 96)::(RwI g e.deps)::F::C::D::I::TT) z,fun vals z=> ∃g l j,(vals 6=(.agg (e.cells g).toArray:Value))∧(vals 10=((Iy l 1 1):Value))∧(vals 11=j)∧Sep G W ((RwN j (L++[(yI d L e)]))::F::C::D::TT) z,fun vals z=> ∃g l j,(vals 6=(.agg (e.cells g).toArray:Value))∧(vals 10=((Iy l 1 1):Value))∧(vals 11=j)∧Sep G W ((RwN j (L++[(yI d L e)]))::(BkV b q s j A B)::C::D::TT) z]) (bD::bE::bB::bo::bF::Rs) (BkV b q s t A B) (RwT q d.types) (RwP s d.projs) (RwN t L)) (AF [Vl 0 (Ix b 0),Vl 1 (Ix b 0),Vl 2 (Ix b 0),Vl 3 (Ix b 2),Vl 4 t,Vl 5 (.agg (e.cells de0).toArray),fun _=>True,Vl 7 (.bool ((ye d L e).1)),Vl 8 (.agg #[Iv ((ye d L e).2.1),Iv ((ye d L e).2.2)]),fun vals=> ∀(g:Value),vals 6=(.agg (e.cells g).toArray:Value)→vals 9=(.agg ((yI d L e).cells g).toArray:Value),fun _=>True,fun _=>True,Vl 12 (Ix b 0),Vl 13 (Ix b 2),fun _=>True]) [[],[],[1],[1,2],[1,2,3],[],[5],[],[],[5,6,7,8],[5,6,7,8,9],[1,2,3,4,5,6,7,8,9,10],(rg 12),(rg 13),(rg 14)] [6,10,11,14] [(0,3),(0,2),(0,2),(0,2),(0,2),(0,0),(0,0),(0,1),(0,1),(1,1),(1,1),(2,2),(3,3),(3,3),(3,3)] H ⟨fun _ _ _ _ _ _ _=>obl rfl (mV (Ix b 0) dR),fun _ _ _ _ _ _ _=>obl rfl (mV (Ix b 0) dR),fun _ _ _ _ _ _ ao=>obl rfl (zx (ao 1 dc) dR),fun _ _ _ _ _ _ ap=>obl rfl (UW (ap 2 dc) dR),?_,ob1 0 fun _ _ (aq:Sep _ _ _ _) _=>obl rfl (ze oT lT rfl rfl (zi (aq.b8)) dR),?_,fun _ _ _ _ _ _ _=>obl rfl (mV (.bool ((ye d L e).1)) dR),?_,?_,?_,?_,fun _ _ _ _ _ _ ar=>obl rfl (zx (ar 0 dc) dR),fun _ _ _ _ _ _ au=>obl rfl (UW (au 12 dc) dR),?_,zj⟩ ?_ (hlocA:=xd ⟨dA,dA,dA,dA,dA,dA,dT,dA,dA,fun vals p u h=>fun g E=>(u 9 (.inl rfl)).trans (h g ((u 6 (.inr dc)).symm.trans E)),dT,dT,dA,dA,dT,zj⟩)
 refine fun J _ _ bl bm K N=>?_
 have hkk:=zaw bl bm
 rcases hkk with rfl|rfl|rfl
 have av:=K
 exact obl rfl (lD t pY (N 3 dc) (zd (av.b0) rfl) dR)
 obtain⟨g,m,aw⟩:=K
 exact obl rfl (lD t pY (N 3 dc) (zd (aw.b1) rfl) dR)
 obtain⟨g,l,m,y,ax⟩:=K
 exact obl rfl (lD t pY (N 3 dc) (zd (ax.b2) rfl) dR)
 refine ob1 0 fun vals _ (bn:Sep _ _ _ _) bp=>(obl rfl ((zO (vals:=[.agg (e.cells de0).toArray]) rfl (yK ⟨(bp 5 dc),zj⟩) oY (Wq hde0 oe bn) ?_)))
 rintro _ w84 ⟨g,rfl,aj⟩
 have bq:=aj.r0
 exact fun p u n=>⟨(exiA g (zG u aj)),zj⟩
 refine fun O _ _ br bs X _=>?_
 have hkk:=xz br bs
 rcases hkk with rfl|rfl
 have ay:=X
 exact obl rfl (ze pT mT rfl rfl (zi (ay.b6)) dR)
 obtain⟨g,m,az⟩:=X
 exact obl rfl (ze pT mT rfl rfl (zi (az.b7)) dR)
 refine ob1 1 fun _ _ aA Y=>?_
 obtain⟨g,m,hS229⟩:=aA
 refine obl rfl (zQ (parts':=[(0,.agg (e.cells g).toArray),(1,.bool ((ye d L e).1)),(2,.agg #[Iv ((ye d L e).2.1),Iv ((ye d L e).2.2)])]) (v:=.agg ((yI d L e).cells g).toArray) (ZH ⟨rfl,m,rfl,(Y 7 (by decide)),rfl,(Y 8 (by decide)),zj⟩) (by simp+zetaDelta [Instr.build,Instr.fill,go_sem,Ent.cells,Ev.cells,yI]) (fun p u n=>⟨rfl,?_⟩))
 intro v83q E
 rw[n 6 (by decide)]at E;cases m.symm.trans E
 exact u
 refine ob1 1 fun vals _ aB aC=>?_
 obtain⟨g,m,aD⟩:=aB
 have bt:=aC 9 dc g m
 refine obl rfl ((zL (k:=13) (parts':=[(0,.agg ((yI d L e).cells g).toArray)]) (c:=((yI d L e).cells g).toArray) lR oR sY dc (ZH ⟨rfl,bt,zj⟩) kr ?_))
 intro w120 l aE
 exact fun p u n=>⟨(exiA g (exiA l (zG ((n 6 dc).trans m) (zG u (aD.new aE))))),zj⟩
 refine ob1 2 fun _ _ aF aG=>?_
 obtain⟨g,l,m,y,Z⟩:=aF
 refine obl rfl ?_
 have ak:=Z.b0
 refine(yx (Z.s11_fbcdeghijk) zcP (aG 4 (by decide)) y ak (fun _ _ hN=>⟨_,rfl,RowE.soft hN,hek⟩) yqb rfl ?_)
 intro j w131 aa
 have aH:=aa.r0
 exact fun p u n=>⟨(exiA g (exiA l (exiA j (zG ((n 6 dc).trans m) (zG ((n 10 dc).trans y) (zG u aa)))))),zj⟩
 refine ob1 3 fun _ _ aI aJ=>?_
 obtain⟨g,l,j,m,y,P,Q⟩:=aI
 refine obl rfl ?_
 have ab:=Q.r0
 refine(yr Tryz.sizeOf56 (aJ 13 dc) P (Q.b1) ab.1.one rfl rfl ?_)
 intro w160 aK
 exact fun p u n=>⟨(exiA g (exiA l (exiA j (zG ((n 6 dc).trans m) (zG ((n 10 dc).trans y) (zG ((n 11 dc).trans P) (Q.pt1 aK))))))),zj⟩
 intro vals w246 aL hA248
 obtain⟨g,l,j,m,y,P,aM⟩:=aL
 refine yd (kv:=[(0,Ix b 0),(1,.agg (e.cells de0).toArray),(3,Ix b2 0),(4,Ix U 0),(8,Ix b 0),(9,.agg (e.cells de0).toArray),(10,.agg (e.cells v9).toArray),(11,.tuple #[.bool ((ye d L e).1),.agg #[Iv ((ye d L e).2.1),Iv ((ye d L e).2.2)]]),(7,.tuple #[.bool ((ye d L e).1),.agg #[Iv ((ye d L e).2.1),Iv ((ye d L e).2.2)]]),(12,.bool ((ye d L e).1)),(13,.agg #[Iv ((ye d L e).2.1),Iv ((ye d L e).2.2)]),(6,Ix T 0),(5,.bool ((ye d L e).1))]) sEv (fun ρw246=>(zb (za ?_)))
 refine WD4 ((fun TT F C D I al am an bc=>WF [fun vals z=>Sep G W (F::C::D::I::al::am::an::bc::TT) z,fun vals z=> ∃a,(vals 1=(.agg (e.cells a).toArray:Value))∧Sep G W ((RwI a e.deps)::F::C::D::I::al::am::an::bc::TT) z,fun vals z=> ∃a,(vals 1=(.agg (e.cells a).toArray:Value))∧Sep G W ((RwI a e.deps)::F::C::D::I::al::am::an::(Blk U ((yI d L e).cells a).toArray 96)::TT) z]) (bF::Rs) (RwN j (L++[(yI d L e)])) (BkV b q s j A B) (RwT q d.types) (RwP s d.projs) bD bE bB bo) (AF [Vl 0 (.agg (e.cells de0).toArray),fun _=>True,Vl 2 (.bool ((ye d L e).1)),Vl 3 (.agg #[Iv ((ye d L e).2.1),Iv ((ye d L e).2.2)]),fun vals=> ∀(a:Value),vals 1=(.agg (e.cells a).toArray:Value)→vals 4=(.agg ((yI d L e).cells a).toArray:Value),fun _=>True]) [[],[0],[],[],(rg 4),(rg 5)] [1,5] [(0,0),(0,0),(0,1),(0,1),(1,1),(1,1)] aM ⟨ob1 0 fun _ _ (aN:Sep _ _ _ _) _=>obl rfl (ze oT lT rfl rfl (zi (aN.b8)) dR),?_,fun _ _ _ _ _ _ _=>obl rfl (mV (.bool ((ye d L e).1)) dR),?_,?_,?_,zj⟩ ?_ (hlocA:=xd ⟨dA,dT,dA,dA,fun vals p u h=>fun a E=>(u 4 (.inl rfl)).trans (h a ((u 1 (.inr dc)).symm.trans E)),dT,zj⟩)
 refine ob1 0 fun vals _ (aO:Sep _ _ _ _) aP=>(obl rfl ((zO (vals:=[.agg (e.cells de0).toArray]) rfl (yK ⟨(aP 0 dc),zj⟩) oY (Wq hde0 oe aO) ?_)))
 rintro _ w266 ⟨a,rfl,ac⟩
 have aQ:=ac.r0
 exact fun p u n=>⟨(exiA a (zG u ac)),zj⟩
 refine fun R _ _ bu bv ad _=>?_
 have hkk:=xz bu bv
 rcases hkk with rfl|rfl
 have aR:=ad
 exact obl rfl (ze pT mT rfl rfl (zi (aR.b6)) dR)
 obtain⟨a,x,aT⟩:=ad
 exact obl rfl (ze pT mT rfl rfl (zi (aT.b7)) dR)
 refine ob1 1 fun _ _ aU ae=>?_
 obtain⟨a,x,hS331⟩:=aU
 refine obl rfl (zQ (parts':=[(0,.agg (e.cells a).toArray),(1,.bool ((ye d L e).1)),(2,.agg #[Iv ((ye d L e).2.1),Iv ((ye d L e).2.2)])]) (v:=.agg ((yI d L e).cells a).toArray) (ZH ⟨rfl,x,rfl,(ae 2 (by decide)),rfl,(ae 3 (by decide)),zj⟩) (by simp+zetaDelta [Instr.build,Instr.fill,go_sem,Ent.cells,Ev.cells,yI]) (fun p u n=>⟨rfl,?_⟩))
 intro v265q E
 rw[n 1 (by decide)]at E;cases x.symm.trans E
 exact u
 refine ob1 1 fun vals _ aV aW=>?_
 obtain⟨a,x,S⟩:=aV
 have bw:=aW 4 dc a x
 refine obl rfl ?_
 have af:=S.r0
 refine(zr (v:=.agg ((yI d L e).cells a).toArray) oR rfl bw (S.b8) (zZ ⟨rfl,rfl,rfl,af.1.one,rfl,rfl,rfl,rfl,rfl,rfl,rfl,rfl,rfl,zj⟩) yqc rfl ?_)
 intro w300 aX
 exact fun p u n=>⟨(exiA a (zG ((n 1 dc).trans x) (S.pt8 aX))),zj⟩
 intro vals bx aY hA336
 obtain⟨a,x,ag⟩:=aY
 refine yd (kv:=[(0,Ix b 0),(1,.agg (e.cells de0).toArray),(3,Ix b2 0),(4,Ix U 0),(8,Ix b 0),(9,.agg (e.cells de0).toArray),(10,.agg (e.cells v9).toArray),(11,.tuple #[.bool ((ye d L e).1),.agg #[Iv ((ye d L e).2.1),Iv ((ye d L e).2.2)]]),(7,.tuple #[.bool ((ye d L e).1),.agg #[Iv ((ye d L e).2.1),Iv ((ye d L e).2.2)]]),(12,.bool ((ye d L e).1)),(13,.agg #[Iv ((ye d L e).2.1),Iv ((ye d L e).2.2)]),(6,Ix T 0),(5,.bool ((ye d L e).1))]) sEv (fun ρw334=>(zb (zo (VU Tryz.results60 Tryz.isAgg96 oR rfl rfl (zi (ag.b8)) ?_))))
 have aZ:Sep _ _ ((ViewO b d (L++[yI d L e]) (L++[yI d L e]))::_) _:=ViewO.close (ag.s10_cdebfgahij)
 have ba:Sep G W ((ViewO b d (L++[yI d L e]) (L++[yI d L e]))::(RwI a e.deps)::Rs) bx:=aZ.sel 5 [0,1] (yL _ _) rfl rfl
 refine⟨a,rfl,ba⟩
theorem Wt {b:Nat}{d:Dcl}{L:List Ent}{ty:Int}(hty:InR ty){no:Int}(hno:InR no)(hS0:Sep G W ((ViewO b d L L)::Rs) w):Ret Tryz.prog 36 [.pointer (some ⟨b,0,none⟩),.int .i64 (ty),.int .i64 (no)] w (fun r w'=> ∃(v:Value),r=(.tuple #[.agg ((yR d (ty,no) L).cells v).toArray,.bool ((zt d L (ty,no)).isSome)]:Value)∧Sep G W ((ViewO b d L L)::(RowE (α:=Cel) own 140 v (stL d (ty,no) L))::Rs) w'):=by
 refine zm Tryz.func36 rfl rfl ?_
 refine za (R0 fun _=>st (zv mR ?_))
 intro U b2 V
 refine st (aS (.bool false) (zb (za (R0 fun _=>?_))))
 obtain⟨f,g,h,m,j,B⟩:=ViewO.open ((hS0.new V).mv1)
 let aa:=Blk b #[f,g,h,.map (some m),.map (some j)] 101
 have c:Sep G W (aa::(RowE (α:=Typ) own 74 f d.types)::(RowE own 112 g d.projs)::(RowE own 96 h L)::(MapO xB E1 m (zt d L))::(MapO Zx E2 j (yW L))::(Blk b2 #[Iv 0,(Iz)] 77)::Rs) U:=B
 have C:=c.r1
 have hr12s:_*24≤_:=C.2
 have D:=c.r2
 have hr13s:_*40≤_:=D.2
 have E:=c.r3
 have hr14s:_*120≤_:=E.2
 obtain⟨vs16,A,F⟩:=(c.mv4).mapoTake Kj (ty,no)
 obtain⟨a,rfl,H⟩:=Uu (F.mv1) A
 have e:Sep G W ((RowE (α:=Cel) own 140 a (stL d (ty,no) L))::(ZS xB E1 Kj m (zt d L) (ty,no) (.agg #[Iw (yn (ty,no) L),a]))::aa::(RowE own 74 f d.types)::(RowE own 112 g d.projs)::(RowE own 96 h L)::(MapO Zx E2 j (yW L))::(Blk b2 #[Iv 0,(Iz)] 77)::Rs) U:=H
 have p:=e.r0
 have hr22s:_*32≤_:=p.2
 have hve9:=ZJ (ty,no) L
 refine st (mV (Ix b 0) (st (zx rfl (st (UK rfl (st (lD (.map (some m)) tR rfl (zd (e.b2) rfl) (st (mV (Iv ty) (st (mV (Iv no) (st (zQ (parts':=[(0,Iv ty),(1,Iv no)]) (v:=.agg #[Iv ty,Iv no]) rfl (by simp+zetaDelta [Instr.build,Instr.fill,go_sem,ZZ]) (st (YI e (i:=1) rfl K2 mY mR rfl rfl (st (mV (.tuple #[.agg #[Iw (yn (ty,no) L),a],.bool (((zt d L) (ty,no)).isSome)]) (st (zl rfl rfl ?_)))))))))))))))))))
 refine st (zl rfl rfl (st (zv mR ?_)))
 intro w25 X I
 have q:=e.new I
 refine stn (zr (v:=.agg #[Iw (yn (ty,no) L),a]) uT rfl rfl (q.b0) (zZ ⟨rfl,p.1.one,zj⟩) yqc rfl ?_)
 intro w27 J
 have K:Sta.Ok (⟨((yn (ty,no) L:Nat):Int),stL d (ty,no) L⟩:Sta):=⟨(show InR (((yn (ty,no) L:Nat):Int))from om)⟩
 have s:=q.pt0 J
 refine st (aS (.bool (((zt d L) (ty,no)).isSome)) (zb (za (R0 fun _=>st (ze uR uT rfl rfl (zi (s.b0)) ?_)))))
 obtain⟨G32,N,hB35,O,P⟩:=(s.mv1).lend
 have n:=RowE.rd N
 refine st (cL Tryz.call78 (zcI n K O) ?_)
 rintro _ w40 ⟨l,rfl,t⟩
 let Z:=((⟨((yn (ty,no) L:Nat):Int),stL d (ty,no) L⟩:Sta).cells l)
 have u:=t.r0
 have y:=P _ _ t
 refine st (mV (.bool (((zt d L) (ty,no)).isSome)) (stn (zr (v:=.agg Z.toArray) uT rfl rfl (y.b9) (zZ ⟨rfl,u.1.one,zj⟩) yqc rfl ?_)))
 intro Y Q
 have z:=y.pt9 Q
 refine st (aS (.bool (((zt d L) (ty,no)).isSome)) (zb (zo (xY Tryz.results36 uR uT rfl rfl (zi (z.b9)) rfl ?_))))
 have R:Sep _ _ ((XT E1 (.agg #[Iw (yn (ty,no) L),a]) ((zt d L) (ty,no)))::_) _:=KQ z
 have S:Sep G W ((MapO xB E1 m (zt d L))::(RowE (α:=Cel) own 140 l ((⟨((yn (ty,no) L:Nat):Int),stL d (ty,no) L⟩:Sta).cls))::(Blk X ((⟨((yn (ty,no) L:Nat):Int),stL d (ty,no) L⟩:Sta).cells a).toArray 77)::aa::(RowE own 74 f d.types)::(RowE own 112 g d.projs)::(RowE own 96 h L)::(MapO Zx E2 j (yW L))::(Blk b2 Z.toArray 77)::Rs) Y:=(R.mv3).mapoPut
 have T:Sep _ _ ((ViewO b d L L)::_) _:=ViewO.close (S.s9_defgahbci)
 refine⟨l,rfl,(T.s4_ab)⟩
theorem zar {b:Nat}{d:Dcl}{L:List Ent}(hS0:Sep G W ((ViewO b d L L)::Rs) w):Ret Tryz.prog 19 [.pointer (some ⟨b,0,none⟩)] w (fun r w'=> ∃(v:Value),r=(v:Value)∧Sep G W ((ViewO b d L L)::(RowE (α:=Ent) own 96 v L)::Rs) w'):=by
 refine zm Tryz.func19 rfl rfl ?_
 refine za (R0 fun _=>st (aS Iz (zb (za ?_))))
 obtain⟨g,h,m,D,E,ac⟩:=ViewO.open hS0
 have q:Sep G W ((Blk b #[g,h,m,.map (some D),.map (some E)] 101)::(RowE (α:=Typ) own 74 g d.types)::(RowE own 112 h d.projs)::(RowE own 96 m L)::(MapO xB E1 D (zt d L))::(MapO Zx E2 E (yW L))::Rs) w:=ac
 have ad:=q.r1
 have ae:=q.r2
 have hr8s:_*40≤_:=ae.2
 have af:=q.r3
 have hr9s:_*120≤_:=af.2
 obtain⟨F,R,hB14,H,S⟩:=(q.mv3).lend
 have B:=RowE.rd R
 have hrd17s:_*120≤_:=B.small
 refine R0 fun _=>st (mV (Ix b 0) (st (zx rfl (st (UW rfl (st (lD m pY rfl (zd (H.b0) rfl) (st (cL Tryz.call57 (KA B H) ?_)))))))))
 rintro c w19 ⟨_,rfl,I⟩
 have J:=I.r0
 have hr21s:_*120≤_:=J.2
 refine st (aS c (zb (za (za (R0 fun _=>st (mV c (st (zS lR rfl J.1 (st (mV (Iv 0) (zb (zu ?_))))))))))))
 have T:=I.toMix
 refine yf (fun mq σ wq=> ∃k ρ,mq=L.length-k∧σ=yo ρ [(0,Ix b 0),(2,(Iz)),(3,c),(11,Iw L.length),(12,Iw k)]∧(k≤L.length)∧Sep F w ((RowE (mix F w) 96 c (ZV k L))::(Blk b #[g,h,m,.map (some D),.map (some E)] 101)::(RowE own 74 g d.types)::(RowE own 112 h d.projs)::(MapO xB E1 D (zt d L))::(MapO Zx E2 E (yW L))::Rs) wq) ⟨0,_,rfl,sSf,zY _,T⟩ ?_
 rintro m24 σ25 ag ⟨k,ρl1,rfl,rfl,hkk,s⟩
 have z:=s.r0
 rw[Zs]at z
 refine za (R0 fun _=>st (zI rfl rfl (zb (za ?_))))
 cases t:decide (((k:Nat):Int)<((L.length:Nat):Int))
 have t:=fD t
 have K:Sep F w ((RowE (α:=Ent) own 96 c L)::(Blk b #[g,h,m,.map (some D),.map (some E)] 101)::(RowE own 74 g d.types)::(RowE own 112 h d.projs)::(MapO xB E1 D (zt d L))::(MapO Zx E2 E (yW L))::Rs) ag:=s.ofMix om
 have U:=K.r0
 have hr30s:_*120≤_:=U.2
 refine zf rfl (yh (zX (za (R0 fun _=>st (mV c (st (aS c (zb (zo (zN Tryz.results19 (show _=(c:Value)from rfl) ?_))))))))))
 have V:=S _ _ K
 have X:Sep _ _ ((ViewO b d L L)::_) _:=ViewO.close (M:=L) (V.s7_cdeafgb)
 refine⟨c,rfl,X⟩
 have t:=tD t
 refine zg rfl (zp (za (zu (za (R0 fun _=>st (mV (Iw k) (st (aS (Iw k) (zb (R0 fun _=>st (mV c (st (mV (Iw k) (st (mV c (st (mV (Iw k) ?_)))))))))))))))))
 have Y:k<L.length:=bo
 refine st (zn (k:=13) lR oR rfl z.1 rfl Y (st (YP rfl ?_)))
 have N:k<L.length:=bo
 obtain⟨_,C,x,rfl,p,y⟩:=s.mixAt (i:=0) rfl (Nat.le_refl _) N
 rw[←zK default N]at C p y
 refine st (ze oT lT rfl rfl (CellsAt.sub C 0 rfl) (st (cL oY (Wq p y.ev s) ?_)))
 rintro _ w38 ⟨Q,rfl,O⟩
 have P:=O.r0
 have hr40s:_*8≤_:=P.2
 have Z:k<L.length:=bo
 refine st (zn (k:=13) lR oR rfl z.1 rfl Z (st (YP rfl ?_)))
 have A:k<L.length:=bo
 refine stn (XR (α:=Ent) (j:=k) (o:=0) (u:=.agg (((L.getD k default).ev).cells Q).toArray) (us:=((L.getD k default).ev).cells Q) (O.mv1) lT A rfl rfl rfl (xJ rfl) (zZ ⟨rfl,rfl,rfl,P.1.one,rfl,rfl,rfl,rfl,rfl,rfl,zj⟩) (fun w f cs0 hr hN=>(by obtain⟨d,rfl,hd,hok⟩:=hr;rw[zK default A];exact⟨_,rfl,(by rw[←zK default A];exact RowE.soft hN),hok⟩)) ?_)
 intro w42 aa
 refine zb (R0 fun _=>?_)
 have ab:InR ((k+1:Nat):Int):=bo
 refine st (zU (r:=((k+1:Nat):Int)) rfl rfl (by rw[show(((k:Nat):Int)+1:Int)=((k+1:Nat):Int)from bo];exact zJ ab) (st (mV (Iw (k+1)) (zb ?_))))
 exact⟨_,by omega,k+1,_,rfl,sSf,by omega,aa⟩
theorem D_All {d:Dcl}{dd0:Value}(hdd0:RdS W G dd0 d.types){dd1:Value}(hdd1:RdS W G dd1 d.projs)(od:d.Ok){vl:Value}{l:List Ev}(hl:RdS W G vl l)(hKN:RdS W G (.slice (some ⟨0,0,none⟩) 6 6) kindsL)(hS0:Sep G W Rs w)(hd:DclOk d)(hfew:l.length≤1000000):Ret Tryz.prog 30 [.agg (d.cells dd0 dd1).toArray,vl] w (fun r w'=> ∃(b:Nat),r=(.pointer (some ⟨b,0,none⟩):Value)∧Sep G W ((ViewO b d (zq d l) (zq d l))::Rs) w'):=by
 refine zm Tryz.func30 rfl rfl ?_
 refine za (R0 fun _=>st (zT rfl ?_))
 intro w3 b2 F
 have y:=hS0.new F
 refine st (aS (.pointer none) (zb (za (R0 fun _=>st (ze nR rT rfl rfl (zi (y.b0)) (st (cL Tryz.call70 (zdX hdd0 hdd1 od y) ?_)))))))
 rintro _ w6 ⟨g,rfl,H⟩
 refine st (aS (Ix g 0) (zb (za (za (R0 fun _=>st (mV vl (st (zS qT rfl hl.sl (st (mV (Iv 0) (zb (zu (yf (fun mq σ I=> ∃k ρ,mq=l.length-k∧σ=yo ρ [(2,Ix b2 0),(5,Ix g 0),(10,vl),(11,Iw l.length),(12,Iw k)]∧(k≤l.length)∧Sep G W ((ViewO g d (zq d (l.take k)) (zq d (l.take k)))::(Blk b2 (d.cells dd0 dd1).toArray 25)::Rs) I) ⟨0,_,rfl,sSf,zY _,H⟩ ?_)))))))))))))
 rintro m9 σ10 w8 ⟨k,ρl1,rfl,rfl,hkk,h⟩
 refine za (R0 fun _=>st (zI rfl rfl (zb (za ?_))))
 cases f:decide (((k:Nat):Int)<((l.length:Nat):Int))
 have f:=fD f
 refine zf rfl (yh (zX (za (R0 fun _=>st (mV (Ix g 0) (st (aS (Ix g 0) (zb (zo (zN Tryz.results30 rfl ?_))))))))))
 have j:=h.s2_a
 have hkn:k=l.length:=by omega
 rw[hkn,List.take_length]at j
 refine⟨g,rfl,j⟩
 have f:=tD f
 refine zg rfl (zp (za (zu (za (R0 fun _=>?_)))))
 have z:k<l.length:=bo
 refine st (zn qT lT rfl hl.sl rfl z ?_)
 have m:k<l.length:=bo
 obtain⟨u,c,o⟩:=hl.evD m
 have x:=h.cells u (hl.foot (ne_of_lt m))
 refine st (ze oT lT rfl rfl x (st (zv rR ?_)))
 intro w21 b20 A
 have p:=h.new A
 refine stn (zr (v:=.agg ((l.gd k).cells (zV W (sb vl) (so vl+k*10+3))).toArray) lT rfl rfl (p.b0) (zZ ⟨rfl,rfl,rfl,c.sl.one,rfl,rfl,rfl,rfl,rfl,rfl,zj⟩) yqc rfl ?_)
 intro w23 B
 have q:=p.pt0 B
 refine zb (R0 fun _=>st (mV (Ix g 0) (st (ze oT lT rfl rfl (zi (q.b0)) (st (cL Tryz.call60 (zdU c o hKN (q.mv1) hd ((Inv.run hd _)) ((JJ hfew))) ?_))))))
 rintro _ w28 ⟨v27,rfl,s⟩
 have C:=s.r1
 refine zb (R0 fun _=>?_)
 have D:InR ((k+1:Nat):Int):=bo
 refine st (zU (r:=((k+1:Nat):Int)) rfl rfl (by rw[show(((k:Nat):Int)+1:Int)=((k+1:Nat):Int)from bo];exact zJ D) (st (mV (Iw (k+1)) (zb ?_))))
 have t:=s.s4_ad
 have E:(zq d (l.take (k+1)))=((zq d (l.take k))++[yI d (zq d (l.take k)) (l.gd k)]):=(Uf om)
 rw[←E]at t
 exact⟨_,by omega,k+1,_,rfl,sSf,by omega,t⟩
def We (e:Ev)(n:Int):Prop:=(0≤e.origin∧e.origin<n∧(e.deps.length:Int)=n∧1≤e.seq)∧ ∀i,i<e.deps.length→0≤e.deps.getD i 0
theorem zcD {α:Type}[Inhabited α]{P:α→Prop}{l:List α}{x:α}(h: ∀i,i<l.length→P (l.getD i default))(hx:P x): ∀i,i<(l++[x]).length→P ((l++[x]).getD i default):=by
 intro i hi
 rcases Nat.lt_or_ge i l.length with h1|h1
 ·have e:(l++[x]).getD i default=l.getD i default:=by rw[List.getD_eq_getElem?_getD,List.getD_eq_getElem?_getD,List.getElem?_append_left h1]
  rw[e];exact h i h1
 ·have e:i=l.length:=by rw[List.length_append,List.length_singleton]at hi;omega
  subst e
  rw[List.getD_eq_getElem?_getD,List.getElem?_append_right (Nat.le_refl _),Nat.sub_self];exact hx
theorem Ww {d:Dcl}{dd0:Value}(hdd0:RdS W G dd0 d.types){dd1:Value}(hdd1:RdS W G dd1 d.projs)(od:d.Ok)(hS0:Sep G W Rs w):Ret Tryz.prog 5 [.agg (d.cells dd0 dd1).toArray] w (fun r w'=> ∃(b:Bool),r=(.bool b:Value)∧(b=true→DclOk d∧zbf d)∧Sep G W Rs w'):=by
 refine zm Tryz.func5 rfl rfl ?_
 refine za (R0 fun _=>st (zT rfl ?_))
 intro w3 b2 m
 have h:=hS0.new m
 refine st (aS (.bool false) (zb (za (zy kr (st (ze nR rT rfl rfl (zi (h.b0)) (st (cL Tryz.call25 (zdY hdd0 hdd1 od h) ?_))))))))
 rintro _ w6 ⟨i,rfl,f⟩
 refine st (yw rfl (st (mV (.bool (!i)) (stc (V:=.agg (d.cells dd0 dd1).toArray) rfl rfl (fun n=>?_) ?_))))
 have o:=n
 exact ze nR rT rfl rfl (zi (f.b0)) rflB
 cases e: !i
 refine stx rfl rfl (stx rfl rfl (st (yb rfl rfl (st (aS (.bool false) (zb (zo (zN kB rfl ?_))))))))
 refine⟨false,rfl,?_,(f.s1_)⟩
 intro j
 cases j
 refine sty rfl rfl (cL Tryz.call26 (zcT hdd0 hdd1 od f) ?_)
 rintro _ w15 ⟨c,rfl,hin13,g,l⟩
 refine sty rfl rfl (zR rfl rfl (st (yc rfl rfl (st (aS (.bool (decide (c=0))) (zb (zo (zN kB rfl ?_))))))))
 refine⟨decide (c=0),rfl,?_,(l.s1_)⟩
 intro j
 exact g (by simpa using j)
theorem zbc {e:Ev}{de0:Value}(hde0:RdS W G de0 e.deps)(oe:e.Ok){n:Int}(hn:InR n)(hS0:Sep G W Rs w):Ret Tryz.prog 27 [.agg (e.cells de0).toArray,.int .i64 (n)] w (fun r w'=> ∃(c:Int),r=(.int .i64 (c):Value)∧(InR c)∧(c=0→We e n)∧Sep G W Rs w'):=by
 refine zm Tryz.func27 rfl rfl ?_
 refine za (R0 fun _=>st (zT rfl ?_))
 intro w3 b2 bi
 have f:=hS0.new bi
 refine st (aS (Iv 0) (zb (za (za (zy kr (st (yA rfl (st (xm rfl (st (lD (Iv (e.origin)) kT rfl (zd (f.b0) rfl) (st (zI rfl rfl (st (mV (.bool (decide (e.origin<0))) (stc (V:=Ix b2 0) rfl rfl (fun bj=>?_) ?_))))))))))))))))
 exact yA rfl rflB
 refine stc (V:=Ix b2 0) rfl rfl (fun aE=>?_) ?_
 exact xm (ifpC aE) rflB
 refine stc (V:=Iv (e.origin)) rfl rfl (fun aF=>?_) ?_
 exact lD (Iv (e.origin)) kT (ifpC aF) (zd (f.b0) rfl) rflB
 refine stc (V:=Iv n) rfl rfl (fun aG=>?_) ?_
 exact mV (Iv n) rflB
 refine stc (V:=.bool (decide (n≤e.origin))) rfl rfl (fun p=>?_) ?_
 exact xh (ifpC p) (ifpC p) rflB
 refine st (zz rfl (fun hbp=>(ifpC hbp)) (st (mV (.bool ((decide (e.origin<0))||(decide (n≤e.origin)))) (stc (V:=Ix b2 0) rfl rfl (fun aH=>?_) ?_))))
 have aI:=aH
 exact yA rfl rflB
 refine stc (V:=Ix b2 1) rfl rfl (fun K=>?_) ?_
 have aJ:=K
 exact Za (ifpC K) rflB
 refine stc (V:=Iv (e.seq)) rfl rfl (fun L=>?_) ?_
 have aK:=L
 exact lD (Iv (e.seq)) kT (ifpC L) (zd (f.b0) rfl) rflB
 refine stc (V:=.bool (decide (e.seq<1))) rfl rfl (fun M=>?_) ?_
 have aL:=M
 exact zI (ifpC M) rfl rflB
 refine st (zz rfl (fun hbp=>(ifpC hbp)) (st (mV (.bool (((decide (e.origin<0))||(decide (n≤e.origin)))||(decide (e.seq<1)))) (stc (V:=Ix b2 2) rfl rfl (fun aM=>?_) ?_))))
 have aN:=aM
 exact xQ rfl rflB
 refine stc (V:=Iv (e.lam)) rfl rfl (fun N=>?_) ?_
 have aO:=N
 exact lD (Iv (e.lam)) kT (ifpC N) (zd (f.b0) rfl) rflB
 refine stc (V:=.bool (decide (e.lam<1))) rfl rfl (fun O=>?_) ?_
 have aP:=O
 exact zI (ifpC O) rfl rflB
 refine st (zz rfl (fun hbp=>(ifpC hbp)) (st (mV (.bool ((((decide (e.origin<0))||(decide (n≤e.origin)))||(decide (e.seq<1)))||(decide (e.lam<1)))) (stc (V:=Ix b2 5) rfl rfl (fun aQ=>?_) ?_))))
 have aR:=aQ
 exact Ye rfl rflB
 refine stc (V:=Iv (e.agg)) rfl rfl (fun P=>?_) ?_
 have aT:=P
 exact lD (Iv (e.agg)) kT (ifpC P) (zd (f.b0) rfl) rflB
 refine stc (V:=.bool (decide (e.agg<0))) rfl rfl (fun Q=>?_) ?_
 have aU:=Q
 exact zI (ifpC Q) rfl rflB
 refine st (zz rfl (fun hbp=>(ifpC hbp)) (st (mV (.bool (((((decide (e.origin<0))||(decide (n≤e.origin)))||(decide (e.seq<1)))||(decide (e.lam<1)))||(decide (e.agg<0)))) (stc (V:=Ix b2 9) rfl rfl (fun aV=>?_) ?_))))
 have aW:=aV
 exact YV rfl rflB
 refine stc (V:=Iv (e.key)) rfl rfl (fun R=>?_) ?_
 have aX:=R
 exact lD (Iv (e.key)) kT (ifpC R) (zd (f.b0) rfl) rflB
 refine stc (V:=.bool (decide (e.key<0))) rfl rfl (fun S=>?_) ?_
 have aY:=S
 exact zI (ifpC S) rfl rflB
 refine st (zz rfl (fun hbp=>(ifpC hbp)) (st (mV (.bool ((((((decide (e.origin<0))||(decide (n≤e.origin)))||(decide (e.seq<1)))||(decide (e.lam<1)))||(decide (e.agg<0)))||(decide (e.key<0)))) (stc (V:=Ix b2 3) rfl rfl (fun aZ=>?_) ?_))))
 have ba:=aZ
 exact xg rfl rflB
 refine stc (V:=de0) rfl rfl (fun T=>?_) ?_
 have bb:=T
 try simp only[zh]at bb
 exact lD de0 sT (ifpC T) (zd (f.b0) rfl) rflB
 refine stc (V:=Iw e.deps.length) rfl rfl (fun U=>?_) ?_
 have bc:=U
 try simp only[zh]at bc
 exact zS qY (ifpC U) hde0.sl rflB
 refine stc (V:=Iv n) rfl rfl (fun bd=>?_) ?_
 have be:=bd
 try simp only[zh]at be
 exact mV (Iv n) rflB
 refine stc (V:=.bool (!decide (((e.deps.length:Nat):Int)=n))) rfl rfl (fun q=>?_) ?_
 have bf:=q
 try simp only[zh]at bf
 exact yj (ifpC q) (ifpC q) rflB
 refine st (zz rfl (fun hbp=>(ifpC hbp)) (zb ?_))
 cases X:((((((decide (e.origin<0))||(decide (n≤e.origin)))||(decide (e.seq<1)))||(decide (e.lam<1)))||(decide (e.agg<0)))||(decide (e.key<0)))||(!decide (((e.deps.length:Nat):Int)=n))
 try simp only[zh]at X
 refine zf rfl (zp (za (za (R0 fun _=>st (aS (Iv 0) (zb (zu (yf (fun mq σ wq=> ∃k ρ,mq=e.deps.length-k∧σ=yo ρ [(1,Iv n),(2,Ix b2 0),(5,Iw k)]∧(k≤e.deps.length)∧(∀i,i<k→0≤e.deps.getD i 0)∧Sep G W ((Blk b2 (e.cells de0).toArray 44)::Rs) wq) ⟨0,_,rfl,sSf,zY _,(fun i h=>absurd h (yO i)),f⟩ ?_))))))))
 rintro m53 σ54 w52 ⟨k,ρl1,rfl,rfl,hkk,hm,m⟩
 refine za (za (R0 fun _=>st (mV (Iw k) (st (mV (Iv n) (st (zI rfl rfl (zb ?_))))))))
 cases o:decide (((k:Nat):Int)<n)
 have o:=fD o
 refine zf rfl (yh (zX (za (za ?_))))
 refine WD4 (WF [fun vals wq=>Sep G W ((Blk b2 (e.cells de0).toArray 44)::Rs) wq]) (AF [Vl 0 (Ix b2 3),Vl 1 de0,Vl 2 (Ix b2 0),Vl 3 (Ix b2 0),Vl 4 (Iv (e.origin)),Vl 5 (Ix (sb de0) (so de0+e.origin.toNat*1)),Vl 6 (Iv ((e.deps.getD e.origin.toNat 0))),Vl 7 (Ix b2 0),Vl 8 (Ix b2 1),Vl 9 (Iv (e.seq)),Vl 10 (Iv (e.seq-1)),Vl 11 (.bool (!decide ((e.deps.getD e.origin.toNat 0)=(e.seq-1))))]) [[],[0],[],[2],[2,3],(rg 5),(rg 6),[],[7],[7,8],[7,8,9],(rg 11)] [] [(0,0),(0,0),(0,0),(0,0),(0,0),(0,0),(0,0),(0,0),(0,0),(0,0),(0,0),(0,0)] m ⟨fun _ _ _ _ _ _ _=>obl rfl (xg rfl dR),ob1 0 fun _ _ (ac:Sep _ _ _ _) ad=>obl rfl (lD de0 sT (ad 0 dc) (zd (ac.b0) rfl) dR),fun _ _ _ _ _ _ _=>obl rfl (yA rfl dR),fun _ _ _ _ _ _ ae=>obl rfl (xm (ae 2 dc) dR),ob1 0 fun _ _ (af:Sep _ _ _ _) ag=>obl rfl (lD (Iv (e.origin)) kT (ag 3 dc) (zd (af.b0) rfl) dR),?_,?_,fun _ _ _ _ _ _ _=>obl rfl (yA rfl dR),fun _ _ _ _ _ _ ah=>obl rfl (Za (ah 7 dc) dR),ob1 0 fun _ _ (ai:Sep _ _ _ _) aj=>obl rfl (lD (Iv (e.seq)) kT (aj 8 dc) (zd (ai.b0) rfl) dR),?_,ob1 0 fun _ _ _ s=>obl rfl (yj (s 6 dc) (s 10 dc) dR),zj⟩ ?_
 refine ob1 0 fun _ _ _ t=>(obl rfl ?_)
 exact zA qY lB (t 1 dc) hde0.sl (t 4 dc) ⟨by omega,by omega⟩ dR
 refine ob1 0 fun _ _ (ak:Sep _ _ _ _) al=>(obl rfl ?_)
 have u:e.origin.toNat<e.deps.length:=bo
 obtain⟨Y,hxe205⟩:=hde0.intD u
 have Z:=ak.cells Y (hde0.foot (ne_of_lt u))
 exact lD (Iv ((e.deps.getD e.origin.toNat 0))) kT (al 5 dc) (Z.get (j:=0) rfl) dR
 refine ob1 0 fun _ _ _ am=>(obl rfl ?_)
 have an:InR (e.seq-1):=(by have J:=oe.seq;omega)
 exact YK (r:=e.seq-1) (b:=1) (am 9 (by decide)) rfl (by rw[show(e.seq-1:Int)=e.seq-1 from rfl];exact zJ an) dR
 intro vals w247 ao ap
 have d:=ao
 have bh:=ap 11 dc
 refine yd (kv:=[(1,Iv n),(2,Ix b2 0),(5,Iw k),(45,Iw k),(46,Iv n),(47,.bool false),(67,.bool (!decide ((e.deps.getD e.origin.toNat 0)=(e.seq-1))))]) ⟨rfl,rfl,rfl,rfl,rfl,rfl,(by exact bh),zj⟩ (fun ρw247=>(zb ?_))
 cases g: !decide ((e.deps.getD e.origin.toNat 0)=(e.seq-1))
 have g:=zB g
 refine zf rfl (zp (za (za (zy kr (st (xP rfl (st (lD (Iv (e.op)) kT rfl (zd (d.b0) rfl) (st (zI rfl rfl (st (mV (.bool (decide (e.op<1))) (stc (V:=Ix b2 7) rfl rfl (fun aq=>?_) ?_)))))))))))))
 exact xP rfl rflB
 refine stc (V:=Iv (e.op)) rfl rfl (fun x=>?_) ?_
 exact lD (Iv (e.op)) kT (ifpC x) (zd (d.b0) rfl) rflB
 refine stc (V:=.bool (decide (5<e.op))) rfl rfl (fun y=>?_) ?_
 exact xj (ifpC y) rfl rflB
 refine st (zz rfl (fun hbp=>(ifpC hbp)) (zb ?_))
 cases z:(decide (e.op<1))||(decide (5<e.op))
 refine zf rfl (zp (za (za (zy kr (st (xL rfl (st (lD (Iv (e.typ)) kT rfl (zd (d.b0) rfl) (st (zI rfl rfl (st (mV (.bool (decide (e.typ<0))) (stc (V:=Ix b2 4) rfl rfl (fun ar=>?_) ?_)))))))))))))
 exact xL rfl rflB
 refine stc (V:=Iv (e.typ)) rfl rfl (fun A=>?_) ?_
 exact lD (Iv (e.typ)) kT (ifpC A) (zd (d.b0) rfl) rflB
 refine stc (V:=.bool (decide (7<e.typ))) rfl rfl (fun B=>?_) ?_
 exact xj (ifpC B) rfl rflB
 refine st (zz rfl (fun hbp=>(ifpC hbp)) (st (mV (.bool ((decide (e.typ<0))||(decide (7<e.typ)))) (stc (V:=Ix b2 6) rfl rfl (fun au=>?_) ?_))))
 have av:=au
 exact xN rfl rflB
 refine stc (V:=Iv (e.field)) rfl rfl (fun C=>?_) ?_
 have aw:=C
 exact lD (Iv (e.field)) kT (ifpC C) (zd (d.b0) rfl) rflB
 refine stc (V:=.bool (decide (e.field<0))) rfl rfl (fun D=>?_) ?_
 have ax:=D
 exact zI (ifpC D) rfl rflB
 refine st (zz rfl (fun hbp=>(ifpC hbp)) (st (mV (.bool (((decide (e.typ<0))||(decide (7<e.typ)))||(decide (e.field<0)))) (stc (V:=Ix b2 6) rfl rfl (fun ay=>?_) ?_))))
 have az:=ay
 exact xN rfl rflB
 refine stc (V:=Iv (e.field)) rfl rfl (fun E=>?_) ?_
 have aA:=E
 exact lD (Iv (e.field)) kT (ifpC E) (zd (d.b0) rfl) rflB
 refine stc (V:=.bool (decide (7<e.field))) rfl rfl (fun F=>?_) ?_
 have aB:=F
 exact xj (ifpC F) rfl rflB
 refine st (zz rfl (fun hbp=>(ifpC hbp)) (zb ?_))
 cases H:(((decide (e.typ<0))||(decide (7<e.typ)))||(decide (e.field<0)))||(decide (7<e.field))
 refine zf rfl (zp (za (R0 fun _=>st (aS (Iv 0) (zb (zo (zN qR rfl ?_)))))))
 refine⟨0,rfl,?_,?_,(d.s1_)⟩
 decide
 intro J
 exact⟨⟨by omega,by omega,by omega,by omega⟩,fun i hi=>hm i om⟩
 refine zg rfl (za (R0 fun _=>st (aS (Iv 8) (zb (zo (zN qR rfl ?_))))))
 refine⟨8,rfl,?_,?_,(d.s1_)⟩
 decide
 intro J
 omega
 refine zg rfl (za (R0 fun _=>st (aS (Iv 2) (zb (zo (zN qR rfl ?_))))))
 refine⟨2,rfl,?_,?_,(d.s1_)⟩
 decide
 intro J
 omega
 have g:=zC g
 refine zg rfl (za (R0 fun _=>st (aS (Iv 9) (zb (zo (zN qR rfl ?_))))))
 refine⟨9,rfl,?_,?_,(d.s1_)⟩
 decide
 intro J
 omega
 have o:=tD o
 refine zg rfl (zp (za (zu (za (R0 fun _=>st (xg rfl (st (lD de0 sT rfl (zd (m.b0) rfl) (st (mV (Iw k) ?_))))))))))
 have aC:k<e.deps.length:=bo
 refine st (zn qY lB rfl hde0.sl rfl aC ?_)
 have I:k<e.deps.length:=bo
 obtain⟨aa,hxe284⟩:=hde0.intD I
 have ab:=m.cells aa (hde0.foot (ne_of_lt I))
 refine st (lD (Iv ((e.deps.getD k 0))) kT rfl (ab.get (j:=0) rfl) (st (zI rfl rfl (zb ?_))))
 cases l:decide ((e.deps.getD k 0)<0)
 have l:=fD l
 refine zf rfl (zp (R0 fun _=>st (mV (Iw k) ?_)))
 have aD:InR ((k+1:Nat):Int):=bo
 refine st (zU (r:=((k+1:Nat):Int)) rfl rfl (by rw[show(((k:Nat):Int)+1:Int)=((k+1:Nat):Int)from bo];exact zJ aD) (st (aS (Iw (k+1)) (zb ?_))))
 exact⟨_,by omega,k+1,_,rfl,sSf,by omega,(yU hm om),m⟩
 have l:=tD l
 refine zg rfl (za (R0 fun _=>st (aS (Iv 1) (zb (zo (zN qR rfl ?_))))))
 refine⟨1,rfl,?_,?_,(m.s1_)⟩
 decide
 intro J
 omega
 refine zg rfl (za (R0 fun _=>st (aS (Iv 1) (zb (zo (zN qR rfl ?_))))))
 refine⟨1,rfl,?_,?_,(f.s1_)⟩
 decide
 intro J
 omega
theorem XJ {n:Int}(hn:InR n){vl:Value}{l:List Ev}(hl:RdS W G vl l)(hS0:Sep G W Rs w):Ret Tryz.prog 8 [.int .i64 (n),vl] w (fun r w'=> ∃(v:Value) (l2:List Ev),r=(v:Value)∧(l2.length≤60)∧(∀i,i<l2.length→We (l2.getD i default) n)∧Sep G W ((RowE (α:=Ev) (shr G W) 44 v l2)::Rs) w'):=by
 have hls:_*96≤_:=hl.small
 refine zm Tryz.func8 rfl rfl ?_
 refine za (R0 fun _=>st (aS Iz (zb (za (R0 fun _=>st (aS Iz (zb (za (za (R0 fun _=>st (aS (Iv 0) (zb (zu ?_)))))))))))))
 have aa:Sep G W ((RowE (α:=Ev) (shr G W) 44 Iz [])::Rs) w:=hS0.rowNil (shr G W) 44
 refine yf (fun mq σ wq=> ∃k vo l2 ρ,mq=l.length-k∧σ=yo ρ [(0,Iv n),(1,vl),(5,vo),(6,Iw k)]∧(k≤l.length)∧(l2.length≤60)∧(∀i,i<l2.length→We (l2.gd i) n)∧Sep G W ((RowE (shr G W) 44 vo l2)::Rs) wq) ⟨0,(Iz),[],_,rfl,sSf,zY _,zY _,(fun i h=>absurd h (yO i)),aa⟩ ?_
 rintro m3 σ4 w2 ⟨k,vo,l2,ρl1,rfl,rfl,hkk,u,hft,g⟩
 let ac:=zV W (sb vl) (so vl+k*10+3)
 have J:=g.r0
 have hr6s:_*96≤_:=J.2
 refine za (za (zy kr (st (mV (Iw k) (st (mV vl (st (zS qT rfl hl.sl (st (zI rfl rfl (st (mV (.bool (decide (((k:Nat):Int)<((l.length:Nat):Int)))) (stc (V:=vo) rfl rfl (fun ab=>?_) ?_)))))))))))))
 have hl8:=tD ab
 exact mV vo rflB
 refine stc (V:=Iw l2.length) rfl rfl (fun K=>?_) ?_
 have hl10:=tD K
 exact zS qT (ifpC K) J.1 rflB
 refine stc (V:=.bool (decide (((l2.length:Nat):Int)<60))) rfl rfl (fun x=>?_) ?_
 have hl12:=tD x
 exact zI (ifpC x) rfl rflB
 refine st (zF rfl (fun hbp=>(ifpC hbp)) (zb ?_))
 cases y:(decide (((k:Nat):Int)<((l.length:Nat):Int)))&&(decide (((l2.length:Nat):Int)<60))
 try simp only[zh]at y
 refine zf rfl (yh (zX (za (R0 fun _=>st (mV vo (st (aS vo (zb (zo (zN Tryz.results8 rfl ?_))))))))))
 refine⟨vo,l2,rfl,?_,?_,g⟩
 exact u
 exact hft
 try simp only[zh]at y
 refine zg rfl (zp (za (zu (za (zy kr (st (mV vl (st (mV (Iw k) ?_)))))))))
 have M:k<l.length:=bo
 refine st (zn qT lT rfl hl.sl rfl M (st (xg rfl ?_)))
 have m:k<l.length:=bo
 obtain⟨o,d,q⟩:=hl.evD m
 have hsm17:((l.gd k).deps).length*8≤140737488355328:=d.small
 have D:=g.cells o (hl.foot (ne_of_lt m))
 refine st (lD ac sT rfl (D.get rfl) (st (zS qY rfl d.sl (st (mV (Iv n) (st (zR rfl rfl (st (mV (.bool (decide (((((l.gd k).deps).length:Nat):Int)=n))) (stc (V:=vl) rfl rfl (fun N=>?_) ?_))))))))))
 have hl20:=tD N
 exact mV vl rflB
 refine stc (V:=Iw k) rfl rfl (fun O=>?_) ?_
 have hl22:=tD O
 exact mV (Iw k) rflB
 refine stc (V:=Ix (sb vl) (so vl+k*10)) rfl rfl (fun s=>?_) ?_
 have hl24:=tD s
 have Q:k<l.length:=bo
 exact zn qT lT (ifpC s) hl.sl (ifpC s) Q rflB
 refine stc (V:=.agg ((l.gd k).cells ac).toArray) rfl rfl (fun z=>?_) ?_
 have hl27:=tD z
 have E:=g.cells o (hl.foot (ne_of_lt m))
 exact ze oT lT rfl (ifpC z) E rflB
 refine stc (V:=Iv n) rfl rfl (fun R=>?_) ?_
 have hl31:=tD R
 exact mV (Iv n) rflB
 cases f:decide (((((l.gd k).deps).length:Nat):Int)=n)
 have hg32r:=f
 have f:=fD f
 refine stx rfl rfl (stx rfl rfl (st (yb rfl rfl (zb (zf rfl (zp (R0 fun _=>st (mV (Iw k) ?_))))))))
 have S:InR ((k+1:Nat):Int):=bo
 refine st (zU (r:=((k+1:Nat):Int)) rfl rfl (by rw[show(((k:Nat):Int)+1:Int)=((k+1:Nat):Int)from bo];exact zJ S) (st (aS (Iw (k+1)) (zb ?_))))
 exact⟨_,by omega,k+1,vo,l2,_,rfl,sSf,by omega,u,hft,g⟩
 have f:=tD f
 refine sty rfl rfl (cL Tryz.call27 (zbc d q hn g) ?_)
 rintro _ w37 ⟨A,rfl,hc935,F,t⟩
 refine sty rfl rfl (zR rfl rfl (st (yc rfl rfl (zb ?_))))
 cases p:decide (A=0)
 have p:=fD p
 refine zf rfl (zp (R0 fun _=>st (mV (Iw k) ?_)))
 have T:InR ((k+1:Nat):Int):=bo
 refine st (zU (r:=((k+1:Nat):Int)) rfl rfl (by rw[show(((k:Nat):Int)+1:Int)=((k+1:Nat):Int)from bo];exact zJ T) (st (aS (Iw (k+1)) (zb ?_))))
 exact⟨_,by omega,k+1,vo,l2,_,rfl,sSf,by omega,u,hft,t⟩
 have p:=tD p
 refine zg rfl (R0 fun _=>st (mV vo (st (mV vl (st (mV (Iw k) ?_))))))
 have U:k<l.length:=bo
 refine st (zn qT lT rfl hl.sl rfl U ?_)
 have H:=t.cells o (hl.foot (ne_of_lt m))
 refine st (ze oT lT rfl rfl H (st (zL (c:=((l.gd k).cells ac).toArray) qT lT rR dc rfl kr ?_)))
 intro w46 b45 X
 have B:=t.new X
 have I:=B.b0
 refine st (yx ((B.s2_b).emp1) QF rfl rfl I (fun _ _ _=>(show _ from⟨_,rfl,d,q⟩)) yqb rfl ?_)
 intro L w48 C
 have Y:=C.r0
 refine st (aS L (zb (R0 fun _=>st (mV (Iw k) ?_))))
 have Z:InR ((k+1:Nat):Int):=bo
 refine st (zU (r:=((k+1:Nat):Int)) rfl rfl (by rw[show(((k:Nat):Int)+1:Int)=((k+1:Nat):Int)from bo];exact zJ Z) (st (aS (Iw (k+1)) (zb ?_))))
 exact⟨_,by omega,k+1,L,(l2++[(l.getD k default)]),_,rfl,sSf,by omega,(by rw[List.length_append,List.length_singleton];omega),(zcD (P:=fun e=>We e n) hft (F (by omega))),C⟩
theorem xw {a:Ev}{da0:Value}(hda0:RdS W G da0 a.deps)(oa:a.Ok){b:Ev}{db0:Value}(hdb0:RdS W G db0 b.deps)(ob:b.Ok)(hS0:Sep G W Rs w):Ret Tryz.prog 13 [.agg (a.cells da0).toArray,.agg (b.cells db0).toArray] w (fun r w'=>r=(.bool (decide (a=b)):Value)∧Sep G W Rs w'):=by
 refine zm Tryz.func13 rfl rfl ?_
 refine za (R0 fun _=>st (zT rfl ?_))
 intro w3 b2 aX
 refine st (zT rfl ?_)
 intro w7 g aY
 have d:=(hS0.new aX).new aY
 refine st (aS (.bool false) (zb (za (zy kr (st (yA rfl (st (ze pT mT rfl rfl (CellsAt.sub (zi (d.b1)) 0 rfl) (st (yA rfl (st (ze pT mT rfl rfl (CellsAt.sub (zi (d.b0)) 0 rfl) (st (Yv zcl rfl rfl (st (mV (.bool (decide (a.origin=b.origin∧a.seq=b.seq))) (stc (V:=Ix b2 2) rfl rfl (fun aZ=>?_) ?_)))))))))))))))))
 exact xQ rfl rflB
 refine stc (V:=Iv (a.lam)) rfl rfl (fun q=>?_) ?_
 exact lD (Iv (a.lam)) kT (ifpC q) (zd (d.b1) rfl) rflB
 refine stc (V:=Ix g 2) rfl rfl (fun M=>?_) ?_
 exact xQ rfl rflB
 refine stc (V:=Iv (b.lam)) rfl rfl (fun s=>?_) ?_
 exact lD (Iv (b.lam)) kT (ifpC s) (zd (d.b0) rfl) rflB
 refine stc (V:=.bool (decide (a.lam=b.lam))) rfl rfl (fun h=>?_) ?_
 exact zR (ifpC h) (ifpC h) rflB
 refine st (zF rfl (fun hbp=>(ifpC hbp)) (st (mV (.bool ((decide (a.origin=b.origin∧a.seq=b.seq))&&(decide (a.lam=b.lam)))) (stc (V:=Ix b2 3) rfl rfl (fun N=>?_) ?_))))
 have O:=N
 try simp only[zh]at O
 exact xg rfl rflB
 refine stc (V:=da0) rfl rfl (fun t=>?_) ?_
 have P:=t
 try simp only[zh]at P
 exact lD da0 sT (ifpC t) (zd (d.b1) rfl) rflB
 refine stc (V:=Ix g 3) rfl rfl (fun Q=>?_) ?_
 have R:=Q
 try simp only[zh]at R
 exact xg rfl rflB
 refine stc (V:=db0) rfl rfl (fun u=>?_) ?_
 have S:=u
 try simp only[zh]at S
 exact lD db0 sT (ifpC u) (zd (d.b0) rfl) rflB
 refine zdu (V:=.bool (decide (a.deps=b.deps))) (fun _ wq=>Sep G W ((Blk g (b.cells db0).toArray 44)::(Blk b2 (a.cells da0).toArray 44)::Rs) wq) d rfl rfl (fun i=>?_) (fun w31 c=>?_)
 have T:=i
 try simp only[zh]at T
 refine(zO (vals:=[da0,db0]) rfl (yK ⟨(ifpC i),(ifpC i),zj⟩) Tryz.call52 (Vd hda0 hdb0 d) ?_)
 rintro _ w29 ⟨rfl,U⟩
 exact⟨rfl,U⟩
 refine st (zF rfl (fun hbp=>(ifpC hbp)) (st (mV (.bool (((decide (a.origin=b.origin∧a.seq=b.seq))&&(decide (a.lam=b.lam)))&&(decide (a.deps=b.deps)))) (stc (V:=Ix b2 4) rfl rfl (fun X=>?_) ?_))))
 have Y:=X
 try simp only[zh]at Y
 exact xL rfl rflB
 refine stc (V:=Iv (a.typ)) rfl rfl (fun x=>?_) ?_
 have Z:=x
 try simp only[zh]at Z
 exact lD (Iv (a.typ)) kT (ifpC x) (zd (c.b1) rfl) rflB
 refine stc (V:=Ix g 4) rfl rfl (fun aa=>?_) ?_
 have ab:=aa
 try simp only[zh]at ab
 exact xL rfl rflB
 refine stc (V:=Iv (b.typ)) rfl rfl (fun y=>?_) ?_
 have ac:=y
 try simp only[zh]at ac
 exact lD (Iv (b.typ)) kT (ifpC y) (zd (c.b0) rfl) rflB
 refine stc (V:=.bool (decide (a.typ=b.typ))) rfl rfl (fun j=>?_) ?_
 have ad:=j
 try simp only[zh]at ad
 exact zR (ifpC j) (ifpC j) rflB
 refine st (zF rfl (fun hbp=>(ifpC hbp)) (st (mV (.bool ((((decide (a.origin=b.origin∧a.seq=b.seq))&&(decide (a.lam=b.lam)))&&(decide (a.deps=b.deps)))&&(decide (a.typ=b.typ)))) (stc (V:=Ix b2 5) rfl rfl (fun ae=>?_) ?_))))
 have af:=ae
 try simp only[zh]at af
 exact Ye rfl rflB
 refine stc (V:=Iv (a.agg)) rfl rfl (fun z=>?_) ?_
 have ag:=z
 try simp only[zh]at ag
 exact lD (Iv (a.agg)) kT (ifpC z) (zd (c.b1) rfl) rflB
 refine stc (V:=Ix g 5) rfl rfl (fun ah=>?_) ?_
 have ai:=ah
 try simp only[zh]at ai
 exact Ye rfl rflB
 refine stc (V:=Iv (b.agg)) rfl rfl (fun A=>?_) ?_
 have aj:=A
 try simp only[zh]at aj
 exact lD (Iv (b.agg)) kT (ifpC A) (zd (c.b0) rfl) rflB
 refine stc (V:=.bool (decide (a.agg=b.agg))) rfl rfl (fun l=>?_) ?_
 have ak:=l
 try simp only[zh]at ak
 exact zR (ifpC l) (ifpC l) rflB
 refine st (zF rfl (fun hbp=>(ifpC hbp)) (st (mV (.bool (((((decide (a.origin=b.origin∧a.seq=b.seq))&&(decide (a.lam=b.lam)))&&(decide (a.deps=b.deps)))&&(decide (a.typ=b.typ)))&&(decide (a.agg=b.agg)))) (stc (V:=Ix b2 6) rfl rfl (fun al=>?_) ?_))))
 have am:=al
 try simp only[zh]at am
 exact xN rfl rflB
 refine stc (V:=Iv (a.field)) rfl rfl (fun B=>?_) ?_
 have an:=B
 try simp only[zh]at an
 exact lD (Iv (a.field)) kT (ifpC B) (zd (c.b1) rfl) rflB
 refine stc (V:=Ix g 6) rfl rfl (fun ao=>?_) ?_
 have ap:=ao
 try simp only[zh]at ap
 exact xN rfl rflB
 refine stc (V:=Iv (b.field)) rfl rfl (fun C=>?_) ?_
 have aq:=C
 try simp only[zh]at aq
 exact lD (Iv (b.field)) kT (ifpC C) (zd (c.b0) rfl) rflB
 refine stc (V:=.bool (decide (a.field=b.field))) rfl rfl (fun m=>?_) ?_
 have ar:=m
 try simp only[zh]at ar
 exact zR (ifpC m) (ifpC m) rflB
 refine st (zF rfl (fun hbp=>(ifpC hbp)) (st (mV (.bool ((((((decide (a.origin=b.origin∧a.seq=b.seq))&&(decide (a.lam=b.lam)))&&(decide (a.deps=b.deps)))&&(decide (a.typ=b.typ)))&&(decide (a.agg=b.agg)))&&(decide (a.field=b.field)))) (stc (V:=Ix b2 7) rfl rfl (fun au=>?_) ?_))))
 have av:=au
 try simp only[zh]at av
 exact xP rfl rflB
 refine stc (V:=Iv (a.op)) rfl rfl (fun D=>?_) ?_
 have aw:=D
 try simp only[zh]at aw
 exact lD (Iv (a.op)) kT (ifpC D) (zd (c.b1) rfl) rflB
 refine stc (V:=Ix g 7) rfl rfl (fun ax=>?_) ?_
 have ay:=ax
 try simp only[zh]at ay
 exact xP rfl rflB
 refine stc (V:=Iv (b.op)) rfl rfl (fun E=>?_) ?_
 have az:=E
 try simp only[zh]at az
 exact lD (Iv (b.op)) kT (ifpC E) (zd (c.b0) rfl) rflB
 refine stc (V:=.bool (decide (a.op=b.op))) rfl rfl (fun n=>?_) ?_
 have aA:=n
 try simp only[zh]at aA
 exact zR (ifpC n) (ifpC n) rflB
 refine st (zF rfl (fun hbp=>(ifpC hbp)) (st (mV (.bool (((((((decide (a.origin=b.origin∧a.seq=b.seq))&&(decide (a.lam=b.lam)))&&(decide (a.deps=b.deps)))&&(decide (a.typ=b.typ)))&&(decide (a.agg=b.agg)))&&(decide (a.field=b.field)))&&(decide (a.op=b.op)))) (stc (V:=Ix b2 8) rfl rfl (fun aB=>?_) ?_))))
 have aC:=aB
 try simp only[zh]at aC
 exact Zc rfl rflB
 refine stc (V:=Iv (a.arg)) rfl rfl (fun F=>?_) ?_
 have aD:=F
 try simp only[zh]at aD
 exact lD (Iv (a.arg)) kT (ifpC F) (zd (c.b1) rfl) rflB
 refine stc (V:=Ix g 8) rfl rfl (fun aE=>?_) ?_
 have aF:=aE
 try simp only[zh]at aF
 exact Zc rfl rflB
 refine stc (V:=Iv (b.arg)) rfl rfl (fun H=>?_) ?_
 have aG:=H
 try simp only[zh]at aG
 exact lD (Iv (b.arg)) kT (ifpC H) (zd (c.b0) rfl) rflB
 refine stc (V:=.bool (decide (a.arg=b.arg))) rfl rfl (fun o=>?_) ?_
 have aH:=o
 try simp only[zh]at aH
 exact zR (ifpC o) (ifpC o) rflB
 refine st (zF rfl (fun hbp=>(ifpC hbp)) (st (mV (.bool ((((((((decide (a.origin=b.origin∧a.seq=b.seq))&&(decide (a.lam=b.lam)))&&(decide (a.deps=b.deps)))&&(decide (a.typ=b.typ)))&&(decide (a.agg=b.agg)))&&(decide (a.field=b.field)))&&(decide (a.op=b.op)))&&(decide (a.arg=b.arg)))) (stc (V:=Ix b2 9) rfl rfl (fun aI=>?_) ?_))))
 have aJ:=aI
 try simp only[zh]at aJ
 exact YV rfl rflB
 refine stc (V:=Iv (a.key)) rfl rfl (fun I=>?_) ?_
 have aK:=I
 try simp only[zh]at aK
 exact lD (Iv (a.key)) kT (ifpC I) (zd (c.b1) rfl) rflB
 refine stc (V:=Ix g 9) rfl rfl (fun aL=>?_) ?_
 have aM:=aL
 try simp only[zh]at aM
 exact YV rfl rflB
 refine stc (V:=Iv (b.key)) rfl rfl (fun J=>?_) ?_
 have aN:=J
 try simp only[zh]at aN
 exact lD (Iv (b.key)) kT (ifpC J) (zd (c.b0) rfl) rflB
 refine stc (V:=.bool (decide (a.key=b.key))) rfl rfl (fun p=>?_) ?_
 have aO:=p
 try simp only[zh]at aO
 exact zR (ifpC p) (ifpC p) rflB
 refine st (zF rfl (fun hbp=>(ifpC hbp)) (st (aS (.bool (((((((((decide (a.origin=b.origin∧a.seq=b.seq))&&(decide (a.lam=b.lam)))&&(decide (a.deps=b.deps)))&&(decide (a.typ=b.typ)))&&(decide (a.agg=b.agg)))&&(decide (a.field=b.field)))&&(decide (a.op=b.op)))&&(decide (a.arg=b.arg)))&&(decide (a.key=b.key)))) (zb (zo (zN Tryz.results13 (show _=(.bool (((((((((decide (a.origin=b.origin∧a.seq=b.seq))&&(decide (a.lam=b.lam)))&&(decide (a.deps=b.deps)))&&(decide (a.typ=b.typ)))&&(decide (a.agg=b.agg)))&&(decide (a.field=b.field)))&&(decide (a.op=b.op)))&&(decide (a.arg=b.arg)))&&(decide (a.key=b.key))):Value)from rfl) ?_))))))
 refine⟨?_,(c.s2_)⟩
 congr 1
 rw[Bool.eq_iff_iff]
 simp only[Bool.and_eq_true,decide_eq_true_eq,Ev.eq_iff]
 constructor
 rintro⟨⟨⟨⟨⟨⟨⟨⟨L,h3⟩,h4⟩,h5⟩,h6⟩,h7⟩,h8⟩,h9⟩,K⟩;exact⟨L.1,L.2,h3,h4,h5,h6,h7,h8,h9,K⟩
 rintro⟨L,h2,h3,h4,h5,h6,h7,h8,h9,K⟩;exact⟨⟨⟨⟨⟨⟨⟨⟨⟨L,h2⟩,h3⟩,h4⟩,h5⟩,h6⟩,h7⟩,h8⟩,h9⟩,K⟩
end
end Go.Proofs.YtbcdijeggfoabaaGreatDoor
