import Derived.Test.YtbbabhaalmkbkaaGreatDoorE9
set_option linter.unusedSimpArgs false
set_option linter.unusedVariables false
set_option linter.unusedSectionVars false
set_option linter.deprecated false
open Go.Proofs.Tryz renaming isAgg3→kT,sizeOf41→lT,isAgg41→mT,isAgg25→nT,sizeOf25→oT,sizeOf53→pT,call7→qT,results3→rT,sizeOf47→sT,underlying26→tT,call8→uT,isAgg28→vT,sizeOf28→wT,call11→kR,zeroValue41→lR,call12→mR,zeroValue47→nR,isAgg22→oR,underlying22→pR,isAgg53→qR,call17→rR
namespace Go.Proofs.YtbbabhaalmkbkaaGreatDoor
section
set_option maxRecDepth 8000
set_option maxHeartbeats 4000000
open Go.Proofs Go.RowKit
theorem ov_as {P:Program}{o:Oper}{σ:Env}{w:World}{K:Value→World→Prop}{v v':Value}(h:v=v')(hop: ∀K':Value→World→Prop,K' v w→opV P o σ w K')(hK:K v' w):opV P o σ w K:=by subst h;exact hop K hK
set_option maxHeartbeats 8000000 in
theorem VC {G:Nat→Prop}{W w:World}{Rs:List HP}{d:Dcl}{dd0:Value}(hdd0:RdS W G dd0 d.types){dd1:Value}(hdd1:RdS W G dd1 d.projs)(od:d.Ok){n:Int}(hn:InR n){vl:Value}{l:List Ev}(hl:RdS W G vl l){o:Int}(ho:InR o){start:Int}(hstart:InR start){c:Cmd}(oc:c.Ok)(hKN:RdS W G (.slice (some ⟨0,0,none⟩) 6 6) kindsL)(hS0:Sep G W Rs w):Ret Tryz.prog 3 [.agg (d.cells dd0 dd1).toArray,.int .i64 (n),vl,.int .i64 (o),.int .i64 (start),.agg (c.cells).toArray] w (fun r w'=>r=(.bool true:Value)∧Sep G W Rs w'):=by
 have hdd0s:_*24≤_:=hdd0.small
 have hdd1s:_*40≤_:=hdd1.small
 have hls:_*96≤_:=hl.small
 have hKNs:_*8≤_:=hKN.small
 refine zi (args:=[.agg (d.cells dd0 dd1).toArray,Iv n,vl,Iv o,Iv start,.agg (c.cells).toArray]) Tryz.func3 rfl rfl ?_
 refine za (R0 fun _=>st (zN (v:=.agg (d.cells dd0 dd1).toArray) rfl ?_))
 intro w3 b2 gI
 let gO:=Blk b2 (d.cells dd0 dd1).toArray 25
 refine st (zN (v:=.agg (c.cells).toArray) rfl ?_)
 intro w7 K gJ
 let gR:=Blk K (c.cells).toArray 28
 have gd:=(hS0.new gI).new gJ
 refine st (aS (.bool false) (zd (za (za (R0 fun _=>st (zf (k:=2) nT oT rfl rfl (CellsAt.all (gd.b1)) (st (cL Tryz.call6 (zap (d:=d) hdd0 hdd1 od gd) ?_))))))))
 rintro _ w11 ⟨b9,rfl,gl,cu⟩
 refine st (yF (a:=b9) rfl (zd ?_))
 cases aB: !b9
 have hc13r:=aB
 try simp only[ze]at aB
 have Y:=gl (by simpa using aB)
 refine zg rfl (zl (za (R0 fun _=>st (mV (Iv n) ?_))))
 refine st (cL uT (KP (x:=n) (n:=64) hn yqe cu) ?_)
 rintro _ w16 ⟨m,rfl,hq15,gm⟩
 have cv:InR ((1+m:Nat):Int):=bo
 refine st (yb (r:=((1+m:Nat):Int)) (k:=.i64) (a:=1) (b:=((m:Nat):Int)) rfl rfl (by rw[show(1+((m:Nat):Int):Int)=((1+m:Nat):Int)from bo];exact zM cv) (st (aS (Iw (1+m)) (zd (za (yx (by kernel_rfl) (fun _=>(st (mV (Iw (1+m)) (st (mV vl (st (cL Tryz.call9 (JG (n:=((1+m:Nat):Int)) (l:=l) (vl:=vl) cv hl gm) ?_)))))))))))))
 rintro ad w23 ⟨_,X,rfl,eo,hft22,cw⟩
 have gn:=cw.r0
 have hr25s:_*96≤_:=gn.2
 refine st (aS ad (zd (za (R0 fun _=>st (mV (Iv o) (st (mV (Iw (1+m)) ?_)))))))
 refine st (cL uT (KP (x:=o) (n:=1+m) ho yqe cw) ?_)
 rintro _ w28 ⟨p,rfl,hq27,cx⟩
 refine st (aS (Iw p) (zd (za (R0 fun _=>st (zf (k:=2) nT oT rfl rfl (CellsAt.all (cx.b2)) (st (mV (Iw (1+m)) (st (mV ad ?_)))))))))
 obtain⟨G30,go,aC,gp,gq⟩:=cx.lend
 have bx:=RowE.rdB go aC
 have hrd36s:_*96≤_:=bx.small
 refine st (cL Tryz.call10 (Qh (d:=d) (n:=1+m) (l:=X) (vl:=ad) (RdS.base hdd0 aC) (RdS.base hdd1 aC) od yqe bx (RdS.base hKN aC) gp (Y.1) (om)) ?_)
 rintro _ gL ⟨s,q,rfl,gr⟩
 have bl:=gq _ _ gr
 refine st (mV (.tuple #[Ix s 0,Ix q 0]) (st (zk (vs:=[Ix s 0,Ix q 0]) (i:=0) (v:=Ix s 0) rfl rfl (st (zk (vs:=[Ix s 0,Ix q 0]) (i:=1) (v:=Ix q 0) rfl rfl (st (aS (Ix s 0) (st (aS (Ix q 0) (zd (za (za ?_))))))))))))
 obtain⟨g,cy⟩: ∃z,(xi (1+m) X)=z:=⟨_,rfl⟩
 let gU:=ViewO q d (zw d g) (zw d g)
 have aU:Good (1+m) g:=by rw[←cy];exact laidL_good
 have hLl9:g.length≤60:=by rw[←cy];exact Nat.le_trans ZU eo
 try simp+zetaDelta only at bl
 rw[cy]at bl
 have aD:Sep G W ((RowE (α:=Ev) (shr G W) 41 ad X)::(SetO s (1+m) g)::gU::gR::gO::Rs) gL:=bl
 have bm: ∀e∈g,e.Ok:=(aD).setOks (i:=1) rfl aU.ids
 have htp9:=Ue bm
 have hrl9:=YA d g
 refine zz kr (st (mV (Ix s 0) (st (Zj (b:=s) (o:=0) Tryz.underlying33 rfl (st (mV (.bool false) (sty rfl rfl (mV (Ix q 0) (sty rfl rfl (Zj (b:=q) (o:=0) Tryz.underlying34 rfl (st (zU (v:=.bool false) rfl rfl (zd (zg rfl (zl (za (R0 fun _=>st (zf (k:=2) nT oT rfl rfl (CellsAt.all (aD.b4)) (st (mV (Ix s 0) (st (mV (Ix q 0) (st (mV (Iw p) (st (mV (Iv start) (st (zf (k:=7) vT wT rfl rfl (CellsAt.all (aD.b3)) ?_))))))))))))))))))))))))))))
 obtain⟨G44,cz,bn,gs,gt⟩:=(aD.mv1).lend
 obtain⟨vv50,m51,R52,hb53,gu,hr55⟩:=SetO.sh cz
 have hsm56:(zr (1+m) g).length*8≤140737488355328:=gu.small
 refine st (cL kR (ZN (d:=d) (o:=((p:Nat):Int)) (start:=start) (c:=c) (RdS.base hdd0 bn) (RdS.base hdd1 bn) od cz om hstart oc (RdS.base hKN bn) (gs.mv1) (Y.1) ((Inv.run Y.1 _)) (om) (aU.ids) (aU.srt) (om) (om)) ?_)
 rintro _ w59 ⟨u,rfl,gv⟩
 let gH:=((exR d (1+m) g (zw d g) ((p:Nat):Int) start c).1.cells u)
 have gw:=gt _ _ gv
 refine st (mV (.tuple #[.agg gH.toArray,.bool ((exR d (1+m) g (zw d g) ((p:Nat):Int) start c).2.1),Iv ((exR d (1+m) g (zw d g) ((p:Nat):Int) start c).2.2)]) (st (zk (vs:=[.agg gH.toArray,.bool ((exR d (1+m) g (zw d g) ((p:Nat):Int) start c).2.1),Iv ((exR d (1+m) g (zw d g) ((p:Nat):Int) start c).2.2)]) (i:=0) (v:=.agg gH.toArray) rfl rfl (st (zk (vs:=[.agg gH.toArray,.bool ((exR d (1+m) g (zw d g) ((p:Nat):Int) start c).2.1),Iv ((exR d (1+m) g (zw d g) ((p:Nat):Int) start c).2.2)]) (i:=1) (v:=.bool ((exR d (1+m) g (zw d g) ((p:Nat):Int) start c).2.1)) rfl rfl ?_)))))
 refine st (zk (vs:=[.agg gH.toArray,.bool ((exR d (1+m) g (zw d g) ((p:Nat):Int) start c).2.1),Iv ((exR d (1+m) g (zw d g) ((p:Nat):Int) start c).2.2)]) (i:=2) (v:=Iv ((exR d (1+m) g (zw d g) ((p:Nat):Int) start c).2.2)) rfl rfl (st (zt lR ?_)))
 intro w64 O gx
 have bp:=gw.new gx
 refine stn (zq (v:=.agg gH.toArray) (c':=gH.toArray) lT rfl rfl (bp.b0) (ye ⟨rfl,rfl,rfl,(bp.depSl (i:=3) rfl).one,rfl,rfl,rfl,rfl,rfl,rfl,trivial⟩) yqc rfl ?_)
 intro gM gy
 have bq:=bp.pt0 gy
 refine st (aS (.bool ((exR d (1+m) g (zw d g) ((p:Nat):Int) start c).2.1)) (st (aS (Iv ((exR d (1+m) g (zw d g) ((p:Nat):Int) start c).2.2)) (zd (za (za ?_))))))
 have ao:Ev.Ok (exR d (1+m) g (zw d g) ((p:Nat):Int) start c).1:=Jt oc om om bm om
 obtain⟨j,cC⟩: ∃z,(exR d (1+m) g (zw d g) ((p:Nat):Int) start c).1=z:=⟨_,rfl⟩
 let gT:=ViewO q d (zw d (g++[j])) (zw d (g++[j]))
 let gS:=Blk O (j.cells u).toArray 41
 try simp+zetaDelta only at bq
 rw[cC]at bq ao
 have ae:Sep G W (gS::(SetO s (1+m) g)::gU::(DepO u j.deps)::(RowE (α:=Ev) (shr G W) 41 ad X)::gR::gO::Rs) gM:=bq
 refine zz kr (st (mV (Iv ((exR d (1+m) g (zw d g) ((p:Nat):Int) start c).2.2)) (st (yh (k:=.i64) (a:=(exR d (1+m) g (zw d g) ((p:Nat):Int) start c).2.2) (b:=0) rfl rfl (st (mV (.bool (!decide (((exR d (1+m) g (zw d g) ((p:Nat):Int) start c).2.2)=0))) (stc (V:=.bool ((exR d (1+m) g (zw d g) ((p:Nat):Int) start c).2.1)) rfl rfl (fun gz=>?_) ?_)))))))
 have hl71:=zu gz
 exact mV (.bool ((exR d (1+m) g (zw d g) ((p:Nat):Int) start c).2.1)) ⟨rfl,rfl⟩
 refine stc (V:=.bool (!((exR d (1+m) g (zw d g) ((p:Nat):Int) start c).2.1))) rfl rfl (fun cD=>?_) ?_
 have hl73:=zu cD
 exact yF (a:=(exR d (1+m) g (zw d g) ((p:Nat):Int) start c).2.1) (if_pos cD) ⟨rfl,rfl⟩
 refine st (zp (b:= !decide (((exR d (1+m) g (zw d g) ((p:Nat):Int) start c).2.2)=0)) (b':= !((exR d (1+m) g (zw d g) ((p:Nat):Int) start c).2.1)) rfl (fun hbp=>(if_pos hbp)) (zd ?_))
 cases aE:(!decide (((exR d (1+m) g (zw d g) ((p:Nat):Int) start c).2.2)=0))||(!((exR d (1+m) g (zw d g) ((p:Nat):Int) start c).2.1))
 have aF:=aE
 try simp only[ze]at aE
 have hmz:(exR d (1+m) g (zw d g) ((p:Nat):Int) start c).2.2=0∧(exR d (1+m) g (zw d g) ((p:Nat):Int) start c).2.1=true:=by have Z:=aF;rw[Bool.or_eq_false_iff]at Z;exact⟨by simpa using Z.1,by simpa using Z.2⟩
 obtain⟨hfz,hxz,haz,hlz,hvz,hsz,hoz,hrz,hcz,bz,hkz⟩:=Kt aU Y.1 hmz.2 cC
 refine zg rfl (zl (za (R0 fun _=>st (mV (Ix q 0) (st (ZO rfl (st (lD (Iv (c.ctyp)) kT rfl (zb (ae.b5) rfl) (st (Xs rfl (st (lD (Iv (c.cagg)) kT rfl (zb (ae.b5) rfl) (st (cL mR (WH (ty:=c.ctyp) (no:=c.cagg) oc.ctyp oc.cagg (ae.mv2)) ?_))))))))))))))
 rintro _ w77 ⟨am,rfl,cE⟩
 let gQ:=(xy d (c.ctyp,c.cagg) (zw d g)).cells am
 have cF:=cE.r1
 have hr79s:_*32≤_:=cF.2
 refine st (mV (.tuple #[.agg gQ.toArray,.bool ((zn d (zw d g) (c.ctyp,c.cagg)).isSome)]) (st (zk (vs:=[.agg gQ.toArray,.bool ((zn d (zw d g) (c.ctyp,c.cagg)).isSome)]) (i:=0) (v:=.agg gQ.toArray) rfl rfl (st (zk (vs:=[.agg gQ.toArray,.bool ((zn d (zw d g) (c.ctyp,c.cagg)).isSome)]) (i:=1) (v:=.bool ((zn d (zw d g) (c.ctyp,c.cagg)).isSome)) rfl rfl (st (zt nR ?_)))))))
 intro w82 R gA
 have cG:=cE.new gA
 refine stn (zq (v:=.agg gQ.toArray) (c':=gQ.toArray) sT rfl rfl (cG.b0) (ye ⟨rfl,cF.1.one,trivial⟩) yqc rfl ?_)
 intro w84 gB
 have af:=cG.pt0 gB
 refine st (aS (.bool ((zn d (zw d g) (c.ctyp,c.cagg)).isSome)) (zd (za (za (R0 fun _=>st (mV (.bool ((zn d (zw d g) (c.ctyp,c.cagg)).isSome)) (st (yF (a:=(zn d (zw d g) (c.ctyp,c.cagg)).isSome) rfl (zd (Vc (fun σ wq=> ∃(F:Value) (ρ:Env),σ=yi ρ [(3,Iw p),(4,Iv start),(6,Ix b2 0),(11,Ix K 0),(12,.bool false),(13,Ix s 0),(14,Ix q 0),(15,Ix O 0),(18,Ix R 0),(19,.bool ((zn d (zw d g) (c.ctyp,c.cagg)).isSome))]∧Sep G W ((Blk R ((yT d (c.ctyp,c.cagg) (zw d g)).cells F).toArray 47)::gU::(RowE (α:=Cel) own 99 F (zQ d (c.ctyp,c.cagg) (zw d g)))::gS::(SetO s (1+m) g)::(DepO u j.deps)::(RowE (α:=Ev) (shr G W) 41 ad X)::gR::gO::Rs) wq) ?_ ?_))))))))))
 cases aH: !((zn d (zw d g) (c.ctyp,c.cagg)).isSome)
 try simp only[ze]at aH
 refine zg rfl (zl ?_)
 have br:(stL d (c.ctyp,c.cagg) (zw d g))=zQ d (c.ctyp,c.cagg) (zw d g):=Vb (by simpa using aH)
 try simp+zetaDelta only at af
 rw[br]at af
 exact⟨rfl,am,_,yO ⟨(show _=(Iw p:Value)from rfl),(show _=(Iv start:Value)from rfl),(show _=(Ix b2 0:Value)from rfl),(show _=(Ix K 0:Value)from rfl),(show _=(.bool false:Value)from rfl),(show _=(Ix s 0:Value)from rfl),(show _=(Ix q 0:Value)from rfl),(show _=(Ix O 0:Value)from rfl),(show _=(Ix R 0:Value)from rfl),(show _=(.bool ((zn d (zw d g) (c.ctyp,c.cagg)).isSome):Value)from rfl),trivial⟩,af⟩
 try simp only[ze]at aH
 refine zh rfl (R0 fun _=>st (yG rfl (st (lD dd0 oR rfl (zb (af.b8) rfl) (st (ZO rfl (st (lD (Iv (c.ctyp)) kT rfl (zb (af.b7) rfl) ?_))))))))
 have hi88:c.ctyp.toNat<d.types.length:=bo
 refine st (zA (k:=1) (i:=c.ctyp) pR pT rfl hdd0.sl rfl ⟨by omega,by omega⟩ ?_)
 have cH:c.ctyp.toNat<d.types.length:=bo
 obtain⟨er,ax,cI⟩:=hdd0.typD cH
 have hsm91:((d.types.getD c.ctyp.toNat default).fields).length*48≤140737488355328:=ax.small
 have es:=af.cells er (hdd0.foot (ne_of_lt cH))
 refine st (zf (k:=1) qR pT rfl rfl es (st (cL Tryz.call13 (Jh (t:=(d.types.getD c.ctyp.toNat default)) ax cI af) ?_)))
 rintro cJ w94 ⟨_,rfl,bs⟩
 have cK:=bs.r0
 have hr96s:_*32≤_:=cK.2
 refine st (yY rfl (stn (yz (v:=cJ) (c:=[Iv ((xy d (c.ctyp,c.cagg) (zw d g)).ver),am]) (c':=[Iv ((xy d (c.ctyp,c.cagg) (zw d g)).ver),cJ]) Tryz.sizeOf45 rfl rfl (bs.b1) cK.1.one rfl rfl ?_)))
 intro w97 gC
 have ok99:Sta.Ok (⟨(xy d (c.ctyp,c.cagg) (zw d g)).ver,List.replicate (d.types.getD c.ctyp.toNat default).fields.length (⟨0,[]⟩:Cel)⟩:Sta):=⟨(show InR ((xy d (c.ctyp,c.cagg) (zw d g)).ver)from(⟨(show InR ((yd (c.ctyp,c.cagg) (zw d g):Nat):Int)from by have Z:=Zs (c.ctyp,c.cagg) (zw d g);rw[YA]at Z;omega)⟩:Sta.Ok (xy d (c.ctyp,c.cagg) (zw d g))).ver)⟩
 have aI:=bs.pt1 gC
 refine zd ?_
 have br:(List.replicate (d.types.getD c.ctyp.toNat default).fields.length (⟨0,[]⟩:Cel))=zQ d (c.ctyp,c.cagg) (zw d g):=(Ug (d:=d) (k:=(c.ctyp,c.cagg)) (L:=(zw d g)) (Wc (by simpa using aH))).symm
 try simp+zetaDelta only at aI
 rw[br]at aI
 exact⟨rfl,cJ,_,yO ⟨(show _=(Iw p:Value)from rfl),(show _=(Iv start:Value)from rfl),(show _=(Ix b2 0:Value)from rfl),(show _=(Ix K 0:Value)from rfl),(show _=(.bool false:Value)from rfl),(show _=(Ix s 0:Value)from rfl),(show _=(Ix q 0:Value)from rfl),(show _=(Ix O 0:Value)from rfl),(show _=(Ix R 0:Value)from rfl),(show _=(.bool ((zn d (zw d g) (c.ctyp,c.cagg)).isSome):Value)from rfl),trivial⟩,((aI.s10_abcefghij).s9_bcadefghi)⟩
 rintro _ w103 ⟨F,ρj1,rfl,ah⟩
 let gK:=Blk R ((yT d (c.ctyp,c.cagg) (zw d g)).cells F).toArray 47
 refine za (za (zz kr (st (Yk rfl (st (lD (Iv (c.expect)) kT rfl (zb (ah.b7) rfl) (st (yh (k:=.i64) (a:=c.expect) (b:= -1) rfl rfl (st (mV (.bool (!decide (c.expect=(-1)))) (stc (V:=Ix K 5) rfl rfl (fun et=>?_) ?_)))))))))))
 have hl106:=zy et
 exact Yk rfl ⟨rfl,rfl⟩
 refine stc (V:=Iv (c.expect)) rfl rfl (fun bA=>?_) ?_
 have hl108:=zy bA
 exact lD (Iv (c.expect)) kT (if_pos bA) (zb (ah.b7) rfl) ⟨rfl,rfl⟩
 refine stc (V:=Ix R 0) rfl rfl (fun eu=>?_) ?_
 have hl110:=zy eu
 exact ZS rfl ⟨rfl,rfl⟩
 refine stc (V:=Iv ((yT d (c.ctyp,c.cagg) (zw d g)).ver)) rfl rfl (fun bB=>?_) ?_
 have hl112:=zy bB
 exact lD (Iv ((yT d (c.ctyp,c.cagg) (zw d g)).ver)) kT (if_pos bB) (zb (ah.b0) rfl) ⟨rfl,rfl⟩
 refine stc (V:=.bool (!decide (c.expect=((yT d (c.ctyp,c.cagg) (zw d g)).ver)))) rfl rfl (fun aJ=>?_) ?_
 have hl114:=zy aJ
 exact yh (k:=.i64) (a:=c.expect) (b:=(yT d (c.ctyp,c.cagg) (zw d g)).ver) (if_pos aJ) (if_pos aJ) ⟨rfl,rfl⟩
 refine st (zC (b:= !decide (c.expect=(-1))) (b':= !decide (c.expect=((yT d (c.ctyp,c.cagg) (zw d g)).ver))) rfl (fun hbp=>(if_pos hbp)) ?_)
 have cM:((!decide (c.expect=(-1)))&&(!decide (c.expect=((yT d (c.ctyp,c.cagg) (zw d g)).ver))))=false:=(Jj hxz)
 rw[cM]
 refine st (mV (.bool false) (sty rfl rfl (mV (Ix s 0) (sty rfl rfl (zf (k:=10) mT lT rfl rfl (CellsAt.all (ah.b3)) ?_)))))
 obtain⟨G117,ew,hB120,ex,ey⟩:=(ah.mv5).lend
 have bC:=DepO.rd ew
 have hsm124:j.deps.length*8≤140737488355328:=bC.small
 refine sty rfl rfl (cL Tryz.call14 (Jc (e:=j) bC ao (ex.mv4) (om) (aU.len)) ?_)
 rintro _ gD ⟨L1126,rfl,cN,ez⟩
 have aK:=ey _ _ ez
 refine sty rfl rfl (yh (k:=.i64) (a:=(xT (1+m) g j)) (b:=0) rfl rfl ?_)
 have cO:(!decide ((xT (1+m) g j)=0))=false:=(by rw[haz];rfl)
 rw[cO]
 refine st (zU (v:=.bool false) rfl rfl (zd (zg rfl (zl (za ?_)))))
 try simp+zetaDelta only at aK
 rw[cN,hlz]at aK
 have eA:Sep G W ((DepO u j.deps)::(SetO s (1+m) (g++[j]))::gK::gU::(RowE (α:=Cel) own 99 F (zQ d (c.ctyp,c.cagg) (zw d g)))::gS::(RowE (α:=Ev) (shr G W) 41 ad X)::gR::gO::Rs) gD:=aK
 have hLl10:(g++[j]).length=g.length+1:=by rw[List.length_append];rfl
 have eB: ∀e∈g++[j],e.Ok:=fun e he=>by rcases List.mem_append.1 he with Z|Z;exact bm e Z;rw[List.mem_singleton.1 Z];exact ao
 have htp10:=Ue eB
 have hrl10:=YA d (g++[j])
 have cP:(zn d (zw d (g++[j])) (c.ctyp,c.cagg)).isSome=true:=by unfold zn;rw[hrz,if_neg (Nat.succ_ne_zero _)];rfl
 have gE:(yT d (c.ctyp,c.cagg) (zw d g)).ver=((yd (c.ctyp,c.cagg) (zw d g):Nat):Int):=rfl
 have hvl9:=Zs (c.ctyp,c.cagg) (zw d g)
 have eC:(xy d (c.ctyp,c.cagg) (zw d (g++[j]))).ver=((yd (c.ctyp,c.cagg) (zw d (g++[j])):Nat):Int):=rfl
 have hvl10:=Zs (c.ctyp,c.cagg) (zw d (g++[j]))
 refine R0 fun _=>st (mV (Ix s 0) ?_)
 obtain⟨G134,bD,hB137,eD,eE⟩:=(eA.mv1).lend
 obtain⟨vv140,m141,R142,hb143,eF,hr145⟩:=SetO.sh bD
 have hsm146:(zr (1+m) (g++[j])).length*8≤140737488355328:=eF.small
 refine st (cL Tryz.call15 (Jv bD eD (bz.ids) (bz.srt) (om)) ?_)
 rintro E w148 ⟨_,rfl,bE⟩
 have eG:=bE.r0
 have hr150s:_*96≤_:=eG.2
 have bF:=eE _ _ bE
 refine st (aS E (zd (za (R0 fun _=>st (mV (Ix q 0) (st (zf (k:=10) mT lT rfl rfl (CellsAt.all (bF.b6)) ?_)))))))
 obtain⟨G153,eH,eI,eJ,eK⟩:=(bF.mv2).lend
 have bG:=DepO.rd eH
 have hsm160:j.deps.length*8≤140737488355328:=bG.small
 refine st (cL Tryz.call16 (zbc (e:=j) bG ao (RdS.base hKN eI) (eJ.mv3) (Y.1) ((Inv.run Y.1 _)) (om)) ?_)
 rintro _ w163 ⟨H,rfl,bH⟩
 let gP:=(yE d (zw d g) j).cells H
 have bI:=bH.r1
 have hr165s:_*8≤_:=bI.2
 have eL:=eK _ _ bH
 refine st (zt Tryz.zeroValue57 ?_)
 intro w169 aa eM
 let gV:=Blk aa gP.toArray 57
 have bJ:=eL.new eM
 refine stn (zq (v:=.agg gP.toArray) (c':=gP.toArray) Tryz.sizeOf57 rfl rfl (bJ.b0) (ye ⟨rfl,rfl,rfl,bI.1.one,rfl,rfl,rfl,rfl,rfl,rfl,rfl,rfl,rfl,trivial⟩) yqc rfl ?_)
 intro gF eN
 have aL:=bJ.pt0 eN
 refine zd (za ?_)
 try simp+zetaDelta only at aL
 rw[←xE]at aL
 have aM:Sep G W (gV::(DepO u j.deps)::gT::(RowE (α:=Int) own 3 H j.deps)::(SetO s (1+m) (g++[j]))::(RowE (α:=Ev) own 41 E (g++[j]))::gK::(RowE (α:=Cel) own 99 F (zQ d (c.ctyp,c.cagg) (zw d g)))::gS::(RowE (α:=Ev) (shr G W) 41 ad X)::gR::gO::Rs) gF:=aL
 refine R0 fun _=>st (mV (Ix q 0) (st (ZO rfl (st (lD (Iv (c.ctyp)) kT rfl (zb (aM.b10) rfl) (st (Xs rfl (st (lD (Iv (c.cagg)) kT rfl (zb (aM.b10) rfl) (st (cL mR (WH (ty:=c.ctyp) (no:=c.cagg) oc.ctyp oc.cagg (aM.mv2)) ?_)))))))))))
 rintro _ w177 ⟨D,rfl,bK⟩
 let aG:=(xy d (c.ctyp,c.cagg) (zw d (g++[j]))).cells D
 have bL:=bK.r1
 have hr179s:_*32≤_:=bL.2
 refine st (mV (.tuple #[.agg aG.toArray,.bool ((zn d (zw d (g++[j])) (c.ctyp,c.cagg)).isSome)]) (st (zk (vs:=[.agg aG.toArray,.bool ((zn d (zw d (g++[j])) (c.ctyp,c.cagg)).isSome)]) (i:=0) (v:=.agg aG.toArray) rfl rfl (st (zk (vs:=[.agg aG.toArray,.bool ((zn d (zw d (g++[j])) (c.ctyp,c.cagg)).isSome)]) (i:=1) (v:=.bool ((zn d (zw d (g++[j])) (c.ctyp,c.cagg)).isSome)) rfl rfl (st (zt nR ?_)))))))
 intro w182 ag eO
 have bM:=bK.new eO
 refine stn (zq (v:=.agg aG.toArray) (c':=aG.toArray) sT rfl rfl (bM.b0) (ye ⟨rfl,bL.1.one,trivial⟩) yqc rfl ?_)
 intro Q eP
 refine st (aS (.bool ((zn d (zw d (g++[j])) (c.ctyp,c.cagg)).isSome)) (zd (za (za ?_))))
 obtain⟨bt,eQ,M,eR,bN⟩:=((bM.pt0 eP).mv7).lend
 have P:=RowE.rd eQ
 have hrd194s:_*96≤_:=P.small
 have eS:Sep bt Q ((RowE (α:=Ev) (shr bt Q) 41 ad X)::(Blk ag aG.toArray 47)::gT::(RowE (α:=Cel) own 99 D (stL d (c.ctyp,c.cagg) (zw d (g++[j]))))::gV::(DepO u j.deps)::(RowE (α:=Int) own 3 H j.deps)::(SetO s (1+m) (g++[j]))::gK::(RowE (α:=Cel) own 99 F (zQ d (c.ctyp,c.cagg) (zw d g)))::gS::gR::gO::Rs) Q:=(eR.mv10).rebase (i:=0) rfl M
 obtain⟨G196,eT,B,eU,bO⟩:=eS.lend
 have cQ:=RowE.rdB eT B
 have hrd203s:_*96≤_:=cQ.small
 obtain⟨aN,eV,C,eW,bP⟩:=(eU.mv4).lend
 have bQ:=DepO.rd eV
 have hsm212:j.deps.length*8≤140737488355328:=bQ.small
 refine WD4 ((fun TT aV=>WF [fun vals wq=>Sep aN Q (aV::TT) wq,fun vals wq=>(vals 11=(.bool (decide (((g++[j]).getD (((((g++[j]).length:Nat):Int)-1).toNat) default)=j)):Value))∧Sep aN Q (aV::TT) wq]) (gT::(RowE (α:=Cel) own 99 D (stL d (c.ctyp,c.cagg) (zw d (g++[j]))))::gV::(RowE (α:=Int) own 3 H j.deps)::(SetO s (1+m) (g++[j]))::gK::(RowE (α:=Cel) own 99 F (zQ d (c.ctyp,c.cagg) (zw d g)))::gS::gR::gO::Rs) (Blk ag aG.toArray 47)) (AF [Vl 0 (E),Vl 1 (Iw ((g++[j]).length)),Vl 2 (.bool false),Vl 3 (.bool false),Vl 4 (E),Vl 5 (E),Vl 6 (Iw ((g++[j]).length)),Vl 7 (Iv ((((g++[j]).length:Nat):Int)-1)),Vl 8 (Ix (sb E) (so E+(((((g++[j]).length:Nat):Int)-1).toNat)*10)),Vl 9 (.agg (((g++[j]).getD (((((g++[j]).length:Nat):Int)-1).toNat) default).cells (zI Q (sb E) (so E+(((((g++[j]).length:Nat):Int)-1).toNat)*10+3))).toArray),Vl 10 (.agg (j.cells u).toArray),fun _=>True,Vl 12 (.bool false),Vl 13 (.bool false),Vl 14 (.bool false),Vl 15 (Ix aa 10),Vl 16 (.bool false),Vl 17 (.bool false),Vl 18 (.bool false),Vl 19 (.bool ((zn d (zw d (g++[j])) (c.ctyp,c.cagg)).isSome)),Vl 20 (.bool false),Vl 21 (.bool false),Vl 22 (.bool false),Vl 23 (Ix ag 0),Vl 24 (Iv ((xy d (c.ctyp,c.cagg) (zw d (g++[j]))).ver)),Vl 25 (Ix R 0),Vl 26 (Iv ((yT d (c.ctyp,c.cagg) (zw d g)).ver)),Vl 27 (Iv (((yT d (c.ctyp,c.cagg) (zw d g)).ver)+1)),Vl 28 (.bool false),Vl 29 (.bool false),Vl 30 (.bool false),Vl 31 (Ix O 0),Vl 32 (Ix O 0),Vl 33 (Iv (j.origin)),Vl 34 (Iw p),Vl 35 (.bool false),Vl 36 (.bool false),Vl 37 (.bool false),Vl 38 (Ix O 2),Vl 39 (Iv (j.lam)),Vl 40 (Iv start),Vl 41 (.bool false),Vl 42 (.bool false)]) [[],[0],[0,1],[0,1,2],(rg 4),(rg 4),[0,1,2,3,5],[0,1,2,3,5,6],(rg 8),(rg 9),(rg 4),(rg 11),(rg 12),(rg 13),(rg 14),(rg 15),(rg 16),(rg 17),(rg 18),(rg 19),(rg 20),(rg 21),(rg 22),(rg 23),(rg 24),(rg 23),[0,1,2,3,4,5,6,7,8,9,10,11,12,13,14,15,16,17,18,19,20,21,22,25],[0,1,2,3,4,5,6,7,8,9,10,11,12,13,14,15,16,17,18,19,20,21,22,25,26],(rg 28),(rg 29),(rg 30),(rg 31),(rg 32),(rg 33),(rg 31),(rg 35),(rg 36),(rg 37),(rg 38),(rg 39),(rg 38),(rg 41),(rg 42)] [11] [(0,0),(0,0),(0,0),(0,0),(0,0),(0,0),(0,0),(0,0),(0,0),(0,0),(0,0),(0,0),(1,1),(1,1),(1,1),(1,1),(1,1),(1,1),(1,1),(1,1),(1,1),(1,1),(1,1),(1,1),(1,1),(1,1),(1,1),(1,1),(1,1),(1,1),(1,1),(1,1),(1,1),(1,1),(1,1),(1,1),(1,1),(1,1),(1,1),(1,1),(1,1),(1,1),(1,1)] eW ⟨fun _ _ _ _ _ _ _=>obl rfl (mV E dR),ob1 0 fun _ _ _ eX=>obl rfl (zR (n:=(g++[j]).length) tT (eX 0 dc) (RdS.base (RdS.base P B) C).sl dR),?_,fun _ _ _ _ _ _ eY=>obl rfl (zV (v:=.bool false) (eY 2 dc) dR),?_,?_,?_,?_,?_,?_,?_,?_,?_,fun _ _ _ _ _ _ bR=>obl rfl (zU (v:=.bool false) (bR 3 dc) (bR 12 dc) dR),fun _ _ _ _ _ _ eZ=>obl rfl (zV (v:=.bool false) (eZ 13 dc) dR),?_,?_,fun _ _ _ _ _ _ bS=>obl rfl (zU (v:=.bool false) (bS 14 dc) (bS 16 dc) dR),fun _ _ _ _ _ _ fa=>obl rfl (zV (v:=.bool false) (fa 17 dc) dR),?_,?_,fun _ _ _ _ _ _ bT=>obl rfl (zU (v:=.bool false) (bT 18 dc) (bT 20 dc) dR),fun _ _ _ _ _ _ fb=>obl rfl (zV (v:=.bool false) (fb 21 dc) dR),?_,?_,?_,?_,?_,?_,fun _ _ _ _ _ _ bU=>obl rfl (zU (v:=.bool false) (bU 22 dc) (bU 28 dc) dR),fun _ _ _ _ _ _ fc=>obl rfl (zV (v:=.bool false) (fc 29 dc) dR),?_,?_,?_,?_,?_,fun _ _ _ _ _ _ bV=>obl rfl (zU (v:=.bool false) (bV 30 dc) (bV 35 dc) dR),fun _ _ _ _ _ _ fd=>obl rfl (zV (v:=.bool false) (fd 36 dc) dR),?_,?_,?_,?_,fun _ _ _ _ _ _ bW=>obl rfl (zU (v:=.bool false) (bW 37 dc) (bW 41 dc) dR),trivial⟩ ?_
 refine ob1 0 fun _ _ _ fe=>(obl rfl ?_)
 have ff:(decide ((((g++[j]).length:Nat):Int)=0))=false:=(decide_eq_false om)
 exact yc (k:=.i64) (a:=(((g++[j]).length:Nat):Int)) (b:=0) (fe 1 dc) rfl (fun N S _=>⟨rfl,S.trans (congrArg Value.bool ff)⟩)
 refine fun _ _ _ _ _ _ fg=>(zX rfl rfl (fg 3 dc) (fun _=>?_) yqd)
 exact mV E dR
 refine fun _ _ _ _ _ _ fh=>(zX rfl rfl (fh 3 dc) (fun _=>?_) yqd)
 exact mV E dR
 refine ob1 0 fun _ _ _ bX=>(zX rfl rfl (bX 3 dc) (fun _=>?_) yqd)
 exact zR (n:=(g++[j]).length) tT (bX 5 dc) (RdS.base (RdS.base P B) C).sl dR
 refine ob1 0 fun _ _ _ bY=>(zX rfl rfl (bY 3 dc) (fun _=>?_) yqd)
 have fi:InR ((((g++[j]).length:Nat):Int)-1):=by omega
 exact YH (r:=(((g++[j]).length:Nat):Int)-1) (k:=.i64) (a:=(((g++[j]).length:Nat):Int)) (b:=1) (bY 6 dc) rfl (zM fi) dR
 refine ob1 0 fun _ _ _ aO=>(zX rfl rfl (aO 3 dc) (fun _=>?_) yqd)
 have hi652:((((g++[j]).length:Nat):Int)-1).toNat<(g++[j]).length:=bo
 exact zA (k:=10) (i:=(((g++[j]).length:Nat):Int)-1) tT lT (aO 4 dc) (RdS.base (RdS.base P B) C).sl (aO 7 dc) ⟨by omega,by omega⟩ dR
 refine ob1 0 fun _ _ (fj:Sep _ _ _ _) bZ=>(zX rfl rfl (bZ 3 dc) (fun _=>?_) yqd)
 have ca:((((g++[j]).length:Nat):Int)-1).toNat<(g++[j]).length:=bo
 obtain⟨cR,bu,hoke662⟩:=(RdS.base (RdS.base P B) C).evD ca
 have hsm664:(((g++[j]).getD (((((g++[j]).length:Nat):Int)-1).toNat) default).deps).length*8≤140737488355328:=bu.small
 have cS:=fj.cells cR ((RdS.base (RdS.base P B) C).foot (ne_of_lt ca))
 exact zf (k:=10) mT lT rfl (bZ 8 dc) cS dR
 refine ob1 0 fun _ _ (fk:Sep _ _ _ _) fl=>(zX rfl rfl (fl 3 dc) (fun _=>?_) yqd)
 exact zf (k:=10) mT lT rfl rfl (CellsAt.all (fk.b8)) dR
 refine ob1 0 fun vals _ (cb:Sep _ _ _ _) aP=>(zX rfl rfl (aP 3 dc) (fun _=>?_) yqd)
 have cc:((((g++[j]).length:Nat):Int)-1).toNat<(g++[j]).length:=bo
 obtain⟨cT,ap,cm⟩:=(RdS.base (RdS.base P B) C).evD cc
 have hsm320:(((g++[j]).getD (((((g++[j]).length:Nat):Int)-1).toNat) default).deps).length*8≤140737488355328:=ap.small
 have hcw321:=cb.cells cT ((RdS.base (RdS.base P B) C).foot (ne_of_lt cc))
 refine(zG (f:=17) (vals:=[.agg (((g++[j]).getD (((((g++[j]).length:Nat):Int)-1).toNat) default).cells (zI Q (sb E) (so E+(((((g++[j]).length:Nat):Int)-1).toNat)*10+3))).toArray,.agg (j.cells u).toArray]) (cap:=[]) rfl (yK ⟨(aP 9 dc),(aP 10 dc),trivial⟩) rR (ZG (a:=((g++[j]).getD (((((g++[j]).length:Nat):Int)-1).toNat) default)) (b:=j) ap cm bQ ao cb) ?_)
 rintro _ w322 ⟨rfl,fm⟩
 exact fun N S cU=>⟨(zv S fm),trivial⟩
 refine ob1 1 fun _ _ fn fo=>?_
 obtain⟨I,hS680⟩:=fn
 refine zX rfl rfl (fo 3 dc) (fun _=>?_) yqd
 have fp:(!(decide (((g++[j]).getD (((((g++[j]).length:Nat):Int)-1).toNat) default)=j)))=false:=(by simp)
 exact yF (a:=decide (((g++[j]).getD (((((g++[j]).length:Nat):Int)-1).toNat) default)=j)) I (fun N S _=>⟨rfl,S.trans (congrArg Value.bool fp)⟩)
 refine fun _ _ _ _ _ _ fq=>(zX rfl rfl (fq 14 dc) (fun _=>?_) yqd)
 exact zbE rfl dR
 refine ob1 1 fun _ _ fr cd=>?_
 obtain⟨I,fs⟩:=fr
 refine zX rfl rfl (cd 14 dc) (fun _=>?_) yqd
 have ft:((yE d (zw d g) j).void)=false:=hvz
 exact lD (.bool ((yE d (zw d g) j).void)) Tryz.isAgg4 (cd 15 dc) (zb (fs.b3) rfl) (fun N S _=>⟨rfl,S.trans (congrArg Value.bool ft)⟩)
 refine fun _ _ _ _ _ _ fu=>(zX rfl rfl (fu 18 dc) (fun _=>?_) yqd)
 exact mV (.bool ((zn d (zw d (g++[j])) (c.ctyp,c.cagg)).isSome)) dR
 refine fun _ _ _ _ _ _ ce=>(zX rfl rfl (ce 18 dc) (fun _=>?_) yqd)
 have fv:(!((zn d (zw d (g++[j])) (c.ctyp,c.cagg)).isSome))=false:=(by rw[cP];rfl)
 exact yF (a:=(zn d (zw d (g++[j])) (c.ctyp,c.cagg)).isSome) (ce 19 dc) (fun N S _=>⟨rfl,S.trans (congrArg Value.bool fv)⟩)
 refine fun _ _ _ _ _ _ fw=>(zX rfl rfl (fw 22 dc) (fun _=>?_) yqd)
 exact ZS rfl dR
 refine ob1 1 fun _ _ fx cf=>?_
 obtain⟨I,fy⟩:=fx
 refine zX rfl rfl (cf 22 dc) (fun _=>?_) yqd
 exact lD (Iv ((xy d (c.ctyp,c.cagg) (zw d (g++[j]))).ver)) kT (cf 23 dc) (zb (fy.b0) rfl) dR
 refine fun _ _ _ _ _ _ fz=>(zX rfl rfl (fz 22 dc) (fun _=>?_) yqd)
 exact ZS rfl dR
 refine ob1 1 fun _ _ fA cg=>?_
 obtain⟨I,fB⟩:=fA
 refine zX rfl rfl (cg 22 dc) (fun _=>?_) yqd
 exact lD (Iv ((yT d (c.ctyp,c.cagg) (zw d g)).ver)) kT (cg 25 dc) (zb (fB.b6) rfl) dR
 refine ob1 1 fun _ _ fC ch=>?_
 obtain⟨I,hS799⟩:=fC
 refine zX rfl rfl (ch 22 dc) (fun _=>?_) yqd
 have fE:InR (((yT d (c.ctyp,c.cagg) (zw d g)).ver)+1):=by omega
 exact yb (r:=((yT d (c.ctyp,c.cagg) (zw d g)).ver)+1) (k:=.i64) (a:=(yT d (c.ctyp,c.cagg) (zw d g)).ver) (b:=1) (ch 26 dc) rfl (zM fE) dR
 refine ob1 1 fun _ _ fF aQ=>?_
 obtain⟨I,hS809⟩:=fF
 refine zX rfl rfl (aQ 22 dc) (fun _=>?_) yqd
 have fG:(!decide (((xy d (c.ctyp,c.cagg) (zw d (g++[j]))).ver)=(((yT d (c.ctyp,c.cagg) (zw d g)).ver)+1)))=false:=(by rw[eC,gE,hrz];simp)
 exact yh (k:=.i64) (a:=(xy d (c.ctyp,c.cagg) (zw d (g++[j]))).ver) (b:=((yT d (c.ctyp,c.cagg) (zw d g)).ver)+1) (aQ 24 dc) (aQ 27 dc) (fun N S _=>⟨rfl,S.trans (congrArg Value.bool fG)⟩)
 refine fun _ _ _ _ _ _ fH=>(zX rfl rfl (fH 30 dc) (fun _=>?_) yqd)
 exact yD rfl dR
 refine fun _ _ _ _ _ _ ci=>(zX rfl rfl (ci 30 dc) (fun _=>?_) yqd)
 exact xD (ci 31 dc) dR
 refine ob1 1 fun _ _ fI cj=>?_
 obtain⟨I,fJ⟩:=fI
 refine zX rfl rfl (cj 30 dc) (fun _=>?_) yqd
 exact lD (Iv (j.origin)) kT (cj 32 dc) (zb (fJ.b8) rfl) dR
 refine fun _ _ _ _ _ _ fK=>(zX rfl rfl (fK 30 dc) (fun _=>?_) yqd)
 exact mV (Iw p) dR
 refine ob1 1 fun _ _ fL aR=>?_
 obtain⟨I,hS866⟩:=fL
 refine zX rfl rfl (aR 30 dc) (fun _=>?_) yqd
 have fM:(!decide (j.origin=((p:Nat):Int)))=false:=(by rw[hoz];simp)
 exact yh (k:=.i64) (a:=j.origin) (b:=((p:Nat):Int)) (aR 33 dc) (aR 34 dc) (fun N S _=>⟨rfl,S.trans (congrArg Value.bool fM)⟩)
 refine fun _ _ _ _ _ _ fN=>(zX rfl rfl (fN 37 dc) (fun _=>?_) yqd)
 exact Zi rfl dR
 refine ob1 1 fun _ _ fO ck=>?_
 obtain⟨I,fP⟩:=fO
 refine zX rfl rfl (ck 37 dc) (fun _=>?_) yqd
 exact lD (Iv (j.lam)) kT (ck 38 dc) (zb (fP.b8) rfl) dR
 refine fun _ _ _ _ _ _ fQ=>(zX rfl rfl (fQ 37 dc) (fun _=>?_) yqd)
 exact mV (Iv start) dR
 refine ob1 1 fun _ _ fR aT=>?_
 obtain⟨I,hS915⟩:=fR
 refine zX rfl rfl (aT 37 dc) (fun _=>?_) yqd
 have fS:(decide (j.lam≤start))=false:=decide_eq_false om
 exact Ju (k:=.i64) (a:=j.lam) (b:=start) (aT 39 dc) (aT 40 dc) (fun N S _=>⟨rfl,S.trans (congrArg Value.bool fS)⟩)
 intro vals w928 fT fU
 obtain⟨I,fV⟩:=fT
 have gG:=fU 42 dc
 refine zZ (kv:=[(3,Iw p),(4,Iv start),(6,Ix b2 0),(11,Ix K 0),(12,.bool false),(13,Ix s 0),(14,Ix q 0),(15,Ix O 0),(18,Ix R 0),(19,.bool ((zn d (zw d g) (c.ctyp,c.cagg)).isSome)),(107,Ix K 5),(108,Iv (c.expect)),(109,.bool (!decide (c.expect=(-1)))),(110,.bool (!decide (c.expect=(-1)))),(116,.bool false),(117,.bool false),(118,Ix s 0),(119,.agg (j.cells u).toArray),(120,Iv ((xT (1+m) g j))),(121,.bool false),(122,.bool false),(123,Ix s 0),(124,E),(20,E),(125,Ix q 0),(126,.agg (j.cells u).toArray),(127,.agg gP.toArray),(21,Ix aa 0),(129,Ix q 0),(130,Ix K 0),(131,Iv (c.ctyp)),(132,Ix K 1),(133,Iv (c.cagg)),(134,.tuple #[.agg aG.toArray,.bool ((zn d (zw d (g++[j])) (c.ctyp,c.cagg)).isSome)]),(128,.tuple #[.agg aG.toArray,.bool ((zn d (zw d (g++[j])) (c.ctyp,c.cagg)).isSome)]),(135,.agg aG.toArray),(136,.bool ((zn d (zw d (g++[j])) (c.ctyp,c.cagg)).isSome)),(22,Ix ag 0),(23,.bool ((zn d (zw d (g++[j])) (c.ctyp,c.cagg)).isSome)),(179,.bool false)]) ⟨rfl,rfl,rfl,rfl,rfl,rfl,rfl,rfl,rfl,rfl,rfl,rfl,rfl,rfl,rfl,rfl,rfl,rfl,rfl,rfl,rfl,rfl,rfl,rfl,rfl,rfl,rfl,rfl,rfl,rfl,rfl,rfl,rfl,rfl,rfl,rfl,rfl,rfl,rfl,(by exact gG),trivial⟩ (fun ρw928=>?_)
 refine zd (zg rfl (zl (za ?_)))
 refine WD4 ((fun TT aV ge gf gg gh gi gj gk=>WF [fun vals wq=>Sep aN Q (aV::ge::gf::gg::gh::gi::gj::gk::TT) wq,fun vals wq=> ∃(A:Value),(vals 14=(A:Value))∧Sep aN Q (gk::(RowE (α:=Cel) own 99 A (doL (d.types.getD c.ctyp.toNat default) (zQ d (c.ctyp,c.cagg) (zw d g)) c.cfield c.cop c.carg))::aV::ge::gf::gg::gh::gi::gj::TT) wq]) (gS::gR::gO::Rs) (Blk ag aG.toArray 47) gT (RowE (α:=Cel) own 99 D (stL d (c.ctyp,c.cagg) (zw d (g++[j])))) gV (RowE (α:=Int) own 3 H j.deps) (SetO s (1+m) (g++[j])) gK (RowE (α:=Cel) own 99 F (zQ d (c.ctyp,c.cagg) (zw d g)))) (AF [Vl 0 (Ix b2 0),Vl 1 (dd0),Vl 2 (Ix K 0),Vl 3 (Iv (c.ctyp)),Vl 4 (Ix (sb dd0) (so dd0+c.ctyp.toNat*1)),Vl 5 (.agg ((d.types.getD c.ctyp.toNat default).cells (zI Q (sb dd0) (so dd0+c.ctyp.toNat*1+0))).toArray),Vl 6 (Ix R 1),Vl 7 (F),Vl 8 (Ix K 2),Vl 9 (Iv (c.cfield)),Vl 10 (Ix K 3),Vl 11 (Iv (c.cop)),Vl 12 (Ix K 4),Vl 13 (Iv (c.carg)),fun _=>True,fun vals=> ∀(A:Value),vals 14=(A:Value)→vals 15=(A:Value)]) [[],[0],[],[2],(rg 4),(rg 5),[],[6],[],[8],[],[10],[],[12],(rg 14),(rg 15)] [14] [(0,0),(0,0),(0,0),(0,0),(0,0),(0,0),(0,0),(0,0),(0,0),(0,0),(0,0),(0,0),(0,0),(0,0),(0,0),(1,1)] fV ⟨fun _ _ _ _ _ _ _=>obl rfl (yG rfl dR),ob1 0 fun _ _ (cV:Sep _ _ _ _) cW=>obl rfl (lD dd0 oR (cW 0 dc) (zb (cV.b10) rfl) dR),fun _ _ _ _ _ _ _=>obl rfl (ZO rfl dR),ob1 0 fun _ _ (cX:Sep _ _ _ _) cY=>obl rfl (lD (Iv (c.ctyp)) kT (cY 2 dc) (zb (cX.b9) rfl) dR),?_,?_,fun _ _ _ _ _ _ _=>obl rfl (yY rfl dR),ob1 0 fun _ _ (cZ:Sep _ _ _ _) da=>obl rfl (lD F Tryz.isAgg45 (da 6 dc) (zb (cZ.b6) rfl) dR),fun _ _ _ _ _ _ _=>obl rfl (Vm rfl dR),ob1 0 fun _ _ (db:Sep _ _ _ _) dd=>obl rfl (lD (Iv (c.cfield)) kT (dd 8 dc) (zb (db.b9) rfl) dR),fun _ _ _ _ _ _ _=>obl rfl (WC rfl dR),ob1 0 fun _ _ (de:Sep _ _ _ _) df=>obl rfl (lD (Iv (c.cop)) kT (df 10 dc) (zb (de.b9) rfl) dR),fun _ _ _ _ _ _ _=>obl rfl (XA rfl dR),ob1 0 fun _ _ (dg:Sep _ _ _ _) dh=>obl rfl (lD (Iv (c.carg)) kT (dh 12 dc) (zb (dg.b9) rfl) dR),?_,?_,trivial⟩ ?_ (hlocA:=xb ⟨dA,dA,dA,dA,dA,dA,dA,dA,dA,dA,dA,dA,dA,dA,dT,fun vals N S h=>fun A cl=>(S 15 (.inl rfl)).trans (h A ((S 14 (.inr dc)).symm.trans cl)),trivial⟩)
 refine ob1 0 fun _ _ _ aW=>(obl rfl ?_)
 have hi1113:c.ctyp.toNat<d.types.length:=bo
 exact zA (k:=1) (i:=c.ctyp) pR pT (aW 1 dc) (RdS.base (RdS.base (RdS.base hdd0 M) B) C).sl (aW 3 dc) ⟨by omega,by omega⟩ dR
 refine ob1 0 fun _ _ (di:Sep _ _ _ _) dj=>(obl rfl ?_)
 have aX:c.ctyp.toNat<d.types.length:=bo
 obtain⟨cn,aY,hoke1122⟩:=(RdS.base (RdS.base (RdS.base hdd0 M) B) C).typD aX
 have hsm1124:((d.types.getD c.ctyp.toNat default).fields).length*48≤140737488355328:=aY.small
 have co:=di.cells cn ((RdS.base (RdS.base (RdS.base hdd0 M) B) C).foot (ne_of_lt aX))
 exact zf (k:=1) qR pT rfl (dj 4 dc) co dR
 refine ob1 0 fun vals _ (aZ:Sep _ _ _ _) ab=>(obl rfl ?_)
 have ba:c.ctyp.toNat<d.types.length:=bo
 obtain⟨cp,an,bv⟩:=(RdS.base (RdS.base (RdS.base hdd0 M) B) C).typD ba
 have hsm1053:((d.types.getD c.ctyp.toNat default).fields).length*48≤140737488355328:=an.small
 have hcw1054:=aZ.cells cp ((RdS.base (RdS.base (RdS.base hdd0 M) B) C).foot (ne_of_lt ba))
 obtain⟨G1056,dk,dl,dm,dp⟩:=(aZ.mv7).lend
 have ay:=RowE.rd dk
 have hrd1062s:_*32≤_:=ay.small
 refine(zG (f:=18) (vals:=[.agg ((d.types.getD c.ctyp.toNat default).cells (zI Q (sb dd0) (so dd0+c.ctyp.toNat*1+0))).toArray,F,Iv (c.cfield),Iv (c.cop),Iv (c.carg)]) (cap:=[]) rfl (yK ⟨(ab 5 dc),(ab 7 dc),(ab 9 dc),(ab 11 dc),(ab 13 dc),trivial⟩) Tryz.call18 (D_Do (t:=(d.types.getD c.ctyp.toNat default)) (c:=(zQ d (c.ctyp,c.cagg) (zw d g))) (vc:=F) (f:=c.cfield) (op:=c.cop) (arg:=c.carg) (RdS.base an dl) bv ay oc.cfield oc.cop oc.carg dm ((hfz.2.2.ask (Y.1.typ _ om) ((Inv.run Y.1 _) c.ctyp c.cagg hfz.1 hfz.2.1))) ((fun _=>Kk ((Inv.run Y.1 _) c.ctyp c.cagg hfz.1 hfz.2.1) hfz.2.2.lo hfz.2.2.hi))) ?_)
 rintro A w1064 ⟨_,rfl,bb⟩
 have dq:=bb.r0
 have hr1066s:_*32≤_:=dq.2
 have dr:=dp _ _ bb
 exact fun N S cU=>⟨(exiA A (zv S dr)),trivial⟩
 refine ob1 1 fun _ _ ds _=>?_
 obtain⟨A,ai,hS1188⟩:=ds
 refine obl rfl (ya (v:=A) ai (fun N S cU=>⟨rfl,?_⟩))
 intro v1063q cl
 rw[cU 14 (by decide)]at cl;cases ai.symm.trans cl
 exact S
 intro vals w1189 dt du
 obtain⟨A,ai,aj⟩:=dt
 have fW:vals 15=(A:Value):=du 15 dc A ai
 refine zZ (kv:=[(3,Iw p),(4,Iv start),(6,Ix b2 0),(11,Ix K 0),(12,.bool false),(13,Ix s 0),(14,Ix q 0),(15,Ix O 0),(18,Ix R 0),(19,.bool ((zn d (zw d g) (c.ctyp,c.cagg)).isSome)),(107,Ix K 5),(108,Iv (c.expect)),(109,.bool (!decide (c.expect=(-1)))),(110,.bool (!decide (c.expect=(-1)))),(116,.bool false),(117,.bool false),(118,Ix s 0),(119,.agg (j.cells u).toArray),(120,Iv ((xT (1+m) g j))),(121,.bool false),(122,.bool false),(123,Ix s 0),(124,E),(20,E),(125,Ix q 0),(126,.agg (j.cells u).toArray),(127,.agg gP.toArray),(21,Ix aa 0),(129,Ix q 0),(130,Ix K 0),(131,Iv (c.ctyp)),(132,Ix K 1),(133,Iv (c.cagg)),(134,.tuple #[.agg aG.toArray,.bool ((zn d (zw d (g++[j])) (c.ctyp,c.cagg)).isSome)]),(128,.tuple #[.agg aG.toArray,.bool ((zn d (zw d (g++[j])) (c.ctyp,c.cagg)).isSome)]),(135,.agg aG.toArray),(136,.bool ((zn d (zw d (g++[j])) (c.ctyp,c.cagg)).isSome)),(22,Ix ag 0),(23,.bool ((zn d (zw d (g++[j])) (c.ctyp,c.cagg)).isSome)),(179,.bool false),(24,A)]) ⟨rfl,rfl,rfl,rfl,rfl,rfl,rfl,rfl,rfl,rfl,rfl,rfl,rfl,rfl,rfl,rfl,rfl,rfl,rfl,rfl,rfl,rfl,rfl,rfl,rfl,rfl,rfl,rfl,rfl,rfl,rfl,rfl,rfl,rfl,rfl,rfl,rfl,rfl,rfl,rfl,(by exact fW),trivial⟩ (fun ρw1189=>?_)
 refine zd (za (za (R0 fun _=>st (zf (k:=2) Tryz.isAgg47 sT rfl rfl (CellsAt.all (aj.b2)) (st (ZS rfl (st (lD (Iv ((xy d (c.ctyp,c.cagg) (zw d (g++[j]))).ver)) kT rfl (zb (aj.b2) rfl) (st (mV A ?_))))))))))
 have dv:Sta.Ok (⟨(xy d (c.ctyp,c.cagg) (zw d (g++[j]))).ver,doL (d.types.getD c.ctyp.toNat default) (zQ d (c.ctyp,c.cagg) (zw d g)) c.cfield c.cop c.carg⟩:Sta):=⟨(show InR ((xy d (c.ctyp,c.cagg) (zw d (g++[j]))).ver)from(⟨(show InR (xy d (c.ctyp,c.cagg) (zw d (g++[j]))).ver from by omega)⟩:Sta.Ok (xy d (c.ctyp,c.cagg) (zw d (g++[j])))).ver)⟩
 have bc:=aj.r1
 have hr1196s:_*32≤_:=bc.2
 refine st (zP (parts':=[(0,Iv ((xy d (c.ctyp,c.cagg) (zw d (g++[j]))).ver)),(1,A)]) (v:=.agg ((⟨(xy d (c.ctyp,c.cagg) (zw d (g++[j]))).ver,doL (d.types.getD c.ctyp.toNat default) (zQ d (c.ctyp,c.cagg) (zw d g)) c.cfield c.cop c.carg⟩:Sta).cells A).toArray) rfl (by obtain⟨_,_,dw,_⟩:=bc.1;rw[show A=Value.slice _ _ _ from dw];simp[Instr.build,Instr.fill,go_sem,Ev.cells,Sta.cells,ev0]) ?_)
 obtain⟨G1198,dx,hB1201,dy,dz⟩:=(aj.mv4).lend
 have az:=RowE.rd dx
 have hrd1204s:_*32≤_:=az.small
 obtain⟨G1206,dB,dC,dD,dE⟩:=(dy.mv1).lend
 have aA:=RowE.rd dB
 have hrd1212s:_*32≤_:=aA.small
 refine st (cL Tryz.call19 (VE (x:=(xy d (c.ctyp,c.cagg) (zw d (g++[j])))) (y:=(⟨(xy d (c.ctyp,c.cagg) (zw d (g++[j]))).ver,doL (d.types.getD c.ctyp.toNat default) (zQ d (c.ctyp,c.cagg) (zw d g)) c.cfield c.cop c.carg⟩:Sta)) (RdS.base az dC) (⟨(show InR (xy d (c.ctyp,c.cagg) (zw d (g++[j]))).ver from by omega)⟩:Sta.Ok (xy d (c.ctyp,c.cagg) (zw d (g++[j])))) aA dv dD) ?_)
 rintro _ w1213 ⟨rfl,dG⟩
 have dH:=dE _ _ dG
 have ac:=dz _ _ dH
 have cq:(decide ((xy d (c.ctyp,c.cagg) (zw d (g++[j])))=(⟨(xy d (c.ctyp,c.cagg) (zw d (g++[j]))).ver,doL (d.types.getD c.ctyp.toNat default) (zQ d (c.ctyp,c.cagg) (zw d g)) c.cfield c.cop c.carg⟩:Sta)))=true:=(decide_eq_true (by show(⟨_,stL d _ _⟩:Sta)=_;rw[Vb cP,hcz];rfl))
 rw[cq]
 refine st (yF (a:=true) rfl (zd (zg rfl (zl (za (za (R0 fun _=>st (YK rfl (st (lD (Iv (c.ckey)) kT rfl (zb (ac.b10) rfl) (st (yh (k:=.i64) (a:=c.ckey) (b:=0) rfl rfl (zd ?_)))))))))))))
 cases T: !decide (c.ckey=0)
 have hc1218r:=T
 have T:=zu T
 refine zg rfl (zl (za (R0 fun _=>st (cL qT (Ya (RdS.base (RdS.base (RdS.base hKN M) B) C) ac) ?_))))
 rintro _ fX ⟨rfl,dI⟩
 refine st (aS (.bool true) (zd (zj (zK rT (show _=(.bool true:Value)from rfl) ?_))))
 have dJ:=bP _ _ dI
 have dK:=bO _ _ dJ
 have dL:=bN _ _ dK
 have dM:Sep G W Rs fX:=dL.sel 15 [] (Nat.le_add_left _ _) rfl rfl
 refine⟨rfl,dM⟩
 have T:=zy T
 have bw:=hkz T
 refine zh rfl (za (R0 fun _=>st (zf (k:=2) nT oT rfl rfl (CellsAt.all (ac.b11)) (st (mV (Ix s 0) (st (mV (Ix q 0) (st (mV (Iw p) (st (mV (Iv start) (st (zf (k:=7) vT wT rfl rfl (CellsAt.all (ac.b10)) ?_)))))))))))))
 obtain⟨G1226,bd,aq,dN,dO⟩:=(ac.mv7).lend
 obtain⟨vv1232,m1233,R1234,hb1235,dP,hr1237⟩:=SetO.sh bd
 have hsm1238:(zr (1+m) (g++[j])).length*8≤140737488355328:=dP.small
 refine st (cL kR (ZN (d:=d) (o:=((p:Nat):Int)) (start:=start) (c:=c) (RdS.base (RdS.base (RdS.base (RdS.base hdd0 M) B) C) aq) (RdS.base (RdS.base (RdS.base (RdS.base hdd1 M) B) C) aq) od bd om om oc (RdS.base (RdS.base (RdS.base (RdS.base hKN M) B) C) aq) (dN.mv4) (Y.1) ((Inv.run Y.1 _)) (om) (bz.ids) (bz.srt) (om) (om)) ?_)
 rintro _ w1241 ⟨J,rfl,dQ⟩
 let fD:=((exR d (1+m) (g++[j]) (zw d (g++[j])) ((p:Nat):Int) start c).1.cells J)
 have dS:=dO _ _ dQ
 refine st (mV (.tuple #[.agg fD.toArray,.bool ((exR d (1+m) (g++[j]) (zw d (g++[j])) ((p:Nat):Int) start c).2.1),Iv ((exR d (1+m) (g++[j]) (zw d (g++[j])) ((p:Nat):Int) start c).2.2)]) (st (zk (vs:=[.agg fD.toArray,.bool ((exR d (1+m) (g++[j]) (zw d (g++[j])) ((p:Nat):Int) start c).2.1),Iv ((exR d (1+m) (g++[j]) (zw d (g++[j])) ((p:Nat):Int) start c).2.2)]) (i:=0) (v:=.agg fD.toArray) rfl rfl ?_)))
 refine st (zk (vs:=[.agg fD.toArray,.bool ((exR d (1+m) (g++[j]) (zw d (g++[j])) ((p:Nat):Int) start c).2.1),Iv ((exR d (1+m) (g++[j]) (zw d (g++[j])) ((p:Nat):Int) start c).2.2)]) (i:=1) (v:=.bool ((exR d (1+m) (g++[j]) (zw d (g++[j])) ((p:Nat):Int) start c).2.1)) rfl rfl (st (zk (vs:=[.agg fD.toArray,.bool ((exR d (1+m) (g++[j]) (zw d (g++[j])) ((p:Nat):Int) start c).2.1),Iv ((exR d (1+m) (g++[j]) (zw d (g++[j])) ((p:Nat):Int) start c).2.2)]) (i:=2) (v:=Iv ((exR d (1+m) (g++[j]) (zw d (g++[j])) ((p:Nat):Int) start c).2.2)) rfl rfl (st (zt lR ?_)))))
 intro w1246 fY dU
 have ar:=dS.new dU
 refine stn (zq (v:=.agg fD.toArray) (c':=fD.toArray) lT rfl rfl (ar.b0) (ye ⟨rfl,rfl,rfl,(ar.depSl (i:=3) rfl).one,rfl,rfl,rfl,rfl,rfl,rfl,trivial⟩) yqc rfl ?_)
 intro fZ dV
 refine st (aS (.bool ((exR d (1+m) (g++[j]) (zw d (g++[j])) ((p:Nat):Int) start c).2.1)) (st (aS (Iv ((exR d (1+m) (g++[j]) (zw d (g++[j])) ((p:Nat):Int) start c).2.2)) (zd (za ?_)))))
 have dW:=bP _ _ (ar.pt0 dV)
 have dX:=bO _ _ dW
 have au:=bN _ _ dX
 have gN:(exR d (1+m) (g++[j]) (zw d (g++[j])) ((p:Nat):Int) start c).1=j:=by rw[bw]
 try simp+zetaDelta only at au
 rw[gN]at au
 have av:Sep G W ((RowE (α:=Ev) own 41 E (g++[j]))::(RowE (α:=Ev) (shr bt Q) 41 ad X)::(DepO u j.deps)::(Blk fY (j.cells J).toArray 41)::(SetO s (1+m) (g++[j]))::gT::(DepO J j.deps)::(RowE (α:=Cel) own 99 D (stL d (c.ctyp,c.cagg) (zw d (g++[j]))))::(RowE (α:=Cel) own 99 A (doL (d.types.getD c.ctyp.toNat default) (zQ d (c.ctyp,c.cagg) (zw d g)) c.cfield c.cop c.carg))::(RowE (α:=Cel) own 99 F (zQ d (c.ctyp,c.cagg) (zw d g)))::(Blk ag aG.toArray 47)::gV::(RowE (α:=Int) own 3 H j.deps)::gK::gS::gR::gO::Rs) fZ:=au
 refine zz (by kernel_rfl) (st (zV (v:=.bool false) (show _=(.bool false:Value)from((show _=(.bool ((exR d (1+m) (g++[j]) (zw d (g++[j])) ((p:Nat):Int) start c).2.1):Value)from rfl).trans (by rw[bw]))) (st (mV (.bool false) (sty rfl rfl (zV (v:=Iv 0) (show _=(Iv 0:Value)from((show _=(Iv ((exR d (1+m) (g++[j]) (zw d (g++[j])) ((p:Nat):Int) start c).2.2):Value)from rfl).trans (by rw[bw]))) ?_))))))
 have cr:(!decide (0=0))=false:=by rfl
 refine sty rfl rfl (ov_as (congrArg Value.bool cr) (fun K9 Z=>yh (k:=.i64) (a:=0) (b:=0) rfl rfl Z) (st (zU (v:=.bool false) rfl rfl (st (mV (.bool false) (sty rfl rfl (zf (k:=10) mT lT rfl rfl (CellsAt.all (av.b3)) (sty rfl rfl (zf (k:=10) mT lT rfl rfl (CellsAt.all (av.b14)) ?_)))))))))
 obtain⟨G1257,dY,hB1260,dZ,ea⟩:=(av.mv6).lend
 have be:=DepO.rd dY
 have hsm1264:j.deps.length*8≤140737488355328:=be.small
 obtain⟨G1266,eb,ec,ed,ee⟩:=(dZ.mv2).lend
 have bf:=DepO.rd eb
 have hsm1273:j.deps.length*8≤140737488355328:=bf.small
 refine sty rfl rfl (cL rR (ZG (a:=j) (b:=j) (RdS.base be ec) ao bf ao ed) ?_)
 rintro _ w1274 ⟨rfl,ef⟩
 have eg:=ee _ _ ef
 have eh:=ea _ _ eg
 have cs:(decide (j=j))=true:=(decide_eq_true rfl)
 rw[cs]
 refine sty rfl rfl (yF (a:=true) rfl (st (zU (v:=.bool false) rfl rfl (zd (zg rfl (zl (za (R0 fun _=>st (cL qT (Ya hKN (eh.s17_abcefghijklmnopq)) ?_)))))))))
 rintro _ ga ⟨rfl,ei⟩
 refine st (aS (.bool true) (zd (zj (zK rT (show _=(.bool true:Value)from rfl) ?_))))
 have ej:Sep G W Rs ga:=ei.sel 16 [] (Nat.le_add_left _ _) rfl rfl
 refine⟨rfl,ej⟩
 have aF:=aE
 try simp only[ze]at aE
 have hnz:=Jr (d:=d) (n:=(1+m)) (L:=g) (V:=zw d g) (o:=((p:Nat):Int)) (start:=start) (c:=c) (by rintro⟨h8,Z⟩;have h7:=aF;rw[h8,Z]at h7;cases h7)
 rw[cC]at hnz
 refine zh rfl (za (zz kr (st (mV (Iv ((exR d (1+m) g (zw d g) ((p:Nat):Int) start c).2.2)) (st (yh (k:=.i64) (a:=(exR d (1+m) g (zw d g) ((p:Nat):Int) start c).2.2) (b:=0) rfl rfl (st (mV (.bool (!decide (((exR d (1+m) g (zw d g) ((p:Nat):Int) start c).2.2)=0))) (stc (V:=Ix K 6) rfl rfl (fun ek=>?_) ?_)))))))))
 have hl1284:=zu ek
 exact YK rfl ⟨rfl,rfl⟩
 refine stc (V:=Iv (c.ckey)) rfl rfl (fun bg=>?_) ?_
 have hl1286:=zu bg
 exact lD (Iv (c.ckey)) kT (if_pos bg) (zb (ae.b5) rfl) ⟨rfl,rfl⟩
 refine stc (V:=.bool (!decide (c.ckey=0))) rfl rfl (fun bh=>?_) ?_
 have hl1288:=zu bh
 exact yh (k:=.i64) (a:=c.ckey) (b:=0) (if_pos bh) rfl ⟨rfl,rfl⟩
 refine stc (V:=.bool (!decide (c.ckey=0))) rfl rfl (fun bi=>?_) ?_
 have hl1290:=zu bi
 exact zV (v:=.bool (!decide (c.ckey=0))) (if_pos bi) ⟨rfl,rfl⟩
 refine yN (V:=Ix O 9) rfl rfl (fun bj=>?_) ?_
 have hl1292:=zu bj.1
 have hl1293:=zy bj.2
 exact YF rfl ⟨rfl,rfl⟩
 refine yN (V:=Iv (j.key)) rfl rfl (fun ak=>?_) ?_
 have hl1295:=zu ak.1
 have hl1296:=zy ak.2
 exact lD (Iv (j.key)) kT (if_pos ⟨ak.1,ak.2⟩) (zb (ae.b0) rfl) ⟨rfl,rfl⟩
 refine yN (V:=Ix K 6) rfl rfl (fun bk=>?_) ?_
 have hl1298:=zu bk.1
 have hl1299:=zy bk.2
 exact YK rfl ⟨rfl,rfl⟩
 refine yN (V:=Iv (c.ckey)) rfl rfl (fun al=>?_) ?_
 have hl1301:=zu al.1
 have hl1302:=zy al.2
 exact lD (Iv (c.ckey)) kT (if_pos ⟨al.1,al.2⟩) (zb (ae.b5) rfl) ⟨rfl,rfl⟩
 refine yN (V:=.bool (decide (j.key=c.ckey))) rfl rfl (fun U=>?_) ?_
 have hl1304:=zu U.1
 have hl1305:=zy U.2
 exact yc (k:=.i64) (a:=j.key) (b:=c.ckey) (if_pos ⟨U.1,U.2⟩) (if_pos ⟨U.1,U.2⟩) ⟨rfl,rfl⟩
 refine stc (V:=.bool ((!decide (c.ckey=0))&&(decide (j.key=c.ckey)))) rfl rfl (fun aw=>?_) ?_
 have hl1307:=zu aw
 exact zC (b:= !decide (c.ckey=0)) (b':=decide (j.key=c.ckey)) (if_pos aw) (fun hbp=>(if_pos ⟨aw,hbp⟩)) ⟨rfl,rfl⟩
 refine st (zp (b:= !decide (((exR d (1+m) g (zw d g) ((p:Nat):Int) start c).2.2)=0)) (b':=(!decide (c.ckey=0))&&(decide (j.key=c.ckey))) rfl (fun hbp=>(if_pos hbp)) ?_)
 have ct:((!decide (((exR d (1+m) g (zw d g) ((p:Nat):Int) start c).2.2)=0))||((!decide (c.ckey=0))&&(decide (j.key=c.ckey))))=true:=(by rcases hnz with Z|⟨h8,Z⟩;rw[decide_eq_false Z];rfl;rw[decide_eq_false h8,decide_eq_true Z];simp)
 rw[ct]
 refine st (mV (.bool true) (sty rfl rfl (cL qT (Ya hKN ae) ?_)))
 rintro _ gc ⟨rfl,el⟩
 refine st (yj (v:=.bool true) rfl rfl (st (aS (.bool true) (zd (zj (zK rT (show _=(.bool true:Value)from rfl) ?_))))))
 have em:Sep G W Rs gc:=el.sel 7 [] (Nat.le_add_left _ _) rfl rfl
 refine⟨rfl,em⟩
 try simp only[ze]at aB
 refine zh rfl (za (R0 fun _=>st (cL qT (Ya hKN cu) ?_)))
 rintro _ w1312 ⟨rfl,en⟩
 refine st (aS (.bool true) (zd (zj (zK rT (show _=(.bool true:Value)from rfl) ?_))))
 refine⟨rfl,(en.s2_)⟩
theorem VD {w:World}{d:Dcl}{dd0 dd1:Value}(h0:RdS w (xn w) dd0 d.types)(h1:RdS w (xn w) dd1 d.projs)(od:d.Ok){n0:Int}(hn0:InR n0){vl:Value}{l:List Ev}(hl:RdS w (xn w) vl l){n1:Int}(hn1:InR n1){n2:Int}(hn2:InR n2){c:Cmd}(oc:c.Ok)(hK:RdS w (xn w) (.slice (some ⟨0,0,none⟩) 6 6) kindsL):Ret Tryz.prog 3 [.agg (d.cells dd0 dd1).toArray,.int .i64 n0,vl,.int .i64 n1,.int .i64 n2,.agg (c.cells).toArray] w (fun r w'=>r=.bool true∧Ext w w'):=
 Ret.mono (VC h0 h1 od hn0 hl hn1 hn2 oc hK (Sep.start w)) (fun r w' h=>⟨h.1,h.2.fin⟩)
end
end Go.Proofs.YtbbabhaalmkbkaaGreatDoor
