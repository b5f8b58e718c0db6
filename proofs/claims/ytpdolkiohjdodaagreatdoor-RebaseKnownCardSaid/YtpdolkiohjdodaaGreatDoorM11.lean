import Derived.Test.YtpdolkiohjdodaaGreatDoorM10
set_option maxRecDepth 8000
set_option maxHeartbeats 4000000
set_option linter.unusedSimpArgs false
set_option linter.unusedVariables false
set_option linter.unusedSectionVars false
set_option linter.deprecated false
open Go.Proofs.Tryz renaming isAgg3→kT,sizeOf87→lT,results100→mT,underlying53→nT,isAgg87→oT,sizeOf90→pT,isAgg81→qT,underlying85→rT,sizeOf3→sT,isAgg22→tT,underlying22→uT,sizeOf83→vT,underlying81→wT,results102→kR,zeroValue87→lR,isAgg85→mR,isAgg55→nR,sizeOf55→oR,isAgg23→pR,sizeOf25→qR,results120→rR,results101→sR,sizeOf105→tR,isAgg90→uR,zeroValue90→vR,underlying23→wR,isAgg25→kY,sizeOf73→lY,isAgg53→mY,results119→nY,underlying46→oY,sizeOf85→pY,zeroValue25→qY,zeroValue83→rY,results145→sY,call138→tY,results55→uY,results121→vY
namespace Go.Proofs.YtpdolkiohjdodaaGreatDoor
variable {G:Nat→Prop}{W w:World}{Rs:List HP}
section
open Go.Proofs Go.RowKit
theorem QA {f:Fld}{df0:Value}(hdf0:RdS W G df0 f.moves)(of:f.Ok)(hS0:Sep G W Rs w):Ret Tryz.prog 61 [.agg (f.cells df0).toArray] w (fun r w'=> ∃(v:Value),r=(.agg (f.cells v).toArray:Value)∧Sep G W ((RowE (α:=Mv) own 90 v f.moves)::Rs) w'):=by
 have hdf0s:_*32≤_:=hdf0.small
 refine zn Tryz.func61 rfl rfl ?_
 refine za (R0 fun _=>st (zX rfl ?_))
 intro w3 b2 H
 refine st (zG lR ?_)
 intro w7 x I
 refine zb (za (R0 fun _=>st (aS Iz (zb (za (za (R0 fun _=>st (aS (Iv 0) (zb (zt ?_))))))))))
 have J:Sep _ _ ((RowE (α:=Mv) own 90 Iz [])::_) _:=((hS0.new H).new I).rowNil own 90
 refine zZ (fun mq σ K=> ∃k vo ρ,mq=f.moves.length-k∧σ=yf ρ [(1,Ix b2 0),(2,Ix x 0),(4,Iw k),(3,vo)]∧(k≤f.moves.length)∧Sep G W ((RowE own 90 vo (f.moves.take k))::(Blk x #[Iv 0,Iv 0,.bool false,(Iz)] 87)::(Blk b2 (f.cells df0).toArray 87)::Rs) K) ⟨0,(Iz),_,rfl,sSf,zY _,J⟩ ?_
 rintro m11 σ12 w10 ⟨k,vo,ρl1,rfl,rfl,hkk,d⟩
 have y:=d.r0
 have hr14s:_*32≤_:=y.2
 refine za (za (R0 fun _=>st (mV (Iw k) (st (yT rfl (st (lD df0 mR rfl (zd (d.b2) rfl) (st (zC rT rfl hdf0.sl (st (zK rfl rfl (zb ?_))))))))))))
 cases e:decide (((k:Nat):Int)<((f.moves.length:Nat):Int))
 have e:=fD e
 have hkn:k=f.moves.length:=by omega
 rw[hkn,List.take_of_length_le (Nat.le_refl f.moves.length)]at d
 have g:=d.r0
 have hr16s:_*32≤_:=g.2
 refine ze rfl (ya (zR (za (R0 fun _=>st (mV vo (st (yT rfl (stn (ym (v:=vo) pY rfl rfl (d.b2) g.1.one rfl rfl ?_)))))))))
 intro w17 z
 have ok19:Fld.Ok f:=⟨(show InR (f.kind)from of.kind),(show InR (f.policy)from of.policy)⟩
 have h:=d.pt2 z
 refine zb (za (R0 fun _=>st (zh oT lT rfl rfl (zo (h.b2)) (stn (zy (v:=.agg (f.cells vo).toArray) lT rfl rfl (h.b1) (yo ⟨rfl,rfl,rfl,g.1.one,zl⟩) yqc rfl ?_)))))
 intro w21 A
 have l:=h.pt1 A
 refine zb (zq (Yd Tryz.results61 oT lT rfl rfl (zo (l.b1)) ?_))
 refine⟨vo,rfl,(l.s3_a)⟩
 have e:=tD e
 refine zg rfl (zp (za (zt (R0 fun _=>st (mV vo (st (yT rfl (st (lD df0 mR rfl (zd (d.b2) rfl) (st (mV (Iw k) ?_)))))))))))
 have B:k<f.moves.length:=bo
 refine st (zf (k:=4) rT pT rfl hdf0.sl rfl B ?_)
 have m:k<f.moves.length:=bo
 obtain⟨q,o⟩:=hdf0.mvD m
 have s:=d.cells q (hdf0.foot (ne_of_lt m))
 refine st (zh uR pT rfl rfl s (st (zH (c:=((f.moves.gd k).cells).toArray) rT pT vR dc rfl kr ?_)))
 intro w31 b30 C
 have p:=d.new C
 have t:=p.b0
 refine st (yq (src:=own) (bytes:=32) (x1:=(f.moves.gd k)) ((p.s4_bcd).emp1) zbK rfl rfl t (fun _ _ _=>(show _ from⟨rfl,o⟩)) yqb rfl ?_)
 intro u w33 j
 have D:=j.r0
 have hr39s:_*32≤_:=D.2
 refine st (aS u (zb (R0 fun _=>st (mV (Iw k) ?_))))
 have E:InR ((k+1:Nat):Int):=bo
 refine st (zO (r:=((k+1:Nat):Int)) rfl rfl (by rw[show(((k:Nat):Int)+1:Int)=((k+1:Nat):Int)from bo];exact zw E) (st (aS (Iw (k+1)) (zb ?_))))
 have F:(f.moves.take (k+1))=(f.moves.take k)++[(f.moves.gd k)]:=(List.take_getD om)
 rw[←F]at j
 exact⟨_,by omega,k+1,u,_,rfl,sSf,by omega,j⟩
theorem Wx {d:Dcl}{dd0:Value}(hdd0:RdS W G dd0 d.types){dd1:Value}(hdd1:RdS W G dd1 d.projs)(od:d.Ok)(hS0:Sep G W Rs w):Ret Tryz.prog 39 [.agg (d.cells dd0 dd1).toArray] w (fun r w'=> ∃(v1:Value) (v2:Value),r=(.agg (d.cells v1 v2).toArray:Value)∧Sep G W ((TypW v1 83 87 d.types)::(RowE (α:=Prj) own 73 v2 d.projs)::Rs) w'):=by
 have hdd0s:_*24≤_:=hdd0.small
 have hdd1s:_*40≤_:=hdd1.small
 refine zn (args:=[.agg (d.cells dd0 dd1).toArray]) Tryz.func39 rfl rfl ?_
 refine za (R0 fun _=>st (zX (v:=.agg (d.cells dd0 dd1).toArray) rfl ?_))
 intro w3 b2 cu
 refine st (zG qY ?_)
 intro w7 E cv
 refine zb (za (R0 fun _=>st (zG qY ?_)))
 intro w11 u cw
 refine zb (za (za (R0 fun _=>st (aS (Iv 0) (zb (zt ?_))))))
 have cg:Sep _ _ ((TypW Iz 83 87 [])::_) _:=TypW.nil (T:=83) (Ti:=87) (((hS0.new cu).new cv).new cw)
 refine zZ (fun mq σ s=> ∃(k:Nat) (vo:Value) (ρ:Env),mq=d.types.length-k∧σ=yf ρ [(1,Ix b2 0),(2,Ix E 0),(3,Ix u 0),(4,Iw k)]∧(k≤d.types.length)∧Sep G W ((TypW vo 83 87 (d.types.take k))::(Blk u #[vo,(Iz)] 25)::(Blk E #[(Iz),(Iz)] 25)::(Blk b2 (d.cells dd0 dd1).toArray 25)::Rs) s) ⟨0,(Iz),_,rfl,sSf,zY _,cg⟩ ?_
 rintro m15 σ16 w14 ⟨k,vo,ρl1,rfl,rfl,hkk,M⟩
 refine za (za (R0 fun _=>st (mV (Iw k) (st (yH rfl (st (lD dd0 tT rfl (zd (M.b3) rfl) (st (zC (n:=d.types.length) uT rfl hdd0.sl (st (zK (k:=.i64) (a:=((k:Nat):Int)) (b:=((d.types.length:Nat):Int)) rfl rfl (zb ?_))))))))))))
 cases N:decide (((k:Nat):Int)<((d.types.length:Nat):Int))
 have N:=fD N
 have hkn:k=d.types.length:=by omega
 rw[hkn,List.take_of_length_le (Nat.le_refl d.types.length)]at M
 refine ze rfl (ya (zR (za (za (R0 fun _=>st (aS (Iv 0) (zb (zt ?_))))))))
 have ch:Sep _ _ ((RowE (α:=Prj) own 73 Iz ([]:List Prj))::_) _:=M.rowNil own 73
 refine zZ (fun mq σ s=> ∃(k:Nat) (vp:Value) (ρ:Env),mq=d.projs.length-k∧σ=yf ρ [(1,Ix b2 0),(2,Ix E 0),(3,Ix u 0),(7,Iw k)]∧(k≤d.projs.length)∧Sep G W ((RowE (α:=Prj) own 73 vp (d.projs.take k))::(TypW vo 83 87 d.types)::(Blk u #[vo,vp] 25)::(Blk E #[(Iz),(Iz)] 25)::(Blk b2 (d.cells dd0 dd1).toArray 25)::Rs) s) ⟨0,(Iz),_,rfl,sSf,zY _,ch⟩ ?_
 rintro m21 σ22 w20 ⟨k,vp,ρl2,rfl,rfl,hkk,y⟩
 have ci:=y.r0
 have hr24s:_*40≤_:=ci.2
 refine za (za (R0 fun _=>st (mV (Iw k) (st (xJ rfl (st (lD dd1 pR rfl (zd (y.b4) rfl) (st (zC (n:=d.projs.length) wR rfl hdd1.sl (st (zK (k:=.i64) (a:=((k:Nat):Int)) (b:=((d.projs.length:Nat):Int)) rfl rfl (zb ?_))))))))))))
 cases O:decide (((k:Nat):Int)<((d.projs.length:Nat):Int))
 have O:=fD O
 have hkn:k=d.projs.length:=by omega
 rw[hkn,List.take_of_length_le (Nat.le_refl d.projs.length)]at y
 have aM:=y.r0
 have hr26s:_*40≤_:=aM.2
 refine ze rfl (ya (zR (za (R0 fun _=>st (zh (k:=2) kY qR rfl rfl (zo (y.b2)) (stn (zy (v:=.agg (d.cells vo vp).toArray) (c':=(d.cells vo vp).toArray) qR rfl rfl (y.b3) (yo ⟨(y.typSl (i:=1) rfl).one,aM.1.one,zl⟩) yqc rfl ?_)))))))
 intro cx cj
 have aN:=y.pt3 cj
 refine zb (zq (Yd (b:=E) Tryz.results39 kY qR rfl rfl (zo (aN.b3)) ?_))
 have ck:Sep G W ((TypW vo 83 87 d.types)::(RowE (α:=Prj) own 73 vp d.projs)::Rs) cx:=aN.sel 5 [1,0] (xq _ _) rfl rfl
 refine⟨vo,vp,rfl,ck⟩
 have O:=tD O
 refine zg rfl (zp (za (zt ?_)))
 refine WD4 ((fun TT L C aO=>WF [fun vals s=>Sep G W (L::C::aO::TT) s,fun vals s=> ∃(x:Nat),(vals 7=((Iy x 1 1):Value))∧Sep G W ((Blk x ((d.projs.gd k).cells).toArray 73)::L::C::aO::TT) s,fun vals s=> ∃(x:Nat) (h:Value),(vals 7=((Iy x 1 1):Value))∧(vals 8=(h:Value))∧Sep G W ((RowE (α:=Prj) own 73 h ((d.projs.take k)++[(d.projs.gd k)]))::C::aO::TT) s,fun vals s=> ∃(x:Nat) (h:Value),(vals 7=((Iy x 1 1):Value))∧(vals 8=(h:Value))∧Sep G W ((RowE (α:=Prj) own 73 h ((d.projs.take k)++[(d.projs.gd k)]))::C::(Blk u (d.cells vo h).toArray 25)::TT) s]) ((Blk E #[(Iz),(Iz)] 25)::(Blk b2 (d.cells dd0 dd1).toArray 25)::Rs) (RowE (α:=Prj) own 73 vp (d.projs.take k)) (TypW vo 83 87 d.types) (Blk u #[vo,vp] 25)) (AF [Vl 0 (Ix u 1),Vl 1 vp,Vl 2 (Ix b2 1),Vl 3 dd1,Vl 4 (Iw k),Vl 5 (Ix (sb dd1) (so dd1+k*5)),Vl 6 (.agg ((d.projs.gd k).cells).toArray),fun _=>True,fun _=>True,Vl 9 (Ix u 1),fun _=>True]) [[],[0],[],[2],[],[2,3,4],[2,3,4,5],[2,3,4,5,6],(rg 8),(rg 9),(rg 10)] [7,8,10] [(0,1),(0,1),(0,0),(0,0),(0,0),(0,0),(0,0),(0,0),(1,1),(2,2),(2,2)] y ⟨fun _ _ _ _ _ _ _=>obl rfl (xJ rfl dR),?_,fun _ _ _ _ _ _ _=>obl rfl (xJ rfl dR),ob1 0 fun _ _ (bc:Sep _ _ _ _) bd=>obl rfl (lD dd1 pR (bd 2 dc) (zd (bc.b4) rfl) dR),fun _ _ _ _ _ _ _=>obl rfl (mV (Iw k) dR),?_,?_,?_,?_,fun _ _ _ _ _ _ _=>obl rfl (xJ rfl dR),?_,zl⟩ ?_
 refine fun P _ _ cl cm af ag=>?_
 have hkk:=xE cl cm
 rcases hkk with rfl|rfl
 have be:Sep _ _ _ _:=af
 exact obl rfl (lD vp pR (ag 0 dc) (zd (be.b2) rfl) dR)
 obtain⟨x,D,bf⟩:=af
 exact obl rfl (lD vp pR (ag 0 dc) (zd (bf.b3) rfl) dR)
 refine ob1 0 fun _ _ _ ah=>(obl rfl ?_)
 have bg:k<d.projs.length:=bo
 exact zf (k:=5) (i:=k) wR lY (ah 3 dc) hdd1.sl (ah 4 dc) bg dR
 refine ob1 0 fun _ _ (bh:Sep _ _ _ _) bi=>(obl rfl ?_)
 have ai:k<d.projs.length:=bo
 obtain⟨aP,hoke190⟩:=hdd1.prjD ai
 have aQ:=bh.cells aP (hdd1.foot (ne_of_lt ai))
 exact zh (k:=5) Tryz.isAgg73 lY rfl (bi 5 dc) aQ dR
 refine ob1 0 fun _ _ (cn:Sep _ _ _ _) co=>(obl rfl ((zH (k:=5) (parts':=[(0,.agg ((d.projs.gd k).cells).toArray)]) (c:=((d.projs.gd k).cells).toArray) wR lY Tryz.zeroValue73 dc (Za ⟨rfl,(co 6 dc),zl⟩) kr ?_)))
 intro w96 x cp
 exact fun A H t=>⟨(exiA x (zA H (cn.new cp))),zl⟩
 refine ob1 1 fun _ _ bj bk=>?_
 obtain⟨x,D,aj⟩:=bj
 refine obl rfl ?_
 have aR:=aj.b0
 have ak:=(aj.s6_bcdef).emp1
 have al:k<d.projs.length:=bo
 obtain⟨aT,aI⟩:=hdd1.prjD al
 have hcw115:=ak.cells aT (hdd1.foot (ne_of_lt al))
 refine(yq (src:=own) (bytes:=40) (x1:=(d.projs.gd k)) ak el23 (bk 1 (by decide)) D aR (fun _ _ _=>(show _ from⟨rfl,aI⟩)) yqb rfl ?_)
 intro h w107 am
 have bl:=am.r0
 have hr116s:_*40≤_:=bl.2
 exact fun A H t=>⟨(exiA x (exiA h (zA ((t 7 dc).trans D) (zA H am)))),zl⟩
 refine ob1 2 fun _ _ bm bn=>?_
 obtain⟨x,h,D,Q,R⟩:=bm
 refine obl rfl ?_
 have an:=R.r0
 have hr134s:_*40≤_:=an.2
 refine(ym (v:=h) (c':=[vo,h]) Tryz.sizeOf23 (bn 9 dc) Q (R.b2) an.1.one rfl rfl ?_)
 intro w132 bp
 exact fun A H t=>⟨(exiA x (exiA h (zA ((t 7 dc).trans D) (zA ((t 8 dc).trans Q) (R.pt2 bp))))),zl⟩
 intro vals w199 bq hA201
 obtain⟨x,h,D,Q,ao⟩:=bq
 refine yg (kv:=[(1,Ix b2 0),(2,Ix E 0),(3,Ix u 0),(7,Iw k),(48,Iw k),(49,Ix b2 1),(50,dd1),(51,Iw d.projs.length),(52,.bool true)]) sEv (fun ρw199=>(zb (R0 fun _=>st (mV (Iw k) ?_))))
 have br:InR ((k+1:Nat):Int):=bo
 refine st (zO (r:=((k+1:Nat):Int)) (k:=.i64) (a:=((k:Nat):Int)) (b:=1) rfl rfl (by rw[show(((k:Nat):Int)+1:Int)=((k+1:Nat):Int)from bo];exact zw br) (st (aS (Iw (k+1)) (zb ?_))))
 have bs:(d.projs.take (k+1))=(d.projs.take k)++[(d.projs.gd k)]:=(List.take_getD om)
 rw[←bs]at ao
 exact⟨_,by omega,k+1,h,_,rfl,sSf,by omega,ao⟩
 have N:=tD N
 refine zg rfl (zp (za (zt (za (R0 fun _=>?_)))))
 have ok205:Typ.Ok (⟨[]⟩:Typ):=⟨⟩
 refine st (zV (parts':=[]) (v:=.agg ((⟨[]⟩:Typ).cells Iz).toArray) rfl (by simp[Instr.build,Instr.fill,go_sem,xA]) (st (zG rY ?_)))
 intro w208 z bt
 have ap:=M.new bt
 refine stn (zy (v:=.agg ((⟨[]⟩:Typ).cells Iz).toArray) (c':=((⟨[]⟩:Typ).cells Iz).toArray) vT rfl rfl (ap.b0) (yo ⟨rfl,zl⟩) yqc rfl ?_)
 intro w210 bu
 refine zb (za (za (R0 fun _=>st (aS (Iv 0) (zb (zt ?_))))))
 have bv:Sep _ _ ((RowE (α:=Fld) own 87 Iz ([]:List Fld))::_) _:=(ap.pt0 bu).rowNil own 87
 refine zZ (fun mq σ s=> ∃(q:Nat) (vq:Value) (ρ:Env),mq=((d.types.gd k).fields).length-q∧σ=yf ρ [(1,Ix b2 0),(2,Ix E 0),(3,Ix u 0),(4,Iw k),(5,Ix z 0),(6,Iw q)]∧(q≤((d.types.gd k).fields).length)∧Sep G W ((RowE (α:=Fld) own 87 vq (((d.types.gd k).fields).take q))::(Blk z #[vq] 83)::(TypW vo 83 87 (d.types.take k))::(Blk u #[vo,(Iz)] 25)::(Blk E #[(Iz),(Iz)] 25)::(Blk b2 (d.cells dd0 dd1).toArray 25)::Rs) s) ⟨0,(Iz),_,rfl,sSf,zY _,bv⟩ ?_
 rintro m215 σ216 w214 ⟨q,vq,ρl3,rfl,rfl,hkq,o⟩
 have bw:=o.r0
 have hr218s:_*48≤_:=bw.2
 refine za (za (R0 fun _=>st (mV (Iw q) (st (yH rfl (st (lD dd0 tT rfl (zd (o.b5) rfl) (st (mV (Iw k) ?_)))))))))
 have bx:k<d.types.length:=bo
 refine st (zf (k:=1) (i:=k) uT vT rfl hdd0.sl rfl bx (st (yU rfl ?_)))
 have S:k<d.types.length:=bo
 obtain⟨ab,g,hoke220⟩:=hdd0.typD S
 have hsm222:((d.types.gd k).fields).length*48≤140737488355328:=g.small
 have aU:=o.cells ab (hdd0.foot (ne_of_lt S))
 refine st (lD (zT W (sb dd0) (so dd0+k*1+0)) qT rfl (aU.get (j:=0) rfl) (st (zC (n:=((d.types.gd k).fields).length) wT rfl g.sl (st (zK (k:=.i64) (a:=((q:Nat):Int)) (b:=((((d.types.gd k).fields).length:Nat):Int)) rfl rfl (zb ?_))))))
 cases F:decide (((q:Nat):Int)<((((d.types.gd k).fields).length:Nat):Int))
 have F:=fD F
 have hkn:q=((d.types.gd k).fields).length:=by omega
 rw[hkn,List.take_of_length_le (Nat.le_refl ((d.types.getD k default).fields).length)]at o
 have aq:=o.r0
 have hr225s:_*48≤_:=aq.2
 refine ze rfl (ya (zR (R0 fun _=>st (yH rfl (st (lD vo tT rfl (zd (o.b3) rfl) ?_))))))
 have ok226:Typ.Ok (d.types.gd k):=⟨⟩
 refine st (zh (k:=1) Tryz.isAgg83 vT rfl rfl (zo (o.b1)) (st (zH (k:=1) (parts':=[(0,.agg ((d.types.gd k).cells vq).toArray)]) (c:=((d.types.gd k).cells vq).toArray) uT vT rY dc rfl kr ?_)))
 intro cq cr bz
 obtain⟨ar,ac,bA⟩:=TypW.open ((o.new bz).mv3)
 have I:Sep G W ((RowE (α:=TypS) own 83 vo ar)::(Star (FldRows 87 ar (d.types.take k)))::(Blk cr ((d.types.gd k).cells vq).toArray 83)::(RowE (α:=Fld) own 87 vq ((d.types.gd k).fields))::(Blk z #[vq] 83)::(Blk u #[vo,(Iz)] 25)::(Blk E #[(Iz),(Iz)] 25)::(Blk b2 (d.cells dd0 dd1).toArray 25)::Rs) cq:=bA
 have bB:=I.r0
 have hr235s:_*24≤_:=bB.2
 have aJ:=ac
 rw[List.length_take]at aJ
 have aV:=I.b2
 refine st (yq (src:=own) (bytes:=24) (x1:=(⟨vq⟩:TypS)) ((I.s8_abdefgh).emp1) zdf rfl rfl aV (fun _ _ _=>(show _ from⟨rfl,⟨aq.1.one⟩⟩)) yqb rfl ?_)
 intro U w236 au
 have bC:=au.r0
 have hr242s:_*24≤_:=bC.2
 have V:Sep _ _ ((TypW U 83 87 ((d.types.take k)++[(d.types.gd k)]))::_) _:=TypW.snoc (c:=(d.types.gd k)) ac au
 refine st (yH rfl (stn (ym (v:=U) (c':=[U,(Iz)]) Tryz.sizeOf22 rfl rfl (V.b2) (V.typSl (i:=0) rfl).one rfl rfl ?_)))
 intro w244 bD
 refine zb (R0 fun _=>st (mV (Iw k) ?_))
 have bE:InR ((k+1:Nat):Int):=bo
 refine st (zO (r:=((k+1:Nat):Int)) (k:=.i64) (a:=((k:Nat):Int)) (b:=1) rfl rfl (by rw[show(((k:Nat):Int)+1:Int)=((k+1:Nat):Int)from bo];exact zw bE) (st (aS (Iw (k+1)) (zb ?_))))
 have av:=(V.pt2 bD).s5_acde
 have bF:d.types.take (k+1)=((d.types.take k)++[(d.types.gd k)]):=(List.take_getD om)
 rw[←bF]at av
 exact⟨_,by omega,k+1,U,_,rfl,sSf,by omega,av⟩
 have F:=tD F
 refine zg rfl (zp (za (zt ?_)))
 refine WD4 ((fun TT L C=>WF [fun vals s=>Sep G W (L::C::TT) s,fun vals s=> ∃(e:Value),(vals 11=(.agg ((((d.types.gd k).fields).gd q).cells e).toArray:Value))∧Sep G W ((RowE (α:=Mv) own 90 e ((((d.types.gd k).fields).gd q).moves))::L::C::TT) s,fun vals s=> ∃(e:Value) (l:Nat),(vals 11=(.agg ((((d.types.gd k).fields).gd q).cells e).toArray:Value))∧(vals 12=((Iy l 1 1):Value))∧Sep G W ((Blk l ((((d.types.gd k).fields).gd q).cells e).toArray 87)::(RowE (α:=Mv) own 90 e ((((d.types.gd k).fields).gd q).moves))::L::C::TT) s,fun vals s=> ∃(e:Value) (l:Nat) (m:Value),(vals 11=(.agg ((((d.types.gd k).fields).gd q).cells e).toArray:Value))∧(vals 12=((Iy l 1 1):Value))∧(vals 13=(m:Value))∧Sep G W ((RowE (α:=Fld) own 87 m ((((d.types.gd k).fields).take q)++[(((d.types.gd k).fields).gd q)]))::C::TT) s,fun vals s=> ∃(e:Value) (l:Nat) (m:Value),(vals 11=(.agg ((((d.types.gd k).fields).gd q).cells e).toArray:Value))∧(vals 12=((Iy l 1 1):Value))∧(vals 13=(m:Value))∧Sep G W ((RowE (α:=Fld) own 87 m ((((d.types.gd k).fields).take q)++[(((d.types.gd k).fields).gd q)]))::(Blk z #[m] 83)::TT) s]) ((TypW vo 83 87 (d.types.take k))::(Blk u #[vo,(Iz)] 25)::(Blk E #[(Iz),(Iz)] 25)::(Blk b2 (d.cells dd0 dd1).toArray 25)::Rs) (RowE (α:=Fld) own 87 vq (((d.types.gd k).fields).take q)) (Blk z #[vq] 83)) (AF [Vl 0 (Ix z 0),Vl 1 vq,Vl 2 (Ix b2 0),Vl 3 dd0,Vl 4 (Iw k),Vl 5 (Ix (sb dd0) (so dd0+k*1)),Vl 6 (Ix (sb dd0) (so dd0+k*1)),Vl 7 ((zT W (sb dd0) (so dd0+k*1+0))),Vl 8 (Iw q),Vl 9 (Ix (sb (zT W (sb dd0) (so dd0+k*1+0))) (so (zT W (sb dd0) (so dd0+k*1+0))+q*4)),Vl 10 (.agg ((((d.types.gd k).fields).gd q).cells (zT W (sb (zT W (sb dd0) (so dd0+k*1+0))) (so (zT W (sb dd0) (so dd0+k*1+0))+q*4+3))).toArray),fun _=>True,fun _=>True,fun _=>True,Vl 14 (Ix z 0),fun _=>True]) [[],[0],[],[2],[],[2,3,4],[2,3,4,5],[2,3,4,5,6],[],[2,3,4,5,6,7,8],[2,3,4,5,6,7,8,9],[2,3,4,5,6,7,8,9,10],[2,3,4,5,6,7,8,9,10,11],(rg 13),(rg 14),(rg 15)] [11,12,13,15] [(0,2),(0,2),(0,0),(0,0),(0,0),(0,0),(0,0),(0,0),(0,0),(0,0),(0,0),(0,0),(1,1),(2,2),(3,3),(3,3)] o ⟨fun _ _ _ _ _ _ _=>obl rfl (yU rfl dR),?_,fun _ _ _ _ _ _ _=>obl rfl (yH rfl dR),ob1 0 fun _ _ (bG:Sep _ _ _ _) bH=>obl rfl (lD dd0 tT (bH 2 dc) (zd (bG.b5) rfl) dR),fun _ _ _ _ _ _ _=>obl rfl (mV (Iw k) dR),?_,fun _ _ _ _ _ _ bI=>obl rfl (yU (bI 5 dc) dR),?_,fun _ _ _ _ _ _ _=>obl rfl (mV (Iw q) dR),?_,?_,?_,?_,?_,fun _ _ _ _ _ _ _=>obl rfl (yU rfl dR),?_,zl⟩ ?_
 refine fun J _ _ cs ct X Y=>?_
 have hkk:=UT cs ct
 rcases hkk with rfl|rfl|rfl
 have bJ:Sep _ _ _ _:=X
 exact obl rfl (lD vq qT (Y 0 dc) (zd (bJ.b1) rfl) dR)
 obtain⟨e,p,bK⟩:=X
 exact obl rfl (lD vq qT (Y 0 dc) (zd (bK.b2) rfl) dR)
 obtain⟨e,l,p,B,bL⟩:=X
 exact obl rfl (lD vq qT (Y 0 dc) (zd (bL.b3) rfl) dR)
 refine ob1 0 fun _ _ _ aw=>(obl rfl ?_)
 have bM:k<d.types.length:=bo
 exact zf (k:=1) (i:=k) uT vT (aw 3 dc) hdd0.sl (aw 4 dc) bM dR
 refine ob1 0 fun _ _ (bN:Sep _ _ _ _) bO=>(obl rfl ?_)
 have aW:=bN.cells ab (hdd0.foot (ne_of_lt S))
 exact lD (zT W (sb dd0) (so dd0+k*1+0)) qT (bO 6 dc) (aW.get (j:=0) rfl) dR
 refine ob1 0 fun _ _ _ ax=>(obl rfl ?_)
 have bP:q<((d.types.gd k).fields).length:=bo
 exact zf (k:=4) (i:=q) wT lT (ax 7 dc) g.sl (ax 8 dc) bP dR
 refine ob1 0 fun _ _ (bQ:Sep _ _ _ _) bR=>(obl rfl ?_)
 have ay:q<((d.types.gd k).fields).length:=bo
 obtain⟨aX,ad,hoke494⟩:=g.fldD ay
 have hsm496:((((d.types.gd k).fields).gd q).moves).length*32≤140737488355328:=ad.small
 have aY:=bQ.cells aX (g.foot (ne_of_lt ay))
 exact zh (k:=4) oT lT rfl (bR 9 dc) aY dR
 refine ob1 0 fun vals _ (az:Sep _ _ _ _) bS=>(obl rfl ?_)
 have aA:q<((d.types.gd k).fields).length:=bo
 obtain⟨aZ,K,aK⟩:=g.fldD aA
 have hsm349:((((d.types.gd k).fields).gd q).moves).length*32≤140737488355328:=K.small
 have hcw350:=az.cells aZ (g.foot (ne_of_lt aA))
 refine(zW (f:=61) (vals:=[.agg ((((d.types.gd k).fields).gd q).cells (zT W (sb (zT W (sb dd0) (so dd0+k*1+0))) (so (zT W (sb dd0) (so dd0+k*1+0))+q*4+3))).toArray]) (cap:=[]) rfl (yM ⟨(bS 10 dc),zl⟩) Tryz.call61 (QA (f:=(((d.types.gd k).fields).gd q)) K aK az) ?_)
 rintro _ w352 ⟨e,rfl,aB⟩
 have bT:=aB.r0
 have hr354s:_*32≤_:=bT.2
 exact fun A H t=>⟨(exiA e (zA H aB)),zl⟩
 refine ob1 1 fun _ _ bU _=>?_
 obtain⟨e,p,bV⟩:=bU
 refine obl rfl ((zH (k:=4) (parts':=[(0,.agg ((((d.types.gd k).fields).gd q).cells e).toArray)]) (c:=((((d.types.gd k).fields).gd q).cells e).toArray) wT lT lR dc (Za ⟨rfl,p,zl⟩) kr ?_))
 intro w365 l bW
 exact fun A H t=>⟨(exiA e (exiA l (zA ((t 11 dc).trans p) (zA H (bV.new bW))))),zl⟩
 refine ob1 2 fun _ _ bX bY=>?_
 obtain⟨e,l,p,B,aC⟩:=bX
 refine obl rfl ?_
 have ba:=aC.b0
 have aD:=aC.s8_cbdefgh
 have aE:q<((d.types.gd k).fields).length:=bo
 obtain⟨bb,ae,aL⟩:=g.fldD aE
 have hsm383:((((d.types.gd k).fields).gd q).moves).length*32≤140737488355328:=ae.small
 have hcw384:=aD.cells bb (g.foot (ne_of_lt aE))
 refine(yq (src:=own) (bytes:=48) (x1:=(((d.types.gd k).fields).gd q)) aD el81 (bY 1 (by decide)) B ba (fun _ _ hN=>⟨_,rfl,RowE.soft hN,aL⟩) yqb rfl ?_)
 intro m w376 aF
 have bZ:=aF.r0
 have hr385s:_*48≤_:=bZ.2
 exact fun A H t=>⟨(exiA e (exiA l (exiA m (zA ((t 11 dc).trans p) (zA ((t 12 dc).trans B) (zA H aF)))))),zl⟩
 refine ob1 3 fun _ _ ca cb=>?_
 obtain⟨e,l,m,p,B,Z,aa⟩:=ca
 refine obl rfl ?_
 have aG:=aa.r0
 have hr403s:_*48≤_:=aG.2
 refine(ym (v:=m) (c':=[m]) Tryz.sizeOf81 (cb 14 dc) Z (aa.b1) aG.1.one rfl rfl ?_)
 intro w401 cc
 exact fun A H t=>⟨(exiA e (exiA l (exiA m (zA ((t 11 dc).trans p) (zA ((t 12 dc).trans B) (zA ((t 13 dc).trans Z) (aa.pt1 cc))))))),zl⟩
 intro vals w504 cd hA506
 obtain⟨e,l,m,p,B,Z,aH⟩:=cd
 refine yg (kv:=[(1,Ix b2 0),(2,Ix E 0),(3,Ix u 0),(4,Iw k),(5,Ix z 0),(6,Iw q),(16,Iw q),(17,Ix b2 0),(18,dd0),(19,Iw k),(20,Ix (sb dd0) (so dd0+k*1)),(21,Ix (sb dd0) (so dd0+k*1)),(22,(zT W (sb dd0) (so dd0+k*1+0))),(23,Iw (((d.types.gd k).fields).length)),(24,.bool true)]) sEv (fun ρw504=>(zb (R0 fun _=>st (mV (Iw q) ?_))))
 have ce:InR ((q+1:Nat):Int):=bo
 refine st (zO (r:=((q+1:Nat):Int)) (k:=.i64) (a:=((q:Nat):Int)) (b:=1) rfl rfl (by rw[show(((q:Nat):Int)+1:Int)=((q+1:Nat):Int)from bo];exact zw ce) (st (aS (Iw (q+1)) (zb ?_))))
 have cf:(((d.types.gd k).fields).take (q+1))=(((d.types.gd k).fields).take q)++[(((d.types.gd k).fields).gd q)]:=(List.take_getD om)
 rw[←cf]at aH
 exact⟨_,by omega,q+1,m,_,rfl,sSf,by omega,aH⟩
end
section
open Go.RowKit
def MildV (a b:Value):Prop:=b=a∨ ∃m n:Int,a=.int .i64 m∧b=.int .i64 n∧InR n
def ML (w0:World)(f0:Nat→Prop)(X:Nat→Nat→Prop):HP:=
 ⟨fun w f=> ∀b,f0 b→f b∧Soft w b∧ ∀o v,w0.cell? ⟨b,o,none⟩=some v→ ∃v',w.cell? ⟨b,o,none⟩=some v'∧(X b o∨MildV v v'),by
  intro w w' f f' h hf b hb
  obtain⟨h1,h2,h3⟩:=h b hb
  have hlt:b<w.heap.size:=by obtain⟨c,T,hc⟩:=h2;exact xz hc
  have e:=hf b h1 hlt
  refine⟨e.2,h2.keep e.1,fun o v hv=>?_⟩
  rw[Yp e.1];exact h3 o v hv⟩
def noX:Nat→Nat→Prop:=fun _ _=>False
theorem IsSl.num {v:Value}{n:Nat}(h:IsSl v n)(m:Int):v≠ .int .i64 m:=by obtain⟨a,cap,rfl,_⟩:=h;intro e;cases e
section
variable {α:Type}[Rep α]{G:Nat→Prop}{W w w0:World}{As:List HP}{T:TypeId}{v:Value}{l:List α}{f0:Nat→Prop}{X:Nat→Nat→Prop}
theorem Sep.toML (h:Sep G W (RowE own T v l::As) w): ∃f0,RdS w f0 v l∧Sep G W (ML w f0 noX::As) w:=by
 obtain⟨f,hA,hl,hT⟩:=h.take (i:=0) rfl
 exact⟨fun b=>f b∧Soft w b,RowE.soft hA,hT w _ f (Chg.refl _ _) (fun b hb=>⟨hb.1,hb.2,fun o v hv=>⟨v,hv,.inr (.inl rfl)⟩⟩) (fun _ h=>.inl h)⟩
theorem Sep.mlHead {i b o j:Nat}{cs:List Value}{u:Value}(h:Sep G W As w)(hi:As[i]? =some (ML w0 f0 X))(hb:f0 b)(hc:CellsAt w0 b o cs)(hj:cs[j]? =some u)(hX: ¬X b (o+j))(hn: ∀m,u≠ .int .i64 m):w.cell? ⟨b,o+j,none⟩=some u:=by
 obtain⟨f,hA,_⟩:=h.get hi
 obtain⟨_,_,h3⟩:=hA b hb
 obtain⟨v',h4,h5⟩:=h3 _ _ (hc.get hj)
 rcases h5 with h5|h5|⟨m,n,h5,_⟩
 ·exact absurd h5 hX
 ·rw[h4,h5]
 ·exact absurd h5 (hn m)
end
theorem UJ {w:World}{b o:Nat}{c:Array Value}{T:TypeId}(h:w.heap[b]? =some (.cells c T)):w.cell? ⟨b,o,none⟩=c[o]? :=by
 unfold World.cell?;simp[h]
theorem JL {c:Array Value}{o:Nat}{us:List Value}(h:o+us.length≤c.size)(p:Nat):(Wz c o us)[p]? =if o≤p∧p<o+us.length then us[p-o]? else c[p]? :=by
 unfold Wz
 simp only[List.getElem?_toArray]
 have hl:(c.toList.take o).length=o:=by simp;omega
 by_cases h1:p<o
 ·rw[if_neg (by omega),List.append_assoc,List.getElem?_append_left (by rw[hl];exact h1),List.getElem?_take,if_pos h1];simp
 ·by_cases h2:p<o+us.length
  ·rw[if_pos ⟨by omega,h2⟩,List.getElem?_append_left (by rw[List.length_append,hl];exact h2),List.getElem?_append_right (by rw[hl];omega),hl]
  ·rw[if_neg (by omega),List.getElem?_append_right (by rw[List.length_append,hl];omega),List.length_append,hl,List.getElem?_drop,show o+us.length+(p-(o+us.length))=p by omega];simp
section
variable {P:Program}{d:Option Tmp}{ty:TypeId}{pos:String}{af:Array Edge}{gd:Option (Nat×Bool)}{σ:Env}{w w0:World}{K:Value→World→Prop}{G:Nat→Prop}{W:World}{As:List HP}{f0:Nat→Prop}{X X':Nat→Nat→Prop}
theorem Xo {t:TypeId}{b o:Nat}{x y:Operand}{u:Value}{us cs:List Value}(h:Sep G W (ML w0 f0 X::As) w)(hS: ∀w,(sizeOf t).run P w=.ok us.length w)(hx:ev σ x=.pointer (some ⟨b,o,none⟩))(hb:f0 b)
 (hy:ev σ y=u) (hu:u.cells.toList=us) (h1: ∀u∈us,u.oneCell'=true) (hc:CellsAt w0 b o cs) (hl:cs.length=us.length) (hpos:0<us.length)
 (hm: ∀(j:Nat) v v',cs[j]? =some v→us[j]? =some v'→X' b (o+j)∨MildV v v') (hXX: ∀b o,X b o→X' b o) (hK: ∀w',Sep G W (ML w0 f0 X'::As) w'→K undef w'):opV P ⟨d,.store t x y,ty,pos,af,gd⟩ σ w K:=by
 obtain⟨f,hA,hfl⟩:=h.get (i:=0) rfl
 obtain⟨hfb,⟨c,T,hbk⟩,h3⟩:=hA b hb
 have hfit:o+us.length≤c.size:=by
  obtain⟨v',h4,_⟩:=h3 _ _ (hc (us.length-1) (by omega))
  rw[UJ hbk]at h4
  obtain⟨h5,_⟩:=Array.getElem?_eq_some_iff.1 h4
  omega
 refine zy (v:=u) (c:=c) (T:=T) (by intro w;rw[hS,←hu];simp) hx hy hbk (by rw[hu];exact h1) (by rw[hu];exact hfit) rfl (fun w1 hp=>hK w1 ?_)
 refine h.upd (i:=0) (B:=ML w0 f0 X') rfl (fun f hA hl9=>?_)
 refine⟨hp.chg.weak (fun i _ hi=>by subst hi;exact(hA _ hb).1),f,fun b' hb'=>?_,fun _ hb=>.inl hb⟩
 obtain⟨h5,h6,h7⟩:=hA b' hb'
 by_cases e:b'=b
 ·subst e
  refine⟨h5,⟨_,_,hp.at_⟩,fun p v hv=>?_⟩
  obtain⟨v',h8,h9⟩:=h7 p v hv
  rw[UJ hbk]at h8
  rw[UJ hp.at_,hu,JL hfit]
  by_cases hr:o≤p∧p<o+us.length
  ·rw[if_pos hr]
   have hlt:p-o<us.length:=by omega
   refine⟨us[p-o],List.getElem?_eq_getElem hlt,?_⟩
   have h10:=hc (p-o) (by omega)
   rw[show o+(p-o)=p by omega,hv]at h10
   have h11:=hm (p-o) v us[p-o] (by rw[List.getElem?_eq_getElem (by omega)];exact h10.symm) (List.getElem?_eq_getElem hlt)
   rw[show o+(p-o)=p by omega]at h11
   exact h11
  ·rw[if_neg hr]
   exact⟨v',h8,h9.imp (hXX _ _) id⟩
 ·have e2:=hp.chg.block b' (by obtain⟨c,T,hc⟩:=h6;exact xz hc) e
  refine⟨h5,h6.keep e2,fun p v hv=>?_⟩
  obtain⟨v',h8,h9⟩:=h7 p v hv
  exact⟨v',by rw[Yp e2];exact h8,h9.imp (hXX _ _) id⟩
end
def MildAll:List Value→List Value→Prop
 |a::xs,b::ys=>MildV a b∧MildAll xs ys
 |_,_=>True
theorem MildAll.at_: ∀{xs ys:List Value},MildAll xs ys→ ∀(j:Nat) v v',xs[j]? =some v→ys[j]? =some v'→MildV v v'
 |_::_,_::_,h,0,_,_,h1,h2=>by
  simp only[List.getElem?_cons_zero,Option.some.injEq]at h1 h2
  subst h1;subst h2;exact h.1
 |_::_,_::_,h,j+1,_,_,h1,h2=>MildAll.at_ h.2 j _ _ (by simpa using h1) (by simpa using h2)
 |[],_,_,j,_,_,h1,_=>by simp at h1
 |_::_,[],_,j,_,_,_,h2=>by simp at h2
theorem MildV.num {m n:Int}(h:InR n):MildV (.int .i64 m) (.int .i64 n):=.inr ⟨m,n,rfl,rfl,h⟩
end
section
open Go.Proofs Go.RowKit
theorem QT {i:Int}(hi:InR i)(hS0:Sep G W Rs w):Ret Tryz.prog 52 [.int .i64 (i)] w (fun r w'=> ∃(m:Int),r=(.int .i64 (m):Value)∧(InR m)∧Sep G W Rs w'):=by
 refine zn (args:=[Iv i]) Tryz.func52 rfl rfl ?_
 refine za (R0 fun _=>st (aS (Iv 0) (zb (za (R0 fun _=>st (mV (Iv i) (st (Uw (r:=IntKind.i64.wrap (13*i)) (k:=.i64) (a:=13) (b:=i) rfl rfl rfl (st (zO (r:=IntKind.i64.wrap (7001+(IntKind.i64.wrap (13*i)))) (k:=.i64) (a:=7001) (b:=IntKind.i64.wrap (13*i)) rfl rfl rfl (st (aS (Iv (IntKind.i64.wrap (7001+(IntKind.i64.wrap (13*i))))) (zb (zq (zU Tryz.results52 (show _=(Iv (IntKind.i64.wrap (7001+(IntKind.i64.wrap (13*i)))):Value)from rfl) ?_)))))))))))))))
 refine⟨IntKind.i64.wrap (7001+(IntKind.i64.wrap (13*i))),rfl,?_,hS0⟩
 exact YK _
theorem Ww {w0:World}{f0:Nat→Prop}{X:Nat→Nat→Prop}{vl:Value}{l:List Int}(hl9:RdS w0 f0 vl l)(hS0:Sep G W ((ML w0 f0 X)::Rs) w):Ret Tryz.prog 23 [vl] w (fun r w'=>r=(.tuple #[]:Value)∧Sep G W ((ML w0 f0 X)::Rs) w'):=by
 have hl9s:_*8≤_:=hl9.small
 refine zn (args:=[vl]) Tryz.func23 rfl rfl ?_
 refine za (R0 fun _=>st (aS (Iv 0) (zb (zt (zZ (fun mq σ t=> ∃(k:Nat) (ρ:Env),mq=l.length-k∧σ=yf ρ [(0,vl),(2,Iw k)]∧(k≤l.length)∧Sep G W ((ML w0 f0 X)::Rs) t) ⟨0,_,rfl,sSf,zY _,hS0⟩ ?_)))))
 rintro m2 σ3 w1 ⟨k,ρl1,rfl,rfl,hkk,f⟩
 refine za (za (R0 fun _=>st (mV (Iw k) (st (mV vl (st (zC (n:=l.length) nT rfl hl9.sl (st (zK (k:=.i64) (a:=((k:Nat):Int)) (b:=((l.length:Nat):Int)) rfl rfl (zb ?_))))))))))
 cases c:decide (((k:Nat):Int)<((l.length:Nat):Int))
 have c:=fD c
 refine ze rfl (ya (zR (Xe Tryz.results23 ?_)))
 refine⟨rfl,f⟩
 have c:=tD c
 refine zg rfl (zp (za (zt (R0 fun _=>st (mV vl (st (mV (Iw k) (st (mV (Iw k) ?_)))))))))
 have g:InR ((k+7:Nat):Int):=bo
 refine st (zO (r:=((k+7:Nat):Int)) (k:=.i64) (a:=((k:Nat):Int)) (b:=7) rfl rfl (by rw[show(((k:Nat):Int)+7:Int)=((k+7:Nat):Int)from bo];exact zw g) (st (cL Tryz.call52 (QT (i:=((k+7:Nat):Int)) g f) ?_)))
 rintro _ w9 ⟨j,rfl,hr8,m⟩
 have p:k<l.length:=bo
 refine st (zf (k:=1) (i:=k) nT sT rfl hl9.sl rfl p ?_)
 have d:k<l.length:=bo
 obtain⟨e,_⟩:=hl9.int d
 refine stn (Xo (b:=sb vl) (o:=so vl+k*1) (u:=Iv j) (us:=[Iv j]) (X':=X) m sT rfl (hl9.foot (ne_of_lt d)) rfl rfl (yo ⟨rfl,zl⟩) e rfl (Nat.zero_lt_succ _) (fun v x y z A=>.inr (MildAll.at_ (show MildAll [Iv (l[k])] [Iv j]from⟨MildV.num om,zl⟩) v x y z A)) (fun _ _ h=>h) ?_)
 intro w12 q
 refine zb (R0 fun _=>st (mV (Iw k) ?_))
 have s:InR ((k+1:Nat):Int):=bo
 refine st (zO (r:=((k+1:Nat):Int)) (k:=.i64) (a:=((k:Nat):Int)) (b:=1) rfl rfl (by rw[show(((k:Nat):Int)+1:Int)=((k+1:Nat):Int)from bo];exact zw s) (st (aS (Iw (k+1)) (zb ?_))))
 exact⟨_,by omega,k+1,_,rfl,sSf,by omega,q⟩
def rJ (d:Dcl)(e:Ev)(x:Ent):Bool:=on3 (e.typ,e.agg,e.field) x&&xl ((Yn d e.typ).fields.getD e.field.toNat default) x.ev e
theorem Yw {p:Ent→Bool}{q:Ev→Bool}: ∀(T:List Ent),((T.filter p).map (·.ev)).find? q=(T.find? (fun x=>p x&&q x.ev)).map (·.ev)
 |[]=>rfl
 |x::T=>by
  have ih:=Yw (p:=p) (q:=q) T
  rw[List.filter_cons,List.find?_cons]
  cases hp:p x with
  |false=>simp[ih]
  |true=>
   simp only[if_true,List.map_cons,List.find?_cons,Bool.true_and]
   cases hq:q x.ev with
   |true=>rfl
   |false=>exact ih
theorem Qq {r:Ent→Bool}: ∀{T:List Ent} {j:Nat},j<T.length→r (T.getD j default)=true→(∀j',j'<j→r (T.getD j' default)=false)→T.find? r=some (T.getD j default)
 |[],j,hj,_,_=>absurd hj (Nat.not_lt_zero j)
 |x::T,0,_,h1,_=>by have h1:r x=true:=h1;rw[List.find?_cons,h1];rfl
 |x::T,j+1,hj,h1,h0=>by
  have hx:r x=false:=h0 0 (Nat.succ_pos _)
  rw[List.find?_cons,hx]
  exact Qq (by simpa using hj) h1 (fun i hi=>h0 (i+1) (by omega))
theorem zbi {r:Ent→Bool}{T:List Ent}(h: ∀j,j<T.length→r (T.getD j default)=false):T.find? r=none:=by
 rw[List.find?_eq_none]
 intro x hx
 obtain⟨i,hi,rfl⟩:=List.getElem_of_mem hx
 have:=h i hi
 rw[zJ _ hi]at this
 rw[this];decide
theorem KT {d:Dcl}{l:List Ev}: ∀{i:Nat},i<l.length→(zk d l).getD i default=ye d ((zk d l).take i) (l.getD i default):=by
 induction l using ZB with
 |h0=>intro i hi;exact absurd hi (Nat.not_lt_zero i)
 |h1 l e ih=>
  intro i hi
  rw[xF]
  have hl:=xc d l
  rw[List.length_append,List.length_singleton]at hi
  rcases Nat.lt_or_ge i l.length with h|h
  ·rw[List.getD_eq_getElem?_getD,List.getElem?_append_left (by omega),←List.getD_eq_getElem?_getD,ih h,List.take_append_of_le_length (by omega)]
   congr 1
   rw[List.getD_eq_getElem?_getD,List.getD_eq_getElem?_getD,List.getElem?_append_left h]
  ·have e1:i=l.length:=by omega
   subst e1
   rw[List.getD_eq_getElem?_getD,List.getElem?_append_right (by omega),hl,Nat.sub_self,List.take_append_of_le_length (by omega),List.take_of_length_le (by omega)]
   show ye d (zk d l) e=_
   congr 1
   rw[List.getD_eq_getElem?_getD,List.getElem?_append_right (Nat.le_refl _),Nat.sub_self];rfl
theorem zbv {d:Dcl}{l:List Ev}{i:Nat}(h:i<l.length):((zk d l).getD i default).ev=l.getD i default:=by rw[KT h];rfl
theorem JE (d:Dcl)(l:List Ev)(n:Nat):zk d (l.take n)=(zk d l).take n:=by
 induction l using ZB with
 |h0=>rw[List.take_nil,show zk d []=[]from rfl,List.take_nil]
 |h1 l e ih=>
  rcases Nat.lt_or_ge l.length n with h|h
  ·rw[List.take_of_length_le (by rw[List.length_append,List.length_singleton];omega),List.take_of_length_le (by rw[xc,List.length_append,List.length_singleton];omega)]
  ·rw[List.take_append_of_le_length h,ih,xF,List.take_append_of_le_length (by rw[xc];exact h)]
theorem zbG {d:Dcl}{ty ag:Int}(l:List Ev)(h: ¬yw (ty,ag) (zk d l)=0):0≤ty∧ty<d.types.length:=by
 induction l using ZB with
 |h0=>exact absurd rfl h
 |h1 l e ih=>
  rw[xF,ZF]at h
  split at h
  ·rename_i hx
   unfold onL at hx
   simp only[Bool.and_eq_true,Bool.not_eq_true',decide_eq_true_eq]at hx
   obtain⟨hv,ht,ha⟩:=hx
   obtain⟨hf,hm⟩:=Wh (d:=d) (L:=zk d l) (e:=e) hv
   obtain⟨f1,f2,_⟩:=XR hf
   have ht':e.typ=ty:=ht
   subst ht'
   exact⟨f1,f2⟩
  ·exact ih h
theorem onL_raw {a b:Int}{x:Ent}:onL (a,b) x=(((!x.void)&&decide (x.ev.typ=a))&&decide (x.ev.agg=b)):=by
 unfold onL;cases x.void<;>simp[Bool.and_comm,Bool.decide_and]
theorem ver_t {k:Int×Int}{L:List Ent}{j:Nat}(hj:j<L.length)(h:onL k (L.getD j default)=true):yw k (L.take (j+1))=yw k (L.take j)+1:=by
 have e:L.take (j+1)=L.take j++[L.getD j default]:=by rw[List.take_add_one,List.getElem?_eq_getElem hj,List.getD_eq_getElem?_getD,List.getElem?_eq_getElem hj];rfl
 rw[e,ZF,if_pos h]
theorem ver_f {k:Int×Int}{L:List Ent}{j:Nat}(hj:j<L.length)(h:onL k (L.getD j default)=false):yw k (L.take (j+1))=yw k (L.take j):=by
 have e:L.take (j+1)=L.take j++[L.getD j default]:=by rw[List.take_add_one,List.getElem?_eq_getElem hj,List.getD_eq_getElem?_getD,List.getElem?_eq_getElem hj];rfl
 rw[e,ZF,h];rfl
theorem xr (d:Dcl)(ty f op arg:Int):xp d ty f op arg=if yI d ty f=false then 8 else if op=1 then(if ¬(yj d ty f).kind=1 then 2 else if arg=0 then 1 else 0)else if op=2 then(if ¬(yj d ty f).kind=2 then 2 else 0)
 else if op=3∨op=4 then(if ¬(yj d ty f).kind=3 then 2 else 0)else if op=5 then(if ¬(yj d ty f).kind=4 then 2 else if arg<0∨((yj d ty f).moves.length:Int)≤arg then 1 else 0)else 2:=by
 unfold xp
 cases hB:yI d ty f
 ·rfl
 ·generalize yj d ty f=F
  by_cases h1:op=1
  ·subst h1
   simp only[show kindsL.getD (1:Int).toNat 0=1 from rfl]
   by_cases h:F.kind=1<;>by_cases h2:arg=0<;>simp[h,h2,eq_comm]
  by_cases h2:op=2
  ·subst h2
   simp only[show kindsL.getD (2:Int).toNat 0=2 from rfl]
   by_cases h:F.kind=2<;>simp[h,eq_comm]
  by_cases h3:op=3
  ·subst h3
   simp only[show kindsL.getD (3:Int).toNat 0=3 from rfl]
   by_cases h:F.kind=3<;>simp[h,eq_comm]
  by_cases h4:op=4
  ·subst h4
   simp only[show kindsL.getD (4:Int).toNat 0=3 from rfl]
   by_cases h:F.kind=3<;>simp[h,eq_comm]
  by_cases h5:op=5
  ·subst h5
   simp only[show kindsL.getD (5:Int).toNat 0=4 from rfl]
   by_cases h:F.kind=4
   ·by_cases h6:arg<0∨(F.moves.length:Int)≤arg
    ·have:(decide (0≤arg)&&decide (arg≤(F.moves.length:Int)-1))=false:=by
      rw[Bool.and_eq_false_iff]
      rcases h6 with h6|h6
      ·exact .inl (decide_eq_false (by omega))
      ·exact .inr (decide_eq_false (by omega))
     rw[this,if_pos h6];simp[h]
    ·have:(decide (0≤arg)&&decide (arg≤(F.moves.length:Int)-1))=true:=by
      rw[decide_eq_true (by omega),decide_eq_true (by omega)];rfl
     rw[this,if_neg h6];simp[h]
   ·simp[h,eq_comm]
  ·have:(decide (1≤op)&&decide (op≤5))=false:=by
    rw[Bool.and_eq_false_iff]
    rcases Int.lt_or_le op 1 with h6|h6
    ·exact .inl (decide_eq_false (by omega))
    ·exact .inr (decide_eq_false (by omega))
   simp[this,h1,h2,h3,h4,h5]
theorem Qd {v:List Int}{o:Int}(h: ¬((0≤o∧o<v.length)∧0<v.getD o.toNat 0)):Zm v o=0:=by
 unfold Zm;split
 ·rfl
 ·omega
theorem KM {v:List Int}{o:Int}(h:(0≤o∧o<v.length)∧0<v.getD o.toNat 0):Zm v o=v.getD o.toNat 0:=by
 unfold Zm;rw[if_neg (by omega)];omega
theorem YZ {f:Fld}{x e:Ev}:xl f x e=if((!xV x e)||(!YG f.kind x.op x.arg e.op e.arg))=true then false else if decide (f.policy=3)=true then decide (e.arg<x.arg)else decide (f.policy=2):=by
 unfold xl
 cases xV x e<;>cases YG f.kind x.op x.arg e.op e.arg<;>simp
 by_cases h:f.policy=3
 ·simp[h]
 ·simp[h]
theorem Wf {a b:Ev}:xV a b=if(decide (a.origin=b.origin)&&decide (a.seq=b.seq))=true then false else((!ZQ a b)&&(!ZQ b a)):=by
 unfold xV
 by_cases h:a.origin=b.origin<;>by_cases h2:a.seq=b.seq<;>simp[h,h2]
theorem WL {k oA aA oB aB:Int}:YG k oA aA oB aB=if decide (k=2)=true then((decide (oA=2)&&decide (oB=2))&& !decide (aA=aB))else if decide (k=4)=true then((decide (oA=5)&&decide (oB=5))&& !decide (aA=aB))
 else if(decide (k=3)&&decide (aA=aB))=true then((decide (oA=3)&&decide (oB=4))||(decide (oA=4)&&decide (oB=3)))else false:=by
 unfold YG
 by_cases h2:k=2
 ·subst h2
  by_cases ha:oA=2<;>by_cases hb:oB=2<;>simp[ha,hb]
 by_cases h4:k=4
 ·subst h4
  by_cases ha:oA=5<;>by_cases hb:oB=5<;>simp[ha,hb]
 by_cases h3:k=3
 ·subst h3
  by_cases ha:aA=aB
  ·subst ha;simp
  ·have ha': ¬aB=aA:=fun e=>ha e.symm
   simp[ha,ha']
 ·simp[h2,h3,h4]
theorem zai {vv:Value}{v:List Int}(hv:RdS W G vv v){o:Int}(ho:InR o)(hS0:Sep G W Rs w):Ret Tryz.prog 145 [vv,.int .i64 (o)] w (fun r w'=>r=(.int .i64 (Zm v o):Value)∧(InR (Zm v o))∧Sep G W Rs w'):=by
 refine zn Tryz.func145 rfl rfl ?_
 refine za (R0 fun _=>st (aS (Iv 0) (zb (za (za (zF kr (st (mV (Iv o) (st (xv rfl rfl (st (mV (.bool (decide (0≤o))) (stc (V:=Iv o) rfl rfl (fun C=>?_) ?_)))))))))))))
 exact mV (Iv o) rflB
 refine stc (V:=vv) rfl rfl (fun D=>?_) ?_
 exact mV vv rflB
 refine stc (V:=Iw v.length) rfl rfl (fun t=>?_) ?_
 exact zC nT (ifpC t) hv.sl rflB
 refine stc (V:=.bool (decide (o<((v.length:Nat):Int)))) rfl rfl (fun d=>?_) ?_
 exact zK (ifpC d) (ifpC d) rflB
 refine st (zx rfl (fun hbp=>(ifpC hbp)) (st (mV (.bool ((decide (0≤o))&&(decide (o<((v.length:Nat):Int))))) (stc (V:=vv) rfl rfl (fun E=>?_) ?_))))
 have u:=E
 try simp only[zi]at u
 exact mV vv rflB
 refine stc (V:=Iv o) rfl rfl (fun x=>?_) ?_
 have y:=x
 try simp only[zi]at y
 exact mV (Iv o) rflB
 refine stc (V:=Ix (sb vv) (so vv+o.toNat*1)) rfl rfl (fun c=>?_) ?_
 have z:=c
 try simp only[zi]at z
 exact zB nT sT (ifpC c) hv.sl (ifpC c) ⟨by omega,by omega⟩ rflB
 refine stc (V:=Iv ((v.getD o.toNat 0))) rfl rfl (fun e=>?_) ?_
 have A:=e
 try simp only[zi]at A
 have f:o.toNat<v.length:=bo
 obtain⟨m,hxe18⟩:=hv.intD f
 have p:=hS0.cells m (hv.foot (ne_of_lt f))
 exact lD (Iv ((v.getD o.toNat 0))) kT (ifpC e) (p.get (j:=0) rfl) rflB
 refine stc (V:=.bool (decide (0<(v.getD o.toNat 0)))) rfl rfl (fun g=>?_) ?_
 have B:=g
 try simp only[zi]at B
 exact xh (k:=.i64) (a:=(v.getD o.toNat 0)) (b:=0) (ifpC g) rfl rflB
 refine st (zx rfl (fun hbp=>(ifpC hbp)) (zb ?_))
 cases h:((decide (0≤o))&&(decide (o<((v.length:Nat):Int))))&&(decide (0<(v.getD o.toNat 0)))
 try simp only[zi]at h
 refine ze rfl (zp (za (R0 fun _=>st (aS (Iv 0) (zb (zq (zU sY (show _=(Iv 0:Value)from rfl) ?_)))))))
 refine⟨?_,?_,hS0⟩
 congr 1;exact(Qd om).symm
 rw[Qd (by omega)];decide
 try simp only[zi]at h
 refine zg rfl (za (R0 fun _=>st (mV vv (st (mV (Iv o) ?_)))))
 refine st (zB nT sT rfl hv.sl rfl ⟨by omega,by omega⟩ ?_)
 have l:o.toNat<v.length:=bo
 obtain⟨q,hxe25⟩:=hv.intD l
 have s:=hS0.cells q (hv.foot (ne_of_lt l))
 refine st (lD (Iv ((v.getD o.toNat 0))) kT rfl (s.get (j:=0) rfl) (st (aS (Iv ((v.getD o.toNat 0))) (zb (zq (zU sY (show _=(Iv ((v.getD o.toNat 0)):Value)from rfl) ?_))))))
 refine⟨?_,?_,hS0⟩
 congr 1;exact(KM om).symm
 rw[KM (by omega)];assumption
theorem Wv {a:Ev}{da0:Value}(hda0:RdS W G da0 a.deps)(oa:a.Ok){b:Ev}{db0:Value}(hdb0:RdS W G db0 b.deps)(ob:b.Ok)(hS0:Sep G W Rs w):Ret Tryz.prog 138 [.agg (a.cells da0).toArray,.agg (b.cells db0).toArray] w (fun r w'=>r=(.bool ((ZQ a b)):Value)∧Sep G W Rs w'):=by
 refine zn Tryz.func138 rfl rfl ?_
 refine za (R0 fun _=>st (zX rfl ?_))
 intro w3 b2 L
 refine st (zX rfl ?_)
 intro w7 D M
 refine st (aS (.bool false) (zb (za ?_)))
 refine WD4 ((fun TT C=>WF [fun vals E=>Sep G W (C::TT) E,fun vals E=>(vals 5=(Iv (Zm b.deps a.origin):Value))∧(InR (Zm b.deps a.origin))∧Sep G W (C::TT) E]) ((Blk b2 (a.cells da0).toArray 55)::Rs) (Blk D (b.cells db0).toArray 55)) (AF [Vl 0 (Ix D 3),Vl 1 db0,Vl 2 (Ix b2 0),Vl 3 (Ix b2 0),Vl 4 (Iv (a.origin)),fun _=>True,Vl 6 (Ix b2 0),Vl 7 (Ix b2 1),Vl 8 (Iv (a.seq)),Vl 9 (.bool (decide (a.seq≤(Zm b.deps a.origin)))),Vl 10 (.bool (decide (a.seq≤(Zm b.deps a.origin))))]) [[],[0],[],[2],[2,3],(rg 5),[],[6],[6,7],(rg 9),(rg 10)] [5] [(0,0),(0,0),(0,0),(0,0),(0,0),(0,0),(0,1),(0,1),(0,1),(1,1),(1,1)] ((hS0.new L).new M) ⟨fun _ _ _ _ _ _ _=>obl rfl (xW rfl dR),ob1 0 fun _ _ (j:Sep _ _ _ _) l=>obl rfl (lD db0 mY (l 0 dc) (zd (j.b0) rfl) dR),fun _ _ _ _ _ _ _=>obl rfl (xe rfl dR),fun _ _ _ _ _ _ m=>obl rfl (Xv (m 2 dc) dR),ob1 0 fun _ _ (n:Sep _ _ _ _) p=>obl rfl (lD (Iv (a.origin)) kT (p 3 dc) (zd (n.b1) rfl) dR),?_,fun _ _ _ _ _ _ _=>obl rfl (xe rfl dR),fun _ _ _ _ _ _ q=>obl rfl (XW (q 6 dc) dR),?_,?_,fun _ _ _ _ _ _ s=>obl rfl (zM (s 9 dc) dR),zl⟩ ?_
 refine ob1 0 fun vals _ (F:Sep _ _ _ _) i=>(obl rfl ((zW (vals:=[db0,Iv (a.origin)]) rfl (yM ⟨(i 1 dc),(i 4 dc),zl⟩) Tryz.call145 (zai hdb0 oa.origin F) ?_)))
 rintro _ w54 ⟨rfl,c,H⟩
 exact fun vals' N hv'=>⟨(zA N (zA c H)),zl⟩
 refine fun d _ _ I J g h=>?_
 have hkk:=xE I J
 rcases hkk with rfl|rfl
 have t:=g
 exact obl rfl (lD (Iv (a.seq)) kT (h 7 dc) (zd (t.b1) rfl) dR)
 obtain⟨e,c,u⟩:=g
 exact obl rfl (lD (Iv (a.seq)) kT (h 7 dc) (zd (u.b1) rfl) dR)
 refine ob1 1 fun _ _ x y=>?_
 obtain⟨e,c,hS157⟩:=x
 exact obl rfl (xv e (y 8 dc) dR)
 intro vals w166 z A
 obtain⟨e,c,B⟩:=z
 have K:=A 10 dc
 refine yg (kv:=[(0,.agg (a.cells da0).toArray),(1,.agg (b.cells db0).toArray),(2,Ix b2 0),(3,Ix D 0),(4,.bool (decide (a.seq≤(Zm b.deps a.origin))))]) ⟨rfl,rfl,rfl,rfl,(by exact K),zl⟩ (fun ρw166=>(zb (zq (zU Tryz.results138 (show _=(.bool (decide (a.seq≤(Zm b.deps a.origin))):Value)from rfl) ?_))))
 refine⟨rfl,(B.s2_)⟩
theorem QP {a:Ev}{da0:Value}(hda0:RdS W G da0 a.deps)(oa:a.Ok){b:Ev}{db0:Value}(hdb0:RdS W G db0 b.deps)(ob:b.Ok)(hS0:Sep G W Rs w):Ret Tryz.prog 119 [.agg (a.cells da0).toArray,.agg (b.cells db0).toArray] w (fun r w'=>r=(.bool ((xV a b)):Value)∧Sep G W Rs w'):=by
 refine zn Tryz.func119 rfl rfl ?_
 refine za (R0 fun _=>st (zX rfl ?_))
 intro w3 b2 x
 refine st (zX rfl ?_)
 intro w7 y z
 have e:=(hS0.new x).new z
 refine st (aS (.bool false) (zb (za (za (zF kr (st (xe rfl (st (Xv rfl (st (lD (Iv (a.origin)) kT rfl (zd (e.b1) rfl) (st (xe rfl (st (Xv rfl (st (lD (Iv (b.origin)) kT rfl (zd (e.b0) rfl) (st (zS rfl rfl (st (mV (.bool (decide (a.origin=b.origin))) (stc (V:=Ix b2 0) rfl rfl (fun A=>?_) ?_))))))))))))))))))))))
 exact xe rfl rflB
 refine stc (V:=Ix b2 1) rfl rfl (fun j=>?_) ?_
 exact XW (ifpC j) rflB
 refine stc (V:=Iv (a.seq)) rfl rfl (fun l=>?_) ?_
 exact lD (Iv (a.seq)) kT (ifpC l) (zd (e.b1) rfl) rflB
 refine stc (V:=Ix y 0) rfl rfl (fun o=>?_) ?_
 exact xe rfl rflB
 refine stc (V:=Ix y 1) rfl rfl (fun m=>?_) ?_
 exact XW (ifpC m) rflB
 refine stc (V:=Iv (b.seq)) rfl rfl (fun n=>?_) ?_
 exact lD (Iv (b.seq)) kT (ifpC n) (zd (e.b0) rfl) rflB
 refine stc (V:=.bool (decide (a.seq=b.seq))) rfl rfl (fun i=>?_) ?_
 exact zS (ifpC i) (ifpC i) rflB
 refine st (zx rfl (fun hbp=>(ifpC hbp)) (zb ?_))
 cases f:(decide (a.origin=b.origin))&&(decide (a.seq=b.seq))
 have c:=f
 try simp only[zi]at f
 refine ze rfl (zp (za (zF kr (st (zh nR oR rfl rfl (zo (e.b1)) (st (zh nR oR rfl rfl (zo (e.b0)) (st (cL tY (Wv hda0 oa hdb0 ob e) ?_)))))))))
 rintro _ w24 ⟨rfl,g⟩
 refine st (yD rfl (st (mV (.bool (!(ZQ a b))) (stc (V:=.agg (b.cells db0).toArray) rfl rfl (fun p=>?_) ?_))))
 have q:=p
 try simp only[zi]at q
 exact zh nR oR rfl rfl (zo (g.b0)) rflB
 refine stc (V:=.agg (a.cells da0).toArray) rfl rfl (fun s=>?_) ?_
 have t:=s
 try simp only[zi]at t
 exact zh nR oR rfl rfl (zo (g.b1)) rflB
 cases h: !(ZQ a b)
 have d:=h
 try simp only[zi]at h
 refine stx rfl rfl (stx rfl rfl (st (yt rfl rfl (st (aS (.bool false) (zb (zq (zU nY (show _=(.bool false:Value)from rfl) ?_))))))))
 refine⟨?_,(g.s2_)⟩
 rw[Wf]
 ·first|rfl|(simp only[c,d,xR,↓reduceIte];done)|(simp only[c,d,xR,↓reduceIte];rfl)
 have d:=h
 try simp only[zi]at h
 refine sty rfl rfl (cL tY (Wv hdb0 ob hda0 oa g) ?_)
 rintro _ w32 ⟨rfl,u⟩
 refine sty rfl rfl (yD rfl (st (yC rfl rfl (st (aS (.bool (!(ZQ b a))) (zb (zq (zU nY (show _=(.bool (!(ZQ b a)):Value)from rfl) ?_))))))))
 refine⟨?_,(u.s2_)⟩
 rw[Wf]
 ·first|rfl|(simp only[c,d,xR,↓reduceIte];done)|(simp only[c,d,xR,↓reduceIte];rfl)
 have c:=f
 try simp only[zi]at f
 refine zg rfl (za (R0 fun _=>st (aS (.bool false) (zb (zq (zU nY (show _=(.bool false:Value)from rfl) ?_))))))
 refine⟨?_,(e.s2_)⟩
 rw[Wf]
 ·first|rfl|(simp only[c,xR,↓reduceIte];done)|(simp only[c,xR,↓reduceIte];rfl)
theorem Up {f:Fld}{df0:Value}(hdf0:RdS W G df0 f.moves)(of:f.Ok){oA:Int}(hoA:InR oA){aA:Int}(haA:InR aA){oB:Int}(hoB:InR oB){aB:Int}(haB:InR aB)(hS0:Sep G W Rs w):Ret Tryz.prog 120 [.agg (f.cells df0).toArray,.int .i64 (oA),.int .i64 (aA),.int .i64 (oB),.int .i64 (aB)] w (fun r w'=>r=(.bool ((YG f.kind oA aA oB aB)):Value)∧Sep G W Rs w'):=by
 refine zn Tryz.func120 rfl rfl ?_
 refine za (R0 fun _=>st (zX rfl ?_))
 intro w3 b2 U
 have g:=hS0.new U
 refine st (aS (.bool false) (zb (za (za (R0 fun _=>st (xG rfl (st (lD (Iv (f.kind)) kT rfl (zd (g.b0) rfl) (st (zS rfl rfl (zb ?_)))))))))))
 cases h:decide (f.kind=2)
 have c:=h
 have h:=fD h
 refine ze rfl (zp (za (za (R0 fun _=>st (xG rfl (st (lD (Iv (f.kind)) kT rfl (zd (g.b0) rfl) (st (zS rfl rfl (zb ?_))))))))))
 cases i:decide (f.kind=4)
 have d:=i
 have i:=fD i
 refine ze rfl (zp (za (za (zF kr (st (xG rfl (st (lD (Iv (f.kind)) kT rfl (zd (g.b0) rfl) (st (zS rfl rfl (st (mV (.bool (decide (f.kind=3))) (stc (V:=Iv aA) rfl rfl (fun X=>?_) ?_)))))))))))))
 exact mV (Iv aA) rflB
 refine stc (V:=Iv aB) rfl rfl (fun Y=>?_) ?_
 exact mV (Iv aB) rflB
 refine stc (V:=.bool (decide (aA=aB))) rfl rfl (fun m=>?_) ?_
 exact zS (ifpC m) (ifpC m) rflB
 refine st (zx rfl (fun hbp=>(ifpC hbp)) (zb ?_))
 cases j:(decide (f.kind=3))&&(decide (aA=aB))
 have e:=j
 try simp only[zi]at j
 refine ze rfl (zp (za (R0 fun _=>st (aS (.bool false) (zb (zq (zU rR (show _=(.bool false:Value)from rfl) ?_)))))))
 refine⟨?_,(g.s1_)⟩
 rw[WL]
 ·first|rfl|(simp only[c,d,e,xR,↓reduceIte];done)|(simp only[c,d,e,xR,↓reduceIte];rfl)
 have e:=j
 try simp only[zi]at j
 refine zg rfl (za (zF kr (st (mV (Iv oA) (st (zS rfl rfl (st (mV (.bool (decide (oA=3))) (stc (V:=Iv oB) rfl rfl (fun z=>?_) ?_)))))))))
 exact mV (Iv oB) rflB
 refine stc (V:=.bool (decide (oB=4))) rfl rfl (fun q=>?_) ?_
 exact zS (ifpC q) rfl rflB
 refine st (zx rfl (fun hbp=>(ifpC hbp)) (st (mV (.bool ((decide (oA=3))&&(decide (oB=4)))) (stc (V:=Iv oA) rfl rfl (fun A=>?_) ?_))))
 have B:=A
 try simp only[zi]at B
 exact mV (Iv oA) rflB
 refine stc (V:=.bool (decide (oA=4))) rfl rfl (fun s=>?_) ?_
 have C:=s
 try simp only[zi]at C
 exact zS (ifpC s) rfl rflB
 refine stc (V:=.bool (decide (oA=4))) rfl rfl (fun t=>?_) ?_
 have D:=t
 try simp only[zi]at D
 exact zP (ifpC t) rflB
 refine yZ (V:=Iv oB) rfl rfl (fun u=>?_) ?_
 have E:=u.1
 try simp only[zi]at E
 exact mV (Iv oB) rflB
 refine yZ (V:=.bool (decide (oB=3))) rfl rfl (fun l=>?_) ?_
 have F:=l.1
 try simp only[zi]at F
 exact zS (ifpC ⟨l.1,l.2⟩) rfl rflB
 refine stc (V:=.bool ((decide (oA=4))&&(decide (oB=3)))) rfl rfl (fun n=>?_) ?_
 have H:=n
 try simp only[zi]at H
 exact zx (ifpC n) (fun hbp=>(ifpC ⟨n,hbp⟩)) rflB
 refine st (zI rfl (fun hbp=>(ifpC hbp)) (st (aS (.bool (((decide (oA=3))&&(decide (oB=4)))||((decide (oA=4))&&(decide (oB=3))))) (zb (zq (zU rR (show _=(.bool (((decide (oA=3))&&(decide (oB=4)))||((decide (oA=4))&&(decide (oB=3)))):Value)from rfl) ?_))))))
 refine⟨?_,(g.s1_)⟩
 rw[WL]
 ·first|rfl|(simp only[c,d,e,xR,↓reduceIte];done)|(simp only[c,d,e,xR,↓reduceIte];rfl)
 have d:=i
 have i:=tD i
 refine zg rfl (za (zF kr (st (mV (Iv oA) (st (zS rfl rfl (st (mV (.bool (decide (oA=5))) (stc (V:=Iv oB) rfl rfl (fun I=>?_) ?_)))))))))
 exact mV (Iv oB) rflB
 refine stc (V:=.bool (decide (oB=5))) rfl rfl (fun x=>?_) ?_
 exact zS (ifpC x) rfl rflB
 refine st (zx rfl (fun hbp=>(ifpC hbp)) (st (mV (.bool ((decide (oA=5))&&(decide (oB=5)))) (stc (V:=Iv aA) rfl rfl (fun J=>?_) ?_))))
 have K:=J
 try simp only[zi]at K
 exact mV (Iv aA) rflB
 refine stc (V:=Iv aB) rfl rfl (fun L=>?_) ?_
 have M:=L
 try simp only[zi]at M
 exact mV (Iv aB) rflB
 refine stc (V:=.bool (!decide (aA=aB))) rfl rfl (fun o=>?_) ?_
 have N:=o
 try simp only[zi]at N
 exact yy (ifpC o) (ifpC o) rflB
 refine st (zx rfl (fun hbp=>(ifpC hbp)) (st (aS (.bool (((decide (oA=5))&&(decide (oB=5)))&&(!decide (aA=aB)))) (zb (zq (zU rR (show _=(.bool (((decide (oA=5))&&(decide (oB=5)))&&(!decide (aA=aB))):Value)from rfl) ?_))))))
 refine⟨?_,(g.s1_)⟩
 rw[WL]
 ·first|rfl|(simp only[c,d,xR,↓reduceIte];done)|(simp only[c,d,xR,↓reduceIte];rfl)
 have c:=h
 have h:=tD h
 refine zg rfl (za (zF kr (st (mV (Iv oA) (st (zS rfl rfl (st (mV (.bool (decide (oA=2))) (stc (V:=Iv oB) rfl rfl (fun O=>?_) ?_)))))))))
 exact mV (Iv oB) rflB
 refine stc (V:=.bool (decide (oB=2))) rfl rfl (fun y=>?_) ?_
 exact zS (ifpC y) rfl rflB
 refine st (zx rfl (fun hbp=>(ifpC hbp)) (st (mV (.bool ((decide (oA=2))&&(decide (oB=2)))) (stc (V:=Iv aA) rfl rfl (fun P=>?_) ?_))))
 have Q:=P
 try simp only[zi]at Q
 exact mV (Iv aA) rflB
 refine stc (V:=Iv aB) rfl rfl (fun R=>?_) ?_
 have S:=R
 try simp only[zi]at S
 exact mV (Iv aB) rflB
 refine stc (V:=.bool (!decide (aA=aB))) rfl rfl (fun p=>?_) ?_
 have T:=p
 try simp only[zi]at T
 exact yy (ifpC p) (ifpC p) rflB
 refine st (zx rfl (fun hbp=>(ifpC hbp)) (st (aS (.bool (((decide (oA=2))&&(decide (oB=2)))&&(!decide (aA=aB)))) (zb (zq (zU rR (show _=(.bool (((decide (oA=2))&&(decide (oB=2)))&&(!decide (aA=aB))):Value)from rfl) ?_))))))
 refine⟨?_,(g.s1_)⟩
 rw[WL]
 ·first|rfl|(simp only[c,xR,↓reduceIte];done)|(simp only[c,xR,↓reduceIte];rfl)
theorem QW {f:Fld}{df0:Value}(hdf0:RdS W G df0 f.moves)(of:f.Ok){x:Ev}{dx0:Value}(hdx0:RdS W G dx0 x.deps)(ox:x.Ok){e:Ev}{de0:Value}(hde0:RdS W G de0 e.deps)(oe:e.Ok)(hS0:Sep G W Rs w):Ret Tryz.prog 101 [.agg (f.cells df0).toArray,.agg (x.cells dx0).toArray,.agg (e.cells de0).toArray] w (fun r w'=>r=(.bool ((xl f x e)):Value)∧Sep G W Rs w'):=by
 refine zn Tryz.func101 rfl rfl ?_
 refine za (R0 fun _=>st (zX rfl ?_))
 intro w3 b2 M
 refine st (zX rfl ?_)
 intro w7 N O
 refine st (zX rfl ?_)
 intro w11 t P
 have n:=((hS0.new M).new O).new P
 refine st (aS (.bool false) (zb (za (za (zF kr (st (zh nR oR rfl rfl (zo (n.b1)) (st (zh nR oR rfl rfl (zo (n.b0)) (st (cL Tryz.call119 (QP hdx0 ox hde0 oe n) ?_)))))))))))
 rintro _ w13 ⟨rfl,g⟩
 refine st (yD rfl (st (mV (.bool (!(xV x e))) (stc (V:=.agg (f.cells df0).toArray) rfl rfl (fun u=>?_) ?_))))
 have y:=u
 try simp only[zi]at y
 exact zh oT lT rfl rfl (zo (g.b2)) rflB
 refine stc (V:=Ix N 7) rfl rfl (fun z=>?_) ?_
 have A:=z
 try simp only[zi]at A
 exact Ze rfl rflB
 refine stc (V:=Iv (x.op)) rfl rfl (fun o=>?_) ?_
 have B:=o
 try simp only[zi]at B
 exact lD (Iv (x.op)) kT (ifpC o) (zd (g.b1) rfl) rflB
 refine stc (V:=Ix N 8) rfl rfl (fun C=>?_) ?_
 have D:=C
 try simp only[zi]at D
 exact xy rfl rflB
 refine stc (V:=Iv (x.arg)) rfl rfl (fun p=>?_) ?_
 have E:=p
 try simp only[zi]at E
 exact lD (Iv (x.arg)) kT (ifpC p) (zd (g.b1) rfl) rflB
 refine stc (V:=Ix t 7) rfl rfl (fun F=>?_) ?_
 have H:=F
 try simp only[zi]at H
 exact Ze rfl rflB
 refine stc (V:=Iv (e.op)) rfl rfl (fun q=>?_) ?_
 have I:=q
 try simp only[zi]at I
 exact lD (Iv (e.op)) kT (ifpC q) (zd (g.b0) rfl) rflB
 refine stc (V:=Ix t 8) rfl rfl (fun J=>?_) ?_
 have K:=J
 try simp only[zi]at K
 exact xy rfl rflB
 refine stc (V:=Iv (e.arg)) rfl rfl (fun s=>?_) ?_
 have L:=s
 try simp only[zi]at L
 exact lD (Iv (e.arg)) kT (ifpC s) (zd (g.b0) rfl) rflB
 cases l: !(xV x e)
 have c:=l
 try simp only[zi]at l
 refine sty rfl rfl (cL Tryz.call120 (Up hdf0 of ox.op ox.arg oe.op oe.arg g) ?_)
 rintro _ w34 ⟨rfl,h⟩
 refine sty rfl rfl (yD rfl (st (yt rfl rfl (zb ?_))))
 cases m: !(YG f.kind x.op x.arg e.op e.arg)
 have d:=m
 try simp only[zi]at m
 refine ze rfl (zp (za (za (R0 fun _=>st (Xs rfl (st (lD (Iv (f.policy)) kT rfl (zd (h.b2) rfl) (st (zS rfl rfl (zb ?_))))))))))
 cases j:decide (f.policy=3)
 have i:=j
 have j:=fD j
 refine ze rfl (zp (za (R0 fun _=>st (Xs rfl (st (lD (Iv (f.policy)) kT rfl (zd (h.b2) rfl) (st (zS rfl rfl (st (aS (.bool (decide (f.policy=2))) (zb (zq (zU sR (show _=(.bool (decide (f.policy=2)):Value)from rfl) ?_)))))))))))))
 refine⟨?_,(h.s3_)⟩
 rw[YZ]
 ·first|rfl|(simp only[c,d,i,xR,↓reduceIte];done)|(simp only[c,d,i,xR,↓reduceIte];rfl)
 have i:=j
 have j:=tD j
 refine zg rfl (za (R0 fun _=>st (xy rfl (st (lD (Iv (x.arg)) kT rfl (zd (h.b1) rfl) (st (xy rfl (st (lD (Iv (e.arg)) kT rfl (zd (h.b0) rfl) (st (xh (k:=.i64) (a:=x.arg) (b:=e.arg) rfl rfl (st (aS (.bool (decide (e.arg<x.arg))) (zb (zq (zU sR (show _=(.bool (decide (e.arg<x.arg)):Value)from rfl) ?_))))))))))))))))
 refine⟨?_,(h.s3_)⟩
 rw[YZ]
 ·first|rfl|(simp only[c,d,i,xR,↓reduceIte];done)|(simp only[c,d,i,xR,↓reduceIte];rfl)
 have d:=m
 try simp only[zi]at m
 refine zg rfl (za (R0 fun _=>st (aS (.bool false) (zb (zq (zU sR (show _=(.bool false:Value)from rfl) ?_))))))
 refine⟨?_,(h.s3_)⟩
 rw[YZ]
 ·first|rfl|(simp only[c,d,xR,↓reduceIte];done)|(simp only[c,d,xR,↓reduceIte];rfl)
 have c:=l
 try simp only[zi]at l
 refine stx rfl rfl (stx rfl rfl (st (yC rfl rfl (zb (zg rfl (za (R0 fun _=>st (aS (.bool false) (zb (zq (zU sR (show _=(.bool false:Value)from rfl) ?_)))))))))))
 refine⟨?_,(g.s3_)⟩
 rw[YZ]
 ·first|rfl|(simp only[c,xR,↓reduceIte];done)|(simp only[c,xR,↓reduceIte];rfl)
theorem Ke {d:Dcl}{dd0:Value}(hdd0:RdS W G dd0 d.types){dd1:Value}(hdd1:RdS W G dd1 d.projs)(od:d.Ok){ty:Int}(hty:InR ty){f:Int}(hf:InR f)(hS0:Sep G W Rs w):Ret Tryz.prog 55 [.agg (d.cells dd0 dd1).toArray,.int .i64 (ty),.int .i64 (f)] w (fun r w'=> ∃(v:Value),r=(.tuple #[.agg ((yj d ty f).cells v).toArray,.bool ((yI d ty f))]:Value)∧((yj d ty f).Ok)∧Sep G W ((RowE (α:=Mv) own 90 v ((yj d ty f).moves))::Rs) w'):=by
 let aU:=zT W (sb dd0) (so dd0+ty.toNat*1+0)
 let aV:=zT W (sb aU) (so aU+f.toNat*4+3)
 refine zn Tryz.func55 rfl rfl ?_
 refine za (R0 fun _=>st (zX rfl ?_))
 intro w3 b2 aQ
 refine st (zG lR ?_)
 intro w7 U aR
 have l:=(hS0.new aQ).new aR
 refine st (aS (.bool false) (zb (za (za (zF kr (st (mV (Iv ty) (st (zK rfl rfl (st (mV (.bool (decide (ty<0))) (stc (V:=Iv ty) rfl rfl (fun aT=>?_) ?_))))))))))))
 exact mV (Iv ty) rflB
 refine stc (V:=Ix b2 0) rfl rfl (fun an=>?_) ?_
 exact yH rfl rflB
 refine stc (V:=dd0) rfl rfl (fun B=>?_) ?_
 exact lD dd0 tT (ifpC B) (zd (l.b1) rfl) rflB
 refine stc (V:=Iw d.types.length) rfl rfl (fun C=>?_) ?_
 exact zC uT (ifpC C) hdd0.sl rflB
 refine stc (V:=.bool (decide (((d.types.length:Nat):Int)≤ty))) rfl rfl (fun q=>?_) ?_
 exact xv (ifpC q) (ifpC q) rflB
 refine st (zI rfl (fun hbp=>(ifpC hbp)) (st (mV (.bool ((decide (ty<0))||(decide (((d.types.length:Nat):Int)≤ty)))) (stc (V:=Iv f) rfl rfl (fun ao=>?_) ?_))))
 have ap:=ao
 try simp only[zi]at ap
 exact mV (Iv f) rflB
 refine stc (V:=.bool (decide (f<0))) rfl rfl (fun D=>?_) ?_
 have aq:=D
 try simp only[zi]at aq
 exact zK (ifpC D) rfl rflB
 refine st (zI rfl (fun hbp=>(ifpC hbp)) (st (mV (.bool (((decide (ty<0))||(decide (((d.types.length:Nat):Int)≤ty)))||(decide (f<0)))) (stc (V:=Iv f) rfl rfl (fun ar=>?_) ?_))))
 have au:=ar
 try simp only[zi]at au
 exact mV (Iv f) rflB
 refine stc (V:=Ix b2 0) rfl rfl (fun av=>?_) ?_
 have aw:=av
 try simp only[zi]at aw
 exact yH rfl rflB
 refine stc (V:=dd0) rfl rfl (fun E=>?_) ?_
 have ax:=E
 try simp only[zi]at ax
 exact lD dd0 tT (ifpC E) (zd (l.b1) rfl) rflB
 refine stc (V:=Iv ty) rfl rfl (fun ay=>?_) ?_
 have az:=ay
 try simp only[zi]at az
 exact mV (Iv ty) rflB
 refine stc (V:=Ix (sb dd0) (so dd0+ty.toNat*1)) rfl rfl (fun s=>?_) ?_
 have aA:=s
 try simp only[zi]at aA
 exact zB uT vT (ifpC s) hdd0.sl (ifpC s) ⟨by omega,by omega⟩ rflB
 refine stc (V:=Ix (sb dd0) (so dd0+ty.toNat*1)) rfl rfl (fun F=>?_) ?_
 have aB:=F
 try simp only[zi]at aB
 exact yU (ifpC F) rflB
 refine stc (V:=aU) rfl rfl (fun H=>?_) ?_
 have aC:=H
 try simp only[zi]at aC
 have I:ty.toNat<d.types.length:=bo
 obtain⟨X,A,hoke38⟩:=hdd0.typD I
 have Y:=l.cells X (hdd0.foot (ne_of_lt I))
 exact lD aU qT (ifpC H) (Y.get (j:=0) rfl) rflB
 refine stc (V:=Iw (((d.types.getD ty.toNat default).fields).length)) rfl rfl (fun J=>?_) ?_
 have aD:=J
 try simp only[zi]at aD
 have K:ty.toNat<d.types.length:=bo
 obtain⟨Z,m,hoke44⟩:=hdd0.typD K
 exact zC wT (ifpC J) m.sl rflB
 refine stc (V:=.bool (decide (((((d.types.getD ty.toNat default).fields).length:Nat):Int)≤f))) rfl rfl (fun t=>?_) ?_
 have aE:=t
 try simp only[zi]at aE
 exact xv (ifpC t) (ifpC t) rflB
 refine st (zI rfl (fun hbp=>(ifpC hbp)) (zb ?_))
 cases L:(((decide (ty<0))||(decide (((d.types.length:Nat):Int)≤ty)))||(decide (f<0)))||(decide (((((d.types.getD ty.toNat default).fields).length:Nat):Int)≤f))
 try simp only[zi]at L
 refine ze rfl (zp (za (R0 fun _=>st (yH rfl (st (lD dd0 tT rfl (zd (l.b1) rfl) (st (mV (Iv ty) ?_))))))))
 refine st (zB uT vT rfl hdd0.sl rfl ⟨by omega,by omega⟩ (st (yU rfl ?_)))
 have M:ty.toNat<d.types.length:=bo
 obtain⟨aa,h,hoke52⟩:=hdd0.typD M
 have hsm54:((d.types.getD ty.toNat default).fields).length*48≤140737488355328:=h.small
 have ab:=l.cells aa (hdd0.foot (ne_of_lt M))
 refine st (lD aU qT rfl (ab.get (j:=0) rfl) (st (mV (Iv f) ?_)))
 have hi56:f.toNat<((d.types.getD ty.toNat default).fields).length:=bo
 refine st (zB wT lT rfl h.sl rfl ⟨by omega,by omega⟩ ?_)
 have N:f.toNat<((d.types.getD ty.toNat default).fields).length:=bo
 obtain⟨ac,e,p⟩:=h.fldD N
 have hsm59:((((d.types.getD ty.toNat default).fields).getD f.toNat default).moves).length*32≤140737488355328:=e.small
 have ad:=l.cells ac (h.foot (ne_of_lt N))
 refine st (zh oT lT rfl rfl ad (st (zG lR ?_)))
 intro w63 al aF
 have O:=l.new aF
 refine stn (zy (v:=.agg ((((d.types.getD ty.toNat default).fields).getD f.toNat default).cells aV).toArray) lT rfl rfl (O.b0) (yo ⟨rfl,rfl,rfl,e.sl.one,zl⟩) yqc rfl ?_)
 intro w65 aG
 refine zb (za (R0 fun _=>st (aS Iz (zb (za (za (R0 fun _=>st (aS (Iv 0) (zb (zt ?_))))))))))
 have aH:Sep _ _ ((RowE (α:=Mv) own 90 Iz [])::_) _:=(O.pt0 aG).rowNil own 90
 refine zZ (fun mq σ wq=> ∃k vm ρ,mq=((d.types.getD ty.toNat default).fields.getD f.toNat default).moves.length-k∧σ=yf ρ [(3,Ix b2 0),(6,Ix U 0),(8,Ix al 0),(10,Iw k),(9,vm)]∧(k≤((d.types.getD ty.toNat default).fields.getD f.toNat default).moves.length)∧Sep G W ((RowE own 90 vm (((d.types.getD ty.toNat default).fields.getD f.toNat default).moves.take k))::(Blk al ((((d.types.getD ty.toNat default).fields).getD f.toNat default).cells (zT W (sb (zT W (sb dd0) (so dd0+ty.toNat*1+0))) (so (zT W (sb dd0) (so dd0+ty.toNat*1+0))+f.toNat*4+3))).toArray 87)::(Blk U #[Iv 0,Iv 0,.bool false,(Iz)] 87)::(Blk b2 (d.cells dd0 dd1).toArray 25)::Rs) wq) ⟨0,(Iz),_,rfl,sSf,zY _,aH⟩ ?_
 rintro m70 σ71 w69 ⟨k,vm,ρl1,rfl,rfl,hkk,g⟩
 have aI:=g.r0
 have hr73s:_*32≤_:=aI.2
 refine za (za (R0 fun _=>st (mV (Iw k) (st (yT rfl (st (lD aV mR rfl (zd (g.b1) rfl) (st (zC rT rfl e.sl (st (zK rfl rfl (zb ?_))))))))))))
 cases o:decide (((k:Nat):Int)<((((((d.types.getD ty.toNat default).fields).getD f.toNat default).moves).length:Nat):Int))
 have o:=fD o
 have hkn:k=((d.types.getD ty.toNat default).fields.getD f.toNat default).moves.length:=by omega
 rw[hkn,List.take_of_length_le (Nat.le_refl ((d.types.getD ty.toNat default).fields.getD f.toNat default).moves.length)]at g
 have u:=g.r0
 have hr75s:_*32≤_:=u.2
 refine ze rfl (ya (zR (za (R0 fun _=>st (mV vm (st (yT rfl (stn (ym (v:=vm) pY rfl rfl (g.b1) u.1.one rfl rfl ?_)))))))))
 intro w76 aJ
 have aK:Fld.Ok (⟨(((d.types.getD ty.toNat default).fields).getD f.toNat default).kind,(((d.types.getD ty.toNat default).fields).getD f.toNat default).policy,(((d.types.getD ty.toNat default).fields).getD f.toNat default).floor,((d.types.getD ty.toNat default).fields.getD f.toNat default).moves⟩:Fld):=⟨(show InR ((((d.types.getD ty.toNat default).fields).getD f.toNat default).kind)from p.kind),(show InR ((((d.types.getD ty.toNat default).fields).getD f.toNat default).policy)from p.policy)⟩
 have x:=g.pt1 aJ
 refine zb (za (R0 fun _=>st (zh oT lT rfl rfl (zo (x.b1)) (stn (zy (v:=.agg ((⟨(((d.types.getD ty.toNat default).fields).getD f.toNat default).kind,(((d.types.getD ty.toNat default).fields).getD f.toNat default).policy,(((d.types.getD ty.toNat default).fields).getD f.toNat default).floor,((d.types.getD ty.toNat default).fields.getD f.toNat default).moves⟩:Fld).cells vm).toArray) lT rfl rfl (x.b2) (yo ⟨rfl,rfl,rfl,u.1.one,zl⟩) yqc rfl ?_)))))
 intro w80 aL
 have P:=x.pt2 aL
 refine st (aS (.bool true) (zb (zq (ZV uY oT lT rfl rfl (zo (P.b2)) (show _=(.bool true:Value)from rfl) ?_))))
 have Q:yI d ty f=true:=by unfold yI;simp only[Bool.and_eq_true,decide_eq_true_eq];omega
 have hz:yj d ty f=(⟨(((d.types.getD ty.toNat default).fields).getD f.toNat default).kind,(((d.types.getD ty.toNat default).fields).getD f.toNat default).policy,(((d.types.getD ty.toNat default).fields).getD f.toNat default).floor,((d.types.getD ty.toNat default).fields.getD f.toNat default).moves⟩:Fld):=by unfold yj;rw[Q];rfl
 rw[hz,Q]
 refine⟨vm,rfl,?_,(P.s4_a)⟩
 exact aK
 have o:=tD o
 refine zg rfl (zp (za (zt (R0 fun _=>st (mV vm (st (yT rfl (st (lD aV mR rfl (zd (g.b1) rfl) (st (mV (Iw k) ?_)))))))))))
 have aM:k<((((d.types.getD ty.toNat default).fields).getD f.toNat default).moves).length:=bo
 refine st (zf (k:=4) rT pT rfl e.sl rfl aM ?_)
 have R:k<((((d.types.getD ty.toNat default).fields).getD f.toNat default).moves).length:=bo
 obtain⟨ae,S⟩:=e.mvD R
 have af:=g.cells ae (e.foot (ne_of_lt R))
 refine st (zh uR pT rfl rfl af (st (zH (c:=((((((d.types.getD ty.toNat default).fields).getD f.toNat default).moves).getD k default).cells).toArray) rT pT vR dc rfl kr ?_)))
 intro w90 b89 aN
 have T:=g.new aN
 have ag:=T.b0
 refine st (yq (src:=own) (bytes:=32) (x1:=(((((d.types.getD ty.toNat default).fields).getD f.toNat default).moves).getD k default)) ((T.s5_bcde).emp1) zbK rfl rfl ag (fun _ _ _=>(show _ from⟨rfl,S⟩)) yqb rfl ?_)
 intro am w92 y
 have aO:=y.r0
 have hr98s:_*32≤_:=aO.2
 refine st (aS am (zb (R0 fun _=>st (mV (Iw k) ?_))))
 have aP:InR ((k+1:Nat):Int):=bo
 refine st (zO (r:=((k+1:Nat):Int)) rfl rfl (by rw[show(((k:Nat):Int)+1:Int)=((k+1:Nat):Int)from bo];exact zw aP) (st (aS (Iw (k+1)) (zb ?_))))
 have ah:(((d.types.getD ty.toNat default).fields.getD f.toNat default).moves.take (k+1))=(((d.types.getD ty.toNat default).fields.getD f.toNat default).moves.take k)++[(((((d.types.getD ty.toNat default).fields).getD f.toNat default).moves).getD k default)]:=(List.take_getD om)
 rw[←ah]at y
 exact⟨_,by omega,k+1,am,_,rfl,sSf,by omega,y⟩
 try simp only[zi]at L
 refine zg rfl (za (R0 fun _=>?_))
 have ai:Fld.Ok (⟨0,0,false,[]⟩:Fld):=⟨(show InR (0)from dc),(show InR (0)from dc)⟩
 refine st (zV (v:=.agg ((⟨0,0,false,[]⟩:Fld).cells Iz).toArray) rfl (by simp+zetaDelta [Instr.build,Instr.fill,go_sem,xA]) (stn (zy (v:=.agg ((⟨0,0,false,[]⟩:Fld).cells Iz).toArray) lT rfl rfl (l.b0) (yo ⟨rfl,rfl,rfl,rfl,zl⟩) yqc rfl ?_)))
 intro w102 aj
 have z:=l.pt0 aj
 refine st (aS (.bool false) (zb (zq (ZV uY oT lT rfl rfl (zo (z.b0)) (show _=(.bool false:Value)from rfl) ?_))))
 have ak:Sep _ _ ((RowE (α:=Mv) own 90 Iz [])::_) _:=z.rowNil own 90
 have Q:yI d ty f=false:=by unfold yI;rw[Bool.eq_false_iff];intro h9;simp only[Bool.and_eq_true,decide_eq_true_eq]at h9;omega
 have hz:yj d ty f=(⟨0,0,false,[]⟩:Fld):=by unfold yj;rw[Q];rfl
 rw[hz,Q]
 refine⟨(Iz),rfl,?_,(ak.s3_a)⟩
 exact ai
theorem Ji {d:Dcl}{dd0:Value}(hdd0:RdS W G dd0 d.types){dd1:Value}(hdd1:RdS W G dd1 d.projs)(od:d.Ok){ty:Int}(hty:InR ty){f:Int}(hf:InR f){op:Int}(hop:InR op){arg:Int}(harg:InR arg)(hS0:Sep G W Rs w):Ret Tryz.prog 100 [.agg (d.cells dd0 dd1).toArray,.int .i64 (ty),.int .i64 (f),.int .i64 (op),.int .i64 (arg)] w (fun r w'=>r=(.int .i64 (xp d ty f op arg):Value)∧Sep G W Rs w'):=by
 refine zn Tryz.func100 rfl rfl ?_
 refine za (R0 fun _=>st (zX rfl ?_))
 intro w3 b2 L
 have E:=hS0.new L
 refine st (aS (Iv 0) (zb (za (R0 fun _=>st (zh kY qR rfl rfl (zo (E.b0)) (st (mV (Iv ty) (st (mV (Iv f) (st (cL Tryz.call55 (Ke hdd0 hdd1 od hty hf E) ?_)))))))))))
 rintro _ w7 ⟨u,rfl,hfok6,F⟩
 let N:=(yj d ty f).cells u
 have y:=F.r0
 refine st (mV (.tuple #[.agg N.toArray,.bool ((yI d ty f))]) (st (zz rfl rfl (st (zz rfl rfl (st (zG lR ?_)))))))
 intro w12 M H
 have z:=F.new H
 refine stn (zy (v:=.agg N.toArray) lT rfl rfl (z.b0) (yo ⟨rfl,rfl,rfl,y.1.one,zl⟩) yqc rfl ?_)
 intro w14 I
 have c:=z.pt0 I
 refine st (aS (.bool ((yI d ty f))) (zb (za (za (R0 fun _=>st (mV (.bool ((yI d ty f))) (st (yD rfl (zb ?_)))))))))
 cases A: !(yI d ty f)
 try simp only[zi]at A
 refine ze rfl (zp (za (za (R0 fun _=>st (mV (Iv op) (zb (zt (za (R0 fun _=>st (zS rfl rfl (st (aS (.bool (decide (op=1))) (zb ?_)))))))))))))
 cases e:decide (op=1)
 have e:=fD e
 refine ze rfl (za (R0 fun _=>st (zS rfl rfl (st (aS (.bool (decide (op=2))) (zb ?_))))))
 cases g:decide (op=2)
 have g:=fD g
 refine ze rfl (za (za (R0 fun _=>st (zS rfl rfl (st (aS (.bool (decide (op=3))) (zb ?_)))))))
 cases h:decide (op=3)
 have h:=fD h
 refine ze rfl (R0 fun _=>st (zS rfl rfl (st (aS (.bool (decide (op=4))) (zb ?_)))))
 cases j:decide (op=4)
 have j:=fD j
 refine ze rfl (za (R0 fun _=>st (zS rfl rfl (st (aS (.bool (decide (op=5))) (zb ?_))))))
 cases l:decide (op=5)
 have l:=fD l
 refine ze rfl (za (R0 fun _=>st (aS (Iv 2) (zb (zq (zU mT (show _=(Iv 2:Value)from rfl) ?_))))))
 refine⟨?_,(c.s3_)⟩
 congr 1
 rw[xr]
 ·repeat first|rfl|rw[ifpC (by first|assumption|omega)]|rw[ifnC (by first|assumption|omega|simp_all)]
 have l:=tD l
 refine zg rfl (za (za (R0 fun _=>st (xG rfl (st (lD (Iv ((yj d ty f).kind)) kT rfl (zd (c.b0) rfl) (st (yy rfl rfl (zb ?_)))))))))
 cases m: !decide (((yj d ty f).kind)=4)
 have m:=zQ m
 refine ze rfl (zp (za (zF kr (st (mV (Iv arg) (st (zK rfl rfl (st (mV (.bool (decide (arg<0))) (stc (V:=Iv arg) rfl rfl (fun J=>?_) ?_))))))))))
 exact mV (Iv arg) rflB
 refine stc (V:=Ix M 3) rfl rfl (fun K=>?_) ?_
 exact yT rfl rflB
 refine stc (V:=u) rfl rfl (fun B=>?_) ?_
 exact lD u mR (ifpC B) (zd (c.b0) rfl) rflB
 refine stc (V:=Iw (((yj d ty f).moves).length)) rfl rfl (fun C=>?_) ?_
 exact zC rT (ifpC C) y.1 rflB
 refine stc (V:=.bool (decide (((((yj d ty f).moves).length:Nat):Int)≤arg))) rfl rfl (fun x=>?_) ?_
 exact xv (ifpC x) (ifpC x) rflB
 refine st (zI rfl (fun hbp=>(ifpC hbp)) (zb ?_))
 cases D:(decide (arg<0))||(decide (((((yj d ty f).moves).length:Nat):Int)≤arg))
 try simp only[zi]at D
 refine ze rfl (zp (za (R0 fun _=>st (aS (Iv 0) (zb (zq (zU mT (show _=(Iv 0:Value)from rfl) ?_)))))))
 refine⟨?_,(c.s3_)⟩
 congr 1
 rw[xr]
 ·repeat first|rfl|rw[ifpC (by first|assumption|omega)]|rw[ifnC (by first|assumption|omega|simp_all)]
 try simp only[zi]at D
 refine zg rfl (za (R0 fun _=>st (aS (Iv 1) (zb (zq (zU mT (show _=(Iv 1:Value)from rfl) ?_))))))
 refine⟨?_,(c.s3_)⟩
 congr 1
 rw[xr]
 ·repeat first|rfl|rw[ifpC (by first|assumption|omega)]|rw[ifnC (by first|assumption|omega|simp_all)]
 have m:=yn m
 refine zg rfl (za (R0 fun _=>st (aS (Iv 2) (zb (zq (zU mT (show _=(Iv 2:Value)from rfl) ?_))))))
 refine⟨?_,(c.s3_)⟩
 congr 1
 rw[xr]
 ·repeat first|rfl|rw[ifpC (by first|assumption|omega)]|rw[ifnC (by first|assumption|omega|simp_all)]
 have j:=tD j
 refine zg rfl (za (R0 fun _=>st (xG rfl (st (lD (Iv ((yj d ty f).kind)) kT rfl (zd (c.b0) rfl) (st (yy rfl rfl (zb ?_))))))))
 cases o: !decide (((yj d ty f).kind)=3)
 have o:=zQ o
 refine ze rfl (zp (za (R0 fun _=>st (aS (Iv 0) (zb (zq (zU mT (show _=(Iv 0:Value)from rfl) ?_)))))))
 refine⟨?_,(c.s3_)⟩
 congr 1
 rw[xr]
 ·repeat first|rfl|rw[ifpC (by first|assumption|omega)]|rw[ifnC (by first|assumption|omega|simp_all)]
 have o:=yn o
 refine zg rfl (za (R0 fun _=>st (aS (Iv 2) (zb (zq (zU mT (show _=(Iv 2:Value)from rfl) ?_))))))
 refine⟨?_,(c.s3_)⟩
 congr 1
 rw[xr]
 ·repeat first|rfl|rw[ifpC (by first|assumption|omega)]|rw[ifnC (by first|assumption|omega|simp_all)]
 have h:=tD h
 refine zg rfl (zp (zg rfl (za (R0 fun _=>st (xG rfl (st (lD (Iv ((yj d ty f).kind)) kT rfl (zd (c.b0) rfl) (st (yy rfl rfl (zb ?_))))))))))
 cases p: !decide (((yj d ty f).kind)=3)
 have p:=zQ p
 refine ze rfl (zp (za (R0 fun _=>st (aS (Iv 0) (zb (zq (zU mT (show _=(Iv 0:Value)from rfl) ?_)))))))
 refine⟨?_,(c.s3_)⟩
 congr 1
 rw[xr]
 ·repeat first|rfl|rw[ifpC (by first|assumption|omega)]|rw[ifnC (by first|assumption|omega|simp_all)]
 have p:=yn p
 refine zg rfl (za (R0 fun _=>st (aS (Iv 2) (zb (zq (zU mT (show _=(Iv 2:Value)from rfl) ?_))))))
 refine⟨?_,(c.s3_)⟩
 congr 1
 rw[xr]
 ·repeat first|rfl|rw[ifpC (by first|assumption|omega)]|rw[ifnC (by first|assumption|omega|simp_all)]
 have g:=tD g
 refine zg rfl (za (R0 fun _=>st (xG rfl (st (lD (Iv ((yj d ty f).kind)) kT rfl (zd (c.b0) rfl) (st (yy rfl rfl (zb ?_))))))))
 cases q: !decide (((yj d ty f).kind)=2)
 have q:=zQ q
 refine ze rfl (zp (za (R0 fun _=>st (aS (Iv 0) (zb (zq (zU mT (show _=(Iv 0:Value)from rfl) ?_)))))))
 refine⟨?_,(c.s3_)⟩
 congr 1
 rw[xr]
 ·repeat first|rfl|rw[ifpC (by first|assumption|omega)]|rw[ifnC (by first|assumption|omega|simp_all)]
 have q:=yn q
 refine zg rfl (za (R0 fun _=>st (aS (Iv 2) (zb (zq (zU mT (show _=(Iv 2:Value)from rfl) ?_))))))
 refine⟨?_,(c.s3_)⟩
 congr 1
 rw[xr]
 ·repeat first|rfl|rw[ifpC (by first|assumption|omega)]|rw[ifnC (by first|assumption|omega|simp_all)]
 have e:=tD e
 refine zg rfl (za (za (R0 fun _=>st (xG rfl (st (lD (Iv ((yj d ty f).kind)) kT rfl (zd (c.b0) rfl) (st (yy rfl rfl (zb ?_)))))))))
 cases s: !decide (((yj d ty f).kind)=1)
 have s:=zQ s
 refine ze rfl (zp (za (R0 fun _=>st (mV (Iv arg) (st (zS rfl rfl (zb ?_)))))))
 cases t:decide (arg=0)
 have t:=fD t
 refine ze rfl (zp (za (R0 fun _=>st (aS (Iv 0) (zb (zq (zU mT (show _=(Iv 0:Value)from rfl) ?_)))))))
 refine⟨?_,(c.s3_)⟩
 congr 1
 rw[xr]
 ·repeat first|rfl|rw[ifpC (by first|assumption|omega)]|rw[ifnC (by first|assumption|omega|simp_all)]
 have t:=tD t
 refine zg rfl (za (R0 fun _=>st (aS (Iv 1) (zb (zq (zU mT (show _=(Iv 1:Value)from rfl) ?_))))))
 refine⟨?_,(c.s3_)⟩
 congr 1
 rw[xr]
 ·repeat first|rfl|rw[ifpC (by first|assumption|omega)]|rw[ifnC (by first|assumption|omega|simp_all)]
 have s:=yn s
 refine zg rfl (za (R0 fun _=>st (aS (Iv 2) (zb (zq (zU mT (show _=(Iv 2:Value)from rfl) ?_))))))
 refine⟨?_,(c.s3_)⟩
 congr 1
 rw[xr]
 ·repeat first|rfl|rw[ifpC (by first|assumption|omega)]|rw[ifnC (by first|assumption|omega|simp_all)]
 try simp only[zi]at A
 refine zg rfl (za (R0 fun _=>st (aS (Iv 8) (zb (zq (zU mT (show _=(Iv 8:Value)from rfl) ?_))))))
 refine⟨?_,(c.s3_)⟩
 congr 1
 rw[xr]
 ·repeat first|rfl|rw[ifpC (by first|assumption|omega)]|rw[ifnC (by first|assumption|omega|simp_all)]
theorem Qr {a b:Int}(h1:InR a)(h2:InR b):Zp (a+b)=a+b∨(9223372036854775808≤a+b∧Zp (a+b)=a+b-18446744073709551616)∨(a+b< -9223372036854775808∧Zp (a+b)=a+b+18446744073709551616):=by
 unfold Zp
 rw[IntKind.wrap_i64]
 omega
theorem rem_t {l:List Int}{k:Nat}{n:Int}(hk:k<l.length)(h: ¬l.getD k 0=n):Zz (l.take (k+1)) n=Zz (l.take k) n++[l.getD k 0]:=by unfold Zz;rw[List.take_getD hk,List.filter_append];simp only[List.filter_cons,List.filter_nil];rw[if_pos (by simpa using h)]
theorem rem_f {l:List Int}{k:Nat}{n:Int}(hk:k<l.length)(h:l.getD k 0=n):Zz (l.take (k+1)) n=Zz (l.take k) n:=by unfold Zz;rw[List.take_getD (d:=0) hk,List.filter_append];simp only[List.filter_cons,List.filter_nil];rw[if_neg (by simpa using h)];simp
theorem zbU {l:List Int}{n:Int}:(Zz l n).length≤l.length:=List.length_filter_le _ _
theorem zcB {fl:Fld}{cs:List Cel}{c:Cel}{arg:Int}(h1:InR c.n)(h2:InR arg):xC fl cs c 1 arg=(((!((decide (0≤c.n)&&decide (0≤arg))&&decide (IntKind.i64.wrap (c.n+arg)<0)))&&(!((decide (c.n<0)&&decide (arg<0))&&decide (0≤IntKind.i64.wrap (c.n+arg)))))&&(!(fl.floor&&decide (IntKind.i64.wrap (c.n+arg)<0)))):=by
 have hs:=YK (c.n+arg)
 have hw:Zp (c.n+arg)=c.n+arg∨(9223372036854775808≤c.n+arg∧Zp (c.n+arg)=c.n+arg-18446744073709551616)∨(c.n+arg< -9223372036854775808∧Zp (c.n+arg)=c.n+arg+18446744073709551616):=Qr h1 h2
 unfold xC
 rw[if_pos rfl]
 show _=(((!((decide (0≤c.n)&&decide (0≤arg))&&decide (Zp (c.n+arg)<0)))&&(!((decide (c.n<0)&&decide (arg<0))&&decide (0≤Zp (c.n+arg)))))&&(!(fl.floor&&decide (Zp (c.n+arg)<0))))
 generalize Zp (c.n+arg)=s at*
 congr 1
 rw[Bool.eq_iff_iff]
 simp only[Bool.or_eq_true,Bool.and_eq_true,Bool.not_eq_true',decide_eq_true_eq,beq_iff_eq,Bool.and_eq_false_iff,decide_eq_false_iff_not,decide_eq_decide]
 omega
theorem zcy {fl:Fld}{cs:List Cel}{c:Cel}{arg:Int}:xC fl cs c 3 arg=(decide (((c.set.length:Nat):Int)<64)||decide (arg∈c.set)):=by
 unfold xC;rw[if_neg (by decide),if_pos rfl,Bool.or_comm]
theorem zcA {fl:Fld}{cs:List Cel}{c:Cel}{arg:Int}:xC fl cs c 5 arg=(decide (c.n=(Yg fl arg).frm)&&(decide ((Yg fl arg).need<0)||decide ((Yg fl arg).least≤(yE cs (Yg fl arg).need).n))):=by
 unfold xC;rw[if_neg (by decide),if_neg (by decide),if_pos rfl]
theorem may_o {fl:Fld}{cs:List Cel}{c:Cel}{op arg:Int}(h1: ¬op=1)(h3: ¬op=3)(h5: ¬op=5):xC fl cs c op arg=true:=by
 unfold xC;rw[if_neg h1,if_neg h3,if_neg h5]
theorem Vb {t:Typ}{dt0:Value}(hdt0:RdS W G dt0 t.fields)(ot:t.Ok)(hS0:Sep G W Rs w):Ret Tryz.prog 76 [.agg (t.cells dt0).toArray] w (fun r w'=> ∃(v:Value),r=(v:Value)∧Sep G W ((RowE (α:=Cel) own 105 v (List.replicate t.fields.length (⟨0,[]⟩:Cel)))::Rs) w'):=by
 have hdt0s:_*48≤_:=hdt0.small
 refine zn Tryz.func76 rfl rfl ?_
 refine za (R0 fun _=>st (zX rfl ?_))
 intro w3 b2 e
 have c:=hS0.new e
 refine st (aS Iz (zb (za (R0 fun _=>st (yU rfl (st (lD dt0 qT rfl (zd (c.b0) rfl) (st (zC (n:=t.fields.length) wT rfl hdt0.sl (st (Yv (α:=Cel) (T:=105) (bytes:=32) (n:=t.fields.length) (x1:=(⟨0,[]⟩:Cel)) oY ⟨_,_,rfl,rfl,rfl,rfl,rfl,fun _ _=>⟨_,rfl,RdS.nil _ _,⟨by decide⟩⟩⟩ rfl rfl rfl (by show t.fields.length*32≤140737488355328;omega) ?_)))))))))))
 intro f b g he7 hl8 h
 let i:=Iy b t.fields.length t.fields.length
 have a:Sep G W ((RowE (α:=Cel) own 105 i (List.replicate t.fields.length (⟨0,[]⟩:Cel)))::(Blk b2 (t.cells dt0).toArray 83)::Rs) f:=c.made g h
 have d:=a.r0
 refine st (aS i (zb (zq (zU Tryz.results76 (show _=(i:Value)from rfl) ?_))))
 refine⟨i,rfl,(a.s2_a)⟩
theorem JC {vl:Value}{l:List Int}(hl:RdS W G vl l){n:Int}(hn:InR n)(hS0:Sep G W Rs w)(hfew:l.length≤1000):Ret Tryz.prog 91 [vl,.int .i64 (n)] w (fun r w'=> ∃(v:Value),r=(v:Value)∧Sep G W ((RowE (α:=Int) own 3 v (Zz l n))::Rs) w'):=by
 refine zn Tryz.func91 rfl rfl ?_
 refine za (R0 fun _=>st (aS Iz (zb (za (R0 fun _=>st (aS Iz (zb (za (za (R0 fun _=>st (aS (Iv 0) (zb (zt ?_)))))))))))))
 have E:Sep G W ((RowE (α:=Int) own 3 Iz [])::Rs) w:=hS0.rowNil own 3
 refine zZ (fun mq σ J=> ∃k vo ρ,mq=l.length-k∧σ=yf ρ [(0,vl),(1,Iv n),(6,Iw k),(5,vo)]∧(k≤l.length)∧Sep G W ((RowE own 3 vo (Zz (l.take k) n))::Rs) J) ⟨0,(Iz),_,rfl,sSf,zY _,E⟩ ?_
 rintro m3 σ4 w2 ⟨k,vo,ρl1,rfl,rfl,hkk,e⟩
 have F:=e.r0
 have hrl:=zbU (l:=l.take k) (n:=n)
 rw[List.length_take]at hrl
 refine za (za (R0 fun _=>st (mV (Iw k) (st (mV vl (st (zC nT rfl hl.sl (st (zK rfl rfl (zb ?_))))))))))
 cases h:decide (((k:Nat):Int)<((l.length:Nat):Int))
 have h:=fD h
 have H:k=l.length:=by omega
 rw[H,List.take_length]at e
 refine ze rfl (ya (zR (za (R0 fun _=>st (mV vo (st (aS vo (zb (zq (zU Tryz.results91 (show _=(vo:Value)from rfl) ?_))))))))))
 refine⟨vo,rfl,e⟩
 have h:=tD h
 refine zg rfl (zp (za (zt (za (R0 fun _=>st (mV vl (st (mV (Iw k) ?_))))))))
 have I:k<l.length:=bo
 refine st (zf (k:=1) nT sT rfl hl.sl rfl I ?_)
 have f:k<l.length:=bo
 obtain⟨m,u⟩:=hl.intD f
 have p:=e.cells m (hl.foot (ne_of_lt f))
 refine st (lD (Iv ((l.getD k 0))) kT rfl (p.get (j:=0) rfl) (st (mV (Iv n) (st (yy rfl rfl (zb ?_))))))
 cases d: !decide ((l.getD k 0)=n)
 have d:=zQ d
 refine ze rfl (zp (R0 fun _=>st (mV (Iw k) ?_)))
 have x:InR ((k+1:Nat):Int):=bo
 refine st (zO (r:=((k+1:Nat):Int)) rfl rfl (by rw[show(((k:Nat):Int)+1:Int)=((k+1:Nat):Int)from bo];exact zw x) (st (aS (Iw (k+1)) (zb ?_))))
 have y:=(rem_f om d)
 rw[←y]at e
 exact⟨_,by omega,k+1,vo,_,rfl,sSf,by omega,e⟩
 have d:=yn d
 refine zg rfl (R0 fun _=>st (mV vo (st (mV vl (st (mV (Iw k) ?_))))))
 have z:k<l.length:=bo
 refine st (zf (k:=1) nT sT rfl hl.sl rfl z ?_)
 have q:=e.cells m (hl.foot (ne_of_lt f))
 refine st (lD (Iv ((l.getD k 0))) kT rfl (q.get (j:=0) rfl) (st (zH (c:=#[Iv ((l.getD k 0))]) nT sT Tryz.zeroValue3 dc rfl kr ?_)))
 intro w20 b19 A
 have o:=e.new A
 have s:=o.b0
 refine st (yq (src:=own) (bytes:=8) ((o.s2_b).emp1) QU rfl rfl s (fun _ _ _=>(show _ from⟨rfl,u⟩)) yqb rfl ?_)
 intro t w22 g
 have B:=g.r0
 refine st (aS t (zb (R0 fun _=>st (mV (Iw k) ?_))))
 have C:InR ((k+1:Nat):Int):=bo
 refine st (zO (r:=((k+1:Nat):Int)) rfl rfl (by rw[show(((k:Nat):Int)+1:Int)=((k+1:Nat):Int)from bo];exact zw C) (st (aS (Iw (k+1)) (zb ?_))))
 have D:=(rem_t om d)
 rw[←D]at g
 exact⟨_,by omega,k+1,t,_,rfl,sSf,by omega,g⟩
theorem zcg {vl:Value}{l:List Int}(hl:RdS W G vl l){n:Int}(hn:InR n)(hS0:Sep G W Rs w):Ret Tryz.prog 121 [vl,.int .i64 (n)] w (fun r w'=>r=(.bool (decide (n∈l)):Value)∧Sep G W Rs w'):=by
 have hls:_*8≤_:=hl.small
 refine zn Tryz.func121 rfl rfl ?_
 refine za (R0 fun _=>st (aS (.bool false) (zb (za (za (R0 fun _=>st (aS (Iv 0) (zb (zt (zZ (fun mq σ q=> ∃k ρ,mq=l.length-k∧σ=yf ρ [(0,vl),(1,Iv n),(5,Iw k)]∧(k≤l.length)∧(∀i,i<k→ ¬l.getD i 0=n)∧Sep G W Rs q) ⟨0,_,rfl,sSf,zY _,(fun i h=>absurd h (yO i)),hS0⟩ ?_))))))))))
 rintro m2 σ3 w1 ⟨k,ρl1,rfl,rfl,hkk,hm,d⟩
 refine za (za (R0 fun _=>st (mV (Iw k) (st (mV vl (st (zC nT rfl hl.sl (st (zK rfl rfl (zb ?_))))))))))
 cases e:decide (((k:Nat):Int)<((l.length:Nat):Int))
 have e:=fD e
 refine ze rfl (ya (zR (za (R0 fun _=>st (aS (.bool false) (zb (zq (zU vY (show _=(.bool false:Value)from rfl) ?_))))))))
 refine⟨?_,d⟩
 rw[decide_eq_false (UQ (fun i hi=>hm i (by omega)))]
 have e:=tD e
 refine zg rfl (zp (za (zt (za (R0 fun _=>st (mV vl (st (mV (Iw k) ?_))))))))
 have p:k<l.length:=bo
 refine st (zf (k:=1) nT sT rfl hl.sl rfl p ?_)
 have f:k<l.length:=bo
 obtain⟨g,hxe7⟩:=hl.intD f
 have m:=d.cells g (hl.foot (ne_of_lt f))
 refine st (lD (Iv ((l.getD k 0))) kT rfl (m.get (j:=0) rfl) (st (mV (Iv n) (st (zS rfl rfl (zb ?_))))))
 cases c:decide ((l.getD k 0)=n)
 have c:=fD c
 refine ze rfl (zp (R0 fun _=>st (mV (Iw k) ?_)))
 have o:InR ((k+1:Nat):Int):=bo
 refine st (zO (r:=((k+1:Nat):Int)) rfl rfl (by rw[show(((k:Nat):Int)+1:Int)=((k+1:Nat):Int)from bo];exact zw o) (st (aS (Iw (k+1)) (zb ?_))))
 exact⟨_,by omega,k+1,_,rfl,sSf,by omega,(xf hm c),d⟩
 have c:=tD c
 refine zg rfl (za (R0 fun _=>st (aS (.bool true) (zb (zq (zU vY (show _=(.bool true:Value)from rfl) ?_))))))
 refine⟨?_,d⟩
 rw[decide_eq_true (zaN (by omega) c)]
theorem Qg {t:Typ}{dt0:Value}(hdt0:RdS W G dt0 t.fields)(ot:t.Ok){vc:Value}{c:List Cel}(hc:RdS W G vc c){fi:Int}(hfi:InR fi){op:Int}(hop:InR op){arg:Int}(harg:InR arg)(hS0:Sep G W Rs w)(hask:Wy t c fi op arg):Ret Tryz.prog 102 [.agg (t.cells dt0).toArray,vc,.int .i64 (fi),.int .i64 (op),.int .i64 (arg)] w (fun r w'=>r=(.int .i64 ((xB t c fi op arg)):Value)∧Sep G W Rs w'):=by
 let ci:=(((t.fields.gd fi.toNat).moves).gd arg.toNat).cells
 let ch:=zT W (sb dt0) (so dt0+fi.toNat*4+3)
 let cj:=(t.fields.gd fi.toNat).cells ch
 let ce:=zT W (sb vc) (so vc+fi.toNat*2+1)
 let ck:=(c.gd fi.toNat).cells ce
 have hdt0s:_*48≤_:=hdt0.small
 have hcs:_*32≤_:=hc.small
 have ha0:=hask.1
 have ha1:=hask.2.1
 have ha2:=hask.2.2.1
 refine zn Tryz.func102 rfl rfl ?_
 refine za (R0 fun _=>st (zX rfl ?_))
 intro w3 b2 cg
 have aK:=hS0.new cg
 refine st (aS (Iv 0) (zb (za (R0 fun _=>st (yU rfl (st (lD dt0 qT rfl (zd (aK.b0) rfl) (st (mV (Iv fi) ?_)))))))))
 have hi5:fi.toNat<t.fields.length:=bo
 refine st (zB (k:=4) (i:=fi) wT lT rfl hdt0.sl rfl ⟨by omega,by omega⟩ ?_)
 have bU:fi.toNat<t.fields.length:=bo
 obtain⟨bW,x,hoke6⟩:=hdt0.fldD bU
 have hsm8:((t.fields.gd fi.toNat).moves).length*32≤140737488355328:=x.small
 have bX:=aK.cells bW (hdt0.foot (ne_of_lt bU))
 refine st (zh oT lT rfl rfl bX (st (zG lR ?_)))
 intro w12 af bY
 have aL:=aK.new bY
 refine stn (zy (v:=.agg cj.toArray) lT rfl rfl (aL.b0) (yo ⟨rfl,rfl,rfl,x.sl.one,zl⟩) yqc rfl ?_)
 intro w14 bZ
 have aM:=aL.pt0 bZ
 refine zb (za (R0 fun _=>st (mV vc (st (mV (Iv fi) ?_)))))
 have hi17:fi.toNat<c.length:=bo
 refine st (zB (k:=2) (i:=fi) oY tR rfl hc.sl rfl ⟨by omega,by omega⟩ ?_)
 have aN:fi.toNat<c.length:=bo
 obtain⟨aU,z,ag⟩:=hc.celD aN
 have hsm20:((c.gd fi.toNat).set).length*8≤140737488355328:=z.small
 have aV:=aM.cells aU (hc.foot (ne_of_lt aN))
 refine st (zh Tryz.isAgg105 tR rfl rfl aV (st (zG Tryz.zeroValue105 ?_)))
 intro w24 U ca
 have aO:=aM.new ca
 refine stn (zy (v:=.agg ck.toArray) tR rfl rfl (aO.b0) (yo ⟨rfl,z.sl.one,zl⟩) yqc rfl ?_)
 intro w26 cb
 have g:=aO.pt0 cb
 refine zb (za (R0 fun _=>st (aS (.bool true) (zb (za (za (R0 fun _=>st (mV (Iv op) (zb (zt (za (R0 fun _=>st (zS rfl rfl (st (aS (.bool (decide (op=1))) (zb ?_))))))))))))))))
 cases B:decide (op=1)
 have hc29r:=B
 have B:=fD B
 refine ze rfl (za (R0 fun _=>st (zS rfl rfl (st (aS (.bool (decide (op=3))) (zb ?_))))))
 cases C:decide (op=3)
 have hc30r:=C
 have C:=fD C
 refine ze rfl (za (R0 fun _=>st (zS rfl rfl (st (aS (.bool (decide (op=5))) (zb ?_))))))
 cases y:decide (op=5)
 have hc31r:=y
 have y:=fD y
 refine ze rfl (zp (za (za (R0 fun _=>st (mV (.bool true) (zb (zg rfl (za (R0 fun _=>st (aS (Iv 0) (zb (zq (zU kR (show _=(Iv 0:Value)from rfl) ?_)))))))))))))
 refine⟨?_,(g.s3_)⟩
 congr 1
 have o:xC (xn t fi) c (yE c fi) op arg=true:=may_o om om om
 unfold xB
 rw[o];rfl
 have y:=tD y
 have bV:=hask.2.2.2.2 y
 have ha51:arg<(t.fields.gd fi.toNat).moves.length:=bV.2.1
 have ha52:((t.fields.gd fi.toNat).moves.gd arg.toNat).need<0∨((t.fields.gd fi.toNat).moves.gd arg.toNat).need<c.length:=bV.2.2
 refine zg rfl (za (R0 fun _=>st (yT rfl (st (lD ch mR rfl (zd (g.b1) rfl) (st (mV (Iv arg) ?_)))))))
 have hi33:arg.toNat<((t.fields.gd fi.toNat).moves).length:=bo
 refine st (zB rT pT rfl x.sl rfl ⟨by omega,by omega⟩ ?_)
 have aP:arg.toNat<((t.fields.gd fi.toNat).moves).length:=bo
 obtain⟨aW,hoke34⟩:=x.mvD aP
 have aX:=g.cells aW (x.foot (ne_of_lt aP))
 refine st (zh uR pT rfl rfl aX (st (zG vR ?_)))
 intro w39 X cc
 have aQ:=g.new cc
 refine stn (zy (v:=.agg ci.toArray) pT rfl rfl (aQ.b0) (yo ⟨rfl,rfl,rfl,rfl,zl⟩) yqc rfl ?_)
 intro w41 cd
 refine zb ?_
 refine WD4 (WF [fun vals wq=>Sep G W ((Blk X ci.toArray 90)::(Blk U ck.toArray 105)::(Blk af cj.toArray 87)::(Blk b2 (t.cells dt0).toArray 83)::Rs) wq]) (AF [Vl 0 (Ix U 0),Vl 1 (Iv ((c.gd fi.toNat).n)),Vl 2 (Ix X 0),Vl 3 (Iv ((((t.fields.gd fi.toNat).moves).gd arg.toNat).frm)),Vl 4 (.bool (decide (((c.gd fi.toNat).n)=((((t.fields.gd fi.toNat).moves).gd arg.toNat).frm)))),Vl 5 (.bool (decide (((c.gd fi.toNat).n)=((((t.fields.gd fi.toNat).moves).gd arg.toNat).frm)))),Vl 6 (if(decide (((c.gd fi.toNat).n)=((((t.fields.gd fi.toNat).moves).gd arg.toNat).frm)))=true then Ix X 2 else undef),Vl 7 (if(decide (((c.gd fi.toNat).n)=((((t.fields.gd fi.toNat).moves).gd arg.toNat).frm)))=true then Iv ((((t.fields.gd fi.toNat).moves).gd arg.toNat).need)else undef),Vl 8 (if(decide (((c.gd fi.toNat).n)=((((t.fields.gd fi.toNat).moves).gd arg.toNat).frm)))=true then .bool (decide (((((t.fields.gd fi.toNat).moves).gd arg.toNat).need)<0))else undef),Vl 9 (if(decide (((c.gd fi.toNat).n)=((((t.fields.gd fi.toNat).moves).gd arg.toNat).frm)))=true then .bool (decide (((((t.fields.gd fi.toNat).moves).gd arg.toNat).need)<0))else undef),Vl 10 (if((decide (((c.gd fi.toNat).n)=((((t.fields.gd fi.toNat).moves).gd arg.toNat).frm)))=true)∧(decide (((((t.fields.gd fi.toNat).moves).gd arg.toNat).need)<0))=false then vc else undef),Vl 11 (if((decide (((c.gd fi.toNat).n)=((((t.fields.gd fi.toNat).moves).gd arg.toNat).frm)))=true)∧(decide (((((t.fields.gd fi.toNat).moves).gd arg.toNat).need)<0))=false then Ix X 2 else undef),Vl 12 (if((decide (((c.gd fi.toNat).n)=((((t.fields.gd fi.toNat).moves).gd arg.toNat).frm)))=true)∧(decide (((((t.fields.gd fi.toNat).moves).gd arg.toNat).need)<0))=false then Iv ((((t.fields.gd fi.toNat).moves).gd arg.toNat).need)else undef),Vl 13 (if((decide (((c.gd fi.toNat).n)=((((t.fields.gd fi.toNat).moves).gd arg.toNat).frm)))=true)∧(decide (((((t.fields.gd fi.toNat).moves).gd arg.toNat).need)<0))=false then Ix (sb vc) (so vc+(((((t.fields.gd fi.toNat).moves).gd arg.toNat).need).toNat)*2)else undef),Vl 14 (if((decide (((c.gd fi.toNat).n)=((((t.fields.gd fi.toNat).moves).gd arg.toNat).frm)))=true)∧(decide (((((t.fields.gd fi.toNat).moves).gd arg.toNat).need)<0))=false then Ix (sb vc) (so vc+(((((t.fields.gd fi.toNat).moves).gd arg.toNat).need).toNat)*2)else undef),Vl 15 (if((decide (((c.gd fi.toNat).n)=((((t.fields.gd fi.toNat).moves).gd arg.toNat).frm)))=true)∧(decide (((((t.fields.gd fi.toNat).moves).gd arg.toNat).need)<0))=false then Iv ((c.gd (((((t.fields.gd fi.toNat).moves).gd arg.toNat).need).toNat)).n)else undef),Vl 16 (if((decide (((c.gd fi.toNat).n)=((((t.fields.gd fi.toNat).moves).gd arg.toNat).frm)))=true)∧(decide (((((t.fields.gd fi.toNat).moves).gd arg.toNat).need)<0))=false then Ix X 3 else undef),Vl 17 (if((decide (((c.gd fi.toNat).n)=((((t.fields.gd fi.toNat).moves).gd arg.toNat).frm)))=true)∧(decide (((((t.fields.gd fi.toNat).moves).gd arg.toNat).need)<0))=false then Iv ((((t.fields.gd fi.toNat).moves).gd arg.toNat).least)else undef),Vl 18 (if((decide (((c.gd fi.toNat).n)=((((t.fields.gd fi.toNat).moves).gd arg.toNat).frm)))=true)∧(decide (((((t.fields.gd fi.toNat).moves).gd arg.toNat).need)<0))=false then .bool (decide (((((t.fields.gd fi.toNat).moves).gd arg.toNat).least)≤((c.gd (((((t.fields.gd fi.toNat).moves).gd arg.toNat).need).toNat)).n)))else undef),Vl 19 (if(decide (((c.gd fi.toNat).n)=((((t.fields.gd fi.toNat).moves).gd arg.toNat).frm)))=true then .bool ((decide (((((t.fields.gd fi.toNat).moves).gd arg.toNat).need)<0))||(decide (((((t.fields.gd fi.toNat).moves).gd arg.toNat).least)≤((c.gd (((((t.fields.gd fi.toNat).moves).gd arg.toNat).need).toNat)).n))))else undef),Vl 20 (.bool ((decide (((c.gd fi.toNat).n)=((((t.fields.gd fi.toNat).moves).gd arg.toNat).frm)))&&((decide (((((t.fields.gd fi.toNat).moves).gd arg.toNat).need)<0))||(decide (((((t.fields.gd fi.toNat).moves).gd arg.toNat).least)≤((c.gd (((((t.fields.gd fi.toNat).moves).gd arg.toNat).need).toNat)).n)))))),Vl 21 (.bool ((decide (((c.gd fi.toNat).n)=((((t.fields.gd fi.toNat).moves).gd arg.toNat).frm)))&&((decide (((((t.fields.gd fi.toNat).moves).gd arg.toNat).need)<0))||(decide (((((t.fields.gd fi.toNat).moves).gd arg.toNat).least)≤((c.gd (((((t.fields.gd fi.toNat).moves).gd arg.toNat).need).toNat)).n))))))]) [[],[0],[],[2],(rg 4),(rg 5),(rg 6),(rg 7),(rg 8),(rg 9),(rg 10),(rg 10),[0,1,2,3,4,5,6,7,8,9,11],(rg 13),(rg 14),(rg 15),(rg 10),[0,1,2,3,4,5,6,7,8,9,16],(rg 18),(rg 19),(rg 20),(rg 21)] [] [(0,0),(0,0),(0,0),(0,0),(0,0),(0,0),(0,0),(0,0),(0,0),(0,0),(0,0),(0,0),(0,0),(0,0),(0,0),(0,0),(0,0),(0,0),(0,0),(0,0),(0,0),(0,0)] (aQ.pt0 cd) ⟨fun _ _ _ _ _ _ _=>obl rfl (xa rfl dR),ob1 0 fun _ _ (aY:Sep _ _ _ _) aZ=>obl rfl (lD (Iv ((c.gd fi.toNat).n)) kT (aZ 0 dc) (zd (aY.b1) rfl) dR),fun _ _ _ _ _ _ _=>obl rfl (QQ rfl dR),ob1 0 fun _ _ (ba:Sep _ _ _ _) bb=>obl rfl (lD (Iv ((((t.fields.gd fi.toNat).moves).gd arg.toNat).frm)) kT (bb 2 dc) (zd (ba.b0) rfl) dR),ob1 0 fun _ _ _ ai=>obl rfl (zS (ai 1 dc) (ai 3 dc) dR),fun _ _ _ _ _ _ bc=>obl rfl (zP (bc 4 dc) dR),?_,?_,?_,?_,?_,?_,?_,?_,?_,?_,?_,?_,?_,?_,?_,fun _ _ _ _ _ _ bd=>obl rfl (zM (bd 20 dc) dR),zl⟩ ?_
 refine fun _ _ _ _ _ _ be=>(zN rfl rfl (be 5 dc) (fun K=>?_) yd)
 have hl315:=tD K
 exact Xp rfl (yc K)
 refine ob1 0 fun _ _ (bf:Sep _ _ _ _) aj=>(zN rfl rfl (aj 5 dc) (fun D=>?_) yd)
 have hl326:=tD D
 exact lD (Iv ((((t.fields.gd fi.toNat).moves).gd arg.toNat).need)) kT (zr (aj 6 dc) (ifpC D)) (zd (bf.b0) rfl) (yc D)
 refine ob1 0 fun _ _ _ ak=>(zN rfl rfl (ak 5 dc) (fun E=>?_) yd)
 have hl337:=tD E
 exact zK (zr (ak 7 dc) (ifpC E)) rfl (yc E)
 refine fun _ _ _ _ _ _ al=>(zN rfl rfl (al 5 dc) (fun F=>?_) yd)
 have hl347:=tD F
 exact zP (zr (al 8 dc) (ifpC F)) (yc F)
 refine fun _ _ _ _ _ _ bg=>(xS rfl rfl (bg 9 dc) (fun H=>?_) yd)
 have hl356:=tD H.1
 have hl357:=fD H.2
 exact mV vc (yc H)
 refine fun _ _ _ _ _ _ bh=>(xS rfl rfl (bh 9 dc) (fun I=>?_) yd)
 have hl366:=tD I.1
 have hl367:=fD I.2
 exact Xp rfl (yc I)
 refine ob1 0 fun _ _ (bi:Sep _ _ _ _) am=>(xS rfl rfl (am 9 dc) (fun p=>?_) yd)
 have hl378:=tD p.1
 have hl379:=fD p.2
 exact lD (Iv ((((t.fields.gd fi.toNat).moves).gd arg.toNat).need)) kT (zr (am 11 dc) (ifpC ⟨p.1,p.2⟩)) (zd (bi.b0) rfl) (yc p)
 refine ob1 0 fun _ _ _ Y=>(xS rfl rfl (Y 9 dc) (fun h=>?_) yd)
 have hl391:=tD h.1
 have hl392:=fD h.2
 have hi393:((((t.fields.gd fi.toNat).moves).gd arg.toNat).need).toNat<c.length:=bo
 exact zB oY tR (zr (Y 10 dc) (ifpC ⟨h.1,h.2⟩)) hc.sl (zr (Y 12 dc) (ifpC ⟨h.1,h.2⟩)) ⟨by omega,by omega⟩ (yc h)
 refine fun _ _ _ _ _ _ an=>(xS rfl rfl (an 9 dc) (fun q=>?_) yd)
 have hl403:=tD q.1
 have hl404:=fD q.2
 exact xa (zr (an 13 dc) (ifpC ⟨q.1,q.2⟩)) (yc q)
 refine ob1 0 fun _ _ (bj:Sep _ _ _ _) ao=>(xS rfl rfl (ao 9 dc) (fun s=>?_) yd)
 have hl415:=tD s.1
 have hl416:=fD s.2
 have ap:((((t.fields.gd fi.toNat).moves).gd arg.toNat).need).toNat<c.length:=bo
 obtain⟨aR,ah,hoke417⟩:=hc.celD ap
 have hsm419:((c.gd (((((t.fields.gd fi.toNat).moves).gd arg.toNat).need).toNat)).set).length*8≤140737488355328:=ah.small
 have aT:=bj.cells aR (hc.foot (ne_of_lt ap))
 exact lD (Iv ((c.gd (((((t.fields.gd fi.toNat).moves).gd arg.toNat).need).toNat)).n)) kT (zr (ao 14 dc) (ifpC ⟨s.1,s.2⟩)) (aT.get (j:=0) rfl) (yc s)
 refine fun _ _ _ _ _ _ bk=>(xS rfl rfl (bk 9 dc) (fun J=>?_) yd)
 have hl429:=tD J.1
 have hl430:=fD J.2
 exact Km rfl (yc J)
 refine ob1 0 fun _ _ (bl:Sep _ _ _ _) aq=>(xS rfl rfl (aq 9 dc) (fun u=>?_) yd)
 have hl441:=tD u.1
 have hl442:=fD u.2
 exact lD (Iv ((((t.fields.gd fi.toNat).moves).gd arg.toNat).least)) kT (zr (aq 16 dc) (ifpC ⟨u.1,u.2⟩)) (zd (bl.b0) rfl) (yc u)
 refine ob1 0 fun _ _ _ Z=>(xS rfl rfl (Z 9 dc) (fun m=>?_) yd)
 have hl454:=tD m.1
 have hl455:=fD m.2
 exact xv (zr (Z 15 dc) (ifpC ⟨m.1,m.2⟩)) (zr (Z 17 dc) (ifpC ⟨m.1,m.2⟩)) (yc m)
 refine fun _ _ _ _ _ _ aa=>(zN rfl rfl (aa 5 dc) (fun A=>?_) yd)
 have hl466:=tD A
 exact zI (zr (aa 9 dc) (ifpC A)) (fun hbp=>(zr (aa 18 dc) (ifpC ⟨A,hbp⟩))) (yc A)
 exact fun _ _ _ _ _ _ ar=>obl rfl (zx (ar 5 dc) (fun hbp=>(zr (ar 19 dc) (ifpC hbp))) dR)
 intro vals w482 bm bn
 have au:=bm
 have cf:=bn 21 dc
 refine yg (kv:=[(0,.agg (t.cells dt0).toArray),(1,vc),(2,Iv fi),(3,Iv op),(4,Iv arg),(5,Ix b2 0),(10,Iv 0),(16,Ix b2 0),(17,dt0),(18,Iv fi),(19,Ix (sb dt0) (so dt0+fi.toNat*4)),(20,.agg ((t.fields.gd fi.toNat).cells (zT W (sb dt0) (so dt0+fi.toNat*4+3))).toArray),(11,Ix af 0),(21,vc),(22,Iv fi),(23,Ix (sb vc) (so vc+fi.toNat*2)),(24,.agg ((c.gd fi.toNat).cells (zT W (sb vc) (so vc+fi.toNat*2+1))).toArray),(12,Ix U 0),(13,.bool ((decide (((c.gd fi.toNat).n)=((((t.fields.gd fi.toNat).moves).gd arg.toNat).frm)))&&((decide (((((t.fields.gd fi.toNat).moves).gd arg.toNat).need)<0))||(decide (((((t.fields.gd fi.toNat).moves).gd arg.toNat).least)≤((c.gd (((((t.fields.gd fi.toNat).moves).gd arg.toNat).need).toNat)).n)))))),(25,Iv op),(27,.bool false),(26,.bool false),(68,.bool false),(67,.bool false),(80,.bool true),(79,.bool true),(81,Ix af 3),(82,(zT W (sb dt0) (so dt0+fi.toNat*4+3))),(83,Iv arg),(84,Ix (sb (zT W (sb dt0) (so dt0+fi.toNat*4+3))) (so (zT W (sb dt0) (so dt0+fi.toNat*4+3))+arg.toNat*4)),(85,.agg ((((t.fields.gd fi.toNat).moves).gd arg.toNat).cells).toArray),(15,Ix X 0)]) ⟨rfl,rfl,rfl,rfl,rfl,rfl,rfl,rfl,rfl,rfl,rfl,rfl,rfl,rfl,rfl,rfl,rfl,rfl,(by exact cf),rfl,rfl,rfl,rfl,rfl,rfl,rfl,rfl,rfl,rfl,rfl,rfl,rfl,zl⟩ (fun ρw482=>?_)
 refine zb (za (za (R0 fun _=>st (mV (.bool ((decide (((c.gd fi.toNat).n)=((((t.fields.gd fi.toNat).moves).gd arg.toNat).frm)))&&((decide (((((t.fields.gd fi.toNat).moves).gd arg.toNat).need)<0))||(decide (((((t.fields.gd fi.toNat).moves).gd arg.toNat).least)≤((c.gd (((((t.fields.gd fi.toNat).moves).gd arg.toNat).need).toNat)).n)))))) (zb ?_)))))
 cases L:(decide (((c.gd fi.toNat).n)=((((t.fields.gd fi.toNat).moves).gd arg.toNat).frm)))&&((decide (((((t.fields.gd fi.toNat).moves).gd arg.toNat).need)<0))||(decide (((((t.fields.gd fi.toNat).moves).gd arg.toNat).least)≤((c.gd (((((t.fields.gd fi.toNat).moves).gd arg.toNat).need).toNat)).n))))
 have R:=L
 try simp only[zi]at L
 refine ze rfl (zp (za (R0 fun _=>st (aS (Iv 10) (zb (zq (zU kR (show _=(Iv 10:Value)from rfl) ?_)))))))
 refine⟨?_,(au.s4_)⟩
 congr 1
 have o:xC (xn t fi) c (yE c fi) op arg=false:=by rw[y];exact(zcA).trans R
 unfold xB
 rw[o];rfl
 have R:=L
 try simp only[zi]at L
 refine zg rfl (za (R0 fun _=>st (aS (Iv 0) (zb (zq (zU kR (show _=(Iv 0:Value)from rfl) ?_))))))
 refine⟨?_,(au.s4_)⟩
 congr 1
 have o:xC (xn t fi) c (yE c fi) op arg=true:=by rw[y];exact(zcA).trans R
 unfold xB
 rw[o];rfl
 have C:=tD C
 refine zg rfl (zF kr (st (yY rfl (st (lD ce mY rfl (zd (g.b0) rfl) (st (zC nT rfl z.sl (st (zK rfl rfl (st (mV (.bool (decide (((((c.gd fi.toNat).set).length:Nat):Int)<64))) (stc (V:=Ix U 1) rfl rfl (fun bp=>?_) ?_))))))))))))
 have hl491:=fD bp
 exact yY rfl rflB
 refine stc (V:=ce) rfl rfl (fun av=>?_) ?_
 have hl493:=fD av
 exact lD ce mY (ifpC av) (zd (g.b0) rfl) rflB
 refine stc (V:=Iv arg) rfl rfl (fun bq=>?_) ?_
 have hl495:=fD bq
 exact mV (Iv arg) rflB
 refine zdh (V:=.bool (decide (arg∈((c.gd fi.toNat).set)))) (fun _ wq=>Sep G W ((Blk U ck.toArray 105)::(Blk af cj.toArray 87)::(Blk b2 (t.cells dt0).toArray 83)::Rs) wq) g rfl rfl (fun ab=>?_) (fun w500 aw=>?_)
 have hl497:=fD ab
 refine(zW (vals:=[ce,Iv arg]) rfl (yM ⟨(ifpC ab),(ifpC ab),zl⟩) Tryz.call121 (zcg z harg g) ?_)
 rintro _ w498 ⟨rfl,br⟩
 exact⟨rfl,br⟩
 refine st (zI rfl (fun hbp=>(ifpC hbp)) (st (aS (.bool ((decide (((((c.gd fi.toNat).set).length:Nat):Int)<64))||(decide (arg∈((c.gd fi.toNat).set))))) (zb (za (za (R0 fun _=>st (mV (.bool ((decide (((((c.gd fi.toNat).set).length:Nat):Int)<64))||(decide (arg∈((c.gd fi.toNat).set))))) (zb ?_)))))))))
 cases M:(decide (((((c.gd fi.toNat).set).length:Nat):Int)<64))||(decide (arg∈((c.gd fi.toNat).set)))
 have S:=M
 try simp only[zi]at M
 refine ze rfl (zp (za (R0 fun _=>st (aS (Iv 10) (zb (zq (zU kR (show _=(Iv 10:Value)from rfl) ?_)))))))
 refine⟨?_,(aw.s3_)⟩
 congr 1
 have o:xC (xn t fi) c (yE c fi) op arg=false:=by rw[C];exact(zcy).trans S
 unfold xB
 rw[o];rfl
 have S:=M
 try simp only[zi]at M
 refine zg rfl (za (R0 fun _=>st (aS (Iv 0) (zb (zq (zU kR (show _=(Iv 0:Value)from rfl) ?_))))))
 refine⟨?_,(aw.s3_)⟩
 congr 1
 have o:xC (xn t fi) c (yE c fi) op arg=true:=by rw[C];exact(zcy).trans S
 unfold xB
 rw[o];rfl
 have B:=tD B
 refine zg rfl (za (R0 fun _=>st (xa rfl (st (lD (Iv ((c.gd fi.toNat).n)) kT rfl (zd (g.b0) rfl) (st (mV (Iv arg) (st (zO (r:=IntKind.i64.wrap (((c.gd fi.toNat).n)+arg)) rfl rfl rfl (st (aS (Iv (IntKind.i64.wrap (((c.gd fi.toNat).n)+arg))) (zb (zF kr (st (xa rfl (st (lD (Iv ((c.gd fi.toNat).n)) kT rfl (zd (g.b0) rfl) (st (xv rfl rfl (st (mV (.bool (decide (0≤((c.gd fi.toNat).n)))) (stc (V:=Iv arg) rfl rfl (fun bs=>?_) ?_))))))))))))))))))))))
 have hl506:=tD bs
 exact mV (Iv arg) rflB
 refine stc (V:=.bool (decide (0≤arg))) rfl rfl (fun ax=>?_) ?_
 have hl508:=tD ax
 exact xv (ifpC ax) rfl rflB
 refine st (zx rfl (fun hbp=>(ifpC hbp)) (st (mV (.bool ((decide (0≤((c.gd fi.toNat).n)))&&(decide (0≤arg)))) (stc (V:=Iv (IntKind.i64.wrap (((c.gd fi.toNat).n)+arg))) rfl rfl (fun bt=>?_) ?_))))
 have bu:=bt
 try simp only[zi]at bu
 exact mV (Iv (IntKind.i64.wrap (((c.gd fi.toNat).n)+arg))) rflB
 refine stc (V:=.bool (decide ((IntKind.i64.wrap (((c.gd fi.toNat).n)+arg))<0))) rfl rfl (fun ay=>?_) ?_
 have bv:=ay
 try simp only[zi]at bv
 exact zK (ifpC ay) rfl rflB
 refine st (zx rfl (fun hbp=>(ifpC hbp)) (st (yD rfl (st (mV (.bool (!(((decide (0≤((c.gd fi.toNat).n)))&&(decide (0≤arg)))&&(decide ((IntKind.i64.wrap (((c.gd fi.toNat).n)+arg))<0))))) (stc (V:=Ix U 0) rfl rfl (fun bw=>?_) ?_))))))
 have bx:=bw
 try simp only[zi]at bx
 exact xa rfl rflB
 refine stc (V:=Iv ((c.gd fi.toNat).n)) rfl rfl (fun az=>?_) ?_
 have bz:=az
 try simp only[zi]at bz
 exact lD (Iv ((c.gd fi.toNat).n)) kT (ifpC az) (zd (g.b0) rfl) rflB
 refine stc (V:=.bool (decide (((c.gd fi.toNat).n)<0))) rfl rfl (fun aA=>?_) ?_
 have bA:=aA
 try simp only[zi]at bA
 exact zK (ifpC aA) rfl rflB
 refine stc (V:=.bool (decide (((c.gd fi.toNat).n)<0))) rfl rfl (fun aB=>?_) ?_
 have bB:=aB
 try simp only[zi]at bB
 exact zP (ifpC aB) rflB
 refine yZ (V:=Iv arg) rfl rfl (fun aC=>?_) ?_
 have bC:=aC.1
 try simp only[zi]at bC
 have hl523:=tD aC.2
 exact mV (Iv arg) rflB
 refine yZ (V:=.bool (decide (arg<0))) rfl rfl (fun N=>?_) ?_
 have bD:=N.1
 try simp only[zi]at bD
 have hl526:=tD N.2
 exact zK (ifpC ⟨N.1,N.2⟩) rfl rflB
 refine stc (V:=.bool ((decide (((c.gd fi.toNat).n)<0))&&(decide (arg<0)))) rfl rfl (fun ac=>?_) ?_
 have bE:=ac
 try simp only[zi]at bE
 exact zx (ifpC ac) (fun hbp=>(ifpC ⟨ac,hbp⟩)) rflB
 refine stc (V:=.bool ((decide (((c.gd fi.toNat).n)<0))&&(decide (arg<0)))) rfl rfl (fun aD=>?_) ?_
 have bF:=aD
 try simp only[zi]at bF
 exact zP (ifpC aD) rflB
 refine yZ (V:=Iv (IntKind.i64.wrap (((c.gd fi.toNat).n)+arg))) rfl rfl (fun aE=>?_) ?_
 have bG:=aE.1
 try simp only[zi]at bG
 have bH:=aE.2
 try simp only[zi]at bH
 exact mV (Iv (IntKind.i64.wrap (((c.gd fi.toNat).n)+arg))) rflB
 refine yZ (V:=.bool (decide (0≤(IntKind.i64.wrap (((c.gd fi.toNat).n)+arg))))) rfl rfl (fun O=>?_) ?_
 have bI:=O.1
 try simp only[zi]at bI
 have bJ:=O.2
 try simp only[zi]at bJ
 exact xv (ifpC ⟨O.1,O.2⟩) rfl rflB
 refine stc (V:=.bool (((decide (((c.gd fi.toNat).n)<0))&&(decide (arg<0)))&&(decide (0≤(IntKind.i64.wrap (((c.gd fi.toNat).n)+arg)))))) rfl rfl (fun ad=>?_) ?_
 have bK:=ad
 try simp only[zi]at bK
 exact zx (ifpC ad) (fun hbp=>(ifpC ⟨ad,hbp⟩)) rflB
 refine stc (V:=.bool (!(((decide (((c.gd fi.toNat).n)<0))&&(decide (arg<0)))&&(decide (0≤(IntKind.i64.wrap (((c.gd fi.toNat).n)+arg))))))) rfl rfl (fun aF=>?_) ?_
 have bL:=aF
 try simp only[zi]at bL
 exact yD (ifpC aF) rflB
 refine st (zx rfl (fun hbp=>(ifpC hbp)) (st (mV (.bool ((!(((decide (0≤((c.gd fi.toNat).n)))&&(decide (0≤arg)))&&(decide ((IntKind.i64.wrap (((c.gd fi.toNat).n)+arg))<0))))&&(!(((decide (((c.gd fi.toNat).n)<0))&&(decide (arg<0)))&&(decide (0≤(IntKind.i64.wrap (((c.gd fi.toNat).n)+arg)))))))) (stc (V:=Ix af 2) rfl rfl (fun bM=>?_) ?_))))
 have bN:=bM
 try simp only[zi]at bN
 exact Uo rfl rflB
 refine stc (V:=.bool ((t.fields.gd fi.toNat).floor)) rfl rfl (fun aG=>?_) ?_
 have bO:=aG
 try simp only[zi]at bO
 exact lD (.bool ((t.fields.gd fi.toNat).floor)) Tryz.isAgg4 (ifpC aG) (zd (g.b1) rfl) rflB
 refine stc (V:=.bool ((t.fields.gd fi.toNat).floor)) rfl rfl (fun aH=>?_) ?_
 have bP:=aH
 try simp only[zi]at bP
 exact zP (ifpC aH) rflB
 refine yZ (V:=Iv (IntKind.i64.wrap (((c.gd fi.toNat).n)+arg))) rfl rfl (fun aI=>?_) ?_
 have bQ:=aI.1
 try simp only[zi]at bQ
 have hl549:=aI.2
 exact mV (Iv (IntKind.i64.wrap (((c.gd fi.toNat).n)+arg))) rflB
 refine yZ (V:=.bool (decide ((IntKind.i64.wrap (((c.gd fi.toNat).n)+arg))<0))) rfl rfl (fun P=>?_) ?_
 have bR:=P.1
 try simp only[zi]at bR
 have hl552:=P.2
 exact zK (ifpC ⟨P.1,P.2⟩) rfl rflB
 refine stc (V:=.bool (((t.fields.gd fi.toNat).floor)&&(decide ((IntKind.i64.wrap (((c.gd fi.toNat).n)+arg))<0)))) rfl rfl (fun ae=>?_) ?_
 have bS:=ae
 try simp only[zi]at bS
 exact zx (ifpC ae) (fun hbp=>(ifpC ⟨ae,hbp⟩)) rflB
 refine stc (V:=.bool (!(((t.fields.gd fi.toNat).floor)&&(decide ((IntKind.i64.wrap (((c.gd fi.toNat).n)+arg))<0))))) rfl rfl (fun aJ=>?_) ?_
 have bT:=aJ
 try simp only[zi]at bT
 exact yD (ifpC aJ) rflB
 refine st (zx rfl (fun hbp=>(ifpC hbp)) (st (aS (.bool (((!(((decide (0≤((c.gd fi.toNat).n)))&&(decide (0≤arg)))&&(decide ((IntKind.i64.wrap (((c.gd fi.toNat).n)+arg))<0))))&&(!(((decide (((c.gd fi.toNat).n)<0))&&(decide (arg<0)))&&(decide (0≤(IntKind.i64.wrap (((c.gd fi.toNat).n)+arg)))))))&&(!(((t.fields.gd fi.toNat).floor)&&(decide ((IntKind.i64.wrap (((c.gd fi.toNat).n)+arg))<0)))))) (zb (za (za (R0 fun _=>?_)))))))
 refine st (mV (.bool (((!(((decide (0≤((c.gd fi.toNat).n)))&&(decide (0≤arg)))&&(decide ((IntKind.i64.wrap (((c.gd fi.toNat).n)+arg))<0))))&&(!(((decide (((c.gd fi.toNat).n)<0))&&(decide (arg<0)))&&(decide (0≤(IntKind.i64.wrap (((c.gd fi.toNat).n)+arg)))))))&&(!(((t.fields.gd fi.toNat).floor)&&(decide ((IntKind.i64.wrap (((c.gd fi.toNat).n)+arg))<0)))))) (zb ?_))
 cases Q:((!(((decide (0≤((c.gd fi.toNat).n)))&&(decide (0≤arg)))&&(decide ((IntKind.i64.wrap (((c.gd fi.toNat).n)+arg))<0))))&&(!(((decide (((c.gd fi.toNat).n)<0))&&(decide (arg<0)))&&(decide (0≤(IntKind.i64.wrap (((c.gd fi.toNat).n)+arg)))))))&&(!(((t.fields.gd fi.toNat).floor)&&(decide ((IntKind.i64.wrap (((c.gd fi.toNat).n)+arg))<0))))
 have T:=Q
 try simp only[zi]at Q
 refine ze rfl (zp (za (R0 fun _=>st (aS (Iv 10) (zb (zq (zU kR (show _=(Iv 10:Value)from rfl) ?_)))))))
 refine⟨?_,(g.s3_)⟩
 congr 1
 have o:xC (xn t fi) c (yE c fi) op arg=false:=by rw[B];exact(zcB (ag).n harg).trans T
 unfold xB
 rw[o];rfl
 have T:=Q
 try simp only[zi]at Q
 refine zg rfl (za (R0 fun _=>st (aS (Iv 0) (zb (zq (zU kR (show _=(Iv 0:Value)from rfl) ?_))))))
 refine⟨?_,(g.s3_)⟩
 congr 1
 have o:xC (xn t fi) c (yE c fi) op arg=true:=by rw[B];exact(zcB (ag).n harg).trans T
 unfold xB
 rw[o];rfl
end
end Go.Proofs.YtpdolkiohjdodaaGreatDoor
