import Derived.Test.YtpdolkiohjdodaaGreatDoorM13
set_option maxRecDepth 8000
set_option maxHeartbeats 4000000
set_option linter.unusedSimpArgs false
set_option linter.unusedVariables false
set_option linter.unusedSectionVars false
set_option linter.deprecated false
open Go.Proofs.Tryz renaming underlying42→kT,sizeOf57→lT,isAgg3→mT,underlying26→nT,zeroValue48→oT,sizeOf48→pT,sizeOf55→qT,isAgg25→rT,sizeOf25→sT,underlying27→tT,call6→uT,sizeOf38→vT,call25→wT,isAgg53→kR,call23→lR,sizeOf3→mR,isAgg23→nR,underlying23→oR,call19→pR,results3→qR,call20→rR,call21→sR,isAgg48→tR
namespace Go.Proofs.YtpdolkiohjdodaaGreatDoor
variable {G:Nat→Prop}{W w:World}{Rs:List HP}
section
open Go.Proofs Go.RowKit
theorem VR {w0:World}{f0:Nat→Prop}{vl:Value}{l:List Ev}(hl9:RdS w0 f0 vl l)(hS0:Sep G W ((ML w0 f0 noX)::Rs) w):Ret Tryz.prog 15 [vl] w (fun r w'=>r=(.tuple #[]:Value)∧Sep G W Rs w'):=by
 have hl9s:_*96≤_:=hl9.small
 refine zn (args:=[vl]) Tryz.func15 rfl rfl ?_
 refine za (R0 fun _=>st (aS (Iv 0) (zb (zt (zZ (fun mq σ I=> ∃(k:Nat) (ρ:Env),mq=l.length-k∧σ=yf ρ [(0,vl),(2,Iw k)]∧(k≤l.length)∧Sep G W ((ML w0 f0 noX)::Rs) I) ⟨0,_,rfl,sSf,zY _,hS0⟩ ?_)))))
 rintro m2 σ3 w1 ⟨k,ρl1,rfl,rfl,hkk,e⟩
 refine za (za (R0 fun _=>st (mV (Iw k) (st (mV vl (st (zC (n:=l.length) nT rfl hl9.sl (st (zK (k:=.i64) (a:=((k:Nat):Int)) (b:=((l.length:Nat):Int)) rfl rfl (zb ?_))))))))))
 cases d:decide (((k:Nat):Int)<((l.length:Nat):Int))
 have d:=fD d
 refine ze rfl (ya (zR (Xe Tryz.results15 ?_)))
 refine⟨rfl,(e.s1_)⟩
 have d:=tD d
 refine zg rfl (zp (za (zt (za (R0 fun _=>st (mV vl (st (mV (Iw k) ?_))))))))
 have H:k<l.length:=bo
 refine st (zf (k:=10) (i:=k) nT qT rfl hl9.sl rfl H (st (xW rfl ?_)))
 have q:k<l.length:=bo
 obtain⟨s,c,_⟩:=hl9.evD q
 refine st (lD (zT w0 (sb vl) (so vl+k*10+3)) kR rfl (e.mlHead (i:=0) rfl (hl9.foot (ne_of_lt q)) s (j:=3) rfl (fun h=>h) (IsSl.num c.sl)) (st (cL lR (Ww c e) ?_)))
 rintro _ w10 ⟨rfl,t⟩
 refine zb (za (R0 fun _=>st (mV vl (st (mV (Iw k) ?_)))))
 have v:k<l.length:=bo
 refine st (zf (k:=10) (i:=k) nT qT rfl hl9.sl rfl v (st (UC rfl ?_)))
 have f:k<l.length:=bo
 obtain⟨m,hde14_0,_⟩:=hl9.evD f
 refine stn (Xo (b:=sb vl) (o:=so vl+k*10+2) (u:=Iv 77) (us:=[Iv 77]) (X':=noX) t mR rfl (hl9.foot (ne_of_lt f)) rfl rfl (yo ⟨rfl,zl⟩) (CellsAt.sub m 2 (cs2:=[Iv ((l.getD k default).lam)]) rfl) rfl (Nat.zero_lt_succ _) (fun x y z A B=>.inr (MildAll.at_ (show MildAll [Iv ((l.getD k default).lam)] [Iv 77]from⟨MildV.num dc,zl⟩) x y z A B)) (fun _ _ h=>h) ?_)
 intro w13 C
 refine zb (R0 fun _=>st (mV vl (st (mV (Iw k) ?_))))
 have D:k<l.length:=bo
 refine st (zf (k:=10) (i:=k) nT qT rfl hl9.sl rfl D (st (xy rfl ?_)))
 have g:k<l.length:=bo
 obtain⟨p,hde19_0,_⟩:=hl9.evD g
 refine stn (Xo (b:=sb vl) (o:=so vl+k*10+8) (u:=Iv (-7)) (us:=[Iv (-7)]) (X':=noX) C mR rfl (hl9.foot (ne_of_lt g)) rfl rfl (yo ⟨rfl,zl⟩) (CellsAt.sub p 8 (cs2:=[Iv ((l.getD k default).arg)]) rfl) rfl (Nat.zero_lt_succ _) (fun x y z A B=>.inr (MildAll.at_ (show MildAll [Iv ((l.getD k default).arg)] [Iv (-7)]from⟨MildV.num dc,zl⟩) x y z A B)) (fun _ _ h=>h) ?_)
 intro w18 E
 refine zb (R0 fun _=>st (mV (Iw k) ?_))
 have F:InR ((k+1:Nat):Int):=bo
 refine st (zO (r:=((k+1:Nat):Int)) (k:=.i64) (a:=((k:Nat):Int)) (b:=1) rfl rfl (by rw[show(((k:Nat):Int)+1:Int)=((k+1:Nat):Int)from bo];exact zw F) (st (aS (Iw (k+1)) (zb ?_))))
 exact⟨_,by omega,k+1,_,rfl,sSf,by omega,E⟩
set_option maxHeartbeats 8000000 in
theorem WE {d:Dcl}{dd0:Value}(hdd0:RdS W G dd0 d.types){dd1:Value}(hdd1:RdS W G dd1 d.projs)(od:d.Ok){n:Int}(hn:InR n){every:Int}(hevery:InR every){vl:Value}{l:List Ev}(hl:RdS W G vl l){vt:Value}{t:List Trn}(ht:RdS W G vt t)(hKN:RdS W G (.slice (some ⟨0,0,none⟩) 6 6) kindsL)(hS0:Sep G W Rs w):Ret Tryz.prog 3 [.agg (d.cells dd0 dd1).toArray,.int .i64 (n),.int .i64 (every),vl,vt] w (fun r w'=>r=(.bool true:Value)∧Sep G W Rs w'):=by
 have hdd0s:_*24≤_:=hdd0.small
 have hdd1s:_*40≤_:=hdd1.small
 have hls:_*96≤_:=hl.small
 have hts:_*32≤_:=ht.small
 have hKNs:_*8≤_:=hKN.small
 refine zn (args:=[.agg (d.cells dd0 dd1).toArray,Iv n,Iv every,vl,vt]) Tryz.func3 rfl rfl ?_
 refine za (R0 fun _=>st (zX (v:=.agg (d.cells dd0 dd1).toArray) rfl ?_))
 intro w3 b2 gv
 let dv:=Blk b2 (d.cells dd0 dd1).toArray 25
 have fj:=hS0.new gv
 refine st (aS (.bool false) (zb (za (za (R0 fun _=>st (zh (k:=2) rT sT rfl rfl (zo (fj.b0)) (st (cL Tryz.call5 (Uy (d:=d) hdd0 hdd1 od fj) ?_))))))))
 rintro _ w7 ⟨b5,rfl,gx,fk⟩
 refine st (yD (a:=b5) rfl (zb ?_))
 cases be: !b5
 have hc9r:=be
 try simp only[zi]at be
 have Q:=gx (by simpa using be)
 refine ze rfl (zp (za (R0 fun _=>st (mV (Iv n) ?_))))
 refine st (cL Tryz.call8 (Yl (x:=n) (n:=64) hn yqf fk) ?_)
 rintro _ w12 ⟨ag,rfl,hq11,fl⟩
 have bY:InR ((1+ag:Nat):Int):=bo
 refine st (zO (r:=((1+ag:Nat):Int)) (k:=.i64) (a:=1) (b:=((ag:Nat):Int)) rfl rfl (by rw[show(1+((ag:Nat):Int):Int)=((1+ag:Nat):Int)from bo];exact zw bY) (st (mV vl (st (cL Tryz.call7 (UL (n:=((1+ag:Nat):Int)) (l:=l) (vl:=vl) bY hl fl) ?_)))))
 rintro ad bZ ⟨_,bf,rfl,ho4017,bg,ca⟩
 have fm:=ca.r0
 have hr21s:_*96≤_:=fm.2
 refine st (aS ad (zb (za ?_)))
 obtain⟨cb,fn,K,cc,fo⟩:=ca.lend
 have bh:=RowE.rdB fn K
 have hrd28s:_*96≤_:=bh.small
 refine R0 fun _=>st (zh (k:=2) rT sT rfl rfl (zo (cc.b0)) (st (mV (Iv every) (st (cL Tryz.call9 (YD (d:=d) (every:=every) (zv hdd0 K) (zv hdd1 K) od hevery (zv hKN K) cc (Q.1)) ?_)))))
 rintro _ w32 ⟨I,J,rfl,hev31,cd⟩
 refine st (aS (Ix I 0) (zb (za (R0 fun _=>st (zh (k:=2) rT sT rfl rfl (zo (cd.b1)) (st (mV (Iv every) (st (cL Tryz.call10 (zdE (d:=d) (every:=every) (zv hdd0 K) (zv hdd1 K) od hevery cd) ?_)))))))))
 rintro _ gy ⟨O,fp,rfl,hev36,fq⟩
 refine st (aS (Ix O 0) (zb (za (za ?_))))
 have hpl8:d.projs.length≤8:=Q.2.1
 obtain rfl:J=fp:=by omega
 have fr:Sep cb bZ ((RBase O d J ([]:List Ev))::(BaseO I d J ([]:List Ev))::dv::Rs) gy:=fq
 refine R0 fun _=>st (mV (Ix I 0) (st (ZX (b:=I) (o:=0) Tryz.underlying32 rfl (zb (ze rfl (zp (za (za (R0 fun _=>st (aS (Iv 0) (zb (zt (zZ (fun mq σ P=> ∃(k:Nat) (E9:List Ev) (ρ:Env),mq=t.length-k∧σ=yf ρ [(3,ad),(4,vt),(5,Ix b2 0),(10,.bool false),(11,Ix I 0),(12,Ix O 0),(13,Iw k)]∧(k≤t.length)∧(∀x∈E9,x∈bf)∧(E9.length≤40)∧Sep cb bZ ((BaseO I d J E9)::(RBase O d J E9)::(Blk b2 (d.cells dd0 dd1).toArray 25)::Rs) P) ⟨0,[],_,rfl,sSf,zY _,(fun _ h=>absurd h List.not_mem_nil),zY _,(fr.mv1)⟩ ?_)))))))))))))
 rintro m42 σ43 w41 ⟨k,E9,ρl1,rfl,rfl,hkk,gz,hEl9,ba⟩
 refine za (za (zF kr (st (mV (Iw k) (st (mV vt (st (zC (n:=t.length) tT rfl (zv ht K).sl (st (zK (k:=.i64) (a:=((k:Nat):Int)) (b:=((t.length:Nat):Int)) rfl rfl (st (mV (.bool (decide (((k:Nat):Int)<((t.length:Nat):Int)))) (stc (V:=Iw k) rfl rfl (fun fs=>?_) ?_)))))))))))))
 have hl46:=tD fs
 exact mV (Iw k) rflB
 refine stc (V:=.bool (decide (((k:Nat):Int)<20))) rfl rfl (fun ce=>?_) ?_
 have hl48:=tD ce
 exact zK (k:=.i64) (a:=((k:Nat):Int)) (b:=20) (ifpC ce) rfl rflB
 refine st (zx (b:=decide (((k:Nat):Int)<((t.length:Nat):Int))) (b':=decide (((k:Nat):Int)<20)) rfl (fun hbp=>(ifpC hbp)) (zb ?_))
 cases bb:(decide (((k:Nat):Int)<((t.length:Nat):Int)))&&(decide (((k:Nat):Int)<20))
 have hc49r:=bb
 try simp only[zi]at bb
 refine ze rfl (ya (zR (za ?_)))
 obtain⟨G51,cf,cg,ch,ft⟩:=(ba.mv1).lend
 obtain⟨hev57,vt58,vp59,ve60,hb61,fu,fv,fw⟩:=RBase.sh cf
 have hsm65:d.types.length*24≤140737488355328:=fu.small
 have hsm66:d.projs.length*40≤140737488355328:=fv.small
 have hsm67:E9.length*96≤140737488355328:=fw.small
 refine zF kr (st (mV (Ix I 0) (st (mV (Ix O 0) (st (xJ rfl (st (lD dd1 nR rfl (zd (ch.b1) rfl) (st (zC (n:=d.projs.length) oR rfl (zv (zv hdd1 K) cg).sl ?_))))))))))
 refine st (cL pR (Qb (n:=d.projs.length) cf yqf ch (Q.1) om (Q.2)) ?_)
 rintro _ w68 ⟨rfl,fx⟩
 refine st (mV (.bool true) (sty rfl rfl (cL uT (xQ (zv (zv hKN K) cg) fx) ?_)))
 rintro _ w70 ⟨rfl,fy⟩
 refine st (yC (v:=.bool true) rfl rfl (st (aS (.bool true) (zb (zq (zU qR (show _=(.bool true:Value)from rfl) ?_))))))
 have fz:=ft _ _ fy
 have fA:=fo _ _ fz
 refine⟨rfl,(fA.s4_)⟩
 try simp only[zi]at bb
 refine zg rfl (zp (za (zt (za (R0 fun _=>st (mV ad (st (mV vt (st (mV (Iw k) ?_))))))))))
 have fB:k<t.length:=bo
 refine st (zf (k:=4) (i:=k) tT vT rfl (zv ht K).sl rfl fB ?_)
 have bc:k<t.length:=bo
 obtain⟨bi,ay⟩:=(zv ht K).trn bc
 rw[←zJ default bc]at bi ay
 have cz:=ba.cells bi ((zv ht K).foot (ne_of_lt bc))
 refine st (zh (k:=4) Tryz.isAgg38 vT rfl rfl cz (st (cL Tryz.call11 (Qz (l:=bf) (vl:=ad) (t:=(t.getD k default)) bh ay ba om) ?_)))
 rintro Y w83 ⟨_,g,rfl,hxl81,al,ci⟩
 have fC:=ci.r0
 have hr85s:_*96≤_:=fC.2
 refine st (aS Y (zb (za ?_)))
 obtain⟨G86,fE,bd,fF,fG⟩:=ci.lend
 have am:=RowE.rdB fE bd
 have hrd92s:_*96≤_:=am.small
 refine R0 fun _=>st (mV Y (st (cL Tryz.call12 (XT (l:=g) (vl:=Y) am fF) ?_)))
 rintro bj w94 ⟨_,rfl,cj⟩
 have fH:=cj.r0
 have hr96s:_*96≤_:=fH.2
 refine st (aS bj (zb (za (za ?_))))
 obtain⟨G97,fI,bk,cA,cB⟩:=cj.lend
 have az:=RowE.rd fI
 have hrd103s:_*96≤_:=az.small
 refine R0 fun _=>st (mV (Ix I 0) (st (mV bj ?_)))
 refine st (cL Tryz.call13 (xu (l:=g) (vl:=bj) az (zv (zv (zv hKN K) bd) bk) cA (Q.1) (Q.2) ((by first|exact bg.one al gz|exact bg.one al (fun _ h=>absurd h List.not_mem_nil))) ((by first|omega|(simp only[List.length_nil];omega))) ((by omega))) ?_)
 rintro _ w104 ⟨rfl,cC⟩
 refine st (mV (Ix O 0) (st (mV Y (st (cL Tryz.call14 (JH (l:=g) (vl:=Y) (zv am bk) (cC.mv1) om) ?_)))))
 rintro _ w107 ⟨rfl,cD⟩
 refine st (yy (k:=.i64) (a:=(((g.length-yv J g E9):Nat):Int)) (b:=(((g.length-yv J g E9):Nat):Int)) rfl rfl ?_)
 have ck:(!decide ((((g.length-yv J g E9):Nat):Int)=(((g.length-yv J g E9):Nat):Int)))=false:=(by simp)
 rw[ck]
 refine zb (ze rfl (zp (za ?_)))
 have cE:=cB _ _ cD
 refine R0 fun _=>st (mV bj ?_)
 obtain⟨f111,cF,cG⟩:=cE.toML
 refine st (cL Tryz.call15 (VR cF cG) ?_)
 rintro _ w114 ⟨rfl,cH⟩
 refine zb (za (R0 fun _=>st (mV (Ix I 0) (st (cL Tryz.call16 (ZL (cH.mv1)) ?_)))))
 rintro q M ⟨_,rfl,bl⟩
 have cI:=bl.r1
 have hr120s:_*120≤_:=cI.2
 refine st (aS q (zb (za (za ?_))))
 obtain⟨N,U,cJ,cK,cM⟩:=(bl.mv2).lend
 obtain⟨hev128,vt129,vp130,ve131,hb132,cN,cO,cP⟩:=RBase.sh U
 have hsm136:d.types.length*24≤140737488355328:=cN.small
 have hsm137:d.projs.length*40≤140737488355328:=cO.small
 have hsm138:g.length*96≤140737488355328:=cP.small
 refine zF kr (st (mV q (st (mV (Ix O 0) (st (cL Tryz.call18 (Kq U cK (Q.1) om) ?_))))))
 rintro cl w140 ⟨_,rfl,bm⟩
 have cQ:=bm.r0
 have hr142s:_*120≤_:=cQ.2
 obtain⟨G144,cR,hB147,cS,cT⟩:=(bm.mv2).lend
 have aA:=RowE.rd cR
 have hrd150s:_*120≤_:=aA.small
 obtain⟨G151,cU,cV,cW,cX⟩:=cS.lend
 have aB:=RowE.rd cU
 have hrd157s:_*120≤_:=aB.small
 refine st (cL Tryz.call17 (Xk (a:=(zk d g)) (va:=q) (b:=(zk d g)) (vb:=cl) (zv aA cV) aB cW) ?_)
 rintro _ w158 ⟨rfl,cY⟩
 have cZ:=cX _ _ cY
 have bn:=cT _ _ cZ
 refine st (yD (a:=decide ((zk d g)=(zk d g))) rfl ?_)
 have cm:(!(decide ((zk d g)=(zk d g))))=false:=(by simp)
 rw[cm]
 refine st (mV (.bool false) (sty rfl rfl (mV (Ix I 0) (sty rfl rfl (mV (Ix O 0) (sty rfl rfl (xJ rfl (sty rfl rfl (lD dd1 nR rfl (zd (bn.b3) rfl) (sty rfl rfl (zC (n:=d.projs.length) oR rfl (zv (zv (zv hdd1 K) bd) cJ).sl ?_)))))))))))
 refine sty rfl rfl (cL pR (Qb (n:=d.projs.length) U yqf (bn.mv2) (Q.1) om (Q.2)) ?_)
 rintro _ ae ⟨rfl,da⟩
 refine sty rfl rfl (yD (a:=true) rfl ?_)
 have cn:(false)=false:=(by simp)
 rw[cn]
 refine st (yt (v:=.bool false) rfl rfl (zb (ze rfl (zp (za ?_)))))
 obtain⟨c,f9,hps9,fJ,dd⟩:=(da.mv1).entML
 have hrl9:=xc d g
 have aC:Sep N M ((RowE (α:=EntS) own 57 q c)::(ML ae f9 noX)::(BaseO I d J g)::(RowE (α:=Ent) own 57 cl (zk d g))::dv::Rs) ae:=dd
 have L:=aC.r0
 have hr169s:_*120≤_:=L.2
 refine R0 fun _=>st (aS (Iv 0) (zb (zt (zZ (fun mq σ P=> ∃(e:Nat) (ρ:Env),mq=c.length-e∧σ=yf ρ [(3,ad),(4,vt),(5,Ix b2 0),(10,.bool false),(11,Ix I 0),(12,Ix O 0),(13,Iw k),(14,Y),(16,q),(17,Iw e)]∧(e≤c.length)∧Sep N M ((BaseO I d J g)::(Blk b2 (d.cells dd0 dd1).toArray 25)::(RowE (α:=EntS) own 57 q c)::(ML ae f9 noX)::Rs) P) ⟨0,_,rfl,sSf,zY _,(aC.s5_ceab)⟩ ?_))))
 rintro m172 σ173 fK ⟨e,ρl2,rfl,rfl,hkq9,bp⟩
 let db:=Ix (sb q) (so q+e*13)
 let af:=(((c.getD e default).typ),((c.getD e default).agg))
 refine za (za (R0 fun _=>st (mV (Iw e) (st (mV q (st (zC (n:=c.length) kT rfl L.1 (st (zK (k:=.i64) (a:=((e:Nat):Int)) (b:=((c.length:Nat):Int)) rfl rfl (zb ?_))))))))))
 cases X:decide (((e:Nat):Int)<((c.length:Nat):Int))
 have hc175r:=X
 have X:=fD X
 have de:=cM _ _ bp
 refine ze rfl (ya (zR (R0 fun _=>st (mV (Iw k) ?_))))
 have df:InR ((k+1:Nat):Int):=bo
 refine st (zO (r:=((k+1:Nat):Int)) (k:=.i64) (a:=((k:Nat):Int)) (b:=1) rfl rfl (by rw[show(((k:Nat):Int)+1:Int)=((k+1:Nat):Int)from bo];exact zw df) (st (aS (Iw (k+1)) (zb ?_))))
 have dg:=fG _ _ de
 have dh:Sep cb bZ ((BaseO I d J g)::(RBase O d J g)::dv::Rs) fK:=dg.sel 6 [2,1,3] (xq _ _) rfl rfl
 exact⟨_,by omega,k+1,g,_,rfl,sSf,by omega,al,by omega,dh⟩
 have X:=tD X
 refine zg rfl (zp (za (zt (za ?_))))
 refine WD6 ((fun TT R=>WF [fun vals P=>Sep N M (R::TT) P,fun vals P=> ∃(m:Value),(vals 13=(.tuple #[.agg ((yr d af (zk d g)).cells m).toArray,.bool ((zj d (zk d g) af).isSome)]:Value))∧Sep N M (R::(RowE (α:=Cel) own 105 m (stL d af (zk d g)))::TT) P,fun vals P=> ∃(z:Nat),(vals 17=(Ix z 0:Value))∧Sep N M ((Blk z #[Iv 0,(Iz)] 48)::R::TT) P,fun vals P=> ∃(m:Value) (z:Nat),(vals 13=(.tuple #[.agg ((yr d af (zk d g)).cells m).toArray,.bool ((zj d (zk d g) af).isSome)]:Value))∧(vals 17=(Ix z 0:Value))∧Sep N M ((Blk z #[Iv 0,(Iz)] 48)::R::(RowE (α:=Cel) own 105 m (stL d af (zk d g)))::TT) P,fun _ _=>True,fun _ _=>True,fun _ _=>True,fun vals P=> ∃(m:Value) (z:Nat),(vals 13=(.tuple #[.agg ((yr d af (zk d g)).cells m).toArray,.bool ((zj d (zk d g) af).isSome)]:Value))∧(vals 17=(Ix z 0:Value))∧Sep N M ((Blk z ((yr d af (zk d g)).cells m).toArray 48)::R::(RowE (α:=Cel) own 105 m (stL d af (zk d g)))::TT) P]) (dv::(RowE (α:=EntS) own 57 q c)::(ML ae f9 noX)::Rs) (BaseO I d J g)) (AF [Vl 0 (Ix I 0),Vl 1 q,Vl 2 (Iw e),Vl 3 db,Vl 4 db,Vl 5 (Ix (sb q) (so q+e*13+4)),Vl 6 (Iv ((c.getD e default).typ)),Vl 7 q,Vl 8 (Iw e),Vl 9 db,Vl 10 db,Vl 11 (Ix (sb q) (so q+e*13+5)),Vl 12 (Iv ((c.getD e default).agg)),fun _=>True,fun vals=> ∀(m:Value),vals 13=(.tuple #[.agg ((yr d af (zk d g)).cells m).toArray,.bool ((zj d (zk d g) af).isSome)]:Value)→vals 14=(.tuple #[.agg ((yr d af (zk d g)).cells m).toArray,.bool ((zj d (zk d g) af).isSome)]:Value),fun vals=> ∀(m:Value),vals 13=(.tuple #[.agg ((yr d af (zk d g)).cells m).toArray,.bool ((zj d (zk d g) af).isSome)]:Value)→vals 15=(.agg ((yr d af (zk d g)).cells m).toArray:Value),Vl 16 (.bool ((zj d (zk d g) af).isSome)),fun _=>True,fun _=>True,Vl 19 (.bool ((zj d (zk d g) af).isSome))]) [[],[],[],[1,2],[1,2,3],[1,2,3,4],[1,2,3,4,5],[],[],[7,8],[7,8,9],[7,8,9,10],[7,8,9,10,11],(rg 13),(rg 14),(rg 15),(rg 15),[],[0,1,2,3,4,5,6,7,8,9,10,11,12,13,14,15,17],(rg 19)] [13,17,18] [[0,2],[0,2],[0,2],[0,2],[0,2],[0,2],[0,2],[0,2],[0,2],[0,2],[0,2],[0,2],[0,2],[0,2],[1,3],[1,3],[1,3,7],[0,1],[3],[7]] bp ⟨fun _ _ _ _ _ _=>obl rfl (mV (Ix I 0) dR),fun _ _ _ _ _ _=>obl rfl (mV q dR),fun _ _ _ _ _ _=>obl rfl (mV (Iw e) dR),?_,fun _ _ _ _ _ di=>obl rfl (xx (di 3 dc) dR),fun _ _ _ _ _ dj=>obl rfl (xm (dj 4 dc) dR),?_,fun _ _ _ _ _ _=>obl rfl (mV q dR),fun _ _ _ _ _ _=>obl rfl (mV (Iw e) dR),?_,fun _ _ _ _ _ dk=>obl rfl (xx (dk 9 dc) dR),fun _ _ _ _ _ dl=>obl rfl (Zc (dl 10 dc) dR),?_,?_,?_,?_,?_,?_,?_,fun _ _ _ _ _ dm=>obl rfl (zM (v:=.bool ((zj d (zk d g) af).isSome)) (dm 16 dc) dR),zl⟩ ?_ (hlocA:=xi ⟨dA,dA,dA,dA,dA,dA,dA,dA,dA,dA,dA,dA,dA,dT,fun vals A E h=>fun m D=>(E 14 (.inl rfl)).trans (h m ((E 13 (.inr dc)).symm.trans D)),fun vals A E h=>fun m D=>(E 15 (.inl rfl)).trans (h m ((E 13 (.inr dc)).symm.trans D)),dA,dT,dT,dA,zl⟩)
 intro fL vals w350 dp bq Z
 have aD:fL∈[0,2]:=dp
 simp only[yA]at aD
 rcases aD with rfl|rfl
 have hS354:Sep _ _ _ _:=bq
 refine obl rfl ?_
 have dq:e<c.length:=bo
 exact zf (k:=13) (i:=e) kT lT (Z 1 dc) L.1 (Z 2 dc) dq dR
 obtain⟨z,F,hS358⟩:=bq
 refine obl rfl ?_
 have dr:e<c.length:=bo
 exact zf (k:=13) (i:=e) kT lT (Z 1 dc) L.1 (Z 2 dc) dr dR
 intro fM vals w375 ds br bs
 have aE:fM∈[0,2]:=ds
 simp only[yA]at aE
 rcases aE with rfl|rfl
 have dt:Sep _ _ _ _:=br
 refine obl rfl ?_
 have du:e<c.length:=bo
 obtain⟨_,_,co,rfl,hoke381⟩:=dt.rowAtD (i:=2) (j:=e) rfl du
 exact lD (Iv ((c.getD e default).typ)) mT (bs 5 dc) (co.get (j:=4) rfl) dR
 obtain⟨z,F,dw⟩:=br
 refine obl rfl ?_
 have dx:e<c.length:=bo
 obtain⟨_,_,cp,rfl,hoke385⟩:=dw.rowAtD (i:=3) (j:=e) rfl dx
 exact lD (Iv ((c.getD e default).typ)) mT (bs 5 dc) (cp.get (j:=4) rfl) dR
 intro fN vals w398 dy bt aa
 have aF:fN∈[0,2]:=dy
 simp only[yA]at aF
 rcases aF with rfl|rfl
 have hS402:Sep _ _ _ _:=bt
 refine obl rfl ?_
 have dz:e<c.length:=bo
 exact zf (k:=13) (i:=e) kT lT (aa 7 dc) L.1 (aa 8 dc) dz dR
 obtain⟨z,F,hS406⟩:=bt
 refine obl rfl ?_
 have dB:e<c.length:=bo
 exact zf (k:=13) (i:=e) kT lT (aa 7 dc) L.1 (aa 8 dc) dB dR
 intro fO vals w423 dD bu bv
 have aG:fO∈[0,2]:=dD
 simp only[yA]at aG
 rcases aG with rfl|rfl
 have dE:Sep _ _ _ _:=bu
 refine obl rfl ?_
 have dF:e<c.length:=bo
 obtain⟨_,_,cq,rfl,hoke429⟩:=dE.rowAtD (i:=2) (j:=e) rfl dF
 exact lD (Iv ((c.getD e default).agg)) mT (bv 11 dc) (cq.get (j:=5) rfl) dR
 obtain⟨z,F,dG⟩:=bu
 refine obl rfl ?_
 have dH:e<c.length:=bo
 obtain⟨_,_,cr,rfl,hoke433⟩:=dG.rowAtD (i:=3) (j:=e) rfl dH
 exact lD (Iv ((c.getD e default).agg)) mT (bv 11 dc) (cr.get (j:=5) rfl) dR
 intro fP vals w436 dI bw S
 have aH:fP∈[0,2]:=dI
 simp only[yA]at aH
 rcases aH with rfl|rfl
 have bx:Sep _ _ _ _:=bw
 refine obl rfl ?_
 have dJ:e<c.length:=bo
 obtain⟨_,_,hce444,rfl,ah⟩:=bx.rowAtD (i:=2) (j:=e) rfl dJ
 refine(zW (f:=20) (vals:=[Ix I 0,Iv ((c.getD e default).typ),Iv ((c.getD e default).agg)]) (cap:=[]) rfl (yM ⟨(S 0 dc),(S 6 dc),(S 12 dc),zl⟩) rR (Ya (ty:=(c.getD e default).typ) (no:=(c.getD e default).agg) ah.typ ah.agg bx) ?_)
 rintro _ w447 ⟨m,rfl,bz⟩
 have dK:=bz.r1
 have hr449s:_*32≤_:=dK.2
 exact fun A E C=>⟨(exiA m (zA E bz)),zl⟩
 obtain⟨z,F,bA⟩:=bw
 refine obl rfl ?_
 have dL:e<c.length:=bo
 obtain⟨_,_,hce454,rfl,ai⟩:=bA.rowAtD (i:=3) (j:=e) rfl dL
 refine(zW (f:=20) (vals:=[Ix I 0,Iv ((c.getD e default).typ),Iv ((c.getD e default).agg)]) (cap:=[]) rfl (yM ⟨(S 0 dc),(S 6 dc),(S 12 dc),zl⟩) rR (Ya (ty:=(c.getD e default).typ) (no:=(c.getD e default).agg) ai.typ ai.agg (bA.mv1)) ?_)
 rintro _ w458 ⟨m,rfl,bB⟩
 have dM:=bB.r1
 have hr460s:_*32≤_:=dM.2
 exact fun A E C=>⟨(exiA m (exiA z (zA E (zA ((C 17 dc).trans F) (bB.mv2))))),zl⟩
 intro fQ vals w463 dN bC hA464
 have aI:fQ∈[1,3]:=dN
 simp only[yA]at aI
 rcases aI with rfl|rfl
 obtain⟨m,s,hS467⟩:=bC
 refine obl rfl (zP (v:=.tuple #[.agg ((yr d af (zk d g)).cells m).toArray,.bool ((zj d (zk d g) af).isSome)]) s (fun A E C=>⟨rfl,?_⟩))
 intro an D
 rw[C 13 (by decide)]at D;cases s.symm.trans D
 exact E
 obtain⟨m,z,s,F,hS468⟩:=bC
 refine obl rfl (zP (v:=.tuple #[.agg ((yr d af (zk d g)).cells m).toArray,.bool ((zj d (zk d g) af).isSome)]) s (fun A E C=>⟨rfl,?_⟩))
 intro an D
 rw[C 13 (by decide)]at D;cases s.symm.trans D
 exact E
 intro fR vals w470 dO bD bE
 have aJ:fR∈[1,3]:=dO
 simp only[yA]at aJ
 rcases aJ with rfl|rfl
 obtain⟨m,s,hS474⟩:=bD
 let gw:=(yr d af (zk d g)).cells m
 have fS:vals 14=(.tuple #[.agg gw.toArray,.bool ((zj d (zk d g) af).isSome)]:Value):=bE 14 dc m s
 refine obl rfl (zz (vs:=[.agg gw.toArray,.bool ((zj d (zk d g) af).isSome)]) (i:=0) (v:=.agg gw.toArray) fS rfl (fun A E C=>⟨rfl,?_⟩))
 intro an D
 rw[C 13 (by decide)]at D;cases s.symm.trans D
 exact E
 obtain⟨m,z,s,F,hS476⟩:=bD
 let gA:=(yr d af (zk d g)).cells m
 have fT:vals 14=(.tuple #[.agg gA.toArray,.bool ((zj d (zk d g) af).isSome)]:Value):=bE 14 dc m s
 refine obl rfl (zz (vs:=[.agg gA.toArray,.bool ((zj d (zk d g) af).isSome)]) (i:=0) (v:=.agg gA.toArray) fT rfl (fun A E C=>⟨rfl,?_⟩))
 intro an D
 rw[C 13 (by decide)]at D;cases s.symm.trans D
 exact E
 intro fU vals w479 dP ao ap
 have aK:fU∈[1,3,7]:=dP
 simp only[yA]at aK
 rcases aK with rfl|rfl|rfl
 obtain⟨m,s,hS483⟩:=ao
 have fV:vals 14=(.tuple #[.agg ((yr d af (zk d g)).cells m).toArray,.bool ((zj d (zk d g) af).isSome)]:Value):=ap 14 dc m s
 exact obl rfl (zz (vs:=[.agg ((yr d af (zk d g)).cells m).toArray,.bool ((zj d (zk d g) af).isSome)]) (i:=1) (v:=.bool ((zj d (zk d g) af).isSome)) fV rfl dR)
 obtain⟨m,z,s,F,hS485⟩:=ao
 have fW:vals 14=(.tuple #[.agg ((yr d af (zk d g)).cells m).toArray,.bool ((zj d (zk d g) af).isSome)]:Value):=ap 14 dc m s
 exact obl rfl (zz (vs:=[.agg ((yr d af (zk d g)).cells m).toArray,.bool ((zj d (zk d g) af).isSome)]) (i:=1) (v:=.bool ((zj d (zk d g) af).isSome)) fW rfl dR)
 obtain⟨m,z,s,F,hS487⟩:=ao
 have fX:vals 14=(.tuple #[.agg ((yr d af (zk d g)).cells m).toArray,.bool ((zj d (zk d g) af).isSome)]:Value):=ap 14 dc m s
 exact obl rfl (zz (vs:=[.agg ((yr d af (zk d g)).cells m).toArray,.bool ((zj d (zk d g) af).isSome)]) (i:=1) (v:=.bool ((zj d (zk d g) af).isSome)) fX rfl dR)
 intro fY vals w490 dQ bF hA491
 have aL:fY∈[0,1]:=dQ
 simp only[yA]at aL
 rcases aL with rfl|rfl
 have dS:Sep _ _ _ _:=bF
 refine obl rfl ((zG oT ?_))
 intro w497 z dU
 exact fun A E C=>⟨(exiA z (zA E (dS.new dU))),zl⟩
 obtain⟨m,s,dV⟩:=bF
 refine obl rfl ((zG oT ?_))
 intro w502 z dW
 exact fun A E C=>⟨(exiA m (exiA z (zA ((C 13 dc).trans s) (zA E (dV.new dW))))),zl⟩
 intro fZ vals w505 dX dY dZ
 have aM:fZ∈[3]:=dX
 simp only[yA]at aM
 subst aM
 obtain⟨m,z,s,F,aq⟩:=dY
 let gB:=(yr d af (zk d g)).cells m
 refine obl rfl ?_
 have ga:vals 15=(.agg gB.toArray:Value):=dZ 15 dc m s
 have bG:=aq.r2
 have hr513s:_*32≤_:=bG.2
 refine(zy (v:=.agg gB.toArray) (c':=gB.toArray) pT F ga (aq.b0) (yo ⟨rfl,bG.1.one,zl⟩) yqc rfl ?_)
 intro w511 ea
 exact fun A E C=>⟨(exiA m (exiA z (zA ((C 13 dc).trans s) (zA ((C 17 dc).trans F) (aq.pt0 ea))))),zl⟩
 intro vals w521 eb ec
 obtain⟨m,z,s,F,ed⟩:=eb
 have gc:=ec 19 dc
 refine yg (kv:=[(3,ad),(4,vt),(5,Ix b2 0),(10,.bool false),(11,Ix I 0),(12,Ix O 0),(13,Iw k),(14,Y),(16,q),(17,Iw e),(82,Iw e),(83,q),(84,Iw c.length),(85,.bool true),(18,Ix z 0),(19,.bool ((zj d (zk d g) af).isSome))]) ⟨rfl,rfl,rfl,rfl,rfl,rfl,rfl,rfl,rfl,rfl,rfl,rfl,rfl,rfl,(by exact F),(by exact gc),zl⟩ (fun ρw521=>(zb (za ?_)))
 refine WD6 ((fun TT R=>WF [fun vals P=>Sep N M (R::TT) P,fun vals P=> ∃(p:Value),(vals 13=(.tuple #[.agg ((yr d af (zk d g)).cells p).toArray,.bool ((zj d (zk d g) af).isSome)]:Value))∧Sep N M ((RowE (α:=Cel) own 105 p (stL d af (zk d g)))::R::TT) P,fun vals P=> ∃(B:Nat),(vals 17=(Ix B 0:Value))∧Sep N M ((Blk B #[Iv 0,(Iz)] 48)::R::TT) P,fun vals P=> ∃(p:Value) (B:Nat),(vals 13=(.tuple #[.agg ((yr d af (zk d g)).cells p).toArray,.bool ((zj d (zk d g) af).isSome)]:Value))∧(vals 17=(Ix B 0:Value))∧Sep N M ((Blk B #[Iv 0,(Iz)] 48)::(RowE (α:=Cel) own 105 p (stL d af (zk d g)))::R::TT) P,fun _ _=>True,fun _ _=>True,fun _ _=>True,fun vals P=> ∃(p:Value) (B:Nat),(vals 13=(.tuple #[.agg ((yr d af (zk d g)).cells p).toArray,.bool ((zj d (zk d g) af).isSome)]:Value))∧(vals 17=(Ix B 0:Value))∧Sep N M ((Blk B ((yr d af (zk d g)).cells p).toArray 48)::(RowE (α:=Cel) own 105 p (stL d af (zk d g)))::R::TT) P]) ((BaseO I d J g)::(RowE (α:=Cel) own 105 m (stL d af (zk d g)))::dv::(RowE (α:=EntS) own 57 q c)::(ML ae f9 noX)::Rs) (Blk z ((yr d af (zk d g)).cells m).toArray 48)) (AF [Vl 0 (Ix O 0),Vl 1 q,Vl 2 (Iw e),Vl 3 db,Vl 4 db,Vl 5 (Ix (sb q) (so q+e*13+4)),Vl 6 (Iv ((c.getD e default).typ)),Vl 7 q,Vl 8 (Iw e),Vl 9 db,Vl 10 db,Vl 11 (Ix (sb q) (so q+e*13+5)),Vl 12 (Iv ((c.getD e default).agg)),fun _=>True,fun vals=> ∀(p:Value),vals 13=(.tuple #[.agg ((yr d af (zk d g)).cells p).toArray,.bool ((zj d (zk d g) af).isSome)]:Value)→vals 14=(.tuple #[.agg ((yr d af (zk d g)).cells p).toArray,.bool ((zj d (zk d g) af).isSome)]:Value),fun vals=> ∀(p:Value),vals 13=(.tuple #[.agg ((yr d af (zk d g)).cells p).toArray,.bool ((zj d (zk d g) af).isSome)]:Value)→vals 15=(.agg ((yr d af (zk d g)).cells p).toArray:Value),Vl 16 (.bool ((zj d (zk d g) af).isSome)),fun _=>True,fun _=>True,Vl 19 (.bool ((zj d (zk d g) af).isSome))]) [[],[],[],[1,2],[1,2,3],[1,2,3,4],[1,2,3,4,5],[],[],[7,8],[7,8,9],[7,8,9,10],[7,8,9,10,11],(rg 13),(rg 14),(rg 15),(rg 15),[],[0,1,2,3,4,5,6,7,8,9,10,11,12,13,14,15,17],(rg 19)] [13,17,18] [[0,2],[0,2],[0,2],[0,2],[0,2],[0,2],[0,2],[0,2],[0,2],[0,2],[0,2],[0,2],[0,2],[0,2],[1,3],[1,3],[1,3,7],[0,1],[3],[7]] ed ⟨fun _ _ _ _ _ _=>obl rfl (mV (Ix O 0) dR),fun _ _ _ _ _ _=>obl rfl (mV q dR),fun _ _ _ _ _ _=>obl rfl (mV (Iw e) dR),?_,fun _ _ _ _ _ ee=>obl rfl (xx (ee 3 dc) dR),fun _ _ _ _ _ ef=>obl rfl (xm (ef 4 dc) dR),?_,fun _ _ _ _ _ _=>obl rfl (mV q dR),fun _ _ _ _ _ _=>obl rfl (mV (Iw e) dR),?_,fun _ _ _ _ _ eg=>obl rfl (xx (eg 9 dc) dR),fun _ _ _ _ _ eh=>obl rfl (Zc (eh 10 dc) dR),?_,?_,?_,?_,?_,?_,?_,fun _ _ _ _ _ ei=>obl rfl (zM (v:=.bool ((zj d (zk d g) af).isSome)) (ei 16 dc) dR),zl⟩ ?_ (hlocA:=xi ⟨dA,dA,dA,dA,dA,dA,dA,dA,dA,dA,dA,dA,dA,dT,fun vals A E h=>fun p D=>(E 14 (.inl rfl)).trans (h p ((E 13 (.inr dc)).symm.trans D)),fun vals A E h=>fun p D=>(E 15 (.inl rfl)).trans (h p ((E 13 (.inr dc)).symm.trans D)),dA,dT,dT,dA,zl⟩)
 intro gd vals w696 ej bH ab
 have aN:gd∈[0,2]:=ej
 simp only[yA]at aN
 rcases aN with rfl|rfl
 have hS700:Sep _ _ _ _:=bH
 refine obl rfl ?_
 have ek:e<c.length:=bo
 exact zf (k:=13) (i:=e) kT lT (ab 1 dc) L.1 (ab 2 dc) ek dR
 obtain⟨B,H,hS704⟩:=bH
 refine obl rfl ?_
 have el:e<c.length:=bo
 exact zf (k:=13) (i:=e) kT lT (ab 1 dc) L.1 (ab 2 dc) el dR
 intro ge vals w721 em bI bJ
 have aO:ge∈[0,2]:=em
 simp only[yA]at aO
 rcases aO with rfl|rfl
 have en:Sep _ _ _ _:=bI
 refine obl rfl ?_
 have eo:e<c.length:=bo
 obtain⟨_,_,cs,rfl,hoke727⟩:=en.rowAtD (i:=4) (j:=e) rfl eo
 exact lD (Iv ((c.getD e default).typ)) mT (bJ 5 dc) (cs.get (j:=4) rfl) dR
 obtain⟨B,H,er⟩:=bI
 refine obl rfl ?_
 have es:e<c.length:=bo
 obtain⟨_,_,ct,rfl,hoke731⟩:=er.rowAtD (i:=5) (j:=e) rfl es
 exact lD (Iv ((c.getD e default).typ)) mT (bJ 5 dc) (ct.get (j:=4) rfl) dR
 intro gf vals w744 et bK ac
 have aP:gf∈[0,2]:=et
 simp only[yA]at aP
 rcases aP with rfl|rfl
 have hS748:Sep _ _ _ _:=bK
 refine obl rfl ?_
 have eu:e<c.length:=bo
 exact zf (k:=13) (i:=e) kT lT (ac 7 dc) L.1 (ac 8 dc) eu dR
 obtain⟨B,H,hS752⟩:=bK
 refine obl rfl ?_
 have ew:e<c.length:=bo
 exact zf (k:=13) (i:=e) kT lT (ac 7 dc) L.1 (ac 8 dc) ew dR
 intro gg vals w769 ex bL bM
 have aQ:gg∈[0,2]:=ex
 simp only[yA]at aQ
 rcases aQ with rfl|rfl
 have ey:Sep _ _ _ _:=bL
 refine obl rfl ?_
 have ez:e<c.length:=bo
 obtain⟨_,_,cu,rfl,hoke775⟩:=ey.rowAtD (i:=4) (j:=e) rfl ez
 exact lD (Iv ((c.getD e default).agg)) mT (bM 11 dc) (cu.get (j:=5) rfl) dR
 obtain⟨B,H,eA⟩:=bL
 refine obl rfl ?_
 have eB:e<c.length:=bo
 obtain⟨_,_,cv,rfl,hoke779⟩:=eA.rowAtD (i:=5) (j:=e) rfl eB
 exact lD (Iv ((c.getD e default).agg)) mT (bM 11 dc) (cv.get (j:=5) rfl) dR
 intro gh vals w782 eC bN T
 have aR:gh∈[0,2]:=eC
 simp only[yA]at aR
 rcases aR with rfl|rfl
 have bO:Sep _ _ _ _:=bN
 refine obl rfl ?_
 have eD:e<c.length:=bo
 obtain⟨_,_,hce790,rfl,aj⟩:=bO.rowAtD (i:=4) (j:=e) rfl eD
 refine(zW (f:=21) (vals:=[Ix O 0,Iv ((c.getD e default).typ),Iv ((c.getD e default).agg)]) (cap:=[]) rfl (yM ⟨(T 0 dc),(T 6 dc),(T 12 dc),zl⟩) sR (QH (ty:=(c.getD e default).typ) (no:=(c.getD e default).agg) U aj.typ aj.agg bO (Q.1) om) ?_)
 rintro _ w793 ⟨p,rfl,bP⟩
 have eE:=bP.r0
 have hr795s:_*32≤_:=eE.2
 exact fun A E C=>⟨(exiA p (zA E bP)),zl⟩
 obtain⟨B,H,bQ⟩:=bN
 refine obl rfl ?_
 have eF:e<c.length:=bo
 obtain⟨_,_,hce800,rfl,ak⟩:=bQ.rowAtD (i:=5) (j:=e) rfl eF
 refine(zW (f:=21) (vals:=[Ix O 0,Iv ((c.getD e default).typ),Iv ((c.getD e default).agg)]) (cap:=[]) rfl (yM ⟨(T 0 dc),(T 6 dc),(T 12 dc),zl⟩) sR (QH (ty:=(c.getD e default).typ) (no:=(c.getD e default).agg) U ak.typ ak.agg bQ (Q.1) om) ?_)
 rintro _ w803 ⟨p,rfl,bR⟩
 have eG:=bR.r0
 have hr805s:_*32≤_:=eG.2
 exact fun A E C=>⟨(exiA p (exiA B (zA E (zA ((C 17 dc).trans H) (bR.mv1))))),zl⟩
 intro gi vals w808 eH bS hA809
 have aT:gi∈[1,3]:=eH
 simp only[yA]at aT
 rcases aT with rfl|rfl
 obtain⟨p,u,hS812⟩:=bS
 refine obl rfl (zP (v:=.tuple #[.agg ((yr d af (zk d g)).cells p).toArray,.bool ((zj d (zk d g) af).isSome)]) u (fun A E C=>⟨rfl,?_⟩))
 intro ar D
 rw[C 13 (by decide)]at D;cases u.symm.trans D
 exact E
 obtain⟨p,B,u,H,hS813⟩:=bS
 refine obl rfl (zP (v:=.tuple #[.agg ((yr d af (zk d g)).cells p).toArray,.bool ((zj d (zk d g) af).isSome)]) u (fun A E C=>⟨rfl,?_⟩))
 intro ar D
 rw[C 13 (by decide)]at D;cases u.symm.trans D
 exact E
 intro gj vals w815 eI bT bU
 have aU:gj∈[1,3]:=eI
 simp only[yA]at aU
 rcases aU with rfl|rfl
 obtain⟨p,u,hS819⟩:=bT
 let gC:=(yr d af (zk d g)).cells p
 have gk:vals 14=(.tuple #[.agg gC.toArray,.bool ((zj d (zk d g) af).isSome)]:Value):=bU 14 dc p u
 refine obl rfl (zz (vs:=[.agg gC.toArray,.bool ((zj d (zk d g) af).isSome)]) (i:=0) (v:=.agg gC.toArray) gk rfl (fun A E C=>⟨rfl,?_⟩))
 intro ar D
 rw[C 13 (by decide)]at D;cases u.symm.trans D
 exact E
 obtain⟨p,B,u,H,hS821⟩:=bT
 let gD:=(yr d af (zk d g)).cells p
 have gl:vals 14=(.tuple #[.agg gD.toArray,.bool ((zj d (zk d g) af).isSome)]:Value):=bU 14 dc p u
 refine obl rfl (zz (vs:=[.agg gD.toArray,.bool ((zj d (zk d g) af).isSome)]) (i:=0) (v:=.agg gD.toArray) gl rfl (fun A E C=>⟨rfl,?_⟩))
 intro ar D
 rw[C 13 (by decide)]at D;cases u.symm.trans D
 exact E
 intro gm vals w824 eJ au av
 have aV:gm∈[1,3,7]:=eJ
 simp only[yA]at aV
 rcases aV with rfl|rfl|rfl
 obtain⟨p,u,hS828⟩:=au
 have gn:vals 14=(.tuple #[.agg ((yr d af (zk d g)).cells p).toArray,.bool ((zj d (zk d g) af).isSome)]:Value):=av 14 dc p u
 exact obl rfl (zz (vs:=[.agg ((yr d af (zk d g)).cells p).toArray,.bool ((zj d (zk d g) af).isSome)]) (i:=1) (v:=.bool ((zj d (zk d g) af).isSome)) gn rfl dR)
 obtain⟨p,B,u,H,hS830⟩:=au
 have go:vals 14=(.tuple #[.agg ((yr d af (zk d g)).cells p).toArray,.bool ((zj d (zk d g) af).isSome)]:Value):=av 14 dc p u
 exact obl rfl (zz (vs:=[.agg ((yr d af (zk d g)).cells p).toArray,.bool ((zj d (zk d g) af).isSome)]) (i:=1) (v:=.bool ((zj d (zk d g) af).isSome)) go rfl dR)
 obtain⟨p,B,u,H,hS832⟩:=au
 have gp:vals 14=(.tuple #[.agg ((yr d af (zk d g)).cells p).toArray,.bool ((zj d (zk d g) af).isSome)]:Value):=av 14 dc p u
 exact obl rfl (zz (vs:=[.agg ((yr d af (zk d g)).cells p).toArray,.bool ((zj d (zk d g) af).isSome)]) (i:=1) (v:=.bool ((zj d (zk d g) af).isSome)) gp rfl dR)
 intro gq vals w835 eK bV hA836
 have aW:gq∈[0,1]:=eK
 simp only[yA]at aW
 rcases aW with rfl|rfl
 have eL:Sep _ _ _ _:=bV
 refine obl rfl ((zG oT ?_))
 intro w842 B eM
 exact fun A E C=>⟨(exiA B (zA E (eL.new eM))),zl⟩
 obtain⟨p,u,eN⟩:=bV
 refine obl rfl ((zG oT ?_))
 intro w847 B eO
 exact fun A E C=>⟨(exiA p (exiA B (zA ((C 13 dc).trans u) (zA E (eN.new eO))))),zl⟩
 intro gr vals w850 eP eQ eR
 have aX:gr∈[3]:=eP
 simp only[yA]at aX
 subst aX
 obtain⟨p,B,u,H,aw⟩:=eQ
 let gE:=(yr d af (zk d g)).cells p
 refine obl rfl ?_
 have gs:vals 15=(.agg gE.toArray:Value):=eR 15 dc p u
 have bW:=aw.r1
 have hr858s:_*32≤_:=bW.2
 refine(zy (v:=.agg gE.toArray) (c':=gE.toArray) pT H gs (aw.b0) (yo ⟨rfl,bW.1.one,zl⟩) yqc rfl ?_)
 intro w856 eS
 exact fun A E C=>⟨(exiA p (exiA B (zA ((C 13 dc).trans u) (zA ((C 17 dc).trans H) (aw.pt0 eS))))),zl⟩
 intro vals w866 eT eU
 obtain⟨p,B,u,H,ax⟩:=eT
 have gt:=eU 19 dc
 refine yg (kv:=[(3,ad),(4,vt),(5,Ix b2 0),(10,.bool false),(11,Ix I 0),(12,Ix O 0),(13,Iw k),(14,Y),(16,q),(17,Iw e),(82,Iw e),(83,q),(84,Iw c.length),(85,.bool true),(18,Ix z 0),(19,.bool ((zj d (zk d g) af).isSome)),(20,Ix B 0),(21,.bool ((zj d (zk d g) af).isSome))]) ⟨rfl,rfl,rfl,rfl,rfl,rfl,rfl,rfl,rfl,rfl,rfl,rfl,rfl,rfl,rfl,rfl,(by exact H),(by exact gt),zl⟩ (fun ρw866=>(zb (za (za (zF kr (st (mV (.bool ((zj d (zk d g) af).isSome)) (st (mV (.bool ((zj d (zk d g) af).isSome)) ?_)))))))))
 refine st (UD (a:=(zj d (zk d g) af).isSome) (b:=(zj d (zk d g) af).isSome) Tryz.underlying4 rfl rfl ?_)
 have cw:(!(((zj d (zk d g) af).isSome)== ((zj d (zk d g) af).isSome)))=false:=(by simp)
 rw[cw]
 refine st (mV (.bool false) (sty rfl rfl (zh (k:=2) tR pT rfl rfl (zo (ax.b2)) (sty rfl rfl (zh (k:=2) tR pT rfl rfl (zo (ax.b0)) ?_)))))
 obtain⟨G873,eV,hB876,eW,eX⟩:=(ax.mv4).lend
 have aY:=RowE.rd eV
 have hrd879s:_*32≤_:=aY.small
 obtain⟨G881,eY,eZ,fa,fb⟩:=(eW.mv1).lend
 have aZ:=RowE.rd eY
 have hrd887s:_*32≤_:=aZ.small
 refine sty rfl rfl (cL Tryz.call22 (Wp (x:=(yr d (((c.getD e default).typ),((c.getD e default).agg)) (zk d g))) (y:=(yr d (((c.getD e default).typ),((c.getD e default).agg)) (zk d g))) (zv aY eZ) (Ur (by rw[xc];omega)) aZ (Ur (by rw[xc];omega)) fa) ?_)
 rintro _ w888 ⟨rfl,fc⟩
 have fd:=fb _ _ fc
 have bX:=eX _ _ fd
 refine sty rfl rfl (yD (a:=decide ((yr d af (zk d g))=(yr d af (zk d g)))) rfl ?_)
 have cx:(!(decide ((yr d af (zk d g))=(yr d af (zk d g)))))=false:=(by simp)
 rw[cx]
 refine st (yt (v:=.bool false) rfl rfl (zb (ze rfl (zp ?_))))
 have gu:=fJ e om
 refine R0 fun _=>st (mV q (st (mV (Iw e) ?_)))
 have fe:e<c.length:=bo
 refine st (zf (k:=13) (i:=e) kT lT rfl L.1 rfl fe (st (xx rfl (st (xW rfl ?_)))))
 have ff:e<c.length:=bo
 obtain⟨_,_,cy,rfl,hoke894⟩:=bX.rowAtD (i:=6) (j:=e) rfl ff
 refine st (lD ((c.getD e default).dv) kR rfl (cy.get (j:=3) rfl) (st (cL lR (Ww gu (bX.mv7)) ?_)))
 rintro _ w897 ⟨rfl,fg⟩
 refine zb (R0 fun _=>st (mV (Iw e) ?_))
 have fh:InR ((e+1:Nat):Int):=bo
 refine st (zO (r:=((e+1:Nat):Int)) (k:=.i64) (a:=((e:Nat):Int)) (b:=1) rfl rfl (by rw[show(((e:Nat):Int)+1:Int)=((e+1:Nat):Int)from bo];exact zw fh) (st (aS (Iw (e+1)) (zb ?_))))
 exact⟨_,by omega,e+1,_,rfl,sSf,by omega,(fg.s8_fgha)⟩
 try simp only[zi]at be
 refine zg rfl (za (R0 fun _=>st (cL uT (xQ hKN fk) ?_)))
 rintro _ w901 ⟨rfl,fi⟩
 refine st (aS (.bool true) (zb (zq (zU qR (show _=(.bool true:Value)from rfl) ?_))))
 refine⟨rfl,(fi.s1_)⟩
set_option maxHeartbeats 8000000 in
set_option maxRecDepth 20000 in
theorem VN (hKN:RdS W G (.slice (some ⟨0,0,none⟩) 6 6) kindsL)(hS0:Sep G W Rs w):Ret Tryz.prog 4 [] w (fun r w'=>r=(.bool true:Value)∧Sep G W Rs w'):=by
 have hKNs:_*8≤_:=hKN.small
 refine zn (args:=[]) Tryz.func4 rfl rfl ?_
 refine za (R0 fun _=>st (aS (.bool false) (zb (za (R0 fun _=>st (cL Tryz.call24 (zbt hS0) ?_))))))
 rintro p w2 ⟨_,rfl,aZ⟩
 have bU:=aZ.r0
 have hr4s:_*96≤_:=bU.2
 refine st (aS p (zb (za (za ?_))))
 obtain⟨G5,bV,L,bW,bd⟩:=aZ.lend
 have g:=RowE.rd bV
 have hrd11s:_*96≤_:=g.small
 refine R0 fun _=>st (aS (Iv (-1)) (zb (zt (zZ (fun mq σ wq=> ∃(e:Int) (ρ:Env),mq=(8-e).toNat∧σ=yf ρ [(1,p),(2,Iv e)]∧(-1≤e∧e≤8)∧Sep G5 w2 Rs wq) ⟨(-1),_,rfl,sSf,by omega,bW⟩ ?_))))
 rintro m13 σ14 w12 ⟨e,ρl1,rfl,rfl,ha9,Y⟩
 refine za (za (R0 fun _=>st (mV (Iv e) (st (zK (k:=.i64) (a:=e) (b:=8) rfl rfl (zb ?_))))))
 cases q:decide (e<8)
 have q:=fD q
 refine ze rfl (ya (zR (za (R0 fun _=>st (cL uT (xQ (zv hKN L) Y) ?_)))))
 rintro _ w17 ⟨rfl,bf⟩
 refine st (aS (.bool true) (zb (zq (zU Tryz.results4 (show _=(.bool true:Value)from rfl) ?_))))
 have bg:=bd _ _ bf
 refine⟨rfl,(bg.s1_)⟩
 have q:=tD q
 refine zg rfl (zp (za (zt (za (R0 fun _=>st (aS (Iv 0) (zb (zt (zZ (fun mq σ wq=> ∃(k:Nat) (ρ:Env),mq=5-k∧σ=yf ρ [(1,p),(2,Iv e),(3,Iw k)]∧(k≤5)∧Sep G5 w2 Rs wq) ⟨0,_,rfl,sSf,zY _,Y⟩ ?_)))))))))
 rintro m22 σ23 w21 ⟨k,ρl2,rfl,rfl,hkk,Z⟩
 refine za (za (R0 fun _=>st (mV (Iw k) (st (zK (k:=.i64) (a:=((k:Nat):Int)) (b:=5) rfl rfl (zb ?_))))))
 cases s:decide (((k:Nat):Int)<5)
 have s:=fD s
 refine ze rfl (ya (zR (R0 fun _=>st (mV (Iv e) ?_))))
 have bh:InR (e+1):=om
 refine st (zO (r:=e+1) (k:=.i64) (a:=e) (b:=1) rfl rfl (by rw[show(e+1:Int)=e+1 from rfl];exact zw bh) (st (aS (Iv (e+1)) (zb ?_))))
 exact⟨_,by omega,e+1,_,rfl,sSf,by omega,Z⟩
 have s:=tD s
 refine zg rfl (zp (za (zt (za (R0 fun _=>?_)))))
 have bi:Trn.Ok (⟨0,4,0,false⟩:Trn):=⟨(show InR (0)from dc),(show InR (4)from dc),(show InR (0)from dc)⟩
 refine st (zV (parts':=[(1,Iv 4)]) (v:=.agg ((⟨0,4,0,false⟩:Trn).cells).toArray) rfl (by simp+zetaDelta [Instr.build,Instr.fill,go_sem,xA]) ?_)
 have ok28:Trn.Ok (⟨0,5,0,false⟩:Trn):=⟨(show InR (0)from dc),(show InR (5)from dc),(show InR (0)from dc)⟩
 refine st (zV (parts':=[(1,Iv 5)]) (v:=.agg ((⟨0,5,0,false⟩:Trn).cells).toArray) rfl (by simp+zetaDelta [Instr.build,Instr.fill,go_sem,xA]) (st (mV (Iw k) ?_)))
 have aa:InR ((k+2:Nat):Int):=bo
 refine st (zO (r:=((k+2:Nat):Int)) (k:=.i64) (a:=((k:Nat):Int)) (b:=2) rfl rfl (by rw[show(((k:Nat):Int)+2:Int)=((k+2:Nat):Int)from bo];exact zw aa) ?_)
 have bj:Trn.Ok (⟨0,5,((k+2:Nat):Int),false⟩:Trn):=⟨(show InR (0)from dc),(show InR (5)from dc),(show InR (((k+2:Nat):Int))from aa)⟩
 refine st (zV (parts':=[(1,Iv 5),(2,Iw (k+2))]) (v:=.agg ((⟨0,5,((k+2:Nat):Int),false⟩:Trn).cells).toArray) rfl (by simp+zetaDelta [Instr.build,Instr.fill,go_sem,xA]) (st (mV (Iw k) ?_)))
 have bk:Trn.Ok (⟨((k:Nat):Int),5,0,false⟩:Trn):=⟨(show InR (((k:Nat):Int))from om),(show InR (5)from dc),(show InR (0)from dc)⟩
 refine st (zV (parts':=[(0,Iw k),(1,Iv 5)]) (v:=.agg ((⟨((k:Nat):Int),5,0,false⟩:Trn).cells).toArray) rfl (by simp+zetaDelta [Instr.build,Instr.fill,go_sem,xA]) ?_)
 have bl:Trn.Ok (⟨0,5,0,true⟩:Trn):=⟨(show InR (0)from dc),(show InR (5)from dc),(show InR (0)from dc)⟩
 refine st (zV (parts':=[(1,Iv 5),(3,.bool true)]) (v:=.agg ((⟨0,5,0,true⟩:Trn).cells).toArray) rfl (by simp+zetaDelta [Instr.build,Instr.fill,go_sem,xA]) (st (mV (Iw k) ?_)))
 have bm:Trn.Ok (⟨0,((k:Nat):Int),0,false⟩:Trn):=⟨(show InR (0)from dc),(show InR (((k:Nat):Int))from om),(show InR (0)from dc)⟩
 refine st (zV (parts':=[(1,Iw k)]) (v:=.agg ((⟨0,((k:Nat):Int),0,false⟩:Trn).cells).toArray) rfl (by simp+zetaDelta [Instr.build,Instr.fill,go_sem,xA]) ?_)
 have ab:Trn.Ok (⟨0,5,0,false⟩:Trn):=⟨(show InR (0)from dc),(show InR (5)from dc),(show InR (0)from dc)⟩
 refine st (zV (parts':=[(1,Iv 5)]) (v:=.agg ((⟨0,5,0,false⟩:Trn).cells).toArray) rfl (by simp+zetaDelta [Instr.build,Instr.fill,go_sem,xA]) ?_)
 refine st (zH (k:=4) (parts':=[(0,.agg ((⟨0,4,0,false⟩:Trn).cells).toArray),(1,.agg ((⟨0,5,0,false⟩:Trn).cells).toArray),(2,.agg ((⟨0,5,((k+2:Nat):Int),false⟩:Trn).cells).toArray),(3,.agg ((⟨((k:Nat):Int),5,0,false⟩:Trn).cells).toArray),(4,.agg ((⟨0,5,0,true⟩:Trn).cells).toArray),(5,.agg ((⟨0,((k:Nat):Int),0,false⟩:Trn).cells).toArray),(6,.agg ((⟨0,5,0,false⟩:Trn).cells).toArray)]) (c:=#[Iv 0,Iv 4,Iv 0,.bool false,Iv 0,Iv 5,Iv 0,.bool false,Iv 0,Iv 5,Iw (k+2),.bool false,Iw k,Iv 5,Iv 0,.bool false,Iv 0,Iv 5,Iv 0,.bool true,Iv 0,Iw k,Iv 0,.bool false,Iv 0,Iv 5,Iv 0,.bool false]) tT vT Tryz.zeroValue38 dc rfl kr ?_)
 intro j m bn
 refine st (aS (Iy m 7 7) (zb (za ?_)))
 have ac:Sep G5 w2 ((RowE (α:=Trn) own 38 (Iy m 7 7) [(⟨0,4,0,false⟩:Trn),(⟨0,5,0,false⟩:Trn),(⟨0,5,((k+2:Nat):Int),false⟩:Trn),(⟨((k:Nat):Int),5,0,false⟩:Trn),(⟨0,5,0,true⟩:Trn),(⟨0,((k:Nat):Int),0,false⟩:Trn),(⟨0,5,0,false⟩:Trn)])::Rs) j:=Sep.blkRow (src:=own) (l:=[(⟨0,4,0,false⟩:Trn),(⟨0,5,0,false⟩:Trn),(⟨0,5,((k+2:Nat):Int),false⟩:Trn),(⟨((k:Nat):Int),5,0,false⟩:Trn),(⟨0,5,0,true⟩:Trn),(⟨0,((k:Nat):Int),0,false⟩:Trn),(⟨0,5,0,false⟩:Trn)]) (css:=[(⟨0,4,0,false⟩:Trn).cells,(⟨0,5,0,false⟩:Trn).cells,(⟨0,5,((k+2:Nat):Int),false⟩:Trn).cells,(⟨((k:Nat):Int),5,0,false⟩:Trn).cells,(⟨0,5,0,true⟩:Trn).cells,(⟨0,((k:Nat):Int),0,false⟩:Trn).cells,(⟨0,5,0,false⟩:Trn).cells]) (Z.new bn) rfl ⟨fun _ _=>⟨rfl,bi⟩,fun _ _=>⟨rfl,ab⟩,fun _ _=>⟨rfl,bj⟩,fun _ _=>⟨rfl,bk⟩,fun _ _=>⟨rfl,bl⟩,fun _ _=>⟨rfl,bm⟩,fun _ _=>⟨rfl,ab⟩,zl⟩ yqa (show 7≤maxLen by decide)
 have bp:=ac.r0
 have hr40s:_*32≤_:=bp.2
 obtain⟨o,bq,f,br,bs⟩:=ac.lend
 have u:=RowE.rd bq
 have hrd47s:_*32≤_:=u.small
 refine zF kr (st (cL wT (YT br) ?_))
 rintro _ M ⟨bt,ad,bu,rfl,bv⟩
 refine st (mV (Iv e) (st (mV p (st (mV (Iy m 7 7) ?_)))))
 have ae:Sep _ _ ((RowE (α:=Fld) (shr o j) 87 (Iy ad 1 1) [(⟨1,1,false,[]⟩:Fld)])::_) _:=Sep.blkRow (src:=(shr o j)) (l:=[(⟨1,1,false,[]⟩:Fld)]) (css:=[(⟨1,1,false,[]⟩:Fld).cells (Iz)]) (bv.mv1) rfl ⟨fun _ _=>⟨_,rfl,(RdS.nil _ _),(show Fld.Ok (⟨1,1,false,[]⟩:Fld)from⟨by decide,by decide⟩)⟩,zl⟩ yqa (show 1≤maxLen by decide)
 have bw:=ae.r0
 have hr55s:_*48≤_:=bw.2
 obtain⟨ba,bx,x,bz,bA⟩:=ae.lend
 have N:=RowE.rdB bx x
 have hrd62s:_*48≤_:=N.small
 have af:Sep _ _ ((RowE (α:=Typ) (shr ba M) 83 (Iy bt 1 1) [(⟨[(⟨1,1,false,[]⟩:Fld)]⟩:Typ)])::_) _:=Sep.blkRow (src:=(shr ba M)) (l:=[(⟨[(⟨1,1,false,[]⟩:Fld)]⟩:Typ)]) (css:=[(⟨[(⟨1,1,false,[]⟩:Fld)]⟩:Typ).cells (Iy ad 1 1)]) bz rfl ⟨fun _ _=>⟨_,rfl,N,(show Typ.Ok (⟨[(⟨1,1,false,[]⟩:Fld)]⟩:Typ)from⟨⟩)⟩,zl⟩ yqa (show 1≤maxLen by decide)
 have bB:=af.r0
 have hr64s:_*24≤_:=bB.2
 obtain⟨bX,bC,y,bD,bE⟩:=af.lend
 have O:=RowE.rdB bC y
 have hrd71s:_*24≤_:=O.small
 have ag:Sep bX M ((RowE (α:=Prj) own 73 (Iy bu 1 1) [(⟨0,0,1,0,2⟩:Prj)])::Rs) M:=Sep.blkRow (src:=own) (l:=[(⟨0,0,1,0,2⟩:Prj)]) (css:=[(⟨0,0,1,0,2⟩:Prj).cells]) bD rfl ⟨fun _ _=>⟨rfl,(show Prj.Ok (⟨0,0,1,0,2⟩:Prj)from⟨by decide,by decide,by decide,by decide,by decide⟩)⟩,zl⟩ yqa (show 1≤maxLen by decide)
 have bF:=ag.r0
 have hr73s:_*40≤_:=bF.2
 obtain⟨G74,bG,z,bH,bI⟩:=ag.lend
 have P:=RowE.rd bG
 have hrd80s:_*40≤_:=P.small
 refine st (cL Tryz.call3 (WE (d:=dC) (n:=0) (every:=e) (l:=fiv) (vl:=p) (t:=[(⟨0,4,0,false⟩:Trn),(⟨0,5,0,false⟩:Trn),(⟨0,5,((k+2:Nat):Int),false⟩:Trn),(⟨((k:Nat):Int),5,0,false⟩:Trn),(⟨0,5,0,true⟩:Trn),(⟨0,((k:Nat):Int),0,false⟩:Trn),(⟨0,5,0,false⟩:Trn)]) (vt:=(Iy m 7 7)) (zv O z) P (⟨⟩:Dcl.Ok dC) dc om (zv (zv (zv (zv g f) x) y) z) (zv (zv (zv u x) y) z) (zv (zv (zv (zv (zv hKN L) f) x) y) z) bH) ?_)
 rintro _ w81 ⟨rfl,bJ⟩
 have bK:=bI _ _ bJ
 have bL:=bE _ _ bK
 have bM:=bA _ _ bL
 refine st (yD (a:=true) rfl (st (mV (.bool false) (sty rfl rfl (cL wT (YT (bM.s3_ac)) ?_)))))
 rintro _ bb ⟨bN,ah,bO,rfl,bP⟩
 refine sty rfl rfl (mV (Iv e) (sty rfl rfl (mV p (sty rfl rfl (mV (Iy m 7 7) ?_)))))
 have ai:Sep _ _ ((RowE (α:=Fld) (shr o j) 87 (Iy ah 1 1) [(⟨1,1,false,[]⟩:Fld)])::_) _:=Sep.blkRow (src:=(shr o j)) (l:=[(⟨1,1,false,[]⟩:Fld)]) (css:=[(⟨1,1,false,[]⟩:Fld).cells (Iz)]) (bP.mv1) rfl ⟨fun _ _=>⟨_,rfl,(RdS.nil _ _),(show Fld.Ok (⟨1,1,false,[]⟩:Fld)from⟨by decide,by decide⟩)⟩,zl⟩ yqa (show 1≤maxLen by decide)
 have bQ:=ai.r0
 have hr94s:_*48≤_:=bQ.2
 obtain⟨bc,bR,A,bS,an⟩:=ai.lend
 have E:=RowE.rdB bR A
 have hrd101s:_*48≤_:=E.small
 have Q:Sep _ _ ((RowE (α:=Typ) (shr bc bb) 83 (Iy bN 1 1) [(⟨[(⟨1,1,false,[]⟩:Fld)]⟩:Typ)])::_) _:=Sep.blkRow (src:=(shr bc bb)) (l:=[(⟨[(⟨1,1,false,[]⟩:Fld)]⟩:Typ)]) (css:=[(⟨[(⟨1,1,false,[]⟩:Fld)]⟩:Typ).cells (Iy ah 1 1)]) bS rfl ⟨fun _ _=>⟨_,rfl,E,(show Typ.Ok (⟨[(⟨1,1,false,[]⟩:Fld)]⟩:Typ)from⟨⟩)⟩,zl⟩ yqa (show 1≤maxLen by decide)
 have ao:=Q.r0
 have hr103s:_*24≤_:=ao.2
 obtain⟨G104,ap,h,aq,ar⟩:=Q.lend
 have F:=RowE.rdB ap h
 have hrd110s:_*24≤_:=F.small
 have R:Sep _ _ ((RowE (α:=Prj) own 73 (Iy bO 1 1) [(⟨0,0,1,0,2⟩:Prj)])::_) _:=Sep.blkRow (src:=own) (l:=[(⟨0,0,1,0,2⟩:Prj)]) (css:=[(⟨0,0,1,0,2⟩:Prj).cells]) aq rfl ⟨fun _ _=>⟨rfl,(show Prj.Ok (⟨0,0,1,0,2⟩:Prj)from⟨by decide,by decide,by decide,by decide,by decide⟩)⟩,zl⟩ yqa (show 1≤maxLen by decide)
 have au:=R.r0
 have hr112s:_*40≤_:=au.2
 obtain⟨G113,av,i,aw,ax⟩:=R.lend
 have H:=RowE.rd av
 have hrd119s:_*40≤_:=H.small
 refine sty rfl rfl (cL Tryz.call26 (US (d:=dC) (n:=0) (every:=e) (l:=fiv) (vl:=p) (t:=[(⟨0,4,0,false⟩:Trn),(⟨0,5,0,false⟩:Trn),(⟨0,5,((k+2:Nat):Int),false⟩:Trn),(⟨((k:Nat):Int),5,0,false⟩:Trn),(⟨0,5,0,true⟩:Trn),(⟨0,((k:Nat):Int),0,false⟩:Trn),(⟨0,5,0,false⟩:Trn)]) (vt:=(Iy m 7 7)) (zv F i) H (⟨⟩:Dcl.Ok dC) dc om (zv (zv (zv (zv g f) A) h) i) (zv (zv (zv u A) h) i) (zv (zv (zv (zv (zv hKN L) f) A) h) i) aw) ?_)
 rintro _ w120 ⟨rfl,ay⟩
 have az:=ax _ _ ay
 have aA:=ar _ _ az
 have aB:=an _ _ aA
 refine sty rfl rfl (yD (a:=true) rfl (st (yt (v:=.bool false) rfl rfl (st (mV (.bool false) (sty rfl rfl (cL wT (YT (aB.s5_acde)) ?_)))))))
 rintro _ aj ⟨aC,S,aD,rfl,aE⟩
 refine sty rfl rfl (mV (Iv e) (sty rfl rfl (mV p (sty rfl rfl (mV (Iw k) ?_)))))
 have T:InR ((k+1:Nat):Int):=bo
 refine sty rfl rfl (zO (r:=((k+1:Nat):Int)) (k:=.i64) (a:=((k:Nat):Int)) (b:=1) rfl rfl (by rw[show(((k:Nat):Int)+1:Int)=((k+1:Nat):Int)from bo];exact zw T) (sty rfl rfl (mV (Iw k) ?_)))
 have U:Sep _ _ ((RowE (α:=Fld) (shr o j) 87 (Iy S 1 1) [(⟨1,1,false,[]⟩:Fld)])::_) _:=Sep.blkRow (src:=(shr o j)) (l:=[(⟨1,1,false,[]⟩:Fld)]) (css:=[(⟨1,1,false,[]⟩:Fld).cells (Iz)]) (aE.mv1) rfl ⟨fun _ _=>⟨_,rfl,(RdS.nil _ _),(show Fld.Ok (⟨1,1,false,[]⟩:Fld)from⟨by decide,by decide⟩)⟩,zl⟩ yqa (show 1≤maxLen by decide)
 have aF:=U.r0
 have hr134s:_*48≤_:=aF.2
 obtain⟨ak,aG,B,aH,aI⟩:=U.lend
 have I:=RowE.rdB aG B
 have hrd141s:_*48≤_:=I.small
 have V:Sep _ _ ((RowE (α:=Typ) (shr ak aj) 83 (Iy aC 1 1) [(⟨[(⟨1,1,false,[]⟩:Fld)]⟩:Typ)])::_) _:=Sep.blkRow (src:=(shr ak aj)) (l:=[(⟨[(⟨1,1,false,[]⟩:Fld)]⟩:Typ)]) (css:=[(⟨[(⟨1,1,false,[]⟩:Fld)]⟩:Typ).cells (Iy S 1 1)]) aH rfl ⟨fun _ _=>⟨_,rfl,I,(show Typ.Ok (⟨[(⟨1,1,false,[]⟩:Fld)]⟩:Typ)from⟨⟩)⟩,zl⟩ yqa (show 1≤maxLen by decide)
 have aJ:=V.r0
 have hr143s:_*24≤_:=aJ.2
 obtain⟨G144,aK,C,aL,aM⟩:=V.lend
 have J:=RowE.rdB aK C
 have hrd150s:_*24≤_:=J.small
 have X:Sep _ _ ((RowE (α:=Prj) own 73 (Iy aD 1 1) [(⟨0,0,1,0,2⟩:Prj)])::_) _:=Sep.blkRow (src:=own) (l:=[(⟨0,0,1,0,2⟩:Prj)]) (css:=[(⟨0,0,1,0,2⟩:Prj).cells]) aL rfl ⟨fun _ _=>⟨rfl,(show Prj.Ok (⟨0,0,1,0,2⟩:Prj)from⟨by decide,by decide,by decide,by decide,by decide⟩)⟩,zl⟩ yqa (show 1≤maxLen by decide)
 have aN:=X.r0
 have hr152s:_*40≤_:=aN.2
 obtain⟨G153,aO,D,aP,aQ⟩:=X.lend
 have K:=RowE.rd aO
 have hrd159s:_*40≤_:=K.small
 refine sty rfl rfl (cL Tryz.call27 (Vf (d:=dC) (n:=0) (every:=e) (l:=fiv) (vl:=p) (ka:=((k+1:Nat):Int)) (ko:=((k:Nat):Int)) (zv J D) K (⟨⟩:Dcl.Ok dC) dc om (zv (zv (zv (zv g f) B) C) D) T om (zv (zv (zv (zv (zv hKN L) f) B) C) D) aP) ?_)
 rintro _ bT ⟨rfl,aR⟩
 have aT:=aQ _ _ aR
 have aU:=aM _ _ aT
 have aV:=aI _ _ aU
 refine sty rfl rfl (yD (a:=true) rfl (st (yt (v:=.bool false) rfl rfl (zb (ze rfl (zp ?_))))))
 have aW:=bs _ _ (aV.s7_acdefg)
 refine R0 fun _=>st (mV (Iw k) ?_)
 have aX:InR ((k+1:Nat):Int):=bo
 refine st (zO (r:=((k+1:Nat):Int)) (k:=.i64) (a:=((k:Nat):Int)) (b:=1) rfl rfl (by rw[show(((k:Nat):Int)+1:Int)=((k+1:Nat):Int)from bo];exact zw aX) (st (aS (Iw (k+1)) (zb ?_))))
 have aY:Sep G5 w2 Rs bT:=aW.sel 7 [] (xq _ _) rfl rfl
 exact⟨_,by omega,k+1,_,rfl,sSf,by omega,aY⟩
theorem VL {w:World}(hK:RdS w (WU w) (.slice (some ⟨0,0,none⟩) 6 6) kindsL):Ret Tryz.prog 4 [] w (fun r w'=>r=.bool true∧Ext w w'):=
 Ret.mono (VN hK (Sep.start w)) (fun r w' h=>⟨h.1,h.2.fin⟩)
end
end Go.Proofs.YtpdolkiohjdodaaGreatDoor
