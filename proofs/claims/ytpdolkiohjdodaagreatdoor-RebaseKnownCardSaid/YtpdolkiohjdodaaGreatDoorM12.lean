import Derived.Test.YtpdolkiohjdodaaGreatDoorM11
set_option maxRecDepth 8000
set_option maxHeartbeats 4000000
set_option linter.unusedSimpArgs false
set_option linter.unusedVariables false
set_option linter.unusedSectionVars false
set_option linter.deprecated false
open Go.Proofs.Tryz renaming isAgg3→kT,sizeOf105→lT,sizeOf52→mT,sizeOf55→nT,sizeOf57→oT,sizeOf83→pT,isAgg55→qT,isAgg52→rT,underlying42→sT,isAgg42→tT,sizeOf48→uT,underlying46→vT,isAgg105→wT,sizeOf87→kR,isAgg22→lR,underlying22→mR,results77→nR,zeroValue57→oR,isAgg83→pR,sizeOf3→qR,isAgg57→rR,call40→sR,isAgg48→tR,results86→uR,underlying67→vR,isAgg81→wR,underlying81→kY,isAgg53→lY,sizeOf53→mY,zeroValue55→nY,zeroValue48→oY,results50→pY,isAgg87→qY,sizeOf70→rY,isAgg25→sY,sizeOf25→tY,call76→uY,isAgg4→vY,isAgg46→wY,zeroValue52→kA,call102→lA,isAgg67→mA
namespace Go.Proofs.YtpdolkiohjdodaaGreatDoor
variable {G:Nat→Prop}{W w:World}{Rs:List HP}
section
open Go.Proofs Go.RowKit
theorem XY {t:Typ}{c:List Cel}{fi op arg a:Int}{S:List Int}(h:(⟨a,S⟩:Cel)=xd (xn t fi) (yE c fi) op arg):c.set fi.toNat (⟨a,S⟩:Cel)=doL t c fi op arg:=by unfold doL;rw[h]
theorem dc_1 {fl:Fld}{c:Cel}{arg:Int}:xd fl c 1 arg=⟨IntKind.i64.wrap (c.n+arg),c.set⟩:=rfl
theorem dc_2 {fl:Fld}{c:Cel}{arg:Int}:xd fl c 2 arg=⟨arg,c.set⟩:=rfl
theorem dc_3 {fl:Fld}{c:Cel}{arg:Int}:xd fl c 3 arg=⟨c.n,ZW c.set arg⟩:=rfl
theorem dc_4 {fl:Fld}{c:Cel}{arg:Int}:xd fl c 4 arg=⟨c.n,Zz c.set arg⟩:=rfl
theorem dc_5 {fl:Fld}{c:Cel}{arg:Int}:xd fl c 5 arg=⟨(Yg fl arg).to,c.set⟩:=rfl
theorem dc_o {fl:Fld}{c:Cel}{op arg:Int}(h1: ¬op=1)(h2: ¬op=2)(h3: ¬op=3)(h4: ¬op=4)(h5: ¬op=5):xd fl c op arg=c:=by unfold xd;rw[if_neg h1,if_neg h2,if_neg h3,if_neg h4,if_neg h5]
theorem zaZ {t:Typ}{dt0:Value}(hdt0:RdS W G dt0 t.fields)(ot:t.Ok){vc:Value}{c:List Cel}(hc:RdS W G vc c){fi:Int}(hfi:InR fi){op:Int}(hop:InR op){arg:Int}(harg:InR arg)(hS0:Sep G W Rs w)(hask:Wy t c fi op arg)(hfew:(c.getD fi.toNat default).set.length≤1000):Ret Tryz.prog 77 [.agg (t.cells dt0).toArray,vc,.int .i64 (fi),.int .i64 (op),.int .i64 (arg)] w (fun r w'=> ∃(v:Value),r=(v:Value)∧Sep G W ((RowE (α:=Cel) own 105 v (doL t c fi op arg))::Rs) w'):=by
 let bj:=doL t c fi op arg
 let bi:=c.gd fi.toNat
 let bh:=((t.fields.gd fi.toNat).moves).gd arg.toNat
 have hdt0s:_*48≤_:=hdt0.small
 have hcs:_*32≤_:=hc.small
 have ha0:=hask.1
 have ha1:=hask.2.1
 have ha2:=hask.2.2.1
 refine zn (args:=[.agg (t.cells dt0).toArray,vc,Iv fi,Iv op,Iv arg]) Tryz.func77 rfl rfl ?_
 refine za (R0 fun _=>st (zX (v:=.agg (t.cells dt0).toArray) rfl ?_))
 intro w3 b2 bd
 refine st (aS Iz (zb (za (R0 fun _=>st (mV vc (st (cL Tryz.call89 (zdF (c:=c) (vc:=vc) hc (hS0.new bd)) ?_)))))))
 rintro e w6 ⟨_,rfl,bf⟩
 refine st (aS e (zb (za (R0 fun _=>?_))))
 obtain⟨d,g,aH⟩:=CelW.open bf
 let be:=d.gd fi.toNat
 have hsh9l:=g.1
 have J:Sep G W ((RowE (α:=CelS) own 105 e d)::(Star (SetRows 3 d c))::(Blk b2 (t.cells dt0).toArray 83)::Rs) w6:=aH
 have p:=J.r0
 have hr11s:_*32≤_:=p.2
 have K:=g.2 fi.toNat om
 have I:Sep G W ((RowE (α:=Int) own 3 ((d.gd fi.toNat).v) ((c.gd fi.toNat).set))::(Star ((SetRows 3 d c).set fi.toNat Emp))::(RowE (α:=CelS) own 105 e d)::(Blk b2 (t.cells dt0).toArray 83)::Rs) w6:=Sep.takeStar (J.mv1) (SetRows.get (i:=fi.toNat) om om)
 have m:=I.r0
 have hr14s:_*8≤_:=m.2
 refine st (mV e (st (mV (Iv fi) ?_)))
 have hi15:fi.toNat<d.length:=bo
 refine st (zB (k:=2) (i:=fi) vT lT rfl p.1 rfl ⟨by omega,by omega⟩ ?_)
 have aI:fi.toNat<d.length:=bo
 obtain⟨_,_,an,rfl,y⟩:=I.rowAtD (i:=2) (j:=fi.toNat) rfl aI
 refine st (zh (k:=2) wT lT rfl rfl an (st (zG Tryz.zeroValue105 ?_)))
 intro w20 b19 aJ
 have Y:=I.new aJ
 refine stn (zy (v:=.agg (be.cells).toArray) (c':=(be.cells).toArray) lT rfl rfl (Y.b0) (yo ⟨rfl,m.1.one,zl⟩) yqc rfl ?_)
 intro w22 aK
 have f:=Y.pt0 aK
 refine zb (za (za (R0 fun _=>st (mV (Iv op) (zb (zt (za (R0 fun _=>st (zS (k:=.i64) (a:=op) (b:=1) rfl rfl (st (aS (.bool (decide (op=1))) (zb ?_))))))))))))
 cases z:decide (op=1)
 have z:=fD z
 refine ze rfl (za (R0 fun _=>st (zS (k:=.i64) (a:=op) (b:=2) rfl rfl (st (aS (.bool (decide (op=2))) (zb ?_))))))
 cases A:decide (op=2)
 have A:=fD A
 refine ze rfl (za (R0 fun _=>st (zS (k:=.i64) (a:=op) (b:=3) rfl rfl (st (aS (.bool (decide (op=3))) (zb ?_))))))
 cases B:decide (op=3)
 have B:=fD B
 refine ze rfl (za (R0 fun _=>st (zS (k:=.i64) (a:=op) (b:=4) rfl rfl (st (aS (.bool (decide (op=4))) (zb ?_))))))
 cases C:decide (op=4)
 have C:=fD C
 refine ze rfl (za (R0 fun _=>st (zS (k:=.i64) (a:=op) (b:=5) rfl rfl (st (aS (.bool (decide (op=5))) (zb ?_))))))
 cases x:decide (op=5)
 have x:=fD x
 refine ze rfl (zp (za (R0 fun _=>st (mV e (st (mV (Iv fi) (st (zh (k:=2) wT lT rfl rfl (zo (f.b0)) ?_))))))))
 have hi30:fi.toNat<d.length:=bo
 refine st (zB (k:=2) (i:=fi) vT lT rfl p.1 rfl ⟨by omega,by omega⟩ ?_)
 have aL:=(f.mv3).emp1
 refine stn (yJ (α:=CelS) (j:=fi.toNat) (o:=0) (u:=.agg ((d.getD fi.toNat default).cells).toArray) (us:=(d.getD fi.toNat default).cells) (x1:=(⟨(d.getD fi.toNat default).n,(d.getD fi.toNat default).v⟩:CelS)) aL lT bo rfl rfl rfl (yQ rfl) (yo ⟨rfl,m.1.one,zl⟩) (fun _ _ _ hel _=>(by rw[←zJ default (by omega)]at hel;obtain⟨rfl,hok⟩:=hel;exact⟨rfl,⟨y.n,m.1.one⟩⟩)) ?_)
 intro w31 Z
 have aM:=Z.r0
 have hr35s:_*32≤_:=aM.2
 refine zb (za ?_)
 have aa:Sep _ _ ((CelW e 105 3 (c.set fi.toNat (⟨(d.gd fi.toNat).n,(c.gd fi.toNat).set⟩:Cel)))::_) _:=CelW.close (i:=fi.toNat) (s:=(⟨(d.gd fi.toNat).n,(d.gd fi.toNat).v⟩:CelS)) (c:=(⟨(d.gd fi.toNat).n,(c.gd fi.toNat).set⟩:Cel)) g.1 g.2 om rfl (Z.s5_cdabe)
 have h:c.set fi.toNat (⟨(d.getD fi.toNat default).n,(c.getD fi.toNat default).set⟩:Cel)=doL t c fi op arg:=XY (by rw[K,dc_o (by omega) (by omega) (by omega) (by omega) (by omega)];rfl)
 rw[h]at aa
 have aN:Sep _ _ ((RowE (α:=Cel) own 105 e bj)::_) _:=CelW.row aa
 refine R0 fun _=>st (mV e (st (aS e (zb (zq (zU nR (show _=(e:Value)from rfl) ?_))))))
 refine⟨e,rfl,(aN.s3_a)⟩
 have x:=tD x
 have bg:=hask.2.2.2.2 x
 have ha51:arg<(t.fields.gd fi.toNat).moves.length:=bg.2.1
 refine zg rfl (R0 fun _=>st (yU rfl (st (lD dt0 wR rfl (zd (f.b4) rfl) (st (mV (Iv fi) ?_))))))
 have hi40:fi.toNat<t.fields.length:=bo
 refine st (zB (k:=4) (i:=fi) kY kR rfl hdt0.sl rfl ⟨by omega,by omega⟩ (st (yT rfl ?_)))
 have ab:fi.toNat<t.fields.length:=bo
 obtain⟨ao,q,hoke41⟩:=hdt0.fldD ab
 have hsm43:((t.fields.gd fi.toNat).moves).length*32≤140737488355328:=q.small
 have ap:=f.cells ao (hdt0.foot (ne_of_lt ab))
 refine st (lD (zT W (sb dt0) (so dt0+fi.toNat*4+3)) Tryz.isAgg85 rfl (ap.get (j:=3) rfl) (st (mV (Iv arg) ?_)))
 have hi45:arg.toNat<((t.fields.gd fi.toNat).moves).length:=bo
 refine st (zB (k:=4) (i:=arg) Tryz.underlying85 Tryz.sizeOf90 rfl q.sl rfl ⟨by omega,by omega⟩ (st (Kh rfl ?_)))
 have ac:arg.toNat<((t.fields.gd fi.toNat).moves).length:=bo
 obtain⟨aq,ad⟩:=q.mvD ac
 have ar:=f.cells aq (q.foot (ne_of_lt ac))
 refine st (lD (Iv (bh.to)) kT rfl (ar.get (j:=1) rfl) (st (xa rfl (stn (ym (v:=Iv (bh.to)) qR rfl rfl (f.b0) rfl rfl rfl ?_)))))
 intro w49 aO
 have ae:=f.pt0 aO
 refine zb (za (R0 fun _=>st (mV e (st (mV (Iv fi) (st (zh (k:=2) wT lT rfl rfl (zo (ae.b0)) ?_)))))))
 have hi52:fi.toNat<d.length:=bo
 refine st (zB (k:=2) (i:=fi) vT lT rfl p.1 rfl ⟨by omega,by omega⟩ ?_)
 have aP:=(ae.mv3).emp1
 refine stn (yJ (α:=CelS) (j:=fi.toNat) (o:=0) (u:=.agg #[Iv ((((t.fields.getD fi.toNat default).moves).getD arg.toNat default).to),(d.getD fi.toNat default).v]) (us:=[Iv ((((t.fields.getD fi.toNat default).moves).getD arg.toNat default).to),(d.getD fi.toNat default).v]) (x1:=(⟨(((t.fields.getD fi.toNat default).moves).getD arg.toNat default).to,(d.getD fi.toNat default).v⟩:CelS)) aP lT bo rfl rfl rfl (yQ rfl) (yo ⟨rfl,m.1.one,zl⟩) (fun _ _ _ hel _=>(by rw[←zJ default (by omega)]at hel;obtain⟨rfl,hok⟩:=hel;exact⟨rfl,⟨ad.to,m.1.one⟩⟩)) ?_)
 intro w53 af
 have aQ:=af.r0
 have hr57s:_*32≤_:=aQ.2
 refine zb (za ?_)
 have ag:Sep _ _ ((CelW e 105 3 (c.set fi.toNat (⟨(((t.fields.gd fi.toNat).moves).gd arg.toNat).to,(c.gd fi.toNat).set⟩:Cel)))::_) _:=CelW.close (i:=fi.toNat) (s:=(⟨(((t.fields.gd fi.toNat).moves).gd arg.toNat).to,(d.gd fi.toNat).v⟩:CelS)) (c:=(⟨(((t.fields.gd fi.toNat).moves).gd arg.toNat).to,(c.gd fi.toNat).set⟩:Cel)) g.1 g.2 om rfl (af.s5_cdabe)
 have h:c.set fi.toNat (⟨bh.to,bi.set⟩:Cel)=doL t c fi op arg:=XY (by rw[x,dc_5];rfl)
 rw[h]at ag
 have aR:Sep _ _ ((RowE (α:=Cel) own 105 e bj)::_) _:=CelW.row ag
 refine R0 fun _=>st (mV e (st (aS e (zb (zq (zU nR (show _=(e:Value)from rfl) ?_))))))
 refine⟨e,rfl,(aR.s3_a)⟩
 have C:=tD C
 have aG:Asc (c.gd fi.toNat).set:=hask.2.2.2.1 om
 refine zg rfl (R0 fun _=>st (yY rfl (st (lD (be.v) lY rfl (zd (f.b0) rfl) (st (mV (Iv arg) ?_))))))
 obtain⟨G63,aT,hB66,aU,aV⟩:=(f.mv1).lend
 have L:=RowE.rd aT
 have hrd69s:_*8≤_:=L.small
 refine st (cL Tryz.call91 (JC (l:=bi.set) (vl:=be.v) (n:=arg) L harg aU hfew) ?_)
 rintro D w71 ⟨_,rfl,ah⟩
 have F:=ah.r0
 have hr73s:_*8≤_:=F.2
 have ai:=aV _ _ ah
 refine st (yY rfl (stn (ym (v:=D) mY rfl rfl (ai.b2) F.1.one rfl rfl ?_)))
 intro w75 aW
 have aj:=ai.pt2 aW
 refine zb (za (R0 fun _=>st (mV e (st (mV (Iv fi) (st (zh (k:=2) wT lT rfl rfl (zo (aj.b2)) ?_)))))))
 have hi78:fi.toNat<d.length:=bo
 refine st (zB (k:=2) (i:=fi) vT lT rfl p.1 rfl ⟨by omega,by omega⟩ ?_)
 have aX:=(aj.mv4).emp1
 refine stn (yJ (α:=CelS) (j:=fi.toNat) (o:=0) (u:=.agg #[Iv ((d.getD fi.toNat default).n),D]) (us:=[Iv ((d.getD fi.toNat default).n),D]) (x1:=(⟨(d.getD fi.toNat default).n,D⟩:CelS)) aX lT bo rfl rfl rfl (yQ rfl) (yo ⟨rfl,F.1.one,zl⟩) (fun _ _ _ hel _=>(by rw[←zJ default (by omega)]at hel;obtain⟨rfl,hok⟩:=hel;exact⟨rfl,⟨y.n,F.1.one⟩⟩)) ?_)
 intro w79 ak
 have aY:=ak.r0
 have hr83s:_*32≤_:=aY.2
 refine zb (za ?_)
 have al:Sep _ _ ((CelW e 105 3 (c.set fi.toNat (⟨(d.gd fi.toNat).n,(Zz ((c.gd fi.toNat).set) arg)⟩:Cel)))::_) _:=CelW.close (i:=fi.toNat) (s:=(⟨(d.gd fi.toNat).n,D⟩:CelS)) (c:=(⟨(d.gd fi.toNat).n,(Zz ((c.gd fi.toNat).set) arg)⟩:Cel)) g.1 g.2 om rfl (ak.s6_ceabdf)
 have h:c.set fi.toNat (⟨be.n,(Zz (bi.set) arg)⟩:Cel)=doL t c fi op arg:=XY (by rw[K,C,dc_4];rfl)
 rw[h]at al
 have aZ:Sep _ _ ((RowE (α:=Cel) own 105 e bj)::_) _:=CelW.row al
 refine R0 fun _=>st (mV e (st (aS e (zb (zq (zU nR (show _=(e:Value)from rfl) ?_))))))
 refine⟨e,rfl,(aZ.s4_a)⟩
 have B:=tD B
 have aG:Asc (c.gd fi.toNat).set:=hask.2.2.2.1 om
 refine zg rfl (R0 fun _=>st (yY rfl (st (lD (be.v) lY rfl (zd (f.b0) rfl) (st (mV (Iv arg) ?_))))))
 obtain⟨G89,ba,hB92,bb,bc⟩:=(f.mv1).lend
 have M:=RowE.rd ba
 have hrd95s:_*8≤_:=M.small
 refine st (cL Tryz.call90 (zdz (l:=bi.set) (vl:=be.v) (n:=arg) M harg bb aG hfew) ?_)
 rintro E w97 ⟨_,rfl,am⟩
 have H:=am.r0
 have hr99s:_*8≤_:=H.2
 have N:=bc _ _ am
 refine st (yY rfl (stn (ym (v:=E) mY rfl rfl (N.b2) H.1.one rfl rfl ?_)))
 intro w101 au
 have O:=N.pt2 au
 refine zb (za (R0 fun _=>st (mV e (st (mV (Iv fi) (st (zh (k:=2) wT lT rfl rfl (zo (O.b2)) ?_)))))))
 have hi104:fi.toNat<d.length:=bo
 refine st (zB (k:=2) (i:=fi) vT lT rfl p.1 rfl ⟨by omega,by omega⟩ ?_)
 have av:=(O.mv4).emp1
 refine stn (yJ (α:=CelS) (j:=fi.toNat) (o:=0) (u:=.agg #[Iv ((d.getD fi.toNat default).n),E]) (us:=[Iv ((d.getD fi.toNat default).n),E]) (x1:=(⟨(d.getD fi.toNat default).n,E⟩:CelS)) av lT bo rfl rfl rfl (yQ rfl) (yo ⟨rfl,H.1.one,zl⟩) (fun _ _ _ hel _=>(by rw[←zJ default (by omega)]at hel;obtain⟨rfl,hok⟩:=hel;exact⟨rfl,⟨y.n,H.1.one⟩⟩)) ?_)
 intro w105 P
 have aw:=P.r0
 have hr109s:_*32≤_:=aw.2
 refine zb (za ?_)
 have Q:Sep _ _ ((CelW e 105 3 (c.set fi.toNat (⟨(d.gd fi.toNat).n,(ZW ((c.gd fi.toNat).set) arg)⟩:Cel)))::_) _:=CelW.close (i:=fi.toNat) (s:=(⟨(d.gd fi.toNat).n,E⟩:CelS)) (c:=(⟨(d.gd fi.toNat).n,(ZW ((c.gd fi.toNat).set) arg)⟩:Cel)) g.1 g.2 om rfl (P.s6_ceabdf)
 have h:c.set fi.toNat (⟨be.n,(ZW (bi.set) arg)⟩:Cel)=doL t c fi op arg:=XY (by rw[K,B,dc_3];rfl)
 rw[h]at Q
 have ax:Sep _ _ ((RowE (α:=Cel) own 105 e bj)::_) _:=CelW.row Q
 refine R0 fun _=>st (mV e (st (aS e (zb (zq (zU nR (show _=(e:Value)from rfl) ?_))))))
 refine⟨e,rfl,(ax.s4_a)⟩
 have A:=tD A
 refine zg rfl (R0 fun _=>st (mV (Iv arg) (st (xa rfl (stn (ym (v:=Iv arg) qR rfl rfl (f.b0) rfl rfl rfl ?_))))))
 intro w114 ay
 have R:=f.pt0 ay
 refine zb (za (R0 fun _=>st (mV e (st (mV (Iv fi) (st (zh (k:=2) wT lT rfl rfl (zo (R.b0)) ?_)))))))
 have hi117:fi.toNat<d.length:=bo
 refine st (zB (k:=2) (i:=fi) vT lT rfl p.1 rfl ⟨by omega,by omega⟩ ?_)
 have az:=(R.mv3).emp1
 refine stn (yJ (α:=CelS) (j:=fi.toNat) (o:=0) (u:=.agg #[Iv arg,(d.getD fi.toNat default).v]) (us:=[Iv arg,(d.getD fi.toNat default).v]) (x1:=(⟨arg,(d.getD fi.toNat default).v⟩:CelS)) az lT bo rfl rfl rfl (yQ rfl) (yo ⟨rfl,m.1.one,zl⟩) (fun _ _ _ hel _=>(by rw[←zJ default (by omega)]at hel;obtain⟨rfl,hok⟩:=hel;exact⟨rfl,⟨harg,m.1.one⟩⟩)) ?_)
 intro w118 S
 have aA:=S.r0
 have hr122s:_*32≤_:=aA.2
 refine zb (za ?_)
 have T:Sep _ _ ((CelW e 105 3 (c.set fi.toNat (⟨arg,(c.gd fi.toNat).set⟩:Cel)))::_) _:=CelW.close (i:=fi.toNat) (s:=(⟨arg,(d.gd fi.toNat).v⟩:CelS)) (c:=(⟨arg,(c.gd fi.toNat).set⟩:Cel)) g.1 g.2 om rfl (S.s5_cdabe)
 have h:c.set fi.toNat (⟨arg,bi.set⟩:Cel)=doL t c fi op arg:=XY (by rw[A,dc_2];rfl)
 rw[h]at T
 have aB:Sep _ _ ((RowE (α:=Cel) own 105 e bj)::_) _:=CelW.row T
 refine R0 fun _=>st (mV e (st (aS e (zb (zq (zU nR (show _=(e:Value)from rfl) ?_))))))
 refine⟨e,rfl,(aB.s3_a)⟩
 have z:=tD z
 refine zg rfl (R0 fun _=>st (xa rfl (st (lD (Iv (be.n)) kT rfl (zd (f.b0) rfl) (st (mV (Iv arg) (st (zO (r:=IntKind.i64.wrap ((be.n)+arg)) (k:=.i64) (a:=be.n) (b:=arg) rfl rfl rfl (st (xa rfl (stn (ym (v:=Iv (IntKind.i64.wrap ((be.n)+arg))) qR rfl rfl (f.b0) rfl rfl rfl ?_))))))))))))
 intro w127 aC
 have U:=f.pt0 aC
 refine zb (za (R0 fun _=>st (mV e (st (mV (Iv fi) (st (zh (k:=2) wT lT rfl rfl (zo (U.b0)) ?_)))))))
 have hi130:fi.toNat<d.length:=bo
 refine st (zB (k:=2) (i:=fi) vT lT rfl p.1 rfl ⟨by omega,by omega⟩ ?_)
 have aD:=(U.mv3).emp1
 refine stn (yJ (α:=CelS) (j:=fi.toNat) (o:=0) (u:=.agg #[Iv (IntKind.i64.wrap (((d.getD fi.toNat default).n)+arg)),(d.getD fi.toNat default).v]) (us:=[Iv (IntKind.i64.wrap (((d.getD fi.toNat default).n)+arg)),(d.getD fi.toNat default).v]) (x1:=(⟨IntKind.i64.wrap (((d.getD fi.toNat default).n)+arg),(d.getD fi.toNat default).v⟩:CelS)) aD lT bo rfl rfl rfl (yQ rfl) (yo ⟨rfl,m.1.one,zl⟩) (fun _ _ _ hel _=>(by rw[←zJ default (by omega)]at hel;obtain⟨rfl,hok⟩:=hel;exact⟨rfl,⟨(Ys _),m.1.one⟩⟩)) ?_)
 intro w131 V
 have aE:=V.r0
 have hr135s:_*32≤_:=aE.2
 refine zb (za ?_)
 have X:Sep _ _ ((CelW e 105 3 (c.set fi.toNat (⟨IntKind.i64.wrap (((d.gd fi.toNat).n)+arg),(c.gd fi.toNat).set⟩:Cel)))::_) _:=CelW.close (i:=fi.toNat) (s:=(⟨IntKind.i64.wrap (((d.gd fi.toNat).n)+arg),(d.gd fi.toNat).v⟩:CelS)) (c:=(⟨IntKind.i64.wrap (((d.gd fi.toNat).n)+arg),(c.gd fi.toNat).set⟩:Cel)) g.1 g.2 om rfl (V.s5_cdabe)
 have h:c.set fi.toNat (⟨IntKind.i64.wrap ((be.n)+arg),bi.set⟩:Cel)=doL t c fi op arg:=XY (by rw[K,z,dc_1];rfl)
 rw[h]at X
 have aF:Sep _ _ ((RowE (α:=Cel) own 105 e bj)::_) _:=CelW.row X
 refine R0 fun _=>st (mV e (st (aS e (zb (zq (zU nR (show _=(e:Value)from rfl) ?_))))))
 refine⟨e,rfl,(aF.s3_a)⟩
def RefV (b:Nat)(d:Dcl)(L:List Ent):HP:=Ex1 fun vt=>Ex1 fun vp=>Ex1 fun ve=>Star [Blk b #[vt,vp,ve] 130,RowE (α:=Typ) own 83 vt d.types,RowE (α:=Prj) own 73 vp d.projs,RowE (α:=Ent) own 57 ve L]
section
variable {G:Nat→Prop}{W w:World}{As:List HP}{b:Nat}{d:Dcl}{L:List Ent}
theorem RefV.open (h:Sep G W (RefV b d L::As) w): ∃vt vp ve,Sep G W (Blk b #[vt,vp,ve] 130::RowE (α:=Typ) own 83 vt d.types::RowE (α:=Prj) own 73 vp d.projs::RowE (α:=Ent) own 57 ve L::As) w:=by
 obtain⟨vt,h⟩:=h.openEx
 obtain⟨vp,h⟩:=h.openEx
 obtain⟨ve,h⟩:=h.openEx
 exact⟨vt,vp,ve,h.openStar⟩
theorem RefV.close {vt vp ve:Value}(h:Sep G W (Blk b #[vt,vp,ve] 130::RowE (α:=Typ) own 83 vt d.types::RowE (α:=Prj) own 73 vp d.projs::RowE (α:=Ent) own 57 ve L::As) w):Sep G W (RefV b d L::As) w:=by
 have h:=Sep.closeStar (Bs:=[Blk b #[vt,vp,ve] 130,RowE (α:=Typ) own 83 vt d.types,RowE (α:=Prj) own 73 vp d.projs,RowE (α:=Ent) own 57 ve L]) h
 exact Sep.closeEx (A:=fun vt=>Ex1 fun vp=>Ex1 fun ve=>Star [Blk b #[vt,vp,ve] 130,RowE (α:=Typ) own 83 vt d.types,RowE (α:=Prj) own 73 vp d.projs,RowE (α:=Ent) own 57 ve L]) vt (Sep.closeEx (A:=fun vp=>Ex1 fun ve=>Star [Blk b #[vt,vp,ve] 130,RowE (α:=Typ) own 83 vt d.types,RowE (α:=Prj) own 73 vp d.projs,RowE (α:=Ent) own 57 ve L]) vp (Sep.closeEx (A:=fun ve=>Star [Blk b #[vt,vp,ve] 130,RowE (α:=Typ) own 83 vt d.types,RowE (α:=Prj) own 73 vp d.projs,RowE (α:=Ent) own 57 ve L]) ve h))
theorem RefV.sh (h:(RefV b d L).p W G): ∃vt vp ve,(Blk b #[vt,vp,ve] 130).p W G∧RdS W G vt d.types∧RdS W G vp d.projs∧RdS W G ve L:=by
 obtain⟨vt,vp,ve,h⟩:=h
 exact⟨vt,vp,ve,Star.at_ h (i:=0) rfl,RowE.rd (T:=83) (Star.at_ h (i:=1) rfl),RowE.rd (T:=73) (Star.at_ h (i:=2) rfl),RowE.rd (T:=57) (Star.at_ h (i:=3) rfl)⟩
end
theorem Zu {e:Ev}{de0:Value}(hde0:RdS W G de0 e.deps)(oe:e.Ok)(hS0:Sep G W Rs w):Ret Tryz.prog 40 [.agg (e.cells de0).toArray] w (fun r w'=> ∃(v:Value),r=(.agg (e.cells v).toArray:Value)∧Sep G W ((RowE (α:=Int) own 3 v e.deps)::Rs) w'):=by
 refine zn Tryz.func40 rfl rfl ?_
 refine za (R0 fun _=>st (zX rfl ?_))
 intro w3 b2 n
 refine st (zG nY ?_)
 intro w7 p o
 have i:=(hS0.new n).new o
 refine zb (za (R0 fun _=>st (xW rfl (st (lD de0 lY rfl (zd (i.b1) rfl) (st (cL Tryz.call62 (VD hde0 i) ?_)))))))
 rintro g w10 ⟨_,rfl,a⟩
 have d:=a.r0
 refine st (xW rfl (stn (ym (v:=g) mY rfl rfl (a.b2) d.1.one rfl rfl ?_)))
 intro w13 j
 have f:=a.pt2 j
 refine zb (za (R0 fun _=>st (zh qT nT rfl rfl (zo (f.b2)) (stn (zy (v:=.agg (e.cells g).toArray) nT rfl rfl (f.b1) (yo ⟨rfl,rfl,rfl,d.1.one,rfl,rfl,rfl,rfl,rfl,rfl,zl⟩) yqc rfl ?_)))))
 intro w17 m
 have h:=f.pt1 m
 refine zb (zq (Yd Tryz.results40 qT nT rfl rfl (zo (h.b1)) ?_))
 refine⟨g,rfl,(h.s3_a)⟩
theorem VO {vl:Value}{l:List Ent}(hl:RdS W G vl l)(hS0:Sep G W Rs w):Ret Tryz.prog 70 [vl] w (fun r w'=> ∃(v:Value),r=(v:Value)∧Sep G W ((RowE (α:=Ent) own 57 v l)::Rs) w'):=by
 have hls:_*120≤_:=hl.small
 refine zn Tryz.func70 rfl rfl ?_
 refine za (R0 fun _=>st (aS Iz (zb (za (R0 fun _=>st (aS Iz (zb (za (za (R0 fun _=>st (aS (Iv 0) (zb (zt ?_)))))))))))))
 have L:Sep G W ((RowE (α:=Ent) own 57 Iz [])::Rs) w:=hS0.rowNil own 57
 refine zZ (fun mq σ P=> ∃k vo ρ,mq=l.length-k∧σ=yf ρ [(0,vl),(4,Iw k),(3,vo)]∧(k≤l.length)∧Sep G W ((RowE own 57 vo (l.take k))::Rs) P) ⟨0,(Iz),_,rfl,sSf,zY _,L⟩ ?_
 rintro m3 σ4 w2 ⟨k,vo,ρl1,rfl,rfl,hkk,f⟩
 let R:=zT W (sb vl) (so vl+k*13+3)
 have M:=f.r0
 have hr6s:_*120≤_:=M.2
 refine za (za (R0 fun _=>st (mV (Iw k) (st (mV vl (st (zC sT rfl hl.sl (st (zK rfl rfl (zb ?_))))))))))
 cases j:decide (((k:Nat):Int)<((l.length:Nat):Int))
 have j:=fD j
 have hkn:k=l.length:=by omega
 rw[hkn,List.take_of_length_le (Nat.le_refl l.length)]at f
 have N:=f.r0
 have hr8s:_*120≤_:=N.2
 refine ze rfl (ya (zR (za (R0 fun _=>st (mV vo (st (aS vo (zb (zq (zU Tryz.results70 (show _=(vo:Value)from rfl) ?_))))))))))
 refine⟨vo,rfl,f⟩
 have j:=tD j
 refine zg rfl (zp (za (zt (za (R0 fun _=>st (mV vl (st (mV (Iw k) ?_))))))))
 have O:k<l.length:=bo
 refine st (zf (k:=13) sT oT rfl hl.sl rfl O ?_)
 have o:k<l.length:=bo
 obtain⟨z,d,g⟩:=hl.entD o
 have hsm12:((l.getD k default).ev.deps).length*8≤140737488355328:=d.small
 have A:=f.cells z (hl.foot (ne_of_lt o))
 refine st (zh rR oT rfl rfl A (st (zG oR ?_)))
 intro w16 b15 D
 have p:=f.new D
 refine stn (zy (v:=.agg ((l.getD k default).cells R).toArray) oT rfl rfl (p.b0) (yo ⟨rfl,rfl,rfl,d.sl.one,rfl,rfl,rfl,rfl,rfl,rfl,rfl,rfl,rfl,zl⟩) yqc rfl ?_)
 intro w18 E
 have q:=p.pt0 E
 refine zb (za (R0 fun _=>st (xx rfl (st (zh qT nT rfl rfl (CellsAt.sub (zo (q.b0)) 0 rfl) (st (cL sR (Zu d g.ev q) ?_)))))))
 rintro _ w22 ⟨m,rfl,h⟩
 have s:=h.r0
 have hr24s:_*8≤_:=s.2
 refine st (xx rfl (stn (zy (v:=.agg (((l.getD k default).ev).cells m).toArray) nT rfl rfl (h.b1) (yo ⟨rfl,rfl,rfl,s.1.one,rfl,rfl,rfl,rfl,rfl,rfl,zl⟩) yqc rfl ?_)))
 intro w25 F
 have t:=h.pt1 F
 refine zb (R0 fun _=>st (mV vo (st (zh rR oT rfl rfl (zo (t.b1)) (st (zH (c:=((l.getD k default).cells m).toArray) sT oT oR dc rfl kr ?_))))))
 intro w30 b29 H
 have u:=t.new H
 have B:=u.b0
 refine st (yq (src:=own) (bytes:=120) (x1:=(l.getD k default)) (u.s4_dbc) zbD rfl rfl B (fun _ _ Q=>⟨_,rfl,RowE.soft Q,g⟩) yqb rfl ?_)
 intro C w32 x
 have I:=x.r0
 have hr37s:_*120≤_:=I.2
 refine st (aS C (zb (R0 fun _=>st (mV (Iw k) ?_))))
 have J:InR ((k+1:Nat):Int):=bo
 refine st (zO (r:=((k+1:Nat):Int)) rfl rfl (by rw[show(((k:Nat):Int)+1:Int)=((k+1:Nat):Int)from bo];exact zw J) (st (aS (Iw (k+1)) (zb ?_))))
 have y:=x.s2_a
 have K:(l.take (k+1))=(l.take k)++[(l.getD k default)]:=(List.take_getD om)
 rw[←K]at y
 exact⟨_,by omega,k+1,C,_,rfl,sSf,by omega,y⟩
theorem Vc {d:Dcl}{dd0:Value}(hdd0:RdS W G dd0 d.types){dd1:Value}(hdd1:RdS W G dd1 d.projs)(od:d.Ok)(hS0:Sep G W Rs w):Ret Tryz.prog 68 [.agg (d.cells dd0 dd1).toArray] w (fun r w'=> ∃(b:Nat),r=(.pointer (some ⟨b,0,none⟩):Value)∧Sep G W ((RefV b d ([]:List Ent))::Rs) w'):=by
 refine zn Tryz.func68 rfl rfl ?_
 refine za (R0 fun _=>st (zX rfl ?_))
 intro w3 b2 m
 have f:=hS0.new m
 refine st (aS (.pointer none) (zb (za (R0 fun _=>st (zh sY tY rfl rfl (zo (f.b0)) (st (cL Tryz.call39 (Wx hdd0 hdd1 od f) ?_)))))))
 rintro _ w7 ⟨a,e,rfl,g⟩
 have n:=g.r1
 refine st (zV (parts':=[(0,.agg (d.cells a e).toArray)]) (v:=.agg #[a,e,(Iz)]) rfl yqe (st (zX rfl ?_)))
 intro w12 c h
 refine st (aS (Ix c 0) (zb (zq (zU Tryz.results68 (show _=(Ix c 0:Value)from rfl) ?_))))
 have i:Sep _ _ ((RowE (α:=Typ) own 83 a d.types)::_) _:=TypW.row ((g.new h).mv1)
 have j:Sep _ _ ((RowE (α:=Ent) own 57 Iz [])::_) _:=i.rowNil own 57
 have l:Sep _ _ ((RefV c d ([]:List Ent))::_) _:=RefV.close (j.s5_cbdae)
 refine⟨c,rfl,(l.s2_a)⟩
theorem Uv {b:Nat}{d:Dcl}{L:List Ent}(hb:(RefV b d L).p W G)(hS0:Sep G W Rs w):Ret Tryz.prog 46 [.pointer (some ⟨b,0,none⟩)] w (fun r w'=> ∃(v:Value),r=(v:Value)∧Sep G W ((RowE (α:=Ent) own 57 v L)::Rs) w'):=by
 refine zn Tryz.func46 rfl rfl ?_
 obtain⟨vt1,vp2,e,h,i,j,f⟩:=RefV.sh hb
 refine za (R0 fun _=>st (aS Iz (zb (za (R0 fun _=>st (mV (Ix b 0) (st (zm rfl (st (ZD rfl (st (lD e tT rfl (zd (hS0.gblk h) rfl) (st (cL Tryz.call70 (VO f hS0) ?_))))))))))))))
 rintro a w12 ⟨_,rfl,c⟩
 have g:=c.r0
 refine st (aS a (zb (zq (zU Tryz.results46 (show _=(a:Value)from rfl) ?_))))
 refine⟨a,rfl,c⟩
end
section
open Go.Proofs Go.RowKit
def Ran (d:Dcl)(L:List Ent):Prop:= ∃l,L=zk d l
theorem Ran.inv {d:Dcl}{L:List Ent}(hd:DclOk d)(h:Ran d L):Inv d L:=by
 obtain⟨l,rfl⟩:=h
 exact Inv.run hd l
theorem Ran.zero {d:Dcl}{L:List Ent}{ty no:Int}(h:Ran d L)(ht:ty<0∨(d.types.length:Int)≤ty):yw (ty,no) L=0:=by
 obtain⟨l,rfl⟩:=h
 by_cases hv:yw (ty,no) (zk d l)=0
 ·exact hv
 ·have:=zbG l hv
  omega
theorem Ran.done {d:Dcl}{L:List Ent}{ty no:Int}(hd:DclOk d)(h:Ran d L){i:Nat}(hi:i<L.length)(hon:onL (ty,no) (L.getD i default)=true):Wy (Yn d ty) (yu d (ty,no) (L.take i)) (L.getD i default).ev.field (L.getD i default).ev.op (L.getD i default).ev.arg∧((yu d (ty,no) (L.take i)).getD (L.getD i default).ev.field.toNat default).set.length≤1000:=by
 obtain⟨l,rfl⟩:=h
 rw[xc]at hi
 have hat:=KT (d:=d) hi
 have hev:=zbv (d:=d) hi
 unfold onL at hon
 simp only[Bool.and_eq_true,Bool.not_eq_true',decide_eq_true_eq]at hon
 obtain⟨hv,h1,h2⟩:=hon
 subst h1 h2
 rw[hat]at hv
 obtain⟨hf,hm⟩:=Wh (d:=d) (L:=(zk d l).take i) (e:=l.getD i default) hv
 obtain⟨f1,f2,hft⟩:=XR hf
 rw[hev]
 have hR:Right (Yn d (l.getD i default).typ) (yu d ((l.getD i default).typ,(l.getD i default).agg) ((zk d l).take i)):=by rw[←JE];exact Inv.run hd _ _ _ f1 f2
 exact⟨hft.ask (hd.typ _ (by omega)) hR,zae hR hft.lo hft.hi⟩
theorem zbN {d:Dcl}{k:Int×Int}{L:List Ent}{j:Nat}(hj:j<L.length)(h:onL k (L.getD j default)=true):yu d k (L.take (j+1))=doL (Yn d k.1) (yu d k (L.take j)) (L.getD j default).ev.field (L.getD j default).ev.op (L.getD j default).ev.arg:=by
 have e:L.take (j+1)=L.take j++[L.getD j default]:=by rw[List.take_add_one,List.getElem?_eq_getElem hj,List.getD_eq_getElem?_getD,List.getElem?_eq_getElem hj];rfl
 rw[e,Zh,if_pos h]
theorem zcf {d:Dcl}{k:Int×Int}{L:List Ent}{j:Nat}(hj:j<L.length)(h:onL k (L.getD j default)=false):yu d k (L.take (j+1))=yu d k (L.take j):=by
 have e:L.take (j+1)=L.take j++[L.getD j default]:=by rw[List.take_add_one,List.getElem?_eq_getElem hj,List.getD_eq_getElem?_getD,List.getElem?_eq_getElem hj];rfl
 rw[e,Zh,h];rfl
theorem ZK {d:Dcl}{k:Int×Int}{L:List Ent}(h:yw k L=0):yr d k L=⟨0,[]⟩∧(zj d L k).isSome=false∧stL d k L=[]:=by
 have h1:stL d k L=[]:=if_pos h
 refine⟨?_,?_,h1⟩
 ·unfold yr;rw[h1,h];rfl
 ·unfold zj;rw[if_pos h];rfl
theorem XE {d:Dcl}{k:Int×Int}{L:List Ent}(h: ¬yw k L=0):(zj d L k).isSome=true∧stL d k L=yu d k L:=by
 refine⟨?_,if_neg h⟩
 unfold zj;rw[if_neg h];rfl
theorem Xu {b:Nat}{d:Dcl}{L:List Ent}(hb:(RefV b d L).p W G){ty:Int}(hty:InR ty){no:Int}(hno:InR no)(hS0:Sep G W Rs w)(hd:DclOk d)(hrl:Ran d L)(hml:L.length≤1000000):Ret Tryz.prog 50 [.pointer (some ⟨b,0,none⟩),.int .i64 (ty),.int .i64 (no)] w (fun r w'=> ∃(v:Value),r=(.tuple #[.agg ((yr d (ty,no) L).cells v).toArray,.bool ((zj d L (ty,no)).isSome)]:Value)∧Sep G W ((RowE (α:=Cel) own 105 v (stL d (ty,no) L))::Rs) w'):=by
 refine zn (args:=[Ix b 0,Iv ty,Iv no]) Tryz.func50 rfl rfl ?_
 obtain⟨g,vp2,h,K,M,bz,y⟩:=RefV.sh hb
 let bA:=zT W (sb g) (so g+ty.toNat*1+0)
 let bB:=(d.types.gd ty.toNat).cells bA
 have hsm8:d.types.length*24≤140737488355328:=M.small
 have hsm9:d.projs.length*40≤140737488355328:=bz.small
 have hsm10:L.length*120≤140737488355328:=y.small
 refine za (R0 fun _=>st (zG oY ?_))
 intro w13 z aW
 have u:=hS0.new aW
 refine st (aS (.bool false) (zb (za (za (zF kr (st (mV (Iv ty) (st (zK (k:=.i64) (a:=ty) (b:=0) rfl rfl (st (mV (.bool (decide (ty<0))) (stc (V:=Iv ty) rfl rfl (fun aX=>?_) ?_))))))))))))
 have hl16:=fD aX
 exact mV (Iv ty) rflB
 refine stc (V:=Ix b 0) rfl rfl (fun aY=>?_) ?_
 have hl18:=fD aY
 exact mV (Ix b 0) rflB
 refine stc (V:=Ix b 0) rfl rfl (fun ac=>?_) ?_
 have hl20:=fD ac
 exact zm (b:=b) (o:=0) (ifpC ac) rflB
 refine stc (V:=Ix b 0) rfl rfl (fun ad=>?_) ?_
 have hl22:=fD ad
 exact Yt (ifpC ad) rflB
 refine stc (V:=Ix b 0) rfl rfl (fun ae=>?_) ?_
 have hl24:=fD ae
 exact yH (ifpC ae) rflB
 refine stc (V:=g) rfl rfl (fun af=>?_) ?_
 have hl26:=fD af
 exact lD g lR (ifpC af) (zd (u.gblk K) rfl) rflB
 refine stc (V:=Iw d.types.length) rfl rfl (fun ag=>?_) ?_
 have hl28:=fD ag
 exact zC (n:=d.types.length) mR (ifpC ag) M.sl rflB
 refine stc (V:=.bool (decide (((d.types.length:Nat):Int)≤ty))) rfl rfl (fun P=>?_) ?_
 have hl30:=fD P
 exact xv (k:=.i64) (a:=ty) (b:=((d.types.length:Nat):Int)) (ifpC P) (ifpC P) rflB
 refine st (zI (b:=decide (ty<0)) (b':=decide (((d.types.length:Nat):Int)≤ty)) rfl (fun hbp=>(ifpC hbp)) (zb ?_))
 cases Q:(decide (ty<0))||(decide (((d.types.length:Nat):Int)≤ty))
 have hc31r:=Q
 try simp only[zi]at Q
 refine ze rfl (zp (za (R0 fun _=>st (mV (Ix b 0) (st (zm (b:=b) (o:=0) rfl (st (Yt rfl (st (yH rfl (st (lD g lR rfl (zd (u.gblk K) rfl) (st (mV (Iv ty) ?_))))))))))))))
 have hi32:ty.toNat<d.types.length:=bo
 refine st (zB (k:=1) (i:=ty) mR pT rfl M.sl rfl ⟨by omega,by omega⟩ ?_)
 have ah:ty.toNat<d.types.length:=bo
 obtain⟨ax,m,N⟩:=M.typD ah
 have hsm35:((d.types.gd ty.toNat).fields).length*48≤140737488355328:=m.small
 have ay:=u.cells ax (M.foot (ne_of_lt ah))
 refine st (zh (k:=1) pR pT rfl rfl ay (st (zG Tryz.zeroValue83 ?_)))
 intro w39 ai aZ
 have aj:=u.new aZ
 refine stn (zy (v:=.agg bB.toArray) (c':=bB.toArray) pT rfl rfl (aj.b0) (yo ⟨m.sl.one,zl⟩) yqc rfl ?_)
 intro w41 ba
 have ak:=aj.pt0 ba
 refine zb (za (R0 fun _=>st (zh (k:=1) pR pT rfl rfl (zo (ak.b0)) (st (cL uY (Vb (t:=(d.types.gd ty.toNat)) m N ak) ?_)))))
 rintro F w45 ⟨_,rfl,al⟩
 have R:=al.r0
 have hr47s:_*32≤_:=R.2
 refine st (zV (parts':=[(1,F)]) (v:=.agg #[Iv 0,F]) rfl (by obtain⟨_,_,bb,_⟩:=R.1;rw[show F=Value.slice _ _ _ from bb];simp[Instr.build,Instr.fill,go_sem,xA]) (st (zG oY ?_)))
 intro w51 am bc
 have an:=al.new bc
 refine stn (zy (v:=.agg #[Iv 0,F]) (c':=#[Iv 0,F]) uT rfl rfl (an.b0) (yo ⟨rfl,R.1.one,zl⟩) yqc rfl ?_)
 intro w53 bd
 refine zb (za (za (R0 fun _=>st (aS (Iv 0) (zb (zt (zZ (fun mq σ wq=> ∃(k:Nat) (vs:Value) (ρ:Env),mq=L.length-k∧σ=yf ρ [(0,Ix b 0),(1,Iv ty),(2,Iv no),(6,Ix z 0),(7,.bool false),(8,Ix ai 0),(9,Ix am 0),(10,Iw k)]∧(k≤L.length)∧Sep G W ((Blk am #[Iw (yw (ty,no) (L.take k)),vs] 48)::(RowE (α:=Cel) own 105 vs (yu d (ty,no) (L.take k)))::(Blk ai ((d.types.gd ty.toNat).cells (zT W (sb g) (so g+ty.toNat*1+0))).toArray 83)::(Blk z #[Iv 0,(Iz)] 48)::Rs) wq) ⟨0,F,_,rfl,sSf,zY _,(an.pt0 bd)⟩ ?_)))))))
 rintro m57 σ58 w56 ⟨k,vs,ρl1,rfl,rfl,hkk,e⟩
 let p:=zT W (sb h) (so h+k*13+3)
 have be:=e.r1
 have hr60s:_*32≤_:=be.2
 have ao:=WJ (ty,no) (L.take k)
 rw[List.length_take]at ao
 refine za (za (R0 fun _=>st (mV (Iw k) (st (mV (Ix b 0) (st (zm (b:=b) (o:=0) rfl (st (ZD rfl (st (lD h tT rfl (zd (e.gblk K) rfl) (st (zC (n:=L.length) sT rfl y.sl (st (zK (k:=.i64) (a:=((k:Nat):Int)) (b:=((L.length:Nat):Int)) rfl rfl (zb ?_))))))))))))))))
 cases A:decide (((k:Nat):Int)<((L.length:Nat):Int))
 have hc61r:=A
 have A:=fD A
 have hkn:L.take k=L:=List.take_of_length_le om
 try simp+zetaDelta only at e
 rw[hkn]at e ao
 refine ze rfl (ya (zR (za (za (R0 fun _=>st (XZ rfl (st (lD (Iw (yw (ty,no) L)) kT rfl (zd (e.b0) rfl) (st (zS (k:=.i64) (a:=((yw (ty,no) L:Nat):Int)) (b:=0) rfl rfl (zb ?_)))))))))))
 cases B:decide (((yw (ty,no) L:Nat):Int)=0)
 have hc62r:=B
 have B:=fD B
 have l: ¬yw (ty,no) L=0:=by omega
 refine ze rfl (zp (za (R0 fun _=>st (zh (k:=2) tR uT rfl rfl (zo (e.b0)) ?_))))
 have ap:=e.r1
 have hr65s:_*32≤_:=ap.2
 refine stn (zy (v:=.agg #[Iw (yw (ty,no) L),vs]) (c':=#[Iw (yw (ty,no) L),vs]) uT rfl rfl (e.b3) (yo ⟨rfl,ap.1.one,zl⟩) yqc rfl ?_)
 intro w63 bf
 have aq:=e.pt3 bf
 refine st (aS (.bool true) (zb (zq (ZV (b:=z) pY tR uT rfl rfl (zo (aq.b3)) (show _=(.bool true:Value)from rfl) ?_))))
 have S:=aq.s4_b
 try simp+zetaDelta only at S
 rw[←(XE (d:=d) l).2]at S
 refine⟨vs,?_,S⟩
 rw[(XE (d:=d) l).1];unfold yr;rw[(XE (d:=d) l).2];rfl
 have B:=tD B
 have l:yw (ty,no) L=0:=by omega
 refine zg rfl (za (zL (by kernel_rfl) (fun _=>(st (zV (parts':=[]) (v:=.agg #[Iv 0,(Iz)]) rfl (by simp+zetaDelta [Instr.build,Instr.fill,go_sem,xA]) (stn (zy (v:=.agg #[Iv 0,(Iz)]) (c':=#[Iv 0,(Iz)]) uT rfl rfl (e.b3) (yo ⟨rfl,rfl,zl⟩) yqc rfl ?_)))))))
 intro aU bg
 have ar:=e.pt3 bg
 refine st (aS (.bool false) (zb (zq (ZV (b:=z) pY tR uT rfl rfl (zo (ar.b3)) (show _=(.bool false:Value)from rfl) ?_))))
 have bh:Sep G W ((RowE (α:=Cel) own 105 Iz (stL d (ty,no) L))::(Blk am #[Iw (yw (ty,no) L),vs] 48)::(RowE (α:=Cel) own 105 vs (yu d (ty,no) L))::(Blk ai bB.toArray 83)::(Blk z #[Iv 0,(Iz)] 48)::Rs) aU:=(by rw[(ZK (d:=d) l).2.2];exact ar.rowNil own 105)
 have bi:Sep G W ((RowE (α:=Cel) own 105 Iz (stL d (ty,no) L))::Rs) aU:=bh.sel 5 [0] (xq _ _) rfl rfl
 refine⟨(Iz),?_,bi⟩
 rw[(ZK (d:=d) l).1,(ZK (d:=d) l).2.1];rfl
 have A:=tD A
 refine zg rfl (zp (za (zt (za (R0 fun _=>st (mV (Ix b 0) (st (zm (b:=b) (o:=0) rfl (st (ZD rfl (st (lD h tT rfl (zd (e.gblk K) rfl) (st (mV (Iw k) ?_))))))))))))))
 have bj:k<L.length:=bo
 refine st (zf (k:=13) (i:=k) sT oT rfl y.sl rfl bj (st (xx rfl ?_)))
 have T:k<L.length:=bo
 obtain⟨X,H,C⟩:=y.entD T
 have hsm76:((L.gd k).ev.deps).length*8≤140737488355328:=H.small
 have az:=e.cells X (y.foot (ne_of_lt T))
 refine st (zh (k:=10) (cs:=[Iv ((L.gd k).ev.origin),Iv ((L.gd k).ev.seq),Iv ((L.gd k).ev.lam),p,Iv ((L.gd k).ev.typ),Iv ((L.gd k).ev.agg),Iv ((L.gd k).ev.field),Iv ((L.gd k).ev.op),Iv ((L.gd k).ev.arg),Iv ((L.gd k).ev.key)]) qT nT rfl rfl (CellsAt.sub az 0 (cs2:=[Iv ((L.gd k).ev.origin),Iv ((L.gd k).ev.seq),Iv ((L.gd k).ev.lam),p,Iv ((L.gd k).ev.typ),Iv ((L.gd k).ev.agg),Iv ((L.gd k).ev.field),Iv ((L.gd k).ev.op),Iv ((L.gd k).ev.arg),Iv ((L.gd k).ev.key)]) rfl) (st (zG nY ?_)))
 intro w80 aV bk
 have au:=e.new bk
 refine stn (zy (v:=.agg (((L.gd k).ev).cells p).toArray) (c':=(((L.gd k).ev).cells p).toArray) nT rfl rfl (au.b0) (yo ⟨rfl,rfl,rfl,H.sl.one,rfl,rfl,rfl,rfl,rfl,rfl,zl⟩) yqc rfl ?_)
 intro w82 bl
 have f:=au.pt0 bl
 refine zb (za (zF kr (st (mV (Ix b 0) (st (zm (b:=b) (o:=0) rfl (st (ZD rfl (st (lD h tT rfl (zd (f.gblk K) rfl) (st (mV (Iw k) ?_))))))))))))
 have bm:k<L.length:=bo
 refine st (zf (k:=13) (i:=k) sT oT rfl y.sl rfl bm (st (Vp rfl ?_)))
 have aA:=f.cells X (y.foot (ne_of_lt T))
 refine st (lD (.bool ((L.gd k).void)) vY rfl (aA.get (j:=10) rfl) (st (yD (a:=(L.gd k).void) rfl (st (mV (.bool (!((L.gd k).void))) (stc (V:=Ix aV 4) rfl rfl (fun bn=>?_) ?_))))))
 have bp:=bn
 try simp only[zi]at bp
 exact xm rfl rflB
 refine stc (V:=Iv (((L.gd k).ev).typ)) rfl rfl (fun av=>?_) ?_
 have bq:=av
 try simp only[zi]at bq
 exact lD (Iv (((L.gd k).ev).typ)) kT (ifpC av) (zd (f.b0) rfl) rflB
 refine stc (V:=Iv ty) rfl rfl (fun br=>?_) ?_
 have bs:=br
 try simp only[zi]at bs
 exact mV (Iv ty) rflB
 refine stc (V:=.bool (decide ((((L.gd k).ev).typ)=ty))) rfl rfl (fun U=>?_) ?_
 have bt:=U
 try simp only[zi]at bt
 exact zS (k:=.i64) (a:=((L.gd k).ev).typ) (b:=ty) (ifpC U) (ifpC U) rflB
 refine st (zx (b:= !((L.gd k).void)) (b':=decide ((((L.gd k).ev).typ)=ty)) rfl (fun hbp=>(ifpC hbp)) (st (mV (.bool ((!((L.gd k).void))&&(decide ((((L.gd k).ev).typ)=ty)))) (stc (V:=Ix aV 5) rfl rfl (fun bu=>?_) ?_))))
 have bv:=bu
 try simp only[zi]at bv
 exact Zc rfl rflB
 refine stc (V:=Iv (((L.gd k).ev).agg)) rfl rfl (fun aw=>?_) ?_
 have bw:=aw
 try simp only[zi]at bw
 exact lD (Iv (((L.gd k).ev).agg)) kT (ifpC aw) (zd (f.b0) rfl) rflB
 refine stc (V:=Iv no) rfl rfl (fun aB=>?_) ?_
 have aC:=aB
 try simp only[zi]at aC
 exact mV (Iv no) rflB
 refine stc (V:=.bool (decide ((((L.gd k).ev).agg)=no))) rfl rfl (fun I=>?_) ?_
 have aD:=I
 try simp only[zi]at aD
 exact zS (k:=.i64) (a:=((L.gd k).ev).agg) (b:=no) (ifpC I) (ifpC I) rflB
 refine st (zx (b:=(!((L.gd k).void))&&(decide ((((L.gd k).ev).typ)=ty))) (b':=decide ((((L.gd k).ev).agg)=no)) rfl (fun hbp=>(ifpC hbp)) (zb ?_))
 cases x:((!((L.gd k).void))&&(decide ((((L.gd k).ev).typ)=ty)))&&(decide ((((L.gd k).ev).agg)=no))
 have D:=x
 try simp only[zi]at x
 have honfalse:onL (ty,no) (L.gd k)=false:=onL_raw.trans D
 refine ze rfl (zp (R0 fun _=>st (mV (Iw k) ?_)))
 have aE:InR ((k+1:Nat):Int):=bo
 refine st (zO (r:=((k+1:Nat):Int)) (k:=.i64) (a:=((k:Nat):Int)) (b:=1) rfl rfl (by rw[show(((k:Nat):Int)+1:Int)=((k+1:Nat):Int)from bo];exact zw aE) (st (aS (Iw (k+1)) (zb ?_))))
 have q:=f.s5_bcde
 have aF:yw (ty,no) (L.take (k+1))=yw (ty,no) (L.take k):=ver_f om honfalse
 try simp+zetaDelta only at q
 rw[←aF]at q
 have aG:yu d (ty,no) (L.take (k+1))=(yu d (ty,no) (L.take k)):=zcf om honfalse
 try simp+zetaDelta only at q
 rw[←aG]at q
 exact⟨_,by omega,k+1,vs,_,rfl,sSf,by omega,q⟩
 have D:=x
 try simp only[zi]at x
 have hontrue:onL (ty,no) (L.gd k)=true:=onL_raw.trans D
 have hdn:=Ran.done hd hrl om hontrue
 refine zg rfl (za (R0 fun _=>st (zh (k:=1) pR pT rfl rfl (zo (f.b3)) (st (xo rfl (st (lD vs wY rfl (zd (f.b1) rfl) (st (xM rfl (st (lD (Iv (((L.gd k).ev).field)) kT rfl (zd (f.b0) rfl) (st (Ze rfl (st (lD (Iv (((L.gd k).ev).op)) kT rfl (zd (f.b0) rfl) (st (xy rfl (st (lD (Iv (((L.gd k).ev).arg)) kT rfl (zd (f.b0) rfl) ?_)))))))))))))))))))
 obtain⟨G110,aH,aI,aJ,aK⟩:=(f.mv2).lend
 have O:=RowE.rd aH
 have hrd116s:_*32≤_:=O.small
 refine st (cL Tryz.call77 (zaZ (t:=(d.types.gd ty.toNat)) (c:=(yu d (ty,no) (L.take k))) (vc:=vs) (fi:=((L.gd k).ev).field) (op:=((L.gd k).ev).op) (arg:=((L.gd k).ev).arg) (zv m aI) N O C.ev.field C.ev.op C.ev.arg aJ (hdn.1) (hdn.2)) ?_)
 rintro E w118 ⟨_,rfl,Y⟩
 have Z:=Y.r0
 have hr120s:_*32≤_:=Z.2
 have aa:=aK _ _ Y
 refine st (xo rfl (stn (ym (v:=E) (c:=[Iw (yw (ty,no) (L.take k)),vs]) (c':=[Iw (yw (ty,no) (L.take k)),E]) Tryz.sizeOf46 rfl rfl (aa.b3) Z.1.one rfl rfl ?_)))
 intro w122 aL
 have J:=aa.pt3 aL
 refine zb (R0 fun _=>st (XZ rfl (st (lD (Iw (yw (ty,no) (L.take k))) kT rfl (zd (J.b3) rfl) ?_))))
 have aM:InR ((yw (ty,no) (L.take k)+1:Nat):Int):=bo
 refine st (zO (r:=((yw (ty,no) (L.take k)+1:Nat):Int)) (k:=.i64) (a:=((yw (ty,no) (L.take k):Nat):Int)) (b:=1) rfl rfl (by rw[show(((yw (ty,no) (L.take k):Nat):Int)+1:Int)=((yw (ty,no) (L.take k)+1:Nat):Int)from bo];exact zw aM) (st (XZ rfl (stn (ym (v:=Iw (yw (ty,no) (L.take k)+1)) (c:=[Iw (yw (ty,no) (L.take k)),E]) (c':=[Iw (yw (ty,no) (L.take k)+1),E]) qR rfl rfl (J.b3) rfl rfl rfl ?_)))))
 intro w126 aN
 refine zb (R0 fun _=>st (mV (Iw k) ?_))
 have aO:InR ((k+1:Nat):Int):=bo
 refine st (zO (r:=((k+1:Nat):Int)) (k:=.i64) (a:=((k:Nat):Int)) (b:=1) rfl rfl (by rw[show(((k:Nat):Int)+1:Int)=((k+1:Nat):Int)from bo];exact zw aO) (st (aS (Iw (k+1)) (zb ?_))))
 have s:=(J.pt3 aN).s6_dbef
 have aP:yw (ty,no) (L.take (k+1))=yw (ty,no) (L.take k)+1:=ver_t om hontrue
 try simp+zetaDelta only at s
 rw[←aP]at s
 have aQ:yu d (ty,no) (L.take (k+1))=(doL (d.types.gd ty.toNat) (yu d (ty,no) (L.take k)) (((L.gd k).ev).field) (((L.gd k).ev).op) (((L.gd k).ev).arg)):=zbN om hontrue
 try simp+zetaDelta only at s
 rw[←aQ]at s
 exact⟨_,by omega,k+1,E,_,rfl,sSf,by omega,s⟩
 try simp only[zi]at Q
 have l:yw (ty,no) L=0:=hrl.zero om
 refine zg rfl (za (zL (by kernel_rfl) (fun _=>(st (zV (parts':=[]) (v:=.agg #[Iv 0,(Iz)]) rfl (by simp+zetaDelta [Instr.build,Instr.fill,go_sem,xA]) (stn (zy (v:=.agg #[Iv 0,(Iz)]) (c':=#[Iv 0,(Iz)]) uT rfl rfl (u.b0) (yo ⟨rfl,rfl,zl⟩) yqc rfl ?_)))))))
 intro bx aR
 have ab:=u.pt0 aR
 refine st (aS (.bool false) (zb (zq (ZV (b:=z) pY tR uT rfl rfl (zo (ab.b0)) (show _=(.bool false:Value)from rfl) ?_))))
 have aT:Sep G W ((RowE (α:=Cel) own 105 Iz (stL d (ty,no) L))::(Blk z #[Iv 0,(Iz)] 48)::Rs) bx:=(by rw[(ZK (d:=d) l).2.2];exact ab.rowNil own 105)
 refine⟨(Iz),?_,(aT.s2_a)⟩
 rw[(ZK (d:=d) l).1,(ZK (d:=d) l).2.1];rfl
theorem rj_raw {d:Dcl}{e:Ev}{y:Ent}:rJ d e y=(((((!y.void)&&decide (y.ev.typ=e.typ))&&decide (y.ev.agg=e.agg))&&decide (y.ev.field=e.field))&&xl ((Yn d e.typ).fields.getD e.field.toNat default) y.ev e):=by
 unfold rJ on3
 cases y.void<;>simp[Bool.decide_and,Bool.and_assoc]
theorem Ub {d:Dcl}{e:Ev}{L:List Ent}:(yB (e.typ,e.agg,e.field) L).find? (fun x=>xl ((Yn d e.typ).fields.getD e.field.toNat default) x e)=(L.find? (rJ d e)).map (·.ev):=by
 unfold yB
 rw[Yw]
 rfl
theorem zcS {d:Dcl}{e:Ev}{L:List Ent}{k:Nat}(h:xp d e.typ e.field e.op e.arg=0)(hk:k<L.length)(h0: ∀i,i<k→rJ d e (L.getD i default)=false)(h1:rJ d e (L.getD k default)=true):yh d L e=(true,(L.getD k default).ev.origin,(L.getD k default).ev.seq):=by
 unfold yh
 rw[if_neg (by simpa using h),Ub,Qq hk h1 h0]
 rfl
theorem zbg {d:Dcl}{e:Ev}{L:List Ent}(h:xp d e.typ e.field e.op e.arg=0)(h0: ∀i,i<L.length→rJ d e (L.getD i default)=false):yh d L e=(!decide (xB (Yn d e.typ) (yu d (e.typ,e.agg) L) e.field e.op e.arg=0),0,0):=by
 unfold yh
 rw[if_neg (by simpa using h),Ub,zbi h0]
 show(if ¬_=0 then _ else _)=_
 by_cases hm:xB (Yn d e.typ) (yu d (e.typ,e.agg) L) e.field e.op e.arg=0
 ·rw[if_neg (by simpa using hm),decide_eq_true hm];rfl
 ·rw[if_pos hm,decide_eq_false hm];rfl
set_option maxHeartbeats 8000000 in
theorem Jj {b:Nat}{d:Dcl}{L:List Ent}(hb:(RefV b d L).p W G){e:Ev}{de0:Value}(hde0:RdS W G de0 e.deps)(oe:e.Ok)(hS0:Sep G W Rs w)(hd:DclOk d)(hrl:Ran d L)(hml:L.length≤1000000):Ret Tryz.prog 86 [.pointer (some ⟨b,0,none⟩),.agg (e.cells de0).toArray] w (fun r w'=>r=(.tuple #[.bool ((yh d L e).1),.agg #[.int .i64 ((yh d L e).2.1),.int .i64 ((yh d L e).2.2)]]:Value)∧(InR (yh d L e).2.1∧InR (yh d L e).2.2)∧Sep G W Rs w'):=by
 have hde0s:_*8≤_:=hde0.small
 refine zn Tryz.func86 rfl rfl ?_
 obtain⟨g,bu,s,X,u,gg,am⟩:=RefV.sh hb
 let gG:=Ix (sb g) (so g+e.typ.toNat*1)
 let ck:=zT W (sb g) (so g+e.typ.toNat*1+0)
 let gI:=(d.types.getD e.typ.toNat default).cells ck
 let p:=zT W (sb (zT W (sb g) (so g+e.typ.toNat*1+0))) (so (zT W (sb g) (so g+e.typ.toNat*1+0))+e.field.toNat*4+3)
 let ci:=(((d.types.getD e.typ.toNat default).fields).getD e.field.toNat default).cells p
 have hsm8:d.types.length*24≤140737488355328:=u.small
 have hsm9:d.projs.length*40≤140737488355328:=gg.small
 have hsm10:L.length*120≤140737488355328:=am.small
 refine za (R0 fun _=>st (zX rfl ?_))
 intro w13 m gk
 let gF:=Blk m (e.cells de0).toArray 55
 refine st (aS (.bool false) (st (zG kA ?_)))
 intro w17 B gl
 let gH:=Blk B #[Iv 0,Iv 0] 52
 refine zb (za (za ?_))
 refine WD4 ((fun TT C=>WF [fun vals A=>Sep G W (C::TT) A,fun vals A=>(vals 12=(Iv (xp d e.typ e.field e.op e.arg):Value))∧Sep G W (C::TT) A]) (gF::Rs) gH) (AF [Vl 0 (Ix b 0),Vl 1 (Ix b 0),Vl 2 (Ix b 0),Vl 3 (.agg (d.cells g bu).toArray),Vl 4 (Ix m 4),Vl 5 (Iv (e.typ)),Vl 6 (Ix m 6),Vl 7 (Iv (e.field)),Vl 8 (Ix m 7),Vl 9 (Iv (e.op)),Vl 10 (Ix m 8),Vl 11 (Iv (e.arg)),fun _=>True,Vl 13 (.bool (!decide ((xp d e.typ e.field e.op e.arg)=0)))]) [[],[0],[0,1],[0,1,2],[],[4],[],[6],[],[8],[],[10],(rg 12),(rg 13)] [12] [(0,0),(0,0),(0,0),(0,0),(0,0),(0,0),(0,0),(0,0),(0,0),(0,0),(0,0),(0,0),(0,0),(1,1)] ((hS0.new gk).new gl) ⟨fun _ _ _ _ _ _ _=>obl rfl (mV (Ix b 0) dR),fun _ _ _ _ _ _ eC=>obl rfl (zm (eC 0 dc) dR),fun _ _ _ _ _ _ eD=>obl rfl (Yt (eD 1 dc) dR),?_,fun _ _ _ _ _ _ _=>obl rfl (xm rfl dR),ob1 0 fun _ _ (eE:Sep _ _ _ _) eF=>obl rfl (lD (Iv (e.typ)) kT (eF 4 dc) (zd (eE.b1) rfl) dR),fun _ _ _ _ _ _ _=>obl rfl (xM rfl dR),ob1 0 fun _ _ (eG:Sep _ _ _ _) eH=>obl rfl (lD (Iv (e.field)) kT (eH 6 dc) (zd (eG.b1) rfl) dR),fun _ _ _ _ _ _ _=>obl rfl (Ze rfl dR),ob1 0 fun _ _ (eI:Sep _ _ _ _) eJ=>obl rfl (lD (Iv (e.op)) kT (eJ 8 dc) (zd (eI.b1) rfl) dR),fun _ _ _ _ _ _ _=>obl rfl (xy rfl dR),ob1 0 fun _ _ (eK:Sep _ _ _ _) eL=>obl rfl (lD (Iv (e.arg)) kT (eL 10 dc) (zd (eK.b1) rfl) dR),?_,?_,zl⟩ ?_
 refine ob1 0 fun _ _ (eM:Sep _ _ _ _) eN=>(obl rfl ?_)
 have ok154:Dcl.Ok d:=⟨⟩
 exact zh sY tY rfl (eN 2 dc) (CellsAt.sub (zo (eM.gblk X)) 0 rfl) dR
 refine ob1 0 fun vals _ (eO:Sep _ _ _ _) Y=>(obl rfl ((zW (vals:=[.agg (d.cells g bu).toArray,Iv (e.typ),Iv (e.field),Iv (e.op),Iv (e.arg)]) rfl (yM ⟨(Y 3 dc),(Y 5 dc),(Y 7 dc),(Y 9 dc),(Y 11 dc),zl⟩) Tryz.call100 (Ji u gg (⟨⟩:Dcl.Ok d) oe.typ oe.field oe.op oe.arg eO) ?_)))
 rintro _ w116 ⟨rfl,eP⟩
 exact fun E N I=>⟨(zA N eP),zl⟩
 refine ob1 1 fun _ _ eQ _=>?_
 obtain⟨bv,hS217⟩:=eQ
 exact obl rfl (yy bv rfl dR)
 intro vals w218 eR eS
 obtain⟨bv,aD⟩:=eR
 have gm:=eS 13 dc
 refine yg (kv:=[(0,Ix b 0),(1,.agg (e.cells de0).toArray),(3,Ix m 0),(4,.bool false),(5,Ix B 0),(25,.bool (!decide ((xp d e.typ e.field e.op e.arg)=0)))]) ⟨rfl,rfl,rfl,rfl,rfl,(by exact gm),zl⟩ (fun ρw218=>(zb ?_))
 cases F: !decide ((xp d e.typ e.field e.op e.arg)=0)
 have hc223r:=F
 have F:=zQ F
 have hfo:=XR F
 have hfz:=F
 have gh:=hfo.1;have gi:=hfo.2.1;have hft:=hfo.2.2
 have hfl:=hft.lo;have hfh:=hft.hi
 refine ze rfl (zp (za ?_))
 refine WD4 ((fun TT C=>WF [fun vals A=>Sep G W (C::TT) A,fun vals A=> ∃q,(vals 14=(Ix q 0:Value))∧Sep G W ((Blk q #[Iv 0,Iv 0,.bool false,(Iz)] 87)::C::TT) A,fun vals A=> ∃q,(vals 14=(Ix q 0:Value))∧Sep G W ((Blk q ci.toArray 87)::C::TT) A]) (gF::Rs) gH) (AF [Vl 0 (Ix b 0),Vl 1 (Ix b 0),Vl 2 (Ix b 0),Vl 3 (Ix b 0),Vl 4 g,Vl 5 (Ix m 4),Vl 6 (Iv (e.typ)),Vl 7 gG,Vl 8 gG,Vl 9 ck,Vl 10 (Ix m 6),Vl 11 (Iv (e.field)),Vl 12 (Ix (sb ck) (so ck+e.field.toNat*4)),Vl 13 (.agg ci.toArray),fun _=>True,fun _=>True]) [[],[0],[0,1],[0,1,2],(rg 4),[],[5],(rg 7),(rg 8),(rg 9),[],[10],(rg 12),(rg 13),[],(rg 15)] [14,15] [(0,1),(0,1),(0,1),(0,1),(0,1),(0,1),(0,1),(0,1),(0,1),(0,1),(0,1),(0,1),(0,1),(0,1),(0,0),(1,1)] aD ⟨fun _ _ _ _ _ _ _=>obl rfl (mV (Ix b 0) dR),fun _ _ _ _ _ _ eT=>obl rfl (zm (eT 0 dc) dR),fun _ _ _ _ _ _ eU=>obl rfl (Yt (eU 1 dc) dR),fun _ _ _ _ _ _ eV=>obl rfl (yH (eV 2 dc) dR),?_,fun _ _ _ _ _ _ _=>obl rfl (xm rfl dR),?_,?_,fun _ _ _ _ _ _ eW=>obl rfl (yU (eW 7 dc) dR),?_,fun _ _ _ _ _ _ _=>obl rfl (xM rfl dR),?_,?_,?_,?_,?_,zl⟩ ?_
 refine fun aE _ _ gn go bw bx=>?_
 have hkk:=xE gn go
 rcases hkk with rfl|rfl
 have eX:=bw
 exact obl rfl (lD g lR (bx 3 dc) (zd (eX.gblk X) rfl) dR)
 obtain⟨q,D,eY⟩:=bw
 exact obl rfl (lD g lR (bx 3 dc) (zd (eY.gblk X) rfl) dR)
 refine fun aF _ _ gp gq bz bA=>?_
 have hkk:=xE gp gq
 rcases hkk with rfl|rfl
 have eZ:=bz
 exact obl rfl (lD (Iv (e.typ)) kT (bA 5 dc) (zd (eZ.b1) rfl) dR)
 obtain⟨q,D,fa⟩:=bz
 exact obl rfl (lD (Iv (e.typ)) kT (bA 5 dc) (zd (fa.b2) rfl) dR)
 refine fun aG _ _ gr gs bB ah=>?_
 have hkk:=xE gr gs
 rcases hkk with rfl|rfl
 have hS436:Sep _ _ _ _:=bB
 refine obl rfl ?_
 have hi439:e.typ.toNat<d.types.length:=bo
 exact zB mR pT (ah 4 dc) u.sl (ah 6 dc) ⟨by omega,by omega⟩ dR
 obtain⟨q,D,hS440⟩:=bB
 refine obl rfl ?_
 have hi443:e.typ.toNat<d.types.length:=bo
 exact zB mR pT (ah 4 dc) u.sl (ah 6 dc) ⟨by omega,by omega⟩ dR
 refine fun aH _ _ gt gu bC bD=>?_
 have hkk:=xE gt gu
 rcases hkk with rfl|rfl
 have fb:=bC
 refine obl rfl ?_
 have bE:e.typ.toNat<d.types.length:=bo
 obtain⟨cx,bm,hoke459⟩:=u.typD bE
 have hsm461:((d.types.getD e.typ.toNat default).fields).length*48≤140737488355328:=bm.small
 have cy:=fb.cells cx (u.foot (ne_of_lt bE))
 exact lD ck wR (bD 8 dc) (cy.get (j:=0) rfl) dR
 obtain⟨q,D,fc⟩:=bC
 refine obl rfl ?_
 have bF:e.typ.toNat<d.types.length:=bo
 obtain⟨cz,bn,hoke465⟩:=u.typD bF
 have hsm467:((d.types.getD e.typ.toNat default).fields).length*48≤140737488355328:=bn.small
 have cA:=fc.cells cz (u.foot (ne_of_lt bF))
 exact lD ck wR (bD 8 dc) (cA.get (j:=0) rfl) dR
 refine fun aI _ _ gv gw bG bH=>?_
 have hkk:=xE gv gw
 rcases hkk with rfl|rfl
 have fd:=bG
 exact obl rfl (lD (Iv (e.field)) kT (bH 10 dc) (zd (fd.b1) rfl) dR)
 obtain⟨q,D,fe⟩:=bG
 exact obl rfl (lD (Iv (e.field)) kT (bH 10 dc) (zd (fe.b2) rfl) dR)
 refine fun aJ _ _ gx gy bI ai=>?_
 have hkk:=xE gx gy
 rcases hkk with rfl|rfl
 have ff:=bI
 refine obl rfl ?_
 have bJ:e.typ.toNat<d.types.length:=bo
 obtain⟨cB,an,hoke494⟩:=u.typD bJ
 have hsm496:((d.types.getD e.typ.toNat default).fields).length*48≤140737488355328:=an.small
 have hcw497:=ff.cells cB (u.foot (ne_of_lt bJ))
 have hi498:e.field.toNat<((d.types.getD e.typ.toNat default).fields).length:=bo
 exact zB (k:=4) (i:=e.field) kY kR (ai 9 dc) an.sl (ai 11 dc) ⟨by omega,by omega⟩ dR
 obtain⟨q,D,fg⟩:=bI
 refine obl rfl ?_
 have bK:e.typ.toNat<d.types.length:=bo
 obtain⟨cC,ao,hoke502⟩:=u.typD bK
 have hsm504:((d.types.getD e.typ.toNat default).fields).length*48≤140737488355328:=ao.small
 have hcw505:=fg.cells cC (u.foot (ne_of_lt bK))
 have hi506:e.field.toNat<((d.types.getD e.typ.toNat default).fields).length:=bo
 exact zB (k:=4) (i:=e.field) kY kR (ai 9 dc) ao.sl (ai 11 dc) ⟨by omega,by omega⟩ dR
 refine fun aK _ _ gz gA bL bM=>?_
 have hkk:=xE gz gA
 rcases hkk with rfl|rfl
 have bN:=bL
 refine obl rfl ?_
 have bO:e.typ.toNat<d.types.length:=bo
 obtain⟨cD,R,hoke516⟩:=u.typD bO
 have hsm518:((d.types.getD e.typ.toNat default).fields).length*48≤140737488355328:=R.small
 have hcw519:=bN.cells cD (u.foot (ne_of_lt bO))
 have bP:e.field.toNat<((d.types.getD e.typ.toNat default).fields).length:=bo
 obtain⟨cE,bp,hoke515⟩:=R.fldD bP
 have hsm521:((((d.types.getD e.typ.toNat default).fields).getD e.field.toNat default).moves).length*32≤140737488355328:=bp.small
 have cF:=bN.cells cE (R.foot (ne_of_lt bP))
 exact zh qY kR rfl (bM 12 dc) cF dR
 obtain⟨q,D,bQ⟩:=bL
 refine obl rfl ?_
 have bR:e.typ.toNat<d.types.length:=bo
 obtain⟨cG,S,hoke526⟩:=u.typD bR
 have hsm528:((d.types.getD e.typ.toNat default).fields).length*48≤140737488355328:=S.small
 have hcw529:=bQ.cells cG (u.foot (ne_of_lt bR))
 have bS:e.field.toNat<((d.types.getD e.typ.toNat default).fields).length:=bo
 obtain⟨cH,bq,hoke525⟩:=S.fldD bS
 have hsm531:((((d.types.getD e.typ.toNat default).fields).getD e.field.toNat default).moves).length*32≤140737488355328:=bq.small
 have cI:=bQ.cells cH (S.foot (ne_of_lt bS))
 exact zh qY kR rfl (bM 12 dc) cI dR
 refine ob1 0 fun _ _ (fh:Sep _ _ _ _) _=>(obl rfl ((zG Tryz.zeroValue87 ?_)))
 intro w355 q fj
 exact fun E N I=>⟨(exiA q (zA N (fh.new fj))),zl⟩
 refine ob1 1 fun _ _ fk fl=>?_
 obtain⟨q,D,aj⟩:=fk
 refine obl rfl ?_
 have bT:e.typ.toNat<d.types.length:=bo
 obtain⟨cJ,T,hoke369⟩:=u.typD bT
 have hsm371:((d.types.getD e.typ.toNat default).fields).length*48≤140737488355328:=T.small
 have hcw372:=aj.cells cJ (u.foot (ne_of_lt bT))
 have bU:e.field.toNat<((d.types.getD e.typ.toNat default).fields).length:=bo
 obtain⟨cK,ap,hoke368⟩:=T.fldD bU
 have hsm374:((((d.types.getD e.typ.toNat default).fields).getD e.field.toNat default).moves).length*32≤140737488355328:=ap.small
 have hcw375:=aj.cells cK (T.foot (ne_of_lt bU))
 refine(zy (v:=.agg ci.toArray) kR D (fl 13 dc) (aj.b0) (yo ⟨rfl,rfl,rfl,ap.sl.one,zl⟩) yqc rfl ?_)
 intro w366 fm
 exact fun E N I=>⟨(exiA q (zA ((I 14 dc).trans D) (aj.pt0 fm))),zl⟩
 intro vals w533 fn hA535
 obtain⟨q,D,fo⟩:=fn
 let gJ:=Blk q ci.toArray 87
 refine yg (kv:=[(0,Ix b 0),(1,.agg (e.cells de0).toArray),(3,Ix m 0),(4,.bool false),(5,Ix B 0),(25,.bool false),(6,Ix q 0)]) ⟨rfl,rfl,rfl,rfl,rfl,rfl,(by exact D),zl⟩ (fun ρw533=>(zb (za (za (R0 fun _=>st (aS (Iv 0) (zb (zt ?_))))))))
 refine zZ (fun mq σ A=> ∃k ρ,mq=L.length-k∧σ=yf ρ [(0,Ix b 0),(3,Ix m 0),(4,.bool false),(5,Ix B 0),(6,Ix q 0),(7,Iw k)]∧(k≤L.length)∧(∀i,i<k→rJ d e (L.getD i default)=false)∧Sep G W ((Blk q ((((d.types.getD e.typ.toNat default).fields).getD e.field.toNat default).cells (zT W (sb (zT W (sb g) (so g+e.typ.toNat*1+0))) (so (zT W (sb g) (so g+e.typ.toNat*1+0))+e.field.toNat*4+3))).toArray 87)::(Blk B #[Iv 0,Iv 0] 52)::(Blk m (e.cells de0).toArray 55)::Rs) A) ⟨0,_,rfl,sSf,zY _,(fun i h=>absurd h (yO i)),fo⟩ ?_
 rintro m538 σ539 w537 ⟨k,ρl1,rfl,rfl,hkk,hno,J⟩
 let gD:=zT W (sb s) (so s+k*13+3)
 let gE:=((L.getD k default).ev).cells gD
 refine za (za (R0 fun _=>st (mV (Iw k) (st (mV (Ix b 0) (st (zm rfl (st (ZD rfl (st (lD s tT rfl (zd (J.gblk X) rfl) (st (zC sT rfl am.sl (st (zK rfl rfl (zb ?_))))))))))))))))
 cases Z:decide (((k:Nat):Int)<((L.length:Nat):Int))
 have hc541r:=Z
 have Z:=fD Z
 have hT:=zbg hfz (fun i hi=>hno i om)
 refine ze rfl (ya (zR (za (R0 fun _=>st (mV (Ix b 0) (st (xm rfl (st (lD (Iv (e.typ)) kT rfl (zd (J.b2) rfl) (st (Zc rfl (st (lD (Iv (e.agg)) kT rfl (zd (J.b2) rfl) (st (cL Tryz.call50 (Xu hb oe.typ oe.agg J hd hrl hml) ?_)))))))))))))))
 rintro _ w543 ⟨l,rfl,bV⟩
 let cj:=(yr d (e.typ,e.agg) L).cells l
 have bW:=bV.r0
 have hr545s:_*32≤_:=bW.2
 refine st (mV (.tuple #[.agg cj.toArray,.bool ((zj d L (e.typ,e.agg)).isSome)]) (st (zz rfl rfl (st (zz rfl rfl (st (zG oY ?_)))))))
 intro w548 K fp
 have bX:=bV.new fp
 refine stn (zy (v:=.agg cj.toArray) uT rfl rfl (bX.b0) (yo ⟨rfl,bW.1.one,zl⟩) yqc rfl ?_)
 intro w550 fq
 have aL:=bX.pt0 fq
 refine st (aS (.bool ((zj d L (e.typ,e.agg)).isSome)) (zb (za (R0 fun _=>st (xo rfl (st (lD l wY rfl (zd (aL.b0) rfl) (st (aS l (zb (za (za (R0 fun _=>st (mV (.bool ((zj d L (e.typ,e.agg)).isSome)) (st (yD rfl (zb ?_)))))))))))))))))
 cases H: !((zj d L (e.typ,e.agg)).isSome)
 have aq:=H
 try simp only[zi]at H
 have ar:(zj d L (e.typ,e.agg)).isSome=true:=by simpa using aq
 replace H:=ar
 refine ze rfl (zp (za ?_))
 have aM:=aL.mv1
 rw[show(stL d (e.typ,e.agg) L)=(yu d (e.typ,e.agg) L)from ifnC (UY H)]at aM
 have fr:=aM.r0
 have hr555s:_*32≤_:=fr.2
 refine WD4 ((fun TT C=>WF [fun vals A=>Sep G W (C::TT) A,fun vals A=>(vals 16=(Iv ((xB (d.types.getD e.typ.toNat default) (yu d (e.typ,e.agg) L) e.field e.op e.arg)):Value))∧Sep G W (C::TT) A,fun vals A=>(vals 16=(Iv ((xB (d.types.getD e.typ.toNat default) (yu d (e.typ,e.agg) L) e.field e.op e.arg)):Value))∧Sep G W (C::TT) A]) ((Blk K cj.toArray 48)::gJ::gH::gF::Rs) (RowE own 105 l (yu d (e.typ,e.agg) L))) (AF [Vl 0 (Ix b 0),Vl 1 (Ix b 0),Vl 2 (Ix b 0),Vl 3 (Ix b 0),Vl 4 g,Vl 5 (Ix m 4),Vl 6 (Iv (e.typ)),Vl 7 gG,Vl 8 (.agg gI.toArray),Vl 9 l,Vl 10 (Ix m 6),Vl 11 (Iv (e.field)),Vl 12 (Ix m 7),Vl 13 (Iv (e.op)),Vl 14 (Ix m 8),Vl 15 (Iv (e.arg)),fun _=>True,Vl 17 (.bool (!decide ((xB (d.types.getD e.typ.toNat default) (yu d (e.typ,e.agg) L) e.field e.op e.arg)=0))),Vl 18 (.agg #[Iv 0,Iv 0]),Vl 19 (.bool (!decide ((xB (d.types.getD e.typ.toNat default) (yu d (e.typ,e.agg) L) e.field e.op e.arg)=0))),fun _=>True]) [[],[0],[0,1],[0,1,2],(rg 4),[],[5],(rg 7),(rg 8),[],[],[10],[],[12],[],[14],(rg 16),(rg 17),[],(rg 18),(rg 20)] [16,20] [(0,0),(0,0),(0,0),(0,0),(0,0),(0,0),(0,0),(0,0),(0,0),(0,0),(0,0),(0,0),(0,0),(0,0),(0,0),(0,0),(0,0),(1,1),(0,1),(1,1),(1,1)] aM ⟨fun _ _ _ _ _ _ _=>obl rfl (mV (Ix b 0) dR),fun _ _ _ _ _ _ fs=>obl rfl (zm (fs 0 (by decide)) dR),fun _ _ _ _ _ _ ft=>obl rfl (Yt (ft 1 (by decide)) dR),fun _ _ _ _ _ _ fu=>obl rfl (yH (fu 2 (by decide)) dR),ob1 0 fun _ _ (fv:Sep _ _ _ _) fw=>obl rfl (lD g lR (fw 3 (by decide)) (zd (fv.gblk X) rfl) dR),fun _ _ _ _ _ _ _=>obl rfl (xm rfl dR),ob1 0 fun _ _ (fx:Sep _ _ _ _) fy=>obl rfl (lD (Iv (e.typ)) kT (fy 5 (by decide)) (zd (fx.b4) rfl) dR),?_,?_,fun _ _ _ _ _ _ _=>obl rfl (mV l dR),fun _ _ _ _ _ _ _=>obl rfl (xM rfl dR),ob1 0 fun _ _ (fz:Sep _ _ _ _) fA=>obl rfl (lD (Iv (e.field)) kT (fA 10 (by decide)) (zd (fz.b4) rfl) dR),fun _ _ _ _ _ _ _=>obl rfl (Ze rfl dR),ob1 0 fun _ _ (fB:Sep _ _ _ _) fC=>obl rfl (lD (Iv (e.op)) kT (fC 12 (by decide)) (zd (fB.b4) rfl) dR),fun _ _ _ _ _ _ _=>obl rfl (xy rfl dR),ob1 0 fun _ _ (fE:Sep _ _ _ _) fF=>obl rfl (lD (Iv (e.arg)) kT (fF 14 (by decide)) (zd (fE.b4) rfl) dR),?_,?_,fun _ _ _ _ _ _ _=>obl rfl (zV (parts':=[]) (v:=.agg #[Iv 0,Iv 0]) rfl (by simp+zetaDelta [Instr.build,Instr.fill,go_sem,xA]) dR),fun _ _ _ _ _ _ fG=>obl rfl (zM (fG 17 (by decide)) dR),?_,zl⟩ ?_
 refine ob1 0 fun _ _ _ bY=>(obl rfl ?_)
 have hi791:e.typ.toNat<d.types.length:=bo
 exact zB mR pT (bY 4 dc) u.sl (bY 6 dc) ⟨by omega,by omega⟩ dR
 refine ob1 0 fun _ _ (fH:Sep _ _ _ _) fI=>(obl rfl ?_)
 have bZ:e.typ.toNat<d.types.length:=bo
 obtain⟨cM,br,hoke800⟩:=u.typD bZ
 have hsm802:((d.types.getD e.typ.toNat default).fields).length*48≤140737488355328:=br.small
 have cN:=fH.cells cM (u.foot (ne_of_lt bZ))
 exact zh pR pT rfl (fI 7 dc) cN dR
 refine ob1 0 fun vals _ (ca:Sep _ _ _ _) aa=>(obl rfl ?_)
 have cb:e.typ.toNat<d.types.length:=bo
 obtain⟨cO,au,cl⟩:=u.typD cb
 have hsm689:((d.types.getD e.typ.toNat default).fields).length*48≤140737488355328:=au.small
 have hcw690:=ca.cells cO (u.foot (ne_of_lt cb))
 obtain⟨G691,fJ,fK,fL,fM⟩:=ca.lend
 have aN:=RowE.rd fJ
 have hrd697s:_*32≤_:=aN.small
 refine(zW (vals:=[.agg ((d.types.getD e.typ.toNat default).cells (zT W (sb g) (so g+e.typ.toNat*1+0))).toArray,l,Iv (e.field),Iv (e.op),Iv (e.arg)]) rfl (yM ⟨(aa 8 dc),(aa 9 dc),(aa 11 dc),(aa 13 dc),(aa 15 dc),zl⟩) lA (Qg (zv au fK) cl aN oe.field oe.op oe.arg fL ((hft.ask (hd.typ _ om) (hrl.inv hd e.typ e.agg gh gi)))) ?_)
 rintro _ w698 ⟨rfl,fN⟩
 have fO:=fM _ _ fN
 exact fun E N I=>⟨(zA N fO),zl⟩
 refine ob1 1 fun _ _ fP _=>?_
 obtain⟨ak,hS858⟩:=fP
 exact obl rfl (yy ak rfl dR)
 refine ob1 1 fun _ _ fQ fR=>?_
 obtain⟨ak,cc⟩:=fQ
 refine obl rfl ((zy (v:=.agg #[Iv 0,Iv 0]) mT rfl (fR 18 dc) (cc.b3) (yo ⟨rfl,rfl,zl⟩) yqc rfl ?_))
 intro w730 fS
 exact fun E N I=>⟨(zA ((I 16 dc).trans ak) (cc.pt3 fS)),zl⟩
 intro vals gB fT fU
 obtain⟨ak,cd⟩:=fT
 have gC:=fU 19 dc
 refine yg (kv:=[(0,Ix b 0),(3,Ix m 0),(4,.bool (!decide ((xB (d.types.getD e.typ.toNat default) (yu d (e.typ,e.agg) L) e.field e.op e.arg)=0))),(5,Ix B 0),(6,Ix q 0),(7,Iw k),(41,Iw k),(42,Ix b 0),(43,Ix b 0),(44,Ix b 2),(45,s),(46,Iw L.length),(47,.bool false),(97,Ix b 0),(98,Ix m 4),(99,Iv (e.typ)),(100,Ix m 5),(101,Iv (e.agg)),(102,.tuple #[.agg cj.toArray,.bool ((zj d L (e.typ,e.agg)).isSome)]),(96,.tuple #[.agg cj.toArray,.bool ((zj d L (e.typ,e.agg)).isSome)]),(103,.agg cj.toArray),(104,.bool ((zj d L (e.typ,e.agg)).isSome)),(9,Ix K 0),(10,.bool ((zj d L (e.typ,e.agg)).isSome)),(105,Ix K 1),(106,l),(11,l),(107,.bool ((zj d L (e.typ,e.agg)).isSome)),(108,.bool false)]) ⟨rfl,rfl,(by exact gC),rfl,rfl,rfl,rfl,rfl,rfl,rfl,rfl,rfl,rfl,rfl,rfl,rfl,rfl,rfl,rfl,rfl,rfl,rfl,rfl,rfl,rfl,rfl,rfl,rfl,rfl,zl⟩ (fun ρw872=>?_)
 refine zb (zq (YP uR rT mT rfl rfl (zo (cd.b3)) (show _=(.bool (!decide ((xB (d.types.getD e.typ.toNat default) (yu d (e.typ,e.agg) L) e.field e.op e.arg)=0)):Value)from rfl) ?_))
 have fV:Sep G W Rs gB:=cd.sel 5 [] (xq _ _) rfl rfl
 rw[hT]
 refine⟨rfl,?_,fV⟩
 exact⟨(by decide:InR 0),(by decide:InR 0)⟩
 have aq:=H
 try simp only[zi]at H
 have ar:(zj d L (e.typ,e.agg)).isSome=false:=by simpa using aq
 replace H:=ar
 refine zg rfl ?_
 refine WD4 ((fun TT C=>WF [fun vals A=>Sep G W (C::TT) A,fun vals A=> ∃z,(vals 9=z)∧Sep G W ((RowE own 105 z (List.replicate (d.types.getD e.typ.toNat default).fields.length (⟨0,[]⟩:Cel)))::C::TT) A]) ((RowE own 105 l (stL d (e.typ,e.agg) L))::gJ::gH::gF::Rs) (Blk K cj.toArray 48)) (AF [Vl 0 (Ix b 0),Vl 1 (Ix b 0),Vl 2 (Ix b 0),Vl 3 (Ix b 0),Vl 4 g,Vl 5 (Ix m 4),Vl 6 (Iv (e.typ)),Vl 7 gG,Vl 8 (.agg gI.toArray),fun _=>True,fun vals=> ∀(z:Value),vals 9=z→vals 10=z]) [[],[0],[0,1],[0,1,2],(rg 4),[],[5],(rg 7),(rg 8),(rg 9),(rg 10)] [9] [(0,0),(0,0),(0,0),(0,0),(0,0),(0,0),(0,0),(0,0),(0,0),(0,0),(1,1)] aL ⟨fun _ _ _ _ _ _ _=>obl rfl (mV (Ix b 0) dR),fun _ _ _ _ _ _ fW=>obl rfl (zm (fW 0 dc) dR),fun _ _ _ _ _ _ fX=>obl rfl (Yt (fX 1 dc) dR),fun _ _ _ _ _ _ fY=>obl rfl (yH (fY 2 dc) dR),ob1 0 fun _ _ (cP:Sep _ _ _ _) cQ=>obl rfl (lD g lR (cQ 3 dc) (zd (cP.gblk X) rfl) dR),fun _ _ _ _ _ _ _=>obl rfl (xm rfl dR),ob1 0 fun _ _ (cR:Sep _ _ _ _) cS=>obl rfl (lD (Iv (e.typ)) kT (cS 5 dc) (zd (cR.b4) rfl) dR),?_,?_,?_,?_,zl⟩ ?_ (hlocA:=xi ⟨dA,dA,dA,dA,dA,dA,dA,dA,dA,dT,fun vals E N h=>fun z ce=>(N 10 (.inl rfl)).trans (h z ((N 9 (.inr dc)).symm.trans ce)),zl⟩)
 refine ob1 0 fun _ _ _ aO=>(obl rfl ?_)
 have hi1031:e.typ.toNat<d.types.length:=bo
 exact zB mR pT (aO 4 dc) u.sl (aO 6 dc) ⟨by omega,by omega⟩ dR
 refine ob1 0 fun _ _ (cT:Sep _ _ _ _) cU=>(obl rfl ?_)
 have aP:e.typ.toNat<d.types.length:=bo
 obtain⟨cm,aQ,hoke1040⟩:=u.typD aP
 have hsm1042:((d.types.getD e.typ.toNat default).fields).length*48≤140737488355328:=aQ.small
 have cn:=cT.cells cm (u.foot (ne_of_lt aP))
 exact zh pR pT rfl (cU 7 dc) cn dR
 refine ob1 0 fun vals _ (cf:Sep _ _ _ _) fZ=>(obl rfl ?_)
 have cg:e.typ.toNat<d.types.length:=bo
 obtain⟨cV,av,co⟩:=u.typD cg
 have hsm959:((d.types.getD e.typ.toNat default).fields).length*48≤140737488355328:=av.small
 have hcw960:=cf.cells cV (u.foot (ne_of_lt cg))
 refine(zW (vals:=[.agg gI.toArray]) rfl (yM ⟨(fZ 8 dc),zl⟩) uY (Vb av co cf) ?_)
 rintro z w962 ⟨_,rfl,ch⟩
 have ga:=ch.r0
 have hr964s:_*32≤_:=ga.2
 exact fun E N I=>⟨(exiA z (zA N ch)),zl⟩
 refine ob1 1 fun _ _ cW _=>?_
 obtain⟨z,al,hS1050⟩:=cW
 refine obl rfl (zM al (fun E N I=>⟨rfl,?_⟩))
 intro v961q ce
 rw[I 9 (by decide)]at ce;cases al.symm.trans ce
 exact N
 intro vals w1051 cX cY
 obtain⟨z,al,aw⟩:=cX
 have gc:=cY 10 dc z al
 refine yg (kv:=[(0,Ix b 0),(3,Ix m 0),(4,.bool false),(5,Ix B 0),(6,Ix q 0),(7,Iw k),(41,Iw k),(42,Ix b 0),(43,Ix b 0),(44,Ix b 2),(45,s),(46,Iw L.length),(47,.bool false),(97,Ix b 0),(98,Ix m 4),(99,Iv (e.typ)),(100,Ix m 5),(101,Iv (e.agg)),(102,.tuple #[.agg cj.toArray,.bool ((zj d L (e.typ,e.agg)).isSome)]),(96,.tuple #[.agg cj.toArray,.bool ((zj d L (e.typ,e.agg)).isSome)]),(103,.agg cj.toArray),(104,.bool ((zj d L (e.typ,e.agg)).isSome)),(9,Ix K 0),(10,.bool ((zj d L (e.typ,e.agg)).isSome)),(105,Ix K 1),(106,l),(11,z),(107,.bool ((zj d L (e.typ,e.agg)).isSome)),(108,.bool true)]) ⟨rfl,rfl,rfl,rfl,rfl,rfl,rfl,rfl,rfl,rfl,rfl,rfl,rfl,rfl,rfl,rfl,rfl,rfl,rfl,rfl,rfl,rfl,rfl,rfl,rfl,rfl,(by exact gc),rfl,rfl,zl⟩ (fun ρw1051=>?_)
 refine zb (za ?_)
 rw[show(List.replicate (d.types.getD e.typ.toNat default).fields.length (⟨0,[]⟩:Cel))=(yu d (e.typ,e.agg) L)from(JQ (Qe H)).symm]at aw
 have cZ:=aw.r0
 have hr1056s:_*32≤_:=cZ.2
 refine WD4 ((fun TT C=>WF [fun vals A=>Sep G W (C::TT) A,fun vals A=>(vals 16=(Iv ((xB (d.types.getD e.typ.toNat default) (yu d (e.typ,e.agg) L) e.field e.op e.arg)):Value))∧Sep G W (C::TT) A,fun vals A=>(vals 16=(Iv ((xB (d.types.getD e.typ.toNat default) (yu d (e.typ,e.agg) L) e.field e.op e.arg)):Value))∧Sep G W (C::TT) A]) ((Blk K cj.toArray 48)::(RowE own 105 l (stL d (e.typ,e.agg) L))::gJ::gH::gF::Rs) (RowE own 105 z (yu d (e.typ,e.agg) L))) (AF [Vl 0 (Ix b 0),Vl 1 (Ix b 0),Vl 2 (Ix b 0),Vl 3 (Ix b 0),Vl 4 g,Vl 5 (Ix m 4),Vl 6 (Iv (e.typ)),Vl 7 gG,Vl 8 (.agg gI.toArray),Vl 9 z,Vl 10 (Ix m 6),Vl 11 (Iv (e.field)),Vl 12 (Ix m 7),Vl 13 (Iv (e.op)),Vl 14 (Ix m 8),Vl 15 (Iv (e.arg)),fun _=>True,Vl 17 (.bool (!decide ((xB (d.types.getD e.typ.toNat default) (yu d (e.typ,e.agg) L) e.field e.op e.arg)=0))),Vl 18 (.agg #[Iv 0,Iv 0]),Vl 19 (.bool (!decide ((xB (d.types.getD e.typ.toNat default) (yu d (e.typ,e.agg) L) e.field e.op e.arg)=0))),fun _=>True]) [[],[0],[0,1],[0,1,2],(rg 4),[],[5],(rg 7),(rg 8),[],[],[10],[],[12],[],[14],(rg 16),(rg 17),[],(rg 18),(rg 20)] [16,20] [(0,0),(0,0),(0,0),(0,0),(0,0),(0,0),(0,0),(0,0),(0,0),(0,0),(0,0),(0,0),(0,0),(0,0),(0,0),(0,0),(0,0),(1,1),(0,1),(1,1),(1,1)] aw ⟨fun _ _ _ _ _ _ _=>obl rfl (mV (Ix b 0) dR),fun _ _ _ _ _ _ da=>obl rfl (zm (da 0 (by decide)) dR),fun _ _ _ _ _ _ db=>obl rfl (Yt (db 1 (by decide)) dR),fun _ _ _ _ _ _ dd=>obl rfl (yH (dd 2 (by decide)) dR),ob1 0 fun _ _ (de:Sep _ _ _ _) df=>obl rfl (lD g lR (df 3 (by decide)) (zd (de.gblk X) rfl) dR),fun _ _ _ _ _ _ _=>obl rfl (xm rfl dR),ob1 0 fun _ _ (dg:Sep _ _ _ _) dh=>obl rfl (lD (Iv (e.typ)) kT (dh 5 (by decide)) (zd (dg.b5) rfl) dR),?_,?_,fun _ _ _ _ _ _ _=>obl rfl (mV z dR),fun _ _ _ _ _ _ _=>obl rfl (xM rfl dR),ob1 0 fun _ _ (di:Sep _ _ _ _) dj=>obl rfl (lD (Iv (e.field)) kT (dj 10 (by decide)) (zd (di.b5) rfl) dR),fun _ _ _ _ _ _ _=>obl rfl (Ze rfl dR),ob1 0 fun _ _ (dk:Sep _ _ _ _) dl=>obl rfl (lD (Iv (e.op)) kT (dl 12 (by decide)) (zd (dk.b5) rfl) dR),fun _ _ _ _ _ _ _=>obl rfl (xy rfl dR),ob1 0 fun _ _ (dm:Sep _ _ _ _) dp=>obl rfl (lD (Iv (e.arg)) kT (dp 14 (by decide)) (zd (dm.b5) rfl) dR),?_,?_,fun _ _ _ _ _ _ _=>obl rfl (zV (parts':=[]) (v:=.agg #[Iv 0,Iv 0]) rfl (by simp+zetaDelta [Instr.build,Instr.fill,go_sem,xA]) dR),fun _ _ _ _ _ _ dq=>obl rfl (zM (dq 17 (by decide)) dR),?_,zl⟩ ?_
 refine ob1 0 fun _ _ _ aR=>(obl rfl ?_)
 have hi1292:e.typ.toNat<d.types.length:=bo
 exact zB mR pT (aR 4 dc) u.sl (aR 6 dc) ⟨by omega,by omega⟩ dR
 refine ob1 0 fun _ _ (dr:Sep _ _ _ _) ds=>(obl rfl ?_)
 have aT:e.typ.toNat<d.types.length:=bo
 obtain⟨cp,aU,hoke1301⟩:=u.typD aT
 have hsm1303:((d.types.getD e.typ.toNat default).fields).length*48≤140737488355328:=aU.small
 have cq:=dr.cells cp (u.foot (ne_of_lt aT))
 exact zh pR pT rfl (ds 7 dc) cq dR
 refine ob1 0 fun vals _ (aV:Sep _ _ _ _) O=>(obl rfl ?_)
 have aW:e.typ.toNat<d.types.length:=bo
 obtain⟨cr,af,bs⟩:=u.typD aW
 have hsm1190:((d.types.getD e.typ.toNat default).fields).length*48≤140737488355328:=af.small
 have hcw1191:=aV.cells cr (u.foot (ne_of_lt aW))
 obtain⟨G1192,dt,du,dv,dw⟩:=aV.lend
 have aB:=RowE.rd dt
 have hrd1198s:_*32≤_:=aB.small
 refine(zW (vals:=[.agg ((d.types.getD e.typ.toNat default).cells (zT W (sb g) (so g+e.typ.toNat*1+0))).toArray,z,Iv (e.field),Iv (e.op),Iv (e.arg)]) rfl (yM ⟨(O 8 dc),(O 9 dc),(O 11 dc),(O 13 dc),(O 15 dc),zl⟩) lA (Qg (zv af du) bs aB oe.field oe.op oe.arg dv ((hft.ask (hd.typ _ om) (hrl.inv hd e.typ e.agg gh gi)))) ?_)
 rintro _ w1199 ⟨rfl,dx⟩
 have dy:=dw _ _ dx
 exact fun E N I=>⟨(zA N dy),zl⟩
 refine ob1 1 fun _ _ dz _=>?_
 obtain⟨ab,hS1359⟩:=dz
 exact obl rfl (yy ab rfl dR)
 refine ob1 1 fun _ _ dB dD=>?_
 obtain⟨ab,aX⟩:=dB
 refine obl rfl ((zy (v:=.agg #[Iv 0,Iv 0]) mT rfl (dD 18 dc) (aX.b4) (yo ⟨rfl,rfl,zl⟩) yqc rfl ?_))
 intro w1231 dE
 exact fun E N I=>⟨(zA ((I 16 dc).trans ab) (aX.pt4 dE)),zl⟩
 intro vals gd dF dG
 obtain⟨ab,aY⟩:=dF
 have ge:=dG 19 dc
 refine yg (kv:=[(0,Ix b 0),(3,Ix m 0),(4,.bool (!decide ((xB (d.types.getD e.typ.toNat default) (yu d (e.typ,e.agg) L) e.field e.op e.arg)=0))),(5,Ix B 0),(6,Ix q 0),(7,Iw k),(41,Iw k),(42,Ix b 0),(43,Ix b 0),(44,Ix b 2),(45,s),(46,Iw L.length),(47,.bool false),(97,Ix b 0),(98,Ix m 4),(99,Iv (e.typ)),(100,Ix m 5),(101,Iv (e.agg)),(102,.tuple #[.agg cj.toArray,.bool ((zj d L (e.typ,e.agg)).isSome)]),(96,.tuple #[.agg cj.toArray,.bool ((zj d L (e.typ,e.agg)).isSome)]),(103,.agg cj.toArray),(104,.bool ((zj d L (e.typ,e.agg)).isSome)),(9,Ix K 0),(10,.bool ((zj d L (e.typ,e.agg)).isSome)),(105,Ix K 1),(106,l),(11,z),(107,.bool ((zj d L (e.typ,e.agg)).isSome)),(108,.bool true)]) ⟨rfl,rfl,(by exact ge),rfl,rfl,rfl,rfl,rfl,rfl,rfl,rfl,rfl,rfl,rfl,rfl,rfl,rfl,rfl,rfl,rfl,rfl,rfl,rfl,rfl,rfl,rfl,rfl,rfl,rfl,zl⟩ (fun ρw1373=>?_)
 refine zb (zq (YP uR rT mT rfl rfl (zo (aY.b4)) (show _=(.bool (!decide ((xB (d.types.getD e.typ.toNat default) (yu d (e.typ,e.agg) L) e.field e.op e.arg)=0)):Value)from rfl) ?_))
 have dH:Sep G W Rs gd:=aY.sel 6 [] (xq _ _) rfl rfl
 rw[hT]
 refine⟨rfl,?_,dH⟩
 exact⟨(by decide:InR 0),(by decide:InR 0)⟩
 have Z:=tD Z
 refine zg rfl (zp (za (zt (za (R0 fun _=>st (mV (Ix b 0) (st (zm rfl (st (ZD rfl (st (lD s tT rfl (zd (J.gblk X) rfl) (st (mV (Iw k) ?_))))))))))))))
 have dI:k<L.length:=bo
 refine st (zf sT oT rfl am.sl rfl dI (st (xx rfl ?_)))
 have ax:k<L.length:=bo
 obtain⟨aC,P,U⟩:=am.entD ax
 have hsm1382:((L.getD k default).ev.deps).length*8≤140737488355328:=P.small
 have ct:=J.cells aC (am.foot (ne_of_lt ax))
 refine st (zh (cs:=[Iv ((L.getD k default).ev.origin),Iv ((L.getD k default).ev.seq),Iv ((L.getD k default).ev.lam),gD,Iv ((L.getD k default).ev.typ),Iv ((L.getD k default).ev.agg),Iv ((L.getD k default).ev.field),Iv ((L.getD k default).ev.op),Iv ((L.getD k default).ev.arg),Iv ((L.getD k default).ev.key)]) qT nT rfl rfl (CellsAt.sub ct 0 (cs2:=[Iv ((L.getD k default).ev.origin),Iv ((L.getD k default).ev.seq),Iv ((L.getD k default).ev.lam),gD,Iv ((L.getD k default).ev.typ),Iv ((L.getD k default).ev.agg),Iv ((L.getD k default).ev.field),Iv ((L.getD k default).ev.op),Iv ((L.getD k default).ev.arg),Iv ((L.getD k default).ev.key)]) rfl) (st (zG nY ?_)))
 intro w1386 M dJ
 have aZ:=J.new dJ
 refine stn (zy (v:=.agg gE.toArray) nT rfl rfl (aZ.b0) (yo ⟨rfl,rfl,rfl,P.sl.one,rfl,rfl,rfl,rfl,rfl,rfl,zl⟩) yqc rfl ?_)
 intro w1388 dK
 have y:=aZ.pt0 dK
 refine zb (za (zF kr (st (mV (Ix b 0) (st (zm rfl (st (ZD rfl (st (lD s tT rfl (zd (y.gblk X) rfl) (st (mV (Iw k) ?_))))))))))))
 have dL:k<L.length:=bo
 refine st (zf sT oT rfl am.sl rfl dL (st (Vp rfl ?_)))
 have cu:=y.cells aC (am.foot (ne_of_lt ax))
 refine st (lD (.bool ((L.getD k default).void)) vY rfl (cu.get (j:=10) rfl) (st (yD rfl (st (mV (.bool (!((L.getD k default).void))) (stc (V:=Ix M 4) rfl rfl (fun dM=>?_) ?_))))))
 have dN:=dM
 try simp only[zi]at dN
 exact xm rfl rflB
 refine stc (V:=Iv (((L.getD k default).ev).typ)) rfl rfl (fun ba=>?_) ?_
 have dO:=ba
 try simp only[zi]at dO
 exact lD (Iv (((L.getD k default).ev).typ)) kT (ifpC ba) (zd (y.b0) rfl) rflB
 refine stc (V:=Ix m 4) rfl rfl (fun dP=>?_) ?_
 have dQ:=dP
 try simp only[zi]at dQ
 exact xm rfl rflB
 refine stc (V:=Iv (e.typ)) rfl rfl (fun bb=>?_) ?_
 have dS:=bb
 try simp only[zi]at dS
 exact lD (Iv (e.typ)) kT (ifpC bb) (zd (y.b3) rfl) rflB
 refine stc (V:=.bool (decide ((((L.getD k default).ev).typ)=e.typ))) rfl rfl (fun ay=>?_) ?_
 have dU:=ay
 try simp only[zi]at dU
 exact zS (ifpC ay) (ifpC ay) rflB
 refine st (zx rfl (fun hbp=>(ifpC hbp)) (st (mV (.bool ((!((L.getD k default).void))&&(decide ((((L.getD k default).ev).typ)=e.typ)))) (stc (V:=Ix M 5) rfl rfl (fun dV=>?_) ?_))))
 have dW:=dV
 try simp only[zi]at dW
 exact Zc rfl rflB
 refine stc (V:=Iv (((L.getD k default).ev).agg)) rfl rfl (fun bc=>?_) ?_
 have dX:=bc
 try simp only[zi]at dX
 exact lD (Iv (((L.getD k default).ev).agg)) kT (ifpC bc) (zd (y.b0) rfl) rflB
 refine stc (V:=Ix m 5) rfl rfl (fun dY=>?_) ?_
 have dZ:=dY
 try simp only[zi]at dZ
 exact Zc rfl rflB
 refine stc (V:=Iv (e.agg)) rfl rfl (fun bd=>?_) ?_
 have ea:=bd
 try simp only[zi]at ea
 exact lD (Iv (e.agg)) kT (ifpC bd) (zd (y.b3) rfl) rflB
 refine stc (V:=.bool (decide ((((L.getD k default).ev).agg)=e.agg))) rfl rfl (fun az=>?_) ?_
 have eb:=az
 try simp only[zi]at eb
 exact zS (ifpC az) (ifpC az) rflB
 refine st (zx rfl (fun hbp=>(ifpC hbp)) (st (mV (.bool (((!((L.getD k default).void))&&(decide ((((L.getD k default).ev).typ)=e.typ)))&&(decide ((((L.getD k default).ev).agg)=e.agg)))) (stc (V:=Ix M 6) rfl rfl (fun ec=>?_) ?_))))
 have ed:=ec
 try simp only[zi]at ed
 exact xM rfl rflB
 refine stc (V:=Iv (((L.getD k default).ev).field)) rfl rfl (fun be=>?_) ?_
 have ee:=be
 try simp only[zi]at ee
 exact lD (Iv (((L.getD k default).ev).field)) kT (ifpC be) (zd (y.b0) rfl) rflB
 refine stc (V:=Ix m 6) rfl rfl (fun ef=>?_) ?_
 have eg:=ef
 try simp only[zi]at eg
 exact xM rfl rflB
 refine stc (V:=Iv (e.field)) rfl rfl (fun bf=>?_) ?_
 have eh:=bf
 try simp only[zi]at eh
 exact lD (Iv (e.field)) kT (ifpC bf) (zd (y.b3) rfl) rflB
 refine stc (V:=.bool (decide ((((L.getD k default).ev).field)=e.field))) rfl rfl (fun aA=>?_) ?_
 have ei:=aA
 try simp only[zi]at ei
 exact zS (ifpC aA) (ifpC aA) rflB
 refine st (zx rfl (fun hbp=>(ifpC hbp)) (st (mV (.bool ((((!((L.getD k default).void))&&(decide ((((L.getD k default).ev).typ)=e.typ)))&&(decide ((((L.getD k default).ev).agg)=e.agg)))&&(decide ((((L.getD k default).ev).field)=e.field)))) (stc (V:=.agg ci.toArray) rfl rfl (fun ej=>?_) ?_))))
 have ek:=ej
 try simp only[zi]at ek
 exact zh qY kR rfl rfl (zo (y.b1)) rflB
 refine stc (V:=.agg gE.toArray) rfl rfl (fun el=>?_) ?_
 have em:=el
 try simp only[zi]at em
 exact zh qT nT rfl rfl (zo (y.b0)) rflB
 refine stc (V:=.agg (e.cells de0).toArray) rfl rfl (fun en=>?_) ?_
 have eo:=en
 try simp only[zi]at eo
 exact zh qT nT rfl rfl (zo (y.b3)) rflB
 refine zdh (V:=.bool ((xl (((d.types.getD e.typ.toNat default).fields).getD e.field.toNat default) ((L.getD k default).ev) e))) (fun _ A=>Sep G W ((Blk M gE.toArray 55)::gJ::gH::gF::Rs) A) y rfl rfl (fun ac=>?_) (fun w1442 bg=>?_)
 have er:=ac
 try simp only[zi]at er
 have bh:e.typ.toNat<d.types.length:=bo
 obtain⟨cv,Q,hoke1433⟩:=u.typD bh
 have hsm1435:((d.types.getD e.typ.toNat default).fields).length*48≤140737488355328:=Q.small
 have hcw1436:=y.cells cv (u.foot (ne_of_lt bh))
 have bi:e.field.toNat<((d.types.getD e.typ.toNat default).fields).length:=bo
 obtain⟨cw,ag,bt⟩:=Q.fldD bi
 have hsm1438:((((d.types.getD e.typ.toNat default).fields).getD e.field.toNat default).moves).length*32≤140737488355328:=ag.small
 have hcw1439:=y.cells cw (Q.foot (ne_of_lt bi))
 refine(zW (vals:=[.agg ci.toArray,.agg gE.toArray,.agg (e.cells de0).toArray]) rfl (yM ⟨(ifpC ac),(ifpC ac),(ifpC ac),zl⟩) Tryz.call101 (QW ag bt P U.ev hde0 oe y) ?_)
 rintro _ w1440 ⟨rfl,es⟩
 exact⟨rfl,es⟩
 refine st (zx rfl (fun hbp=>(ifpC hbp)) (zb ?_))
 cases ad:((((!((L.getD k default).void))&&(decide ((((L.getD k default).ev).typ)=e.typ)))&&(decide ((((L.getD k default).ev).agg)=e.agg)))&&(decide ((((L.getD k default).ev).field)=e.field)))&&(xl (((d.types.getD e.typ.toNat default).fields).getD e.field.toNat default) ((L.getD k default).ev) e)
 have ae:=ad
 try simp only[zi]at ad
 refine ze rfl (zp (R0 fun _=>st (mV (Iw k) ?_)))
 have et:InR ((k+1:Nat):Int):=bo
 refine st (zO (r:=((k+1:Nat):Int)) rfl rfl (by rw[show(((k:Nat):Int)+1:Int)=((k+1:Nat):Int)from bo];exact zw et) (st (aS (Iw (k+1)) (zb ?_))))
 exact⟨_,by omega,k+1,_,rfl,sSf,by omega,(xf hno (rj_raw.trans ae)),(bg.s4_bcd)⟩
 have ae:=ad
 try simp only[zi]at ad
 have hT:=zcS hfz om hno (rj_raw.trans ae)
 refine zg rfl (za ?_)
 refine WD4 ((fun TT C gj=>WF [fun vals A=>Sep G W (C::gj::gH::TT) A,fun vals A=>Sep G W (C::gj::(Blk B #[Iv (((L.getD k default).ev).origin),Iv (((L.getD k default).ev).seq)] 52)::TT) A]) (gF::Rs) (Blk M gE.toArray 55) gJ) (AF [Vl 0 (Ix M 0),Vl 1 (.agg #[Iv (((L.getD k default).ev).origin),Iv (((L.getD k default).ev).seq)]),Vl 2 (.bool true),fun _=>True]) [[],[0],[],[0,1,2]] [3] [(0,0),(0,0),(0,0),(0,0)] bg ⟨fun _ _ _ _ _ _ _=>obl rfl (xe rfl dR),ob1 0 fun _ _ (eu:Sep _ _ _ _) ew=>obl rfl (zh rT mT rfl (ew 0 dc) (CellsAt.sub (zo (eu.b0)) 0 rfl) dR),fun _ _ _ _ _ _ _=>obl rfl (aS (.bool true) dR),?_,zl⟩ ?_
 refine ob1 0 fun _ _ (bj:Sep _ _ _ _) ex=>(obl rfl ((zy (v:=.agg #[Iv (((L.getD k default).ev).origin),Iv (((L.getD k default).ev).seq)]) mT rfl (ex 1 dc) (bj.b2) (yo ⟨rfl,rfl,zl⟩) yqc rfl ?_)))
 intro w1475 ey
 exact fun E N I=>⟨(bj.pt2 ey),zl⟩
 intro vals w1498 ez eA
 have bk:=ez
 have gf:=eA 2 dc
 refine yg (kv:=[(0,Ix b 0),(3,Ix m 0),(4,.bool true),(5,Ix B 0),(6,Ix q 0),(7,Iw k),(41,Iw k),(42,Ix b 0),(43,Ix b 0),(44,Ix b 2),(45,s),(46,Iw L.length),(47,.bool true),(50,Ix b 0),(51,Ix b 0),(52,Ix b 2),(53,s),(54,Iw k),(55,Ix (sb s) (so s+k*13)),(56,Ix (sb s) (so s+k*13)),(57,.agg gE.toArray),(8,Ix M 0),(58,Ix b 0),(59,Ix b 0),(60,Ix b 2),(61,s),(62,Iw k),(63,Ix (sb s) (so s+k*13)),(64,Ix (sb s) (so s+k*13+10)),(65,.bool ((L.getD k default).void)),(66,.bool (!((L.getD k default).void))),(67,.bool (!((L.getD k default).void))),(73,.bool ((!((L.getD k default).void))&&(decide ((((L.getD k default).ev).typ)=e.typ)))),(74,.bool ((!((L.getD k default).void))&&(decide ((((L.getD k default).ev).typ)=e.typ)))),(80,.bool (((!((L.getD k default).void))&&(decide ((((L.getD k default).ev).typ)=e.typ)))&&(decide ((((L.getD k default).ev).agg)=e.agg)))),(81,.bool (((!((L.getD k default).void))&&(decide ((((L.getD k default).ev).typ)=e.typ)))&&(decide ((((L.getD k default).ev).agg)=e.agg)))),(87,.bool ((((!((L.getD k default).void))&&(decide ((((L.getD k default).ev).typ)=e.typ)))&&(decide ((((L.getD k default).ev).agg)=e.agg)))&&(decide ((((L.getD k default).ev).field)=e.field)))),(88,.bool ((((!((L.getD k default).void))&&(decide ((((L.getD k default).ev).typ)=e.typ)))&&(decide ((((L.getD k default).ev).agg)=e.agg)))&&(decide ((((L.getD k default).ev).field)=e.field)))),(93,.bool true)]) ⟨rfl,rfl,(by exact gf),rfl,rfl,rfl,rfl,rfl,rfl,rfl,rfl,rfl,rfl,rfl,rfl,rfl,rfl,rfl,rfl,rfl,rfl,rfl,rfl,rfl,rfl,rfl,rfl,rfl,rfl,rfl,rfl,rfl,rfl,rfl,rfl,rfl,rfl,rfl,rfl,zl⟩ (fun ρw1498=>?_)
 refine zb (zq (YP uR rT mT rfl rfl (zo (bk.b2)) (show _=(.bool true:Value)from rfl) ?_))
 rw[hT]
 refine⟨rfl,?_,(bk.s4_)⟩
 exact⟨U.ev.origin,U.ev.seq⟩
 have F:=yn F
 have hT:yh d L e=(true,0,0):=VA F
 refine zg rfl (za (zL (by kernel_rfl) (fun _=>(st (zV (parts':=[]) (v:=.agg #[Iv 0,Iv 0]) rfl (by simp+zetaDelta [Instr.build,Instr.fill,go_sem,xA]) (st (aS (.bool true) (stn (zy (v:=.agg #[Iv 0,Iv 0]) mT rfl rfl (aD.b0) (yo ⟨rfl,rfl,zl⟩) yqc rfl ?_)))))))))
 intro w1504 eB
 have bl:=aD.pt0 eB
 refine zb (zq (YP uR rT mT rfl rfl (zo (bl.b0)) (show _=(.bool true:Value)from rfl) ?_))
 rw[hT]
 refine⟨rfl,?_,(bl.s2_)⟩
 exact⟨(by decide:InR 0),(by decide:InR 0)⟩
set_option maxHeartbeats 8000000 in
theorem Qm {b:Nat}{d:Dcl}{L:List Ent}{e:Ev}{de0:Value}(hde0:RdS W G de0 e.deps)(oe:e.Ok)(hS0:Sep G W ((RefV b d L)::Rs) w)(hd:DclOk d)(hrl:Ran d L)(hml:L.length≤1000000):Ret Tryz.prog 69 [.pointer (some ⟨b,0,none⟩),.agg (e.cells de0).toArray] w (fun r w'=> ∃(v:Value),r=(.agg ((ye d L e).cells v).toArray:Value)∧((ye d L e).Ok)∧Sep G W ((RefV b d (L++[ye d L e]))::(RowE (α:=Int) own 3 v e.deps)::Rs) w'):=by
 have hde0s:_*8≤_:=hde0.small
 refine zn (args:=[Ix b 0,.agg (e.cells de0).toArray]) Tryz.func69 rfl rfl ?_
 refine za (R0 fun _=>st (zX (v:=.agg (e.cells de0).toArray) rfl ?_))
 intro w3 b2 cm
 let cr:=Blk b2 (e.cells de0).toArray 55
 refine st (zG oR ?_)
 intro w7 P cn
 let bo:=Blk P #[Iv 0,Iv 0,Iv 0,(Iz),Iv 0,Iv 0,Iv 0,Iv 0,Iv 0,Iv 0,.bool false,Iv 0,Iv 0] 57
 have bI:=(hS0.new cm).new cn
 refine zb (za (R0 fun _=>st (mV (Ix b 0) (st (zh (k:=10) qT nT rfl rfl (zo (bI.b1)) ?_)))))
 obtain⟨G10,ay,bK,bL,bM⟩:=(bI.mv2).lend
 obtain⟨vt16,vp17,ve18,hb19,bN,bO,bP⟩:=RefV.sh ay
 have hsm23:d.types.length*24≤140737488355328:=bN.small
 have hsm24:d.projs.length*40≤140737488355328:=bO.small
 have hsm25:L.length*120≤140737488355328:=bP.small
 refine st (cL Tryz.call86 (Jj (e:=e) ay (zv hde0 bK) oe bL hd hrl hml) ?_)
 rintro _ w27 ⟨rfl,ad,bQ⟩
 have bR:=bM _ _ bQ
 refine st (mV (.tuple #[.bool ((yh d L e).1),.agg #[Iv ((yh d L e).2.1),Iv ((yh d L e).2.2)]]) (st (zz (vs:=[.bool ((yh d L e).1),.agg #[Iv ((yh d L e).2.1),Iv ((yh d L e).2.2)]]) (i:=0) (v:=.bool ((yh d L e).1)) rfl rfl (st (zz (vs:=[.bool ((yh d L e).1),.agg #[Iv ((yh d L e).2.1),Iv ((yh d L e).2.2)]]) (i:=1) (v:=.agg #[Iv ((yh d L e).2.1),Iv ((yh d L e).2.2)]) rfl rfl (st (zG kA ?_)))))))
 intro w32 K bS
 let cp:=Blk K #[Iv ((yh d L e).2.1),Iv ((yh d L e).2.2)] 52
 have az:=bR.new bS
 refine st (aS (.bool ((yh d L e).1)) (stn (zy (v:=.agg #[Iv ((yh d L e).2.1),Iv ((yh d L e).2.2)]) (c':=#[Iv ((yh d L e).2.1),Iv ((yh d L e).2.2)]) mT rfl rfl (az.b0) (yo ⟨rfl,rfl,zl⟩) yqc rfl ?_)))
 intro co bT
 refine zb (za ?_)
 have hek:Ent.Ok (ye d L e):=⟨oe,ad.1,ad.2⟩
 obtain⟨t,u,z,bU⟩:=RefV.open ((az.pt0 bT).mv1)
 have H:Sep G W ((Blk b #[t,u,z] 130)::(RowE (α:=Typ) own 83 t d.types)::(RowE (α:=Prj) own 73 u d.projs)::(RowE (α:=Ent) own 57 z L)::cp::bo::cr::Rs) co:=bU
 have bV:=H.r1
 have hr42s:_*24≤_:=bV.2
 have bW:=H.r2
 have hr43s:_*40≤_:=bW.2
 have bX:=H.r3
 have hr44s:_*120≤_:=bX.2
 refine WD6 ((fun TT y=>WF [fun vals x=>Sep G W (y::TT) x,fun vals x=> ∃(a:Value),(vals 1=(.agg (e.cells a).toArray:Value))∧Sep G W ((RowE (α:=Int) own 3 a e.deps)::y::TT) x,fun vals x=> ∃(j:Nat),(vals 5=(Ix j 0:Value))∧Sep G W ((Blk j #[Iv 0,Iv 0,Iv 0,(Iz),Iv 0,Iv 0,Iv 0,Iv 0,Iv 0,Iv 0,.bool false,Iv 0,Iv 0] 57)::y::TT) x,fun vals x=> ∃(a:Value) (j:Nat),(vals 1=(.agg (e.cells a).toArray:Value))∧(vals 5=(Ix j 0:Value))∧Sep G W ((Blk j #[Iv 0,Iv 0,Iv 0,(Iz),Iv 0,Iv 0,Iv 0,Iv 0,Iv 0,Iv 0,.bool false,Iv 0,Iv 0] 57)::(RowE (α:=Int) own 3 a e.deps)::y::TT) x,fun _ _=>True,fun _ _=>True,fun _ _=>True,fun vals x=> ∃(a:Value) (j:Nat),(vals 1=(.agg (e.cells a).toArray:Value))∧(vals 5=(Ix j 0:Value))∧Sep G W ((Blk j ((ye d L e).cells a).toArray 57)::(RowE (α:=Int) own 3 a e.deps)::y::TT) x]) ((RowE (α:=Typ) own 83 t d.types)::(RowE (α:=Prj) own 73 u d.projs)::(RowE (α:=Ent) own 57 z L)::cp::bo::cr::Rs) (Blk b #[t,u,z] 130)) (AF [Vl 0 (.agg (e.cells de0).toArray),fun _=>True,Vl 2 (.bool ((yh d L e).1)),Vl 3 (.agg #[Iv ((yh d L e).2.1),Iv ((yh d L e).2.2)]),fun vals=> ∀(a:Value),vals 1=(.agg (e.cells a).toArray:Value)→vals 4=(.agg ((ye d L e).cells a).toArray:Value),fun _=>True,fun _=>True]) [[],[0],[],[],(rg 4),[],(rg 6)] [1,5,6] [[0,2],[0,2],(rg 4),(rg 4),[1,3],[0,1],[3]] H ⟨?_,?_,fun _ _ _ _ _ _=>obl rfl (mV (.bool ((yh d L e).1)) dR),?_,?_,?_,?_,zl⟩ ?_ (hlocA:=xi ⟨dA,dT,dA,dA,fun vals l q h=>fun a C=>(q 4 (.inl rfl)).trans (h a ((q 1 (.inr dc)).symm.trans C)),dT,dT,zl⟩)
 intro bY vals w110 aB ae hA111
 have X:bY∈[0,2]:=aB
 simp only[yA]at X
 rcases X with rfl|rfl
 have aC:Sep _ _ _ _:=ae
 exact obl rfl (zh (k:=10) qT nT rfl rfl (zo (aC.b6)) dR)
 obtain⟨j,A,aD⟩:=ae
 exact obl rfl (zh (k:=10) qT nT rfl rfl (zo (aD.b7)) dR)
 intro bZ vals w117 aE af ag
 have Y:bZ∈[0,2]:=aE
 simp only[yA]at Y
 rcases Y with rfl|rfl
 have aF:Sep _ _ _ _:=af
 refine obl rfl ((zW (f:=40) (vals:=[.agg (e.cells de0).toArray]) (cap:=[]) rfl (yM ⟨(ag 0 dc),zl⟩) sR (Zu (e:=e) hde0 oe aF) ?_))
 rintro _ w124 ⟨a,rfl,ah⟩
 have aG:=ah.r0
 have hr126s:_*8≤_:=aG.2
 exact fun l q m=>⟨(exiA a (zA q ah)),zl⟩
 obtain⟨j,A,aH⟩:=af
 refine obl rfl ((zW (f:=40) (vals:=[.agg (e.cells de0).toArray]) (cap:=[]) rfl (yM ⟨(ag 0 dc),zl⟩) sR (Zu (e:=e) hde0 oe aH) ?_))
 rintro _ w130 ⟨a,rfl,ai⟩
 have aI:=ai.r0
 have hr132s:_*8≤_:=aI.2
 exact fun l q m=>⟨(exiA a (exiA j (zA q (zA ((m 5 dc).trans A) (ai.mv1))))),zl⟩
 intro ca vals w140 aJ I hA141
 have Z:ca∈[0,1,2,3]:=aJ
 simp only[yA]at Z
 rcases Z with rfl|rfl|rfl|rfl
 have aK:Sep _ _ _ _:=I
 exact obl rfl (zh (k:=2) rT mT rfl rfl (zo (aK.b4)) dR)
 obtain⟨a,s,aL⟩:=I
 exact obl rfl (zh (k:=2) rT mT rfl rfl (zo (aL.b5)) dR)
 obtain⟨j,A,aM⟩:=I
 exact obl rfl (zh (k:=2) rT mT rfl rfl (zo (aM.b5)) dR)
 obtain⟨a,j,s,A,aN⟩:=I
 exact obl rfl (zh (k:=2) rT mT rfl rfl (zo (aN.b6)) dR)
 intro cb vals w149 aO aj J
 have aa:cb∈[1,3]:=aO
 simp only[yA]at aa
 rcases aa with rfl|rfl
 obtain⟨a,s,hS153⟩:=aj
 refine obl rfl (zV (parts':=[(0,.agg (e.cells a).toArray),(1,.bool ((yh d L e).1)),(2,.agg #[Iv ((yh d L e).2.1),Iv ((yh d L e).2.2)])]) (v:=.agg ((ye d L e).cells a).toArray) (Za ⟨rfl,s,rfl,(J 2 (by decide)),rfl,(J 3 (by decide)),zl⟩) (by simp+zetaDelta [Instr.build,Instr.fill,go_sem,Ent.cells,Ev.cells,ye]) (fun l q m=>⟨rfl,?_⟩))
 intro cc C
 rw[m 1 (by decide)]at C;cases s.symm.trans C
 exact q
 obtain⟨a,j,s,A,hS156⟩:=aj
 refine obl rfl (zV (parts':=[(0,.agg (e.cells a).toArray),(1,.bool ((yh d L e).1)),(2,.agg #[Iv ((yh d L e).2.1),Iv ((yh d L e).2.2)])]) (v:=.agg ((ye d L e).cells a).toArray) (Za ⟨rfl,s,rfl,(J 2 (by decide)),rfl,(J 3 (by decide)),zl⟩) (by simp+zetaDelta [Instr.build,Instr.fill,go_sem,Ent.cells,Ev.cells,ye]) (fun l q m=>⟨rfl,?_⟩))
 intro cc C
 rw[m 1 (by decide)]at C;cases s.symm.trans C
 exact q
 intro cd vals w160 aP ak hA161
 have ab:cd∈[0,1]:=aP
 simp only[yA]at ab
 rcases ab with rfl|rfl
 have aQ:Sep _ _ _ _:=ak
 refine obl rfl ((zG oR ?_))
 intro w167 j aR
 exact fun l q m=>⟨(exiA j (zA q (aQ.new aR))),zl⟩
 obtain⟨a,s,aT⟩:=ak
 refine obl rfl ((zG oR ?_))
 intro w172 j aU
 exact fun l q m=>⟨(exiA a (exiA j (zA ((m 1 dc).trans s) (zA q (aT.new aU))))),zl⟩
 intro ce vals w175 aV aW aX
 have ac:ce∈[3]:=aV
 simp only[yA]at ac
 subst ac
 obtain⟨a,j,s,A,Q⟩:=aW
 refine obl rfl ?_
 have cf:vals 4=(.agg ((ye d L e).cells a).toArray:Value):=aX 4 dc a s
 have al:=Q.r1
 have hr183s:_*8≤_:=al.2
 refine(zy (v:=.agg ((ye d L e).cells a).toArray) (c':=((ye d L e).cells a).toArray) oT A cf (Q.b0) (yo ⟨rfl,rfl,rfl,al.1.one,rfl,rfl,rfl,rfl,rfl,rfl,rfl,rfl,rfl,zl⟩) yqc rfl ?_)
 intro w181 aY
 exact fun l q m=>⟨(exiA a (exiA j (zA ((m 1 dc).trans s) (zA ((m 5 dc).trans A) (Q.pt0 aY))))),zl⟩
 intro vals w185 aZ hA187
 obtain⟨a,j,s,A,ba⟩:=aZ
 let cq:=(ye d L e).cells a
 refine yg (kv:=[(0,Ix b 0),(1,.agg (e.cells de0).toArray),(3,Ix b2 0),(4,Ix P 0),(9,Ix b 0),(10,.agg (e.cells de0).toArray),(11,.tuple #[.bool ((yh d L e).1),.agg #[Iv ((yh d L e).2.1),Iv ((yh d L e).2.2)]]),(8,.tuple #[.bool ((yh d L e).1),.agg #[Iv ((yh d L e).2.1),Iv ((yh d L e).2.2)]]),(12,.bool ((yh d L e).1)),(13,.agg #[Iv ((yh d L e).2.1),Iv ((yh d L e).2.2)]),(6,Ix K 0),(5,.bool ((yh d L e).1)),(7,Ix j 0)]) ⟨rfl,rfl,rfl,rfl,rfl,rfl,rfl,rfl,rfl,rfl,rfl,rfl,(by exact A),zl⟩ (fun ρw185=>(zb (za ?_)))
 refine WD4 ((fun TT y N M E F O=>WF [fun vals x=>Sep G W (y::N::M::E::F::O::TT) x,fun vals x=> ∃(p:Nat),(vals 6=((Iy p 1 1):Value))∧Sep G W ((Blk p cq.toArray 57)::y::N::M::E::F::O::TT) x,fun vals x=> ∃(p:Nat) (n:Value),(vals 6=((Iy p 1 1):Value))∧(vals 7=(n:Value))∧Sep G W ((RowE (α:=Ent) own 57 n (L++[(ye d L e)]))::y::M::E::F::TT) x,fun vals x=> ∃(p:Nat) (n:Value),(vals 6=((Iy p 1 1):Value))∧(vals 7=(n:Value))∧Sep G W ((RowE (α:=Ent) own 57 n (L++[(ye d L e)]))::y::(Blk b #[t,u,n] 130)::E::F::TT) x]) (cp::bo::cr::Rs) (Blk j cq.toArray 57) (RowE (α:=Int) own 3 a e.deps) (Blk b #[t,u,z] 130) (RowE (α:=Typ) own 83 t d.types) (RowE (α:=Prj) own 73 u d.projs) (RowE (α:=Ent) own 57 z L)) (AF [Vl 0 (Ix b 0),Vl 1 (Ix b 0),Vl 2 (Ix b 0),Vl 3 (Ix b 2),Vl 4 z,Vl 5 (.agg cq.toArray),fun _=>True,fun _=>True,Vl 8 (Ix b 0),Vl 9 (Ix b 2),fun _=>True]) [[],[],[1],[1,2],[1,2,3],[],[5],[1,2,3,4,5,6],(rg 8),(rg 9),(rg 10)] [6,7,10] [(0,2),(0,1),(0,1),(0,1),(0,1),(0,0),(0,0),(1,1),(2,2),(2,2),(2,2)] ba ⟨fun _ _ _ _ _ _ _=>obl rfl (mV (Ix b 0) dR),fun _ _ _ _ _ _ _=>obl rfl (mV (Ix b 0) dR),fun _ _ _ _ _ _ bb=>obl rfl (zm (b:=b) (o:=0) (bb 1 dc) dR),fun _ _ _ _ _ _ bc=>obl rfl (ZD (bc 2 dc) dR),?_,ob1 0 fun _ _ (bd:Sep _ _ _ _) _=>obl rfl (zh (k:=13) rR oT rfl rfl (zo (bd.b0)) dR),?_,?_,fun _ _ _ _ _ _ be=>obl rfl (zm (b:=b) (o:=0) (be 0 dc) dR),fun _ _ _ _ _ _ bf=>obl rfl (ZD (bf 8 dc) dR),?_,zl⟩ ?_
 refine fun R _ _ cg ch am an=>?_
 have hkk:=xE cg ch
 rcases hkk with rfl|rfl
 have bg:Sep _ _ _ _:=am
 exact obl rfl (lD z tT (an 3 dc) (zd (bg.b2) rfl) dR)
 obtain⟨p,D,bh⟩:=am
 exact obl rfl (lD z tT (an 3 dc) (zd (bh.b3) rfl) dR)
 refine ob1 0 fun _ _ (bi:Sep _ _ _ _) bj=>(obl rfl ((zH (k:=13) (parts':=[(0,.agg cq.toArray)]) (c:=cq.toArray) sT oT oR dc (Za ⟨rfl,(bj 5 dc),zl⟩) kr ?_)))
 intro w240 p bk
 exact fun l q m=>⟨(exiA p (zA q (bi.new bk))),zl⟩
 refine ob1 1 fun _ _ bl bm=>?_
 obtain⟨p,D,ao⟩:=bl
 refine obl rfl ?_
 have aA:=ao.b0
 refine(yq (src:=own) (bytes:=120) (x1:=(ye d L e)) (ao.s10_gcbdefhij) zbD (bm 4 (by decide)) D aA (fun _ _ hN=>⟨_,rfl,RowE.soft hN,hek⟩) yqb rfl ?_)
 intro n w251 ap
 have bn:=ap.r0
 have hr256s:_*120≤_:=bn.2
 exact fun l q m=>⟨(exiA p (exiA n (zA ((m 6 dc).trans D) (zA q ap)))),zl⟩
 refine ob1 2 fun _ _ bp bq=>?_
 obtain⟨p,n,D,S,T⟩:=bp
 refine obl rfl ?_
 have aq:=T.r0
 have hr282s:_*120≤_:=aq.2
 refine(ym (v:=n) (c:=[t,u,z]) (c':=[t,u,n]) Tryz.sizeOf42 (bq 9 dc) S (T.b2) aq.1.one rfl rfl ?_)
 intro w280 br
 exact fun l q m=>⟨(exiA p (exiA n (zA ((m 6 dc).trans D) (zA ((m 7 dc).trans S) (T.pt2 br))))),zl⟩
 intro vals w341 bs hA343
 obtain⟨p,n,D,S,bt⟩:=bs
 refine yg (kv:=[(0,Ix b 0),(1,.agg (e.cells de0).toArray),(3,Ix b2 0),(4,Ix P 0),(9,Ix b 0),(10,.agg (e.cells de0).toArray),(11,.tuple #[.bool ((yh d L e).1),.agg #[Iv ((yh d L e).2.1),Iv ((yh d L e).2.2)]]),(8,.tuple #[.bool ((yh d L e).1),.agg #[Iv ((yh d L e).2.1),Iv ((yh d L e).2.2)]]),(12,.bool ((yh d L e).1)),(13,.agg #[Iv ((yh d L e).2.1),Iv ((yh d L e).2.2)]),(6,Ix K 0),(5,.bool ((yh d L e).1)),(7,Ix j 0)]) sEv (fun ρw341=>(zb (za ?_)))
 refine WD4 ((fun TT y N M E F O bJ=>WF [fun vals x=>Sep G W (y::N::M::E::F::O::bJ::TT) x,fun vals x=> ∃(g:Value),(vals 1=(.agg (e.cells g).toArray:Value))∧Sep G W ((RowE (α:=Int) own 3 g e.deps)::y::N::M::E::F::O::bJ::TT) x,fun vals x=> ∃(g:Value),(vals 1=(.agg (e.cells g).toArray:Value))∧Sep G W ((RowE (α:=Int) own 3 g e.deps)::y::N::M::E::F::O::(Blk P ((ye d L e).cells g).toArray 57)::TT) x]) (cr::Rs) (RowE (α:=Ent) own 57 n (L++[(ye d L e)])) (Blk j cq.toArray 57) (Blk b #[t,u,n] 130) (RowE (α:=Typ) own 83 t d.types) (RowE (α:=Prj) own 73 u d.projs) cp bo) (AF [Vl 0 (.agg (e.cells de0).toArray),fun _=>True,Vl 2 (.bool ((yh d L e).1)),Vl 3 (.agg #[Iv ((yh d L e).2.1),Iv ((yh d L e).2.2)]),fun vals=> ∀(g:Value),vals 1=(.agg (e.cells g).toArray:Value)→vals 4=(.agg ((ye d L e).cells g).toArray:Value),fun _=>True]) [[],[0],[],[],(rg 4),(rg 5)] [1,5] [(0,0),(0,0),(0,1),(0,1),(1,1),(1,1)] bt ⟨ob1 0 fun _ _ (bu:Sep _ _ _ _) _=>obl rfl (zh (k:=10) qT nT rfl rfl (zo (bu.b7)) dR),?_,fun _ _ _ _ _ _ _=>obl rfl (mV (.bool ((yh d L e).1)) dR),?_,?_,?_,zl⟩ ?_ (hlocA:=xi ⟨dA,dT,dA,dA,fun vals l q h=>fun g C=>(q 4 (.inl rfl)).trans (h g ((q 1 (.inr dc)).symm.trans C)),dT,zl⟩)
 refine ob1 0 fun vals _ (bv:Sep _ _ _ _) bw=>(obl rfl ((zW (f:=40) (vals:=[.agg (e.cells de0).toArray]) (cap:=[]) rfl (yM ⟨(bw 0 dc),zl⟩) sR (Zu (e:=e) hde0 oe bv) ?_)))
 rintro _ w361 ⟨g,rfl,ar⟩
 have bx:=ar.r0
 have hr363s:_*8≤_:=bx.2
 exact fun l q m=>⟨(exiA g (zA q ar)),zl⟩
 refine fun U _ _ ci cj au _=>?_
 have hkk:=xE ci cj
 rcases hkk with rfl|rfl
 have bz:Sep _ _ _ _:=au
 exact obl rfl (zh (k:=2) rT mT rfl rfl (zo (bz.b5)) dR)
 obtain⟨g,B,bA⟩:=au
 exact obl rfl (zh (k:=2) rT mT rfl rfl (zo (bA.b6)) dR)
 refine ob1 1 fun _ _ bB av=>?_
 obtain⟨g,B,hS426⟩:=bB
 refine obl rfl (zV (parts':=[(0,.agg (e.cells g).toArray),(1,.bool ((yh d L e).1)),(2,.agg #[Iv ((yh d L e).2.1),Iv ((yh d L e).2.2)])]) (v:=.agg ((ye d L e).cells g).toArray) (Za ⟨rfl,B,rfl,(av 2 (by decide)),rfl,(av 3 (by decide)),zl⟩) (by simp+zetaDelta [Instr.build,Instr.fill,go_sem,Ent.cells,Ev.cells,ye]) (fun l q m=>⟨rfl,?_⟩))
 intro v360q C
 rw[m 1 (by decide)]at C;cases B.symm.trans C
 exact q
 refine ob1 1 fun vals _ bC bD=>?_
 obtain⟨g,B,V⟩:=bC
 have ck:vals 4=(.agg ((ye d L e).cells g).toArray:Value):=bD 4 dc g B
 refine obl rfl ?_
 have aw:=V.r0
 have hr397s:_*8≤_:=aw.2
 refine(zy (v:=.agg ((ye d L e).cells g).toArray) (c':=((ye d L e).cells g).toArray) oT rfl ck (V.b7) (yo ⟨rfl,rfl,rfl,aw.1.one,rfl,rfl,rfl,rfl,rfl,rfl,rfl,rfl,rfl,zl⟩) yqc rfl ?_)
 intro w395 bE
 exact fun l q m=>⟨(exiA g (zA ((m 1 dc).trans B) (V.pt7 bE))),zl⟩
 intro vals cl bF hA431
 obtain⟨g,B,ax⟩:=bF
 refine yg (kv:=[(0,Ix b 0),(1,.agg (e.cells de0).toArray),(3,Ix b2 0),(4,Ix P 0),(9,Ix b 0),(10,.agg (e.cells de0).toArray),(11,.tuple #[.bool ((yh d L e).1),.agg #[Iv ((yh d L e).2.1),Iv ((yh d L e).2.2)]]),(8,.tuple #[.bool ((yh d L e).1),.agg #[Iv ((yh d L e).2.1),Iv ((yh d L e).2.2)]]),(12,.bool ((yh d L e).1)),(13,.agg #[Iv ((yh d L e).2.1),Iv ((yh d L e).2.2)]),(6,Ix K 0),(5,.bool ((yh d L e).1)),(7,Ix j 0)]) sEv (fun ρw429=>(zb (zq (Yd (b:=P) Tryz.results69 rR oT rfl rfl (zo (ax.b7)) ?_))))
 have bG:Sep _ _ ((RefV b d (L++[ye d L e]))::_) _:=RefV.close (d:=d) (L:=(L++[ye d L e])) (ax.s9_defbacghi)
 have bH:Sep G W ((RefV b d (L++[ye d L e]))::(RowE (α:=Int) own 3 g e.deps)::Rs) cl:=bG.sel 6 [0,1] (xq _ _) rfl rfl
 refine⟨g,rfl,hek,bH⟩
def xb (p:Prj)(q:Row)(x:Int):Row:=⟨q.group,if 1≤p.pmake∧p.pmake≤5 then yV p ⟨q.group,q.value,q.count+1⟩ x else q.value,q.count+1⟩
theorem ZN {p:Prj}{q:Row}{x:Int}(oq:q.Ok)(hx:InR x)(hc:0≤q.count∧q.count<4611686018427387904):(xb p q x).Ok:=by
 have h1:InR (q.count+1):=by omega
 refine⟨oq.group,?_,h1⟩
 unfold xb
 dsimp only
 split
 ·exact Qc oq.value h1 hx
 ·exact oq.value
theorem ZI (l:List Row){i:Nat}(h:i<l.length):l.getD i default=l[i]:=zJ _ h
def shl (l:List Row)(q:Nat):List Row:=l.take q++(l++[(⟨0,0,0⟩:Row)]).getD q default::l.drop q
theorem KW {l:List Row}{q:Nat}(h:q≤l.length):(shl l q).length=l.length+1:=by
 unfold shl;simp only[List.length_append,List.length_take,List.length_cons,List.length_drop];omega
theorem zbC (l:List Row):shl l l.length=l++[(⟨0,0,0⟩:Row)]:=by
 unfold shl
 rw[List.take_length,List.drop_length,zJ _ (by simp),List.getElem_append_right (Nat.le_refl _)]
 simp
theorem zah {l:List Row}{q:Nat}(h1:1≤q)(h:q≤l.length):(shl l q).set q ((shl l q).getD (q-1) default)=shl l (q-1):=by
 have e1:(shl l q).getD (q-1) default=l.getD (q-1) default:=by
  have hl:=KW h
  rw[zJ _ (by omega),zJ _ (by omega)]
  unfold shl
  rw[List.getElem_append_left (by rw[List.length_take];omega),List.getElem_take]
 rw[e1]
 have e2:(l++[(⟨0,0,0⟩:Row)]).getD (q-1) default=l.getD (q-1) default:=by
  rw[zJ _ (by rw[List.length_append];omega),zJ _ (by omega),List.getElem_append_left (by omega)]
 unfold shl
 rw[e2,List.set_append_right _ _ (by rw[List.length_take];omega),List.length_take,Nat.min_eq_left h,Nat.sub_self,List.set_cons_zero]
 have e3:l.take q=l.take (q-1)++[l.getD (q-1) default]:=by
  have:=List.take_succ_eq_append_getElem (l:=l) (i:=q-1) (by omega)
  rw[show q-1+1=q by omega]at this
  rw[this,zJ _ (by omega)]
 have e4:l.drop (q-1)=l.getD (q-1) default::l.drop q:=by
  have:=List.drop_eq_getElem_cons (l:=l) (i:=q-1) (by omega)
  rw[show q-1+1=q by omega]at this
  rw[this,zJ _ (by omega)]
 rw[e3,e4,List.append_assoc]
 rfl
def Kt (p:Prj)(l:List Row)(e:Ent)(reg:Int)(l':List Row):Prop:=
 ((e.void=true∨e.ev.typ≠p.ptyp∨e.ev.field≠p.pfield∨p.pgroup<1∨3<p.pgroup)∧l'=l)∨
 ((e.void=false∧e.ev.typ=p.ptyp∧e.ev.field=p.pfield∧1≤p.pgroup∧p.pgroup≤3)∧ ∃g k,zD p e.ev reg=some g∧k≤l.length∧(∀j,j<k→(l.getD j default).group<g)∧
  ((k<l.length∧(l.getD k default).group=g∧l'=l.set k (xb p (l.getD k default) e.ev.arg))∨
   ((l.length≤k∨g<(l.getD k default).group)∧l'=(shl l k).set k (xb p ⟨g,0,0⟩ e.ev.arg))))
theorem WZ {L:List (Int×Row)}{n:Nat}(hg:GoodM L n){x:Row}:x∈Xd (L.map (·.2))↔yi L x.group=some x:=by
 rw[(ZT _).mem_iff,List.mem_map]
 constructor
 ·rintro⟨y,hy,rfl⟩
  have:=Jp hg.nodup hy
  rw[hg.grp y hy]at this
  exact this
 ·intro h
  exact⟨_,Ye h,rfl⟩
theorem Wm {L:List (Int×Row)}{n:Nat}(hg:GoodM L n):(Xd (L.map (·.2))).Pairwise fun a b=>a.group<b.group:=by
 have h1:=YI (L.map (·.2))
 have h2:((Xd (L.map (·.2))).map (·.group)).Nodup:=(((ZT _).map (·.group)).nodup_iff).2 (XP hg.grp hg.nodup)
 have h3:=List.pairwise_map.1 h2
 exact(h1.and h3).imp fun{a b} ⟨h,hne⟩=>by omega
theorem KC {A B:List Row}(ha:A.Pairwise fun a b=>a.group<b.group)(hb:B.Pairwise fun a b=>a.group<b.group)(h: ∀x,x∈A↔x∈B):A=B:=by
 have nd: ∀{A:List Row},(A.Pairwise fun a b=>a.group<b.group)→A.Nodup:=fun ha=>ha.imp (fun hlt e=>by subst e;omega)
 have nd2:(A.map (·.group)).Nodup:=List.pairwise_map.2 (ha.imp (fun{a b} hlt e=>by have e:a.group=b.group:=e;omega))
 exact Wa ((List.perm_ext_iff_of_nodup (nd ha) (nd hb)).2 h) (ha.imp (fun{a b} hlt=>by omega)) (hb.imp (fun{a b} hlt=>by omega)) nd2
theorem ZU {l:List Row}(hs:l.Pairwise fun a b=>a.group<b.group){i j:Nat}(hi:i<j)(hj:j<l.length):(l.getD i default).group<(l.getD j default).group:=by
 rw[zJ _ (show i<l.length by omega),zJ _ hj]
 exact List.pairwise_iff_getElem.1 hs i j (by omega) hj hi
theorem zck {p:Prj}{L:List (Int×Row)}{e:Ent}{reg g:Int}(h:e.void=false∧e.ev.typ=p.ptyp∧e.ev.field=p.pfield)(hg:zD p e.ev reg=some g):
 ZM p L e reg=xP L g ⟨g,yV p ⟨g,((yi L g).getD ⟨0,0,0⟩).value,((yi L g).getD ⟨0,0,0⟩).count+1⟩ e.ev.arg,((yi L g).getD ⟨0,0,0⟩).count+1⟩:=by
 unfold ZM
 rw[hg]
 simp only[]
 rw[if_neg (by rintro(h'|h'|h');rw[h.1]at h';cases h';exact h' h.2.1;exact h' h.2.2)]
theorem JV {p:Prj}{L:List (Int×Row)}{e:Ent}{reg:Int}(h:e.void=true∨e.ev.typ≠p.ptyp∨e.ev.field≠p.pfield∨p.pgroup<1∨3<p.pgroup):ZM p L e reg=L:=by
 unfold ZM
 split
 ·rfl
 ·rename_i g hg
  rcases h with h|h|h|h|h
  ·rw[if_pos (.inl h)]
  ·rw[if_pos (.inr (.inl h))]
  ·rw[if_pos (.inr (.inr h))]
  ·unfold zD at hg
   rw[if_neg (by omega),if_neg (by omega),if_neg (by omega)]at hg;cases hg
  ·unfold zD at hg
   rw[if_neg (by omega),if_neg (by omega),if_neg (by omega)]at hg;cases hg
theorem Jr {p:Prj}(h: ¬(1≤p.pmake∧p.pmake≤5))(r:Row)(x:Int):yV p r x=0:=by
 unfold yV
 rw[if_neg (by omega),if_neg (by omega),if_neg (by omega),if_neg (by omega),if_neg (by omega)]
theorem Je {p:Prj}{r:Row}{g x:Int}(hr:r.group=g)(hz: ¬(1≤p.pmake∧p.pmake≤5)→r.value=0):xb p r x=⟨g,yV p ⟨g,r.value,r.count+1⟩ x,r.count+1⟩:=by
 unfold xb
 subst hr
 refine Row.eq_iff.2 ⟨rfl,?_,rfl⟩
 dsimp only
 by_cases h:1≤p.pmake∧p.pmake≤5
 ·rw[if_pos h]
 ·rw[if_neg h,Jr h,hz h]
theorem Qp {p:Prj}{L:List (Int×Row)}{n:Nat}{e:Ent}{reg:Int}{l':List Row}(hg:GoodM L n)(hz: ¬(1≤p.pmake∧p.pmake≤5)→ ∀q∈L,q.2.value=0)(h:Kt p (Xd (L.map (·.2))) e reg l'):
 l'=Xd ((ZM p L e reg).map (·.2)):=by
 have hgA:=hg.add p e reg
 rcases h with⟨h,rfl⟩|⟨⟨h1,h2,h3,h4,h5⟩,g,k,hG,hk,hlt,hc⟩
 ·rw[JV h]
 ·have hs:=Wm hg
  rw[zck ⟨h1,h2,h3⟩ hG]at hgA⊢
  generalize hl:Xd (L.map (·.2))=l at*
  have hm: ∀x,x∈l↔yi L x.group=some x:=fun x=>by rw[←hl];exact WZ hg
  have hvz: ∀x∈l,¬(1≤p.pmake∧p.pmake≤5)→x.value=0:=fun x hx hn=>hz hn _ (Ye ((hm x).1 hx))
  refine KC ?_ (Wm hgA) (fun x=>?_)
  ·rcases hc with⟨hkl,hkg,rfl⟩|⟨hc,rfl⟩
   ·have e1:(l.set k (xb p (l.getD k default) e.ev.arg)).map (·.group)=l.map (·.group):=by
     refine List.ext_getElem (by simp) fun i h1 h2=>?_
     rw[List.getElem_map,List.getElem_map,List.getElem_set]
     split
     ·rename_i hik;subst hik
      show(l.getD k default).group=_
      rw[zJ _ hkl]
     ·rfl
    have h6:(l.map (·.group)).Pairwise (fun a b=>a<b):=List.pairwise_map.2 hs
    rw[←e1]at h6
    exact List.pairwise_map.1 h6
   ·have e1:(shl l k).set k (xb p ⟨g,0,0⟩ e.ev.arg)=l.take k++xb p ⟨g,0,0⟩ e.ev.arg::l.drop k:=by
     unfold shl
     rw[List.set_append_right _ _ (by rw[List.length_take];omega),List.length_take,Nat.min_eq_left hk,Nat.sub_self,List.set_cons_zero]
    rw[e1,List.pairwise_append]
    have hg0:(xb p ⟨g,0,0⟩ e.ev.arg).group=g:=rfl
    refine⟨hs.sublist (List.take_sublist _ _),?_,?_⟩
    ·rw[List.pairwise_cons]
     refine⟨fun y hy=>?_,hs.sublist (List.drop_sublist _ _)⟩
     obtain⟨i,hi,rfl⟩:=List.getElem_of_mem hy
     rw[List.length_drop]at hi
     rw[List.getElem_drop,hg0,←ZI l (by omega)]
     rcases hc with hc|hc
     ·omega
     ·rcases Nat.eq_zero_or_pos i with h0|h0
      ·subst h0;exact hc
      ·have:=ZU hs (i:=k) (j:=k+i) (by omega) (by omega);omega
    ·intro a ha b hb
     obtain⟨i,hi,rfl⟩:=List.getElem_of_mem ha
     rw[List.length_take]at hi
     have hi2:(l.take k)[i].group<g:=by
      rw[List.getElem_take,←ZI l (by omega)];exact hlt i (by omega)
     rcases List.mem_cons.1 hb with rfl|hb
     ·exact hi2
     ·obtain⟨j,hj,rfl⟩:=List.getElem_of_mem hb
      rw[List.length_drop]at hj
      rw[List.getElem_take,List.getElem_drop,←ZI l (by omega),←ZI l (by omega)]
      exact ZU hs (by omega) (by omega)
  ·rw[WZ hgA,JK]
   rcases hc with⟨hkl,hkg,rfl⟩|⟨hc,rfl⟩
   ·have hkm:l.getD k default∈l:=by rw[zJ _ hkl];exact List.getElem_mem hkl
    have hlk:=(hm _).1 hkm
    rw[hkg]at hlk
    rw[hlk,Option.getD_some,Je hkg (hvz _ hkm)]
    constructor
    ·intro hx
     obtain⟨i,hi,rfl⟩:=List.getElem_of_mem hx
     rw[List.length_set]at hi
     rw[List.getElem_set]
     by_cases hik:k=i
     ·simp[hik]
     ·rw[if_neg hik]
      have hne: ¬(l[i].group=g):=by
       intro he
       rw[←ZI l hi,←hkg]at he
       rcases Nat.lt_or_gt_of_ne hik with h|h
       ·have:=ZU hs h hi;omega
       ·have:=ZU hs h hkl;omega
      rw[if_neg hne]
      exact(hm _).1 (List.getElem_mem hi)
    ·intro hx
     split at hx
     ·cases hx
      exact List.mem_iff_getElem.2 ⟨k,by rw[List.length_set];exact hkl,by simp⟩
     ·rename_i hne
      have hxl:=(hm x).2 hx
      obtain⟨i,hi,rfl⟩:=List.getElem_of_mem hxl
      refine List.mem_iff_getElem.2 ⟨i,by rw[List.length_set];exact hi,?_⟩
      rw[List.getElem_set,if_neg]
      rintro rfl
      rw[←ZI l hi]at hne
      exact hne hkg
   ·have hno: ∀x∈l,x.group≠g:=by
     intro x hx he
     obtain⟨i,hi,rfl⟩:=List.getElem_of_mem hx
     rw[←ZI l hi]at he
     rcases Nat.lt_or_ge i k with h|h
     ·have:=hlt i h;omega
     ·rcases hc with hc|hc
      ·omega
      ·rcases Nat.eq_or_lt_of_le h with h'|h'
       ·subst h';omega
       ·have:=ZU hs h' hi;omega
    have hln:yi L g=none:=by
     cases hq:yi L g with
     |none=>rfl
     |some y=>
      have hy:=Ye hq
      have hyg:=hg.grp _ hy
      exact absurd hyg.symm (hno y ((hm y).2 (by rw[←hyg];exact hq)))
    rw[hln,Option.getD_none,Je (r:=⟨g,0,0⟩) rfl (fun _=>rfl)]
    have e1: ∀y,(shl l k).set k y=l.take k++y::l.drop k:=fun y=>by
     unfold shl
     rw[List.set_append_right _ _ (by rw[List.length_take];omega),List.length_take,Nat.min_eq_left hk,Nat.sub_self,List.set_cons_zero]
    rw[e1]
    have hmem:x∈l.take k++(⟨g,yV p ⟨g,0,0+1⟩ e.ev.arg,0+1⟩:Row)::l.drop k↔x=⟨g,yV p ⟨g,0,0+1⟩ e.ev.arg,0+1⟩∨x∈l:=by
     rw[List.mem_append,List.mem_cons]
     conv=>rhs;rw[←List.take_append_drop k l,List.mem_append]
     constructor
     ·rintro(h|h|h)
      ·exact .inr (.inl h)
      ·exact .inl h
      ·exact .inr (.inr h)
     ·rintro(h|h|h)
      ·exact .inr (.inl h)
      ·exact .inl h
      ·exact .inr (.inr h)
    rw[hmem]
    constructor
    ·rintro(rfl|hx)
     ·simp
     ·rw[if_neg (hno x hx)];exact(hm x).1 hx
    ·intro hx
     split at hx
     ·cases hx;exact .inl rfl
     ·exact .inr ((hm x).2 hx)
instance:Flat Row:=⟨fun h=>h⟩
instance:Flat Prj:=⟨fun h=>h⟩
def RefO (a:Nat)(p:Prj)(l:List Row):HP:=WC p.Ok (Ex1 fun v=>Star [Blk a #[.int .i64 (p.ptyp),.int .i64 (p.pfield),.int .i64 (p.pgroup),.int .i64 (p.pby),.int .i64 (p.pmake),v] 149,RowE (α:=Row) own 70 v l])
theorem RefO.open {G:Nat→Prop}{W w:World}{As:List HP}{a:Nat}{p:Prj}{l:List Row}(h:Sep G W (RefO a p l::As) w):p.Ok∧ ∃v,Sep G W (Blk a #[.int .i64 (p.ptyp),.int .i64 (p.pfield),.int .i64 (p.pgroup),.int .i64 (p.pby),.int .i64 (p.pmake),v] 149::RowE (α:=Row) own 70 v l::As) w:=by
 obtain⟨h1,h2⟩:=h.openAnd
 obtain⟨v,h3⟩:=h2.openEx
 exact⟨h1,v,h3.openStar⟩
theorem RefO.close {G:Nat→Prop}{W w:World}{As:List HP}{a:Nat}{p:Prj}{v:Value}{l:List Row}(hp:p.Ok)(h:Sep G W (Blk a #[.int .i64 (p.ptyp),.int .i64 (p.pfield),.int .i64 (p.pgroup),.int .i64 (p.pby),.int .i64 (p.pmake),v] 149::RowE (α:=Row) own 70 v l::As) w):Sep G W (RefO a p l::As) w:=
 Sep.closeAnd hp (Sep.closeEx (A:=fun v=>Star [Blk a #[.int .i64 (p.ptyp),.int .i64 (p.pfield),.int .i64 (p.pgroup),.int .i64 (p.pby),.int .i64 (p.pmake),v] 149,RowE (α:=Row) own 70 v l]) v (Sep.closeStar (Bs:=[Blk a #[.int .i64 (p.ptyp),.int .i64 (p.pfield),.int .i64 (p.pgroup),.int .i64 (p.pby),.int .i64 (p.pmake),v] 149,RowE (α:=Row) own 70 v l]) h))
theorem Jh {p:Prj}(op:p.Ok)(hS0:Sep G W Rs w):Ret Tryz.prog 71 [.agg (p.cells).toArray] w (fun r w'=> ∃(a:Nat),r=(.pointer (some ⟨a,0,none⟩):Value)∧Sep G W ((RefO a p ([]:List Row))::Rs) w'):=by
 refine zn (args:=[.agg (p.cells).toArray]) Tryz.func71 rfl rfl ?_
 refine za (R0 fun _=>st (zX (v:=.agg (p.cells).toArray) rfl ?_))
 intro w3 b2 e
 have c:=hS0.new e
 refine st (aS (.pointer none) (zb (za (zL (by kernel_rfl) (fun _=>(st (zh (k:=5) Tryz.isAgg73 Tryz.sizeOf73 rfl rfl (zo (c.b0)) (st (zV (parts':=[(0,.agg (p.cells).toArray)]) (v:=.agg #[Iv (p.ptyp),Iv (p.pfield),Iv (p.pgroup),Iv (p.pby),Iv (p.pmake),(Iz)]) rfl (by simp+zetaDelta [Instr.build,Instr.fill,go_sem,xA]) (st (zX (v:=.agg #[Iv (p.ptyp),Iv (p.pfield),Iv (p.pgroup),Iv (p.pby),Iv (p.pmake),(Iz)]) rfl ?_)))))))))))
 intro h b f
 refine st (aS (Ix b 0) (zb (zq (zU Tryz.results71 (show _=(Ix b 0:Value)from rfl) ?_))))
 have g:Sep _ _ ((RowE (α:=Row) own 70 Iz ([]:List Row))::_) _:=(c.new f).rowNil own 70
 have d:Sep G W ((RefO b p ([]:List Row))::(Blk b2 (p.cells).toArray 73)::Rs) h:=RefO.close (v:=(Iz)) op (g.mv1)
 refine⟨b,rfl,(d.s2_a)⟩
theorem el67:Elem Tryz.prog 67 70 3 24:=⟨vR,_,_,rfl,rfl,rfl,rfl,rfl⟩
theorem Kl {a:Nat}{p:Prj}{l:List Row}(hS0:Sep G W ((RefO a p l)::Rs) w):Ret Tryz.prog 73 [.pointer (some ⟨a,0,none⟩)] w (fun r w'=> ∃(v:Value),r=(v:Value)∧Sep G W ((RefO a p l)::(RowE (α:=Row) own 70 v l)::Rs) w'):=by
 refine zn (args:=[Ix a 0]) Tryz.func73 rfl rfl ?_
 obtain⟨I,f,x⟩:=RefO.open hS0
 have h:=x.r1
 have hr4s:_*24≤_:=h.2
 have z:Sep G W ((Blk a #[Iv (p.ptyp),Iv (p.pfield),Iv (p.pgroup),Iv (p.pby),Iv (p.pmake),f] 149)::(RowE (α:=Row) own 70 f l)::Rs) w:=x
 refine za (R0 fun _=>st (aS Iz (zb (za (R0 fun _=>st (aS Iz (zb (za (za (R0 fun _=>st (aS (Iv 0) (zb (zt ?_)))))))))))))
 have J:Sep _ _ ((RowE (α:=Row) own 70 Iz ([]:List Row))::_) _:=z.rowNil own 70
 refine zZ (fun mq σ K=> ∃(k:Nat) (vo:Value) (ρ:Env),mq=l.length-k∧σ=yf ρ [(0,Ix a 0),(4,Iw k),(3,vo)]∧(k≤l.length)∧Sep G W ((RowE (α:=Row) own 70 vo (l.take k))::(Blk a #[Iv (p.ptyp),Iv (p.pfield),Iv (p.pgroup),Iv (p.pby),Iv (p.pmake),f] 149)::(RowE (α:=Row) own 70 f l)::Rs) K) ⟨0,(Iz),_,rfl,sSf,zY _,J⟩ ?_
 rintro m7 σ8 L ⟨k,vo,ρl1,rfl,rfl,hkk,d⟩
 have A:=d.r0
 have hr10s:_*24≤_:=A.2
 refine za (za (R0 fun _=>st (mV (Iw k) (st (mV (Ix a 0) (st (zm (b:=a) (o:=0) rfl (st (xH rfl (st (lD f mA rfl (zd (d.b1) rfl) (st (zC (n:=l.length) vR rfl h.1 (st (zK (k:=.i64) (a:=((k:Nat):Int)) (b:=((l.length:Nat):Int)) rfl rfl (zb ?_))))))))))))))))
 cases e:decide (((k:Nat):Int)<((l.length:Nat):Int))
 have e:=fD e
 refine ze rfl (ya (zR (za (R0 fun _=>st (mV vo (st (aS vo (zb (zq (zU Tryz.results73 (show _=(vo:Value)from rfl) ?_))))))))))
 have m:Sep G W ((RefO a p l)::(RowE (α:=Row) own 70 vo (l.take k))::Rs) L:=RefO.close (v:=f) I (d.s3_bca)
 have hk:k=l.length:=by omega
 subst hk
 rw[List.take_of_length_le (Nat.le_refl l.length)]at m
 refine⟨vo,rfl,m⟩
 have e:=tD e
 refine zg rfl (zp (za (zt (R0 fun _=>st (mV vo (st (mV (Ix a 0) (st (zm (b:=a) (o:=0) rfl (st (xH rfl (st (lD f mA rfl (zd (d.b1) rfl) (st (mV (Iw k) ?_)))))))))))))))
 have B:k<l.length:=bo
 refine st (zf (k:=3) (i:=k) vR rY rfl h.1 rfl B ?_)
 have C:k<l.length:=bo
 obtain⟨_,_,t,rfl,q⟩:=d.rowAtD (i:=2) (j:=k) rfl C
 refine st (zh (k:=3) Tryz.isAgg70 rY rfl rfl t (st (zH (k:=3) (parts':=[(0,.agg ((l.getD k default).cells).toArray)]) (c:=((l.getD k default).cells).toArray) vR rY Tryz.zeroValue70 dc rfl kr ?_)))
 intro w19 b18 D
 have s:=d.new D
 have u:=s.b0
 refine st (yq (src:=own) (bytes:=24) (x1:=(l.getD k default)) ((s.s4_bcd).emp1) el67 rfl rfl u (fun _ _ _=>(show _ from⟨rfl,q⟩)) yqb rfl ?_)
 intro y w21 g
 have E:=g.r0
 have hr27s:_*24≤_:=E.2
 refine st (aS y (zb (R0 fun _=>st (mV (Iw k) ?_))))
 have F:InR ((k+1:Nat):Int):=bo
 refine st (zO (r:=((k+1:Nat):Int)) (k:=.i64) (a:=((k:Nat):Int)) (b:=1) rfl rfl (by rw[show(((k:Nat):Int)+1:Int)=((k+1:Nat):Int)from bo];exact zw F) (st (aS (Iw (k+1)) (zb ?_))))
 have H:l.take (k+1)=l.take k++[(l.getD k default)]:=(List.take_getD om)
 rw[←H]at g
 exact⟨_,by omega,k+1,y,_,rfl,sSf,by omega,g⟩
end
end Go.Proofs.YtpdolkiohjdodaaGreatDoor
