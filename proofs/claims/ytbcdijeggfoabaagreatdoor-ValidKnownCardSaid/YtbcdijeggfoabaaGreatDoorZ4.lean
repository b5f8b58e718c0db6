import Derived.Test.YtbcdijeggfoabaaGreatDoorZ3
import Derived.Lib.LaidTab
import Derived.LaidMore
import Derived.LaidLaws
import Derived.Stop.Joined
set_option maxRecDepth 8000
set_option maxHeartbeats 4000000
set_option linter.unusedSimpArgs false
set_option linter.unusedVariables false
set_option linter.unusedSectionVars false
set_option linter.deprecated false
open Go.Proofs.Tryz renaming isAgg3→kT,underlying72→lT,sizeOf106→mT,underlying42→nT,isAgg22→oT,underlying22→pT,sizeOf74→qT,underlying104→rT,sizeOf3→sT,isAgg72→tT,isAgg104→uT,sizeOf143→vT,underlying75→wT,results26→kR,results64→lR,isAgg106→mR,zeroValue3→nR,sizeOf140→oR,isAgg23→pR,underlying23→qR,results25→rR,results63→sR,isAgg74→tR,zeroValue106→uR,sizeOf112→vR,results7→wR,results52→kY,results66→lY,call66→mY,isAgg143→nY,zeroValue143→oY,results65→pY,isAgg25→qY,sizeOf25→rY,results111→sY
namespace Go.Proofs.YtbcdijeggfoabaaGreatDoor
variable {G:Nat→Prop}{W w:World}{Rs:List HP}
section
open Go.Proofs Go.RowKit
theorem xY {P:Program}{σ:Env}{w:World}{fn:Func}{a u:Tmp}{t:TypeId}{R:Value→World→Prop}{b k:Nat}{cs:List Value}{v':Value}(hr:fn.results=#[.cell a t,.tmp u])(hA: ∀w,(isAgg t).run P w=.ok true w)(hS: ∀w,(sizeOf t).run P w=.ok k w)(hk:cs.length=k)
 (hv:σ a=.pointer (some ⟨b,0,none⟩)) (hc:CellsAt w b 0 cs) (hu:σ u=v') (h:R (.tuple #[.agg cs.toArray,v']) w):Xp P fn R .ret σ w:=by
 subst hk
 refine⟨_,fun tmps ht=>?_,h⟩
 have:=xo (P:=P) (w:=w) b 0 cs 0 #[] (fun j hj=>by simpa using hc j hj)
 have e:tmps[a]?.getD undef=.pointer (some ⟨b,0,none⟩):=by rw[←hv,←ht a];simp
 have e2:tmps[u]?.getD undef=v':=by rw[←hu,←ht u];simp
 simp[results,hr,e,e2,asAddr,loadVar,hA,hS,loadCells,this,go_sem]
def xk (t:Typ)(n:Int):Int:=if n<0∨(t.fields.length:Int)≤n then 0 else(t.fields.getD n.toNat default).kind
def QX (t:Typ)(f:Fld):Prop:=(1≤f.kind∧f.kind≤4)∧(f.floor=true→f.kind=1)∧ ∀j,j<f.moves.length→(f.moves.getD j default).need= -1∨xk t (f.moves.getD j default).need=1
def zem (f:Fld):Prop:=(f.kind=4→1≤f.moves.length)∧f.moves.length≤16
def FewT (t:Typ):Prop:=(1≤t.fields.length∧t.fields.length≤8)∧ ∀j,j<t.fields.length→zem (t.fields.getD j default)
def Jw (p:Prj):Prop:=0≤p.pby∧(1≤p.pgroup∧p.pgroup≤3)∧1≤p.pmake∧p.pmake≤5
def zbf (d:Dcl):Prop:=d.projs.length≤8∧ ∀i,i<d.projs.length→Jw (d.projs.getD i default)
theorem JV {t:Typ}{n:Int}(h:xk t n=2):0≤n:=by
 unfold xk at h
 split at h
 ·cases h
 ·omega
def FewD (d:Dcl):Prop:=(1≤d.types.length∧d.types.length≤8)∧ ∀i,i<d.types.length→FewT (d.types.getD i default)
theorem yU {p:Nat→Prop}{k:Nat}(h: ∀i,i<k→p i)(hk:p k): ∀i,i<k+1→p i:=fun i hi=>by
 by_cases e:i=k
 ·rw[e];exact hk
 ·exact h i (by omega)
theorem zeo {d:Dcl}(h1:FewD d)(h2: ∀i,i<d.types.length→ ∀j,j<(d.types.getD i default).fields.length→QX (d.types.getD i default) ((d.types.getD i default).fields.getD j default)):DclOk d:=by
 refine⟨h1.1.1,h1.1.2,fun i hi=>?_⟩
 have f1:=h1.2 i hi
 have f2:=h2 i hi
 refine⟨f1.1.1,f1.1.2,fun j hj=>(f2 j hj).1,fun j hj=>(f2 j hj).2.1,fun j hj=>f1.2 j hj,fun j hj q hq=>?_⟩
 rcases(f2 j hj).2.2 q hq with h|h
 ·exact .inl h
 ·right
  unfold xk at h
  split at h
  ·omega
  ·rename_i hn
   exact⟨by omega,by omega,h⟩
theorem zdY {d:Dcl}{dd0:Value}(hdd0:RdS W G dd0 d.types){dd1:Value}(hdd1:RdS W G dd1 d.projs)(od:d.Ok)(hS0:Sep G W Rs w):Ret Tryz.prog 25 [.agg (d.cells dd0 dd1).toArray] w (fun r w'=> ∃(b:Bool),r=(.bool b:Value)∧Sep G W Rs w'):=by
 refine zm Tryz.func25 rfl rfl ?_
 refine za (R0 fun _=>st (zT rfl ?_))
 intro w3 b2 N
 have s:=hS0.new N
 refine st (aS (.bool false) (zb (za (za (zy kr (st (yJ rfl (st (lD dd0 oT rfl (zd (s.b0) rfl) (st (zS pT rfl hdd0.sl (st (xj rfl rfl (st (mV (.bool (decide (20<((d.types.length:Nat):Int)))) (stc (V:=Ix b2 1) rfl rfl (fun O=>?_) ?_))))))))))))))))
 exact Ym rfl rflB
 refine stc (V:=dd1) rfl rfl (fun D=>?_) ?_
 exact lD dd1 pR (ifpC D) (zd (s.b0) rfl) rflB
 refine stc (V:=Iw d.projs.length) rfl rfl (fun E=>?_) ?_
 exact zS qR (ifpC E) hdd1.sl rflB
 refine stc (V:=.bool (decide (20<((d.projs.length:Nat):Int)))) rfl rfl (fun t=>?_) ?_
 exact xj (ifpC t) rfl rflB
 refine st (zz rfl (fun hbp=>(ifpC hbp)) (zb ?_))
 cases u:(decide (20<((d.types.length:Nat):Int)))||(decide (20<((d.projs.length:Nat):Int)))
 try simp only[zh]at u
 refine zf rfl (zp (za (za (R0 fun _=>st (aS (Iv 0) (zb (zu (yf (fun mq σ F=> ∃k ρ,mq=d.types.length-k∧σ=yo ρ [(1,Ix b2 0),(3,Iw k)]∧(k≤d.types.length)∧Sep G W ((Blk b2 (d.cells dd0 dd1).toArray 25)::Rs) F) ⟨0,_,rfl,sSf,zY _,s⟩ ?_))))))))
 rintro m15 σ16 w14 ⟨k,ρl1,rfl,rfl,hkk,f⟩
 let P:=zV W (sb dd0) (so dd0+k*1+0)
 refine za (za (R0 fun _=>st (mV (Iw k) (st (yJ rfl (st (lD dd0 oT rfl (zd (f.b0) rfl) (st (zS pT rfl hdd0.sl (st (zI rfl rfl (zb ?_))))))))))))
 cases h:decide (((k:Nat):Int)<((d.types.length:Nat):Int))
 have h:=fD h
 refine zf rfl (yh (zX (za (R0 fun _=>st (aS (.bool false) (zb (zo (zN rR rfl ?_))))))))
 refine⟨false,rfl,(f.s1_)⟩
 have h:=tD h
 refine zg rfl (zp (za (zu (za (za (R0 fun _=>st (yJ rfl (st (lD dd0 oT rfl (zd (f.b0) rfl) (st (mV (Iw k) ?_)))))))))))
 have H:k<d.types.length:=bo
 refine st (zn pT qT rfl hdd0.sl rfl H (st (xi rfl ?_)))
 have l:k<d.types.length:=bo
 obtain⟨m,c,hoke21⟩:=hdd0.typD l
 have y:=f.cells m (hdd0.foot (ne_of_lt l))
 refine st (lD P tT rfl (y.get rfl) (st (zS lT rfl c.sl (st (xj rfl rfl (zb ?_))))))
 cases o:decide (20<((((d.types.getD k default).fields).length:Nat):Int))
 have o:=fD o
 refine zf rfl (zp (za (R0 fun _=>st (aS (Iv 0) (zb (zu (yf (fun mq σ F=> ∃j ρ,mq=(d.types.getD k default).fields.length-j∧σ=yo ρ [(1,Ix b2 0),(3,Iw k),(4,Iw j)]∧(j≤(d.types.getD k default).fields.length)∧Sep G W ((Blk b2 (d.cells dd0 dd1).toArray 25)::Rs) F) ⟨0,_,rfl,sSf,zY _,f⟩ ?_)))))))
 rintro m27 σ28 w26 ⟨j,ρl2,rfl,rfl,hkj,e⟩
 refine za (za (R0 fun _=>st (mV (Iw j) (st (yJ rfl (st (lD dd0 oT rfl (zd (e.b0) rfl) (st (mV (Iw k) ?_)))))))))
 have I:k<d.types.length:=bo
 refine st (zn pT qT rfl hdd0.sl rfl I (st (xi rfl ?_)))
 have z:=e.cells m (hdd0.foot (ne_of_lt l))
 refine st (lD P tT rfl (z.get rfl) (st (zS lT rfl c.sl (st (zI rfl rfl (zb ?_))))))
 cases p:decide (((j:Nat):Int)<((((d.types.getD k default).fields).length:Nat):Int))
 have p:=fD p
 refine zf rfl (yh (zX (R0 fun _=>st (mV (Iw k) ?_))))
 have J:InR ((k+1:Nat):Int):=bo
 refine st (zU (r:=((k+1:Nat):Int)) rfl rfl (by rw[show(((k:Nat):Int)+1:Int)=((k+1:Nat):Int)from bo];exact zJ J) (st (aS (Iw (k+1)) (zb ?_))))
 exact⟨_,by omega,k+1,_,rfl,sSf,by omega,e⟩
 have p:=tD p
 refine zg rfl (zp (za (zu (za (R0 fun _=>st (yJ rfl (st (lD dd0 oT rfl (zd (e.b0) rfl) (st (mV (Iw k) ?_))))))))))
 have K:k<d.types.length:=bo
 refine st (zn pT qT rfl hdd0.sl rfl K (st (xi rfl ?_)))
 have A:=e.cells m (hdd0.foot (ne_of_lt l))
 refine st (lD P tT rfl (A.get (j:=0) rfl) (st (mV (Iw j) ?_)))
 have L:j<((d.types.getD k default).fields).length:=bo
 refine st (zn lT mT rfl c.sl rfl L (st (yQ rfl ?_)))
 have x:j<((d.types.getD k default).fields).length:=bo
 obtain⟨B,g,hoke39⟩:=c.fldD x
 have C:=e.cells B (c.foot (ne_of_lt x))
 refine st (lD (zV W (sb P) (so P+j*4+3)) uT rfl (C.get (j:=3) rfl) (st (zS rT rfl g.sl (st (xj rfl rfl (zb ?_))))))
 cases q:decide (40<((((((d.types.getD k default).fields).getD j default).moves).length:Nat):Int))
 have q:=fD q
 refine zf rfl (zp (R0 fun _=>st (mV (Iw j) ?_)))
 have M:InR ((j+1:Nat):Int):=bo
 refine st (zU (r:=((j+1:Nat):Int)) rfl rfl (by rw[show(((j:Nat):Int)+1:Int)=((j+1:Nat):Int)from bo];exact zJ M) (st (aS (Iw (j+1)) (zb ?_))))
 exact⟨_,by omega,j+1,_,rfl,sSf,by omega,e⟩
 have q:=tD q
 refine zg rfl (za (R0 fun _=>st (aS (.bool true) (zb (zo (zN rR rfl ?_))))))
 refine⟨true,rfl,(e.s1_)⟩
 have o:=tD o
 refine zg rfl (za (R0 fun _=>st (aS (.bool true) (zb (zo (zN rR rfl ?_))))))
 refine⟨true,rfl,(f.s1_)⟩
 refine zg rfl (za (R0 fun _=>st (aS (.bool true) (zb (zo (zN rR rfl ?_))))))
 refine⟨true,rfl,(s.s1_)⟩
theorem zbP {t:Typ}{dt0:Value}(hdt0:RdS W G dt0 t.fields)(ot:t.Ok){n:Int}(hn:InR n)(hS0:Sep G W Rs w):Ret Tryz.prog 66 [.agg (t.cells dt0).toArray,.int .i64 (n)] w (fun r w'=>r=(.int .i64 ((xk t n)):Value)∧Sep G W Rs w'):=by
 refine zm Tryz.func66 rfl rfl ?_
 refine za (R0 fun _=>st (zT rfl ?_))
 intro w3 b2 p
 have c:=hS0.new p
 refine st (aS (Iv 0) (zb (za (za (zy kr (st (mV (Iv n) (st (zI rfl rfl (st (mV (.bool (decide (n<0))) (stc (V:=Iv n) rfl rfl (fun q=>?_) ?_))))))))))))
 exact mV (Iv n) rflB
 refine stc (V:=Ix b2 0) rfl rfl (fun s=>?_) ?_
 exact xi rfl rflB
 refine stc (V:=dt0) rfl rfl (fun o=>?_) ?_
 exact lD dt0 tT (ifpC o) (zd (c.b0) rfl) rflB
 refine stc (V:=Iw t.fields.length) rfl rfl (fun f=>?_) ?_
 exact zS lT (ifpC f) hdt0.sl rflB
 refine stc (V:=.bool (decide (((t.fields.length:Nat):Int)≤n))) rfl rfl (fun d=>?_) ?_
 exact xh (ifpC d) (ifpC d) rflB
 refine st (zz rfl (fun hbp=>(ifpC hbp)) (zb ?_))
 cases g:(decide (n<0))||(decide (((t.fields.length:Nat):Int)≤n))
 try simp only[zh]at g
 refine zf rfl (zp (za (R0 fun _=>st (xi rfl (st (lD dt0 tT rfl (zd (c.b0) rfl) (st (mV (Iv n) ?_))))))))
 refine st (zA lT mT rfl hdt0.sl rfl ⟨by omega,by omega⟩ (st (xA rfl ?_)))
 have h:n.toNat<t.fields.length:=bo
 obtain⟨l,e,hoke17⟩:=hdt0.fldD h
 have m:=c.cells l (hdt0.foot (ne_of_lt h))
 refine st (lD (Iv ((t.fields.getD n.toNat default).kind)) kT rfl (m.get (j:=0) rfl) (st (aS (Iv ((t.fields.getD n.toNat default).kind)) (zb (zo (zN lY (show _=(Iv ((t.fields.getD n.toNat default).kind):Value)from rfl) ?_))))))
 refine⟨?_,(c.s1_)⟩
 unfold xk
 rw[ifnC (by omega)]
 try simp only[zh]at g
 refine zg rfl (za (R0 fun _=>st (aS (Iv 0) (zb (zo (zN lY (show _=(Iv 0:Value)from rfl) ?_))))))
 refine⟨?_,(c.s1_)⟩
 unfold xk
 rw[ifpC (by omega)]
theorem zep {d:Dcl}{dd0:Value}(hdd0:RdS W G dd0 d.types){dd1:Value}(hdd1:RdS W G dd1 d.projs)(od:d.Ok)(hS0:Sep G W Rs w):Ret Tryz.prog 63 [.agg (d.cells dd0 dd1).toArray] w (fun r w'=> ∃(b:Bool),r=(.bool b:Value)∧(b=false→FewD d∧d.projs.length≤8)∧Sep G W Rs w'):=by
 let bj:=((d.types.length:Nat):Int)
 refine zm Tryz.func63 rfl rfl ?_
 refine za (R0 fun _=>st (zT rfl ?_))
 intro w3 b2 be
 have H:=hS0.new be
 refine st (aS (.bool false) (zb (za (za (zy kr (st (yJ rfl (st (lD dd0 oT rfl (zd (H.b0) rfl) (st (zS pT rfl hdd0.sl (st (zR rfl rfl (st (mV (.bool (decide (bj=0))) (stc (V:=Ix b2 0) rfl rfl (fun bf=>?_) ?_))))))))))))))))
 exact yJ rfl rflB
 refine stc (V:=dd0) rfl rfl (fun aI=>?_) ?_
 exact lD dd0 oT (ifpC aI) (zd (H.b0) rfl) rflB
 refine stc (V:=Iw d.types.length) rfl rfl (fun aJ=>?_) ?_
 exact zS pT (ifpC aJ) hdd0.sl rflB
 refine stc (V:=.bool (decide (8<bj))) rfl rfl (fun R=>?_) ?_
 exact xj (ifpC R) rfl rflB
 refine st (zz rfl (fun hbp=>(ifpC hbp)) (st (mV (.bool ((decide (bj=0))||(decide (8<bj)))) (stc (V:=Ix b2 1) rfl rfl (fun aL=>?_) ?_))))
 have aM:=aL
 try simp only[zh]at aM
 exact Ym rfl rflB
 refine stc (V:=dd1) rfl rfl (fun S=>?_) ?_
 have aN:=S
 try simp only[zh]at aN
 exact lD dd1 pR (ifpC S) (zd (H.b0) rfl) rflB
 refine stc (V:=Iw d.projs.length) rfl rfl (fun T=>?_) ?_
 have aO:=T
 try simp only[zh]at aO
 exact zS qR (ifpC T) hdd1.sl rflB
 refine stc (V:=.bool (decide (8<((d.projs.length:Nat):Int)))) rfl rfl (fun U=>?_) ?_
 have aP:=U
 try simp only[zh]at aP
 exact xj (ifpC U) rfl rflB
 refine st (zz rfl (fun hbp=>(ifpC hbp)) (zb ?_))
 cases X:((decide (((d.types.length:Nat):Int)=0))||(decide (8<((d.types.length:Nat):Int))))||(decide (8<((d.projs.length:Nat):Int)))
 try simp only[zh]at X
 refine zf rfl (zp (za (za (R0 fun _=>st (aS (Iv 0) (zb (zu (yf (fun mq σ wq=> ∃k ρ,mq=d.types.length-k∧σ=yo ρ [(1,Ix b2 0),(3,Iw k)]∧(k≤d.types.length)∧(∀i,i<k→FewT (d.types.getD i default))∧Sep G W ((Blk b2 (d.cells dd0 dd1).toArray 25)::Rs) wq) ⟨0,_,rfl,sSf,zY _,(fun i h=>absurd h (yO i)),H⟩ ?_))))))))
 rintro m23 σ24 w22 ⟨k,ρl1,rfl,rfl,hkk,hm,m⟩
 let bl:=(d.types.getD k default).fields
 let bi:=((((d.types.getD k default).fields).length:Nat):Int)
 let bg:=zV W (sb dd0) (so dd0+k*1+0)
 refine za (za (R0 fun _=>st (mV (Iw k) (st (yJ rfl (st (lD dd0 oT rfl (zd (m.b0) rfl) (st (zS pT rfl hdd0.sl (st (zI rfl rfl (zb ?_))))))))))))
 cases x:decide (((k:Nat):Int)<((d.types.length:Nat):Int))
 have x:=fD x
 refine zf rfl (yh (zX (za (R0 fun _=>st (aS (.bool false) (zb (zo (zN sR rfl ?_))))))))
 refine⟨false,rfl,?_,(m.s1_)⟩
 intro I
 exact⟨⟨by omega,fun i hi=>hm i om⟩,by omega⟩
 have x:=tD x
 refine zg rfl (zp (za (zu (za (R0 fun _=>st (yJ rfl (st (lD dd0 oT rfl (zd (m.b0) rfl) (st (mV (Iw k) ?_))))))))))
 have aR:k<d.types.length:=bo
 refine st (zn pT qT rfl hdd0.sl rfl aR (st (xi rfl ?_)))
 have Y:k<d.types.length:=bo
 obtain⟨al,c,hoke29⟩:=hdd0.typD Y
 have am:=m.cells al (hdd0.foot (ne_of_lt Y))
 refine st (lD bg tT rfl (am.get (j:=0) rfl) (st (aS bg (zb (za (za (zy kr (st (mV bg (st (zS lT rfl c.sl (st (zR rfl rfl (st (mV (.bool (decide (bi=0))) (stc (V:=bg) rfl rfl (fun aT=>?_) ?_))))))))))))))))
 exact mV bg rflB
 refine stc (V:=Iw (bl.length)) rfl rfl (fun Z=>?_) ?_
 exact zS lT (ifpC Z) c.sl rflB
 refine stc (V:=.bool (decide (8<bi))) rfl rfl (fun aa=>?_) ?_
 exact xj (ifpC aa) rfl rflB
 refine st (zz rfl (fun hbp=>(ifpC hbp)) (zb ?_))
 cases ab:(decide (((((d.types.getD k default).fields).length:Nat):Int)=0))||(decide (8<((((d.types.getD k default).fields).length:Nat):Int)))
 try simp only[zh]at ab
 refine zf rfl (zp (za (R0 fun _=>st (aS (Iv 0) (zb (zu (yf (fun mq σ wq=> ∃j ρ,mq=(d.types.getD k default).fields.length-j∧σ=yo ρ [(1,Ix b2 0),(3,Iw k),(4,(zV W (sb dd0) (so dd0+k*1+0))),(5,Iw j)]∧(j≤(d.types.getD k default).fields.length)∧(∀i,i<j→zem ((d.types.getD k default).fields.getD i default))∧Sep G W ((Blk b2 (d.cells dd0 dd1).toArray 25)::Rs) wq) ⟨0,_,rfl,sSf,zY _,(fun i h=>absurd h (yO i)),m⟩ ?_)))))))
 rintro m41 σ42 w40 ⟨j,ρl2,rfl,rfl,hkj,aK,e⟩
 let bk:=zV W (sb bg) (so bg+j*4+3)
 let aQ:=((d.types.getD k default).fields).getD j default
 let bh:=(((aQ.moves).length:Nat):Int)
 let bm:=(decide (bh=0))||(decide (16<bh))
 refine za (za (R0 fun _=>st (mV (Iw j) (st (mV bg (st (zS lT rfl c.sl (st (zI rfl rfl (zb ?_))))))))))
 cases y:decide (((j:Nat):Int)<((((d.types.getD k default).fields).length:Nat):Int))
 have y:=fD y
 refine zf rfl (yh (zX (R0 fun _=>st (mV (Iw k) ?_))))
 have aU:InR ((k+1:Nat):Int):=bo
 refine st (zU (r:=((k+1:Nat):Int)) rfl rfl (by rw[show(((k:Nat):Int)+1:Int)=((k+1:Nat):Int)from bo];exact zJ aU) (st (aS (Iw (k+1)) (zb ?_))))
 exact⟨_,by omega,k+1,_,rfl,sSf,by omega,(yU hm ⟨by omega,fun j9 I=>aK j9 om⟩),e⟩
 have y:=tD y
 refine zg rfl (zp (za (zu (za (zy kr (st (mV bg (st (mV (Iw j) ?_)))))))))
 have aV:j<((d.types.getD k default).fields).length:=bo
 refine st (zn lT mT rfl c.sl rfl aV (st (xA rfl ?_)))
 have o:j<((d.types.getD k default).fields).length:=bo
 let bn:=c.foot (ne_of_lt o)
 obtain⟨l,f,hoke47⟩:=c.fldD o
 have an:=e.cells l bn
 refine st (lD (Iv (aQ.kind)) kT rfl (an.get (j:=0) rfl) (st (zR rfl rfl (st (mV (.bool (decide ((aQ.kind)=4))) (stc (V:=bg) rfl rfl (fun aW=>?_) ?_))))))
 exact mV bg rflB
 refine stc (V:=Iw j) rfl rfl (fun aX=>?_) ?_
 exact mV (Iw j) rflB
 refine stc (V:=Ix (sb bg) (so bg+j*4)) rfl rfl (fun J=>?_) ?_
 have aY:j<((d.types.getD k default).fields).length:=bo
 exact zn lT mT (ifpC J) c.sl (ifpC J) aY rflB
 refine stc (V:=Ix (sb bg) (so bg+j*4+3)) rfl rfl (fun ac=>?_) ?_
 exact yQ (ifpC ac) rflB
 refine stc (V:=bk) rfl rfl (fun ad=>?_) ?_
 have ao:=e.cells l bn
 exact lD bk uT (ifpC ad) (ao.get (j:=3) rfl) rflB
 refine stc (V:=Iw ((aQ.moves).length)) rfl rfl (fun ae=>?_) ?_
 exact zS rT (ifpC ae) f.sl rflB
 refine stc (V:=.bool (decide (bh=0))) rfl rfl (fun af=>?_) ?_
 exact zR (ifpC af) rfl rflB
 refine stc (V:=.bool (decide (bh=0))) rfl rfl (fun ag=>?_) ?_
 exact yg (ifpC ag) rflB
 refine xn (V:=bg) rfl rfl (fun ah=>?_) ?_
 exact mV bg rflB
 refine xn (V:=Iw j) rfl rfl (fun ai=>?_) ?_
 exact mV (Iw j) rflB
 refine xn (V:=Ix (sb bg) (so bg+j*4)) rfl rfl (fun p=>?_) ?_
 have aZ:j<((d.types.getD k default).fields).length:=bo
 exact zn lT mT (ifpC ⟨p.1,p.2⟩) c.sl (ifpC ⟨p.1,p.2⟩) aZ rflB
 refine xn (V:=Ix (sb bg) (so bg+j*4+3)) rfl rfl (fun z=>?_) ?_
 exact yQ (ifpC ⟨z.1,z.2⟩) rflB
 refine xn (V:=bk) rfl rfl (fun A=>?_) ?_
 have ap:=e.cells l bn
 exact lD bk uT (ifpC ⟨A.1,A.2⟩) (ap.get (j:=3) rfl) rflB
 refine xn (V:=Iw ((aQ.moves).length)) rfl rfl (fun B=>?_) ?_
 exact zS rT (ifpC ⟨B.1,B.2⟩) f.sl rflB
 refine xn (V:=.bool (decide (16<bh))) rfl rfl (fun C=>?_) ?_
 exact xj (ifpC ⟨C.1,C.2⟩) rfl rflB
 refine stc (V:=.bool bm) rfl rfl (fun K=>?_) ?_
 exact zz (ifpC K) (fun hbp=>(ifpC ⟨K,hbp⟩)) rflB
 refine st (zF rfl (fun hbp=>(ifpC hbp)) (st (mV (.bool ((decide ((aQ.kind)=4))&&bm)) (stc (V:=bg) rfl rfl (fun ba=>?_) ?_))))
 have bb:=ba
 exact mV bg rflB
 refine stc (V:=Iw j) rfl rfl (fun bc=>?_) ?_
 have bd:=bc
 exact mV (Iw j) rflB
 refine stc (V:=Ix (sb bg) (so bg+j*4)) rfl rfl (fun D=>?_) ?_
 have aq:=D
 have ar:j<((d.types.getD k default).fields).length:=bo
 exact zn lT mT (ifpC D) c.sl (ifpC D) ar rflB
 refine stc (V:=Ix (sb bg) (so bg+j*4)) rfl rfl (fun L=>?_) ?_
 have au:=L
 exact xA (ifpC L) rflB
 refine stc (V:=Iv (aQ.kind)) rfl rfl (fun M=>?_) ?_
 have av:=M
 have aj:=e.cells l bn
 exact lD (Iv (aQ.kind)) kT (ifpC M) (aj.get (j:=0) rfl) rflB
 refine stc (V:=.bool (!decide ((aQ.kind)=4))) rfl rfl (fun N=>?_) ?_
 have aw:=N
 exact yj (ifpC N) rfl rflB
 refine stc (V:=.bool (!decide ((aQ.kind)=4))) rfl rfl (fun O=>?_) ?_
 have ax:=O
 exact yg (ifpC O) rflB
 refine xn (V:=bg) rfl rfl (fun P=>?_) ?_
 have ay:=P.1
 exact mV bg rflB
 refine xn (V:=Iw j) rfl rfl (fun Q=>?_) ?_
 have az:=Q.1
 exact mV (Iw j) rflB
 refine xn (V:=Ix (sb bg) (so bg+j*4)) rfl rfl (fun g=>?_) ?_
 have aA:=g.1
 have aB:j<((d.types.getD k default).fields).length:=bo
 exact zn lT mT (ifpC ⟨g.1,g.2⟩) c.sl (ifpC ⟨g.1,g.2⟩) aB rflB
 refine xn (V:=Ix (sb bg) (so bg+j*4+3)) rfl rfl (fun q=>?_) ?_
 have aC:=q.1
 exact yQ (ifpC ⟨q.1,q.2⟩) rflB
 refine xn (V:=bk) rfl rfl (fun s=>?_) ?_
 have aD:=s.1
 have ak:=e.cells l bn
 exact lD bk uT (ifpC ⟨s.1,s.2⟩) (ak.get (j:=3) rfl) rflB
 refine xn (V:=Iw ((aQ.moves).length)) rfl rfl (fun t=>?_) ?_
 have aE:=t.1
 exact zS rT (ifpC ⟨t.1,t.2⟩) f.sl rflB
 refine xn (V:=.bool (!decide (bh=0))) rfl rfl (fun u=>?_) ?_
 have aF:=u.1
 try simp only[zh]at aF
 exact yj (ifpC ⟨u.1,u.2⟩) rfl rflB
 refine stc (V:=.bool ((!decide ((aQ.kind)=4))&&(!decide (bh=0)))) rfl rfl (fun E=>?_) ?_
 have aG:=E
 try simp only[zh]at aG
 exact zF (ifpC E) (fun hbp=>(ifpC ⟨E,hbp⟩)) rflB
 refine st (zz rfl (fun hbp=>(ifpC hbp)) (zb ?_))
 cases F:((decide (((((d.types.getD k default).fields).getD j default).kind)=4))&&((decide (((((((d.types.getD k default).fields).getD j default).moves).length:Nat):Int)=0))||(decide (16<((((((d.types.getD k default).fields).getD j default).moves).length:Nat):Int)))))||((!decide (((((d.types.getD k default).fields).getD j default).kind)=4))&&(!decide (((((((d.types.getD k default).fields).getD j default).moves).length:Nat):Int)=0)))
 try simp only[zh]at F
 refine zf rfl (zp (R0 fun _=>st (mV (Iw j) ?_)))
 have aH:InR ((j+1:Nat):Int):=bo
 refine st (zU (r:=((j+1:Nat):Int)) rfl rfl (by rw[show(((j:Nat):Int)+1:Int)=((j+1:Nat):Int)from bo];exact zJ aH) (st (aS (Iw (j+1)) (zb ?_))))
 exact⟨_,by omega,j+1,_,rfl,sSf,by omega,(yU aK (by unfold zem;have I:=F;omega)),e⟩
 refine zg rfl (za (R0 fun _=>st (aS (.bool true) (zb (zo (zN sR rfl ?_))))))
 refine⟨true,rfl,?_,(e.s1_)⟩
 intro I
 exact absurd I dc
 refine zg rfl (za (R0 fun _=>st (aS (.bool true) (zb (zo (zN sR rfl ?_))))))
 refine⟨true,rfl,?_,(m.s1_)⟩
 intro I
 exact absurd I dc
 refine zg rfl (za (R0 fun _=>st (aS (.bool true) (zb (zo (zN sR rfl ?_))))))
 refine⟨true,rfl,?_,(H.s1_)⟩
 intro I
 exact absurd I dc
theorem D_one {t:Typ}{dt0:Value}(hdt0:RdS W G dt0 t.fields)(ot:t.Ok){f:Fld}{df0:Value}(hdf0:RdS W G df0 f.moves)(of:f.Ok)(hS0:Sep G W Rs w):Ret Tryz.prog 64 [.agg (t.cells dt0).toArray,.agg (f.cells df0).toArray] w (fun r w'=> ∃(e:Int),r=(.int .i64 (e):Value)∧(InR e)∧(e=0→QX t f)∧Sep G W Rs w'):=by
 let cn:=decide (f.policy=1)
 let ck:=decide (f.policy=3)
 let cj:=decide (f.policy=2)
 let cm:=cj&&(!decide (f.kind=1))
 let ci:=((decide (f.policy=1))||((decide (f.policy=2))&&(!decide (f.kind=1))))||((decide (f.policy=3))&&(decide (f.kind=2)))
 have hdt0s:_*48≤_:=hdt0.small
 have hdf0s:_*32≤_:=hdf0.small
 refine zm Tryz.func64 rfl rfl ?_
 refine za (R0 fun _=>st (zT rfl ?_))
 intro w3 b2 cd
 let co:=Blk b2 (t.cells dt0).toArray 74
 refine st (zT rfl ?_)
 intro w7 l ce
 let cp:=Blk l (f.cells df0).toArray 106
 have g:=(hS0.new cd).new ce
 refine st (aS (Iv 0) (zb (za (za (zy kr (st (xA rfl (st (lD (Iv (f.kind)) kT rfl (zd (g.b0) rfl) (st (zI rfl rfl (st (mV (.bool (decide (f.kind<1))) (stc (V:=Ix l 0) rfl rfl (fun cf=>?_) ?_))))))))))))))
 have hl10:=fD cf
 exact xA rfl rflB
 refine stc (V:=Iv (f.kind)) rfl rfl (fun ay=>?_) ?_
 have hl12:=fD ay
 exact lD (Iv (f.kind)) kT (ifpC ay) (zd (g.b0) rfl) rflB
 refine stc (V:=.bool (decide (4<f.kind))) rfl rfl (fun az=>?_) ?_
 have hl14:=fD az
 exact xj (ifpC az) rfl rflB
 refine st (zz rfl (fun hbp=>(ifpC hbp)) (zb ?_))
 cases aA:(decide (f.kind<1))||(decide (4<f.kind))
 try simp only[zh]at aA
 refine zf rfl (zp (za (zy kr (st (Yq rfl (st (lD (Iv (f.policy)) kT rfl (zd (g.b0) rfl) (st (zR rfl rfl (st (mV (.bool cn) (stc (V:=Ix l 1) rfl rfl (fun bI=>?_) ?_))))))))))))
 have hl17:=fD bI
 exact Yq rfl rflB
 refine stc (V:=Iv (f.policy)) rfl rfl (fun aB=>?_) ?_
 have hl19:=fD aB
 exact lD (Iv (f.policy)) kT (ifpC aB) (zd (g.b0) rfl) rflB
 refine stc (V:=.bool cj) rfl rfl (fun aC=>?_) ?_
 have hl21:=fD aC
 exact zR (ifpC aC) rfl rflB
 refine stc (V:=.bool cj) rfl rfl (fun aD=>?_) ?_
 have hl23:=fD aD
 exact yg (ifpC aD) rflB
 refine xn (V:=Ix l 0) rfl rfl (fun aE=>?_) ?_
 have hl25:=fD aE.1
 have hl26:=tD aE.2
 exact xA rfl rflB
 refine xn (V:=Iv (f.kind)) rfl rfl (fun F=>?_) ?_
 have hl28:=fD F.1
 have hl29:=tD F.2
 exact lD (Iv (f.kind)) kT (ifpC ⟨F.1,F.2⟩) (zd (g.b0) rfl) rflB
 refine xn (V:=.bool (!decide (f.kind=1))) rfl rfl (fun H=>?_) ?_
 have hl31:=fD H.1
 have hl32:=tD H.2
 exact yj (ifpC ⟨H.1,H.2⟩) rfl rflB
 refine stc (V:=.bool cm) rfl rfl (fun T=>?_) ?_
 have hl34:=fD T
 exact zF (ifpC T) (fun hbp=>(ifpC ⟨T,hbp⟩)) rflB
 refine st (zz rfl (fun hbp=>(ifpC hbp)) (st (mV (.bool (cn||cm)) (stc (V:=Ix l 1) rfl rfl (fun bJ=>?_) ?_))))
 have bK:=bJ
 try simp only[zh]at bK
 exact Yq rfl rflB
 refine stc (V:=Iv (f.policy)) rfl rfl (fun aF=>?_) ?_
 have bL:=aF
 try simp only[zh]at bL
 exact lD (Iv (f.policy)) kT (ifpC aF) (zd (g.b0) rfl) rflB
 refine stc (V:=.bool ck) rfl rfl (fun aG=>?_) ?_
 have bM:=aG
 try simp only[zh]at bM
 exact zR (ifpC aG) rfl rflB
 refine stc (V:=.bool ck) rfl rfl (fun aH=>?_) ?_
 have bN:=aH
 try simp only[zh]at bN
 exact yg (ifpC aH) rflB
 refine xn (V:=Ix l 0) rfl rfl (fun aI=>?_) ?_
 have bO:=aI.1
 try simp only[zh]at bO
 have hl45:=tD aI.2
 exact xA rfl rflB
 refine xn (V:=Iv (f.kind)) rfl rfl (fun I=>?_) ?_
 have bP:=I.1
 try simp only[zh]at bP
 have hl48:=tD I.2
 exact lD (Iv (f.kind)) kT (ifpC ⟨I.1,I.2⟩) (zd (g.b0) rfl) rflB
 refine xn (V:=.bool (decide (f.kind=2))) rfl rfl (fun J=>?_) ?_
 have bQ:=J.1
 try simp only[zh]at bQ
 have hl51:=tD J.2
 exact zR (ifpC ⟨J.1,J.2⟩) rfl rflB
 refine stc (V:=.bool (ck&&(decide (f.kind=2)))) rfl rfl (fun U=>?_) ?_
 have bR:=U
 try simp only[zh]at bR
 exact zF (ifpC U) (fun hbp=>(ifpC ⟨U,hbp⟩)) rflB
 refine st (zz rfl (fun hbp=>(ifpC hbp)) (st (aS (.bool ci) (zb (za (za (zy kr (st (mV (.bool ci) (st (yw rfl (st (mV (.bool (!ci)) (stc (V:=Ix l 2) rfl rfl (fun bS=>?_) ?_))))))))))))))
 have bT:=bS
 try simp only[zh]at bT
 exact WG rfl rflB
 refine stc (V:=.bool (f.floor)) rfl rfl (fun aJ=>?_) ?_
 have bU:=aJ
 try simp only[zh]at bU
 exact lD (.bool (f.floor)) Tryz.isAgg4 (ifpC aJ) (zd (g.b0) rfl) rflB
 refine stc (V:=.bool (f.floor)) rfl rfl (fun aK=>?_) ?_
 have bV:=aK
 try simp only[zh]at bV
 exact yg (ifpC aK) rflB
 refine xn (V:=Ix l 0) rfl rfl (fun aL=>?_) ?_
 have bW:=aL.1
 try simp only[zh]at bW
 have hl62:=aL.2
 exact xA rfl rflB
 refine xn (V:=Iv (f.kind)) rfl rfl (fun K=>?_) ?_
 have bX:=K.1
 try simp only[zh]at bX
 have hl65:=K.2
 exact lD (Iv (f.kind)) kT (ifpC ⟨K.1,K.2⟩) (zd (g.b0) rfl) rflB
 refine xn (V:=.bool (!decide (f.kind=1))) rfl rfl (fun L=>?_) ?_
 have bY:=L.1
 try simp only[zh]at bY
 have hl68:=L.2
 exact yj (ifpC ⟨L.1,L.2⟩) rfl rflB
 refine stc (V:=.bool (f.floor&&(!decide (f.kind=1)))) rfl rfl (fun X=>?_) ?_
 have bZ:=X
 try simp only[zh]at bZ
 exact zF (ifpC X) (fun hbp=>(ifpC ⟨X,hbp⟩)) rflB
 refine st (zz rfl (fun hbp=>(ifpC hbp)) (zb ?_))
 cases Y:(!(((decide (f.policy=1))||((decide (f.policy=2))&&(!decide (f.kind=1))))||((decide (f.policy=3))&&(decide (f.kind=2)))))||(f.floor&&(!decide (f.kind=1)))
 try simp only[zh]at Y
 have hfl:f.floor=true→f.kind=1:=by
  intro D
  rcases Y.2 with h7|h7
  ·rw[D]at h7;cases h7
  ·exact h7
 refine zf rfl (zp (za (za (R0 fun _=>st (aS (Iv 0) (zb (zu (yf (fun mq σ Z=> ∃k ρ,mq=f.moves.length-k∧σ=yo ρ [(2,Ix b2 0),(3,Ix l 0),(6,Iw k)]∧(k≤f.moves.length)∧Sep G W ((Blk l (f.cells df0).toArray 106)::(Blk b2 (t.cells dt0).toArray 74)::Rs) Z) ⟨0,_,rfl,sSf,zY _,g⟩ ?_))))))))
 rintro m73 σ74 w72 ⟨k,ρl1,rfl,rfl,hkk,E⟩
 let ch:=f.moves.gd k
 let cl:=decide ((ch.need)=(-1))
 refine za (za (R0 fun _=>st (mV (Iw k) (st (yQ rfl (st (lD df0 uT rfl (zd (E.b0) rfl) (st (zS rT rfl hdf0.sl (st (zI rfl rfl (zb ?_))))))))))))
 cases M:decide (((k:Nat):Int)<((f.moves.length:Nat):Int))
 have M:=fD M
 refine zf rfl (yh (zX (za (za (R0 fun _=>st (aS (Iv 0) (zb (zu (yf (fun mq σ Z=> ∃j ρ,mq=f.moves.length-j∧σ=yo ρ [(2,Ix b2 0),(3,Ix l 0),(8,Iw j)]∧(j≤f.moves.length)∧(∀i,i<j→(f.moves.gd i).need= -1∨xk t (f.moves.gd i).need=1)∧Sep G W ((Blk l (f.cells df0).toArray 106)::(Blk b2 (t.cells dt0).toArray 74)::Rs) Z) ⟨0,_,rfl,sSf,zY _,(fun i h=>absurd h (yO i)),E⟩ ?_)))))))))
 rintro m78 σ79 w77 ⟨j,ρl2,rfl,rfl,hkj,hm,aa⟩
 let aU:=(f.moves.gd j).need
 refine za (za (R0 fun _=>st (mV (Iw j) (st (yQ rfl (st (lD df0 uT rfl (zd (aa.b0) rfl) (st (zS rT rfl hdf0.sl (st (zI rfl rfl (zb ?_))))))))))))
 cases N:decide (((j:Nat):Int)<((f.moves.length:Nat):Int))
 have N:=fD N
 refine zf rfl (yh (zX (za (R0 fun _=>st (aS (Iv 0) (zb (zo (zN lR rfl ?_))))))))
 refine⟨0,rfl,?_,?_,(aa.s2_)⟩
 decide
 intro D
 exact⟨by omega,hfl,fun i hi=>hm i om⟩
 have N:=tD N
 refine zg rfl (zp (za (zu (za ?_))))
 refine WD4 ((fun TT bH=>WF [fun vals Z=>Sep G W (bH::TT) Z,fun vals Z=>(vals 15=(if(!decide (aU=(-1)))=true then(Iv ((xk t aU)):Value)else undef))∧Sep G W (bH::TT) Z]) (co::Rs) cp) (AF [Vl 0 (Ix l 3),Vl 1 df0,Vl 2 (Iw j),Vl 3 (Ix (sb df0) (so df0+j*4)),Vl 4 (Ix (sb df0) (so df0+j*4+2)),Vl 5 (Iv aU),Vl 6 (.bool (!decide (aU=(-1)))),Vl 7 (.bool (!decide (aU=(-1)))),Vl 8 (if(!decide (aU=(-1)))=true then .agg (t.cells dt0).toArray else undef),Vl 9 (if(!decide (aU=(-1)))=true then Ix l 3 else undef),Vl 10 (if(!decide (aU=(-1)))=true then df0 else undef),Vl 11 (if(!decide (aU=(-1)))=true then Iw j else undef),Vl 12 (if(!decide (aU=(-1)))=true then Ix (sb df0) (so df0+j*4)else undef),Vl 13 (if(!decide (aU=(-1)))=true then Ix (sb df0) (so df0+j*4+2)else undef),Vl 14 (if(!decide (aU=(-1)))=true then Iv aU else undef),fun _=>True,Vl 16 (if(!decide (aU=(-1)))=true then .bool (!decide ((xk t aU)=1))else undef),Vl 17 (.bool ((!decide (aU=(-1)))&&(!decide ((xk t aU)=1))))]) [[],[0],[],[0,1,2],(rg 4),(rg 5),(rg 6),(rg 7),(rg 8),(rg 8),[0,1,2,3,4,5,6,7,9],(rg 8),[0,1,2,3,4,5,6,7,9,10,11],[0,1,2,3,4,5,6,7,9,10,11,12],[0,1,2,3,4,5,6,7,9,10,11,12,13],(rg 15),(rg 16),(rg 17)] [15] [(0,0),(0,0),(0,0),(0,0),(0,0),(0,0),(0,0),(0,0),(0,0),(0,0),(0,0),(0,0),(0,0),(0,0),(0,0),(0,0),(1,1),(1,1)] aa ⟨fun _ _ _ _ _ _ _=>obl rfl (yQ rfl dR),ob1 0 fun _ _ (aV:Sep _ _ _ _) aW=>obl rfl (lD df0 uT (aW 0 dc) (zd (aV.b0) rfl) dR),fun _ _ _ _ _ _ _=>obl rfl (mV (Iw j) dR),?_,fun _ _ _ _ _ _ aX=>obl rfl (Yw (aX 3 dc) dR),?_,ob1 0 fun _ _ _ aY=>obl rfl (yj (aY 5 dc) rfl dR),fun _ _ _ _ _ _ aZ=>obl rfl (yg (aZ 6 dc) dR),?_,?_,?_,?_,?_,?_,?_,?_,?_,fun _ _ _ _ _ _ ac=>obl rfl (zF (ac 7 dc) (fun hbp=>(zH (ac 16 dc) (ifpC hbp))) dR),zj⟩ ?_
 refine ob1 0 fun _ _ _ ad=>(obl rfl ?_)
 have ba:j<f.moves.length:=bo
 exact zn rT vT (ad 1 dc) hdf0.sl (ad 2 dc) ba dR
 refine ob1 0 fun _ _ (bb:Sep _ _ _ _) bc=>(obl rfl ?_)
 have ae:j<f.moves.length:=bo
 obtain⟨aM,hoke303⟩:=hdf0.mvD ae
 have aN:=bb.cells aM (hdf0.foot (ne_of_lt ae))
 exact lD (Iv aU) kT (bc 4 dc) (aN.get (j:=2) rfl) dR
 refine ob1 0 fun _ _ (bd:Sep _ _ _ _) be=>(yq rfl rfl (be 7 dc) (fun y=>?_) yD)
 exact ze tR qT rfl rfl (zi (bd.b1)) (yC y)
 refine fun _ _ _ _ _ _ bf=>(yq rfl rfl (bf 7 dc) (fun z=>?_) yD)
 exact yQ rfl (yC z)
 refine ob1 0 fun _ _ (bg:Sep _ _ _ _) af=>(yq rfl rfl (af 7 dc) (fun q=>?_) yD)
 exact lD df0 uT (zH (af 9 dc) (ifpC q)) (zd (bg.b0) rfl) (yC q)
 refine fun _ _ _ _ _ _ bh=>(yq rfl rfl (bh 7 dc) (fun A=>?_) yD)
 exact mV (Iw j) (yC A)
 refine ob1 0 fun _ _ _ O=>(yq rfl rfl (O 7 dc) (fun m=>?_) yD)
 have bi:j<f.moves.length:=bo
 exact zn rT vT (zH (O 10 dc) (ifpC m)) hdf0.sl (zH (O 11 dc) (ifpC m)) bi (yC m)
 refine fun _ _ _ _ _ _ ag=>(yq rfl rfl (ag 7 dc) (fun s=>?_) yD)
 exact Yw (zH (ag 12 dc) (ifpC s)) (yC s)
 refine ob1 0 fun _ _ (bj:Sep _ _ _ _) ah=>(yq rfl rfl (ah 7 dc) (fun u=>?_) yD)
 have ai:j<f.moves.length:=bo
 obtain⟨aO,hoke394⟩:=hdf0.mvD ai
 have aP:=bj.cells aO (hdf0.foot (ne_of_lt ai))
 exact lD (Iv aU) kT (zH (ah 13 dc) (ifpC u)) (aP.get (j:=2) rfl) (yC u)
 refine ob1 0 fun vals ca (P:Sep _ _ _ _) Q=>(yq rfl rfl (Q 7 dc) (fun o=>?_) (fun o c d cg=>?_))
 have aj:j<f.moves.length:=bo
 obtain⟨aQ,ax⟩:=hdf0.mvD aj
 refine(zO (vals:=[.agg (t.cells dt0).toArray,Iv aU]) rfl (yK ⟨(zH (Q 8 dc) (ifpC o)),(zH (Q 14 dc) (ifpC o)),zj⟩) mY (zbP hdt0 ot ax.need P) ?_)
 rintro _ w237 ⟨rfl,bk⟩
 exact fun c d cg=>⟨(zG (d.trans (ifpC o).symm) bk),zj⟩
 refine⟨?_,zj⟩
 show(c 15=(if(!decide (aU=(-1)))=true then(Iv ((xk t aU)):Value)else undef))∧Sep G W (cp::co::Rs) ca
 exact⟨(d.trans (ifnC o).symm),P⟩
 refine ob1 1 fun _ _ bl bm=>?_
 obtain⟨ak,hS403⟩:=bl
 refine yq rfl rfl (bm 7 dc) (fun x=>?_) yD
 have hl406:=zC x
 exact yj (zH ak (ifpC x)) rfl (yC x)
 intro vals w415 bn bp
 obtain⟨ak,al⟩:=bn
 have cb:=bp 17 dc
 refine yd (kv:=[(2,Ix b2 0),(3,Ix l 0),(8,Iw j),(81,Iw j),(82,Ix l 3),(83,df0),(84,Iw f.moves.length),(85,.bool true),(105,.bool ((!decide (aU=(-1)))&&(!decide ((xk t aU)=1))))]) ⟨rfl,rfl,rfl,rfl,rfl,rfl,rfl,rfl,(by exact cb),zj⟩ (fun ρw415=>(zb ?_))
 cases R:(!decide (((f.moves.gd j).need)=(-1)))&&(!decide ((xk t ((f.moves.gd j).need))=1))
 try simp only[zh]at R
 refine zf rfl (zp (R0 fun _=>st (mV (Iw j) ?_)))
 have bq:InR ((j+1:Nat):Int):=bo
 refine st (zU (r:=((j+1:Nat):Int)) rfl rfl (by rw[show(((j:Nat):Int)+1:Int)=((j+1:Nat):Int)from bo];exact zJ bq) (st (aS (Iw (j+1)) (zb ?_))))
 exact⟨_,by omega,j+1,_,rfl,sSf,by omega,(yU hm (by have D:=R;omega)),al⟩
 refine zg rfl (za (R0 fun _=>st (aS (Iv 8) (zb (zo (zN lR rfl ?_))))))
 refine⟨8,rfl,?_,?_,(al.s2_)⟩
 decide
 intro D
 exact absurd D dc
 have M:=tD M
 refine zg rfl (zp (za (zu (za (R0 fun _=>st (yQ rfl (st (lD df0 uT rfl (zd (E.b0) rfl) (st (mV (Iw k) ?_))))))))))
 have br:k<f.moves.length:=bo
 refine st (zn rT vT rfl hdf0.sl rfl br ?_)
 have am:k<f.moves.length:=bo
 obtain⟨aR,hoke424⟩:=hdf0.mvD am
 have aT:=E.cells aR (hdf0.foot (ne_of_lt am))
 refine st (ze nY vT rfl rfl aT (st (zv oY ?_)))
 intro w429 ab bs
 have an:=E.new bs
 refine stn (zr (v:=.agg (ch.cells).toArray) vT rfl rfl (an.b0) (zZ ⟨rfl,rfl,rfl,rfl,zj⟩) yqc rfl ?_)
 intro cc bt
 have p:=an.pt0 bt
 refine zb (za (zy kr (st (UY rfl (st (lD (Iv (ch.frm)) kT rfl (zd (p.b0) rfl) (st (zI rfl rfl (st (mV (.bool (decide ((ch.frm)<0))) (stc (V:=Ix ab 1) rfl rfl (fun bu=>?_) ?_)))))))))))
 exact UP rfl rflB
 refine stc (V:=Iv (ch.to)) rfl rfl (fun ao=>?_) ?_
 exact lD (Iv (ch.to)) kT (ifpC ao) (zd (p.b0) rfl) rflB
 refine stc (V:=.bool (decide ((ch.to)<0))) rfl rfl (fun ap=>?_) ?_
 exact zI (ifpC ap) rfl rflB
 refine st (zz rfl (fun hbp=>(ifpC hbp)) (st (mV (.bool ((decide ((ch.frm)<0))||(decide ((ch.to)<0)))) (stc (V:=Ix ab 2) rfl rfl (fun bv=>?_) ?_))))
 have bw:=bv
 exact Yw rfl rflB
 refine stc (V:=Iv (ch.need)) rfl rfl (fun aq=>?_) ?_
 have bx:=aq
 exact lD (Iv (ch.need)) kT (ifpC aq) (zd (p.b0) rfl) rflB
 refine stc (V:=.bool cl) rfl rfl (fun ar=>?_) ?_
 have bz:=ar
 exact zR (ifpC ar) rfl rflB
 refine stc (V:=.bool cl) rfl rfl (fun au=>?_) ?_
 have bA:=au
 exact yg (ifpC au) rflB
 refine xn (V:=Ix ab 3) rfl rfl (fun av=>?_) ?_
 have bB:=av.1
 exact UO rfl rflB
 refine xn (V:=Iv (ch.least)) rfl rfl (fun B=>?_) ?_
 have bC:=B.1
 exact lD (Iv (ch.least)) kT (ifpC ⟨B.1,B.2⟩) (zd (p.b0) rfl) rflB
 refine xn (V:=.bool (!decide ((ch.least)=0))) rfl rfl (fun C=>?_) ?_
 have bD:=C.1
 exact yj (ifpC ⟨C.1,C.2⟩) rfl rflB
 refine stc (V:=.bool (cl&&(!decide ((ch.least)=0)))) rfl rfl (fun S=>?_) ?_
 have bE:=S
 exact zF (ifpC S) (fun hbp=>(ifpC ⟨S,hbp⟩)) rflB
 refine st (zz rfl (fun hbp=>(ifpC hbp)) (zb ?_))
 cases aw:((decide (((f.moves.gd k).frm)<0))||(decide (((f.moves.gd k).to)<0)))||((decide (((f.moves.gd k).need)=(-1)))&&(!decide (((f.moves.gd k).least)=0)))
 refine zf rfl (zp (R0 fun _=>st (mV (Iw k) ?_)))
 have bF:InR ((k+1:Nat):Int):=bo
 refine st (zU (r:=((k+1:Nat):Int)) rfl rfl (by rw[show(((k:Nat):Int)+1:Int)=((k+1:Nat):Int)from bo];exact zJ bF) (st (aS (Iw (k+1)) (zb ?_))))
 have bG:Sep G W (cp::co::Rs) cc:=p.sel 3 [1,2] (yL _ _) rfl rfl
 exact⟨_,by omega,k+1,_,rfl,sSf,by omega,bG⟩
 refine zg rfl (za (R0 fun _=>st (aS (Iv 1) (zb (zo (zN lR rfl ?_))))))
 refine⟨1,rfl,?_,?_,(p.s3_)⟩
 decide
 intro D
 exact absurd D dc
 refine zg rfl (za (R0 fun _=>st (aS (Iv 1) (zb (zo (zN lR rfl ?_))))))
 refine⟨1,rfl,?_,?_,(g.s2_)⟩
 decide
 intro D
 exact absurd D dc
 refine zg rfl (za (R0 fun _=>st (aS (Iv 2) (zb (zo (zN lR rfl ?_))))))
 refine⟨2,rfl,?_,?_,(g.s2_)⟩
 decide
 intro D
 exact absurd D dc
theorem Jg:Elem Tryz.prog 104 143 4 32:=⟨rT,_,_,rfl,rfl,rfl,rfl,rfl⟩
theorem zdv {d:Dcl}{dd0:Value}(hdd0:RdS W G dd0 d.types){dd1:Value}(hdd1:RdS W G dd1 d.projs)(od:d.Ok){ty:Int}(hty:InR ty){fi:Int}(hfi:InR fi)(hS0:Sep G W Rs w):Ret Tryz.prog 65 [.agg (d.cells dd0 dd1).toArray,.int .i64 (ty),.int .i64 (fi)] w (fun r w'=> ∃(c1:Int) (c2:Int) (c3:Bool) (dx:Value) (b:Bool),r=(.tuple #[.agg #[.int .i64 (c1),.int .i64 (c2),.bool c3,dx],.bool b]:Value)∧(dx.oneCell'=true)∧(b=true→(0≤ty∧ty<d.types.length)∧0≤fi∧fi<(d.types.getD ty.toNat default).fields.length)∧Sep G W Rs w'):=by
 let aN:=zV W (sb dd0) (so dd0+ty.toNat*1+0)
 let aO:=zV W (sb aN) (so aN+fi.toNat*4+3)
 have hdd0s:_*24≤_:=hdd0.small
 have hdd1s:_*40≤_:=hdd1.small
 refine zm (args:=[.agg (d.cells dd0 dd1).toArray,Iv ty,Iv fi]) Tryz.func65 rfl rfl ?_
 refine za (R0 fun _=>st (zT (v:=.agg (d.cells dd0 dd1).toArray) rfl ?_))
 intro w3 b2 aK
 refine st (zv uR ?_)
 intro w7 S aL
 have g:=(hS0.new aK).new aL
 refine st (aS (.bool false) (zb (za (za (zy kr (st (mV (Iv ty) (st (zI (k:=.i64) (a:=ty) (b:=0) rfl rfl (st (mV (.bool (decide (ty<0))) (stc (V:=Iv ty) rfl rfl (fun aM=>?_) ?_))))))))))))
 have hl10:=fD aM
 exact mV (Iv ty) rflB
 refine stc (V:=Ix b2 0) rfl rfl (fun ai=>?_) ?_
 have hl12:=fD ai
 exact yJ rfl rflB
 refine stc (V:=dd0) rfl rfl (fun A=>?_) ?_
 have hl14:=fD A
 exact lD dd0 oT (ifpC A) (zd (g.b1) rfl) rflB
 refine stc (V:=Iw d.types.length) rfl rfl (fun B=>?_) ?_
 have hl16:=fD B
 exact zS (n:=d.types.length) pT (ifpC B) hdd0.sl rflB
 refine stc (V:=.bool (decide (((d.types.length:Nat):Int)≤ty))) rfl rfl (fun q=>?_) ?_
 have hl18:=fD q
 exact xh (k:=.i64) (a:=ty) (b:=((d.types.length:Nat):Int)) (ifpC q) (ifpC q) rflB
 refine st (zz (b:=decide (ty<0)) (b':=decide (((d.types.length:Nat):Int)≤ty)) rfl (fun hbp=>(ifpC hbp)) (st (mV (.bool ((decide (ty<0))||(decide (((d.types.length:Nat):Int)≤ty)))) (stc (V:=Iv fi) rfl rfl (fun aj=>?_) ?_))))
 have ak:=aj
 try simp only[zh]at ak
 exact mV (Iv fi) rflB
 refine stc (V:=.bool (decide (fi<0))) rfl rfl (fun C=>?_) ?_
 have al:=C
 try simp only[zh]at al
 exact zI (k:=.i64) (a:=fi) (b:=0) (ifpC C) rfl rflB
 refine st (zz (b:=(decide (ty<0))||(decide (((d.types.length:Nat):Int)≤ty))) (b':=decide (fi<0)) rfl (fun hbp=>(ifpC hbp)) (st (mV (.bool (((decide (ty<0))||(decide (((d.types.length:Nat):Int)≤ty)))||(decide (fi<0)))) (stc (V:=Iv fi) rfl rfl (fun am=>?_) ?_))))
 have an:=am
 try simp only[zh]at an
 exact mV (Iv fi) rflB
 refine stc (V:=Ix b2 0) rfl rfl (fun ao=>?_) ?_
 have ap:=ao
 try simp only[zh]at ap
 exact yJ rfl rflB
 refine stc (V:=dd0) rfl rfl (fun D=>?_) ?_
 have aq:=D
 try simp only[zh]at aq
 exact lD dd0 oT (ifpC D) (zd (g.b1) rfl) rflB
 refine stc (V:=Iv ty) rfl rfl (fun ar=>?_) ?_
 have au:=ar
 try simp only[zh]at au
 exact mV (Iv ty) rflB
 refine stc (V:=Ix (sb dd0) (so dd0+ty.toNat*1)) rfl rfl (fun s=>?_) ?_
 have av:=s
 try simp only[zh]at av
 have hi33:ty.toNat<d.types.length:=bo
 exact zA (k:=1) (i:=ty) pT qT (ifpC s) hdd0.sl (ifpC s) ⟨by omega,by omega⟩ rflB
 refine stc (V:=Ix (sb dd0) (so dd0+ty.toNat*1)) rfl rfl (fun E=>?_) ?_
 have aw:=E
 try simp only[zh]at aw
 exact xi (ifpC E) rflB
 refine stc (V:=aN) rfl rfl (fun F=>?_) ?_
 have ax:=F
 try simp only[zh]at ax
 have H:ty.toNat<d.types.length:=bo
 obtain⟨T,z,hoke38⟩:=hdd0.typD H
 have hsm40:((d.types.getD ty.toNat default).fields).length*48≤140737488355328:=z.small
 have U:=g.cells T (hdd0.foot (ne_of_lt H))
 exact lD aN tT (ifpC F) (U.get (j:=0) rfl) rflB
 refine stc (V:=Iw (((d.types.getD ty.toNat default).fields).length)) rfl rfl (fun I=>?_) ?_
 have ay:=I
 try simp only[zh]at ay
 have J:ty.toNat<d.types.length:=bo
 obtain⟨X,l,hoke44⟩:=hdd0.typD J
 have hsm46:((d.types.getD ty.toNat default).fields).length*48≤140737488355328:=l.small
 have hcw47:=g.cells X (hdd0.foot (ne_of_lt J))
 exact zS (n:=((d.types.getD ty.toNat default).fields).length) lT (ifpC I) l.sl rflB
 refine stc (V:=.bool (decide (((((d.types.getD ty.toNat default).fields).length:Nat):Int)≤fi))) rfl rfl (fun t=>?_) ?_
 have az:=t
 try simp only[zh]at az
 exact xh (k:=.i64) (a:=fi) (b:=((((d.types.getD ty.toNat default).fields).length:Nat):Int)) (ifpC t) (ifpC t) rflB
 refine st (zz (b:=((decide (ty<0))||(decide (((d.types.length:Nat):Int)≤ty)))||(decide (fi<0))) (b':=decide (((((d.types.getD ty.toNat default).fields).length:Nat):Int)≤fi)) rfl (fun hbp=>(ifpC hbp)) (zb ?_))
 cases K:(((decide (ty<0))||(decide (((d.types.length:Nat):Int)≤ty)))||(decide (fi<0)))||(decide (((((d.types.getD ty.toNat default).fields).length:Nat):Int)≤fi))
 try simp only[zh]at K
 refine zf rfl (zp (za (R0 fun _=>st (yJ rfl (st (lD dd0 oT rfl (zd (g.b1) rfl) (st (mV (Iv ty) ?_))))))))
 have hi51:ty.toNat<d.types.length:=bo
 refine st (zA (k:=1) (i:=ty) pT qT rfl hdd0.sl rfl ⟨by omega,by omega⟩ (st (xi rfl ?_)))
 have L:ty.toNat<d.types.length:=bo
 obtain⟨Y,f,hoke52⟩:=hdd0.typD L
 have hsm54:((d.types.getD ty.toNat default).fields).length*48≤140737488355328:=f.small
 have Z:=g.cells Y (hdd0.foot (ne_of_lt L))
 refine st (lD aN tT rfl (Z.get (j:=0) rfl) (st (mV (Iv fi) ?_)))
 have hi56:fi.toNat<((d.types.getD ty.toNat default).fields).length:=bo
 refine st (zA (k:=4) (i:=fi) lT mT rfl f.sl rfl ⟨by omega,by omega⟩ ?_)
 have M:fi.toNat<((d.types.getD ty.toNat default).fields).length:=bo
 obtain⟨aa,e,p⟩:=f.fldD M
 have hsm59:((((d.types.getD ty.toNat default).fields).getD fi.toNat default).moves).length*32≤140737488355328:=e.small
 have ab:=g.cells aa (f.foot (ne_of_lt M))
 refine st (ze (k:=4) mR mT rfl rfl ab (st (zv uR ?_)))
 intro w63 ag aA
 have N:=g.new aA
 refine stn (zr (v:=.agg ((((d.types.getD ty.toNat default).fields).getD fi.toNat default).cells aO).toArray) (c':=((((d.types.getD ty.toNat default).fields).getD fi.toNat default).cells aO).toArray) mT rfl rfl (N.b0) (zZ ⟨rfl,rfl,rfl,e.sl.one,zj⟩) yqc rfl ?_)
 intro w65 aB
 refine zb (za (R0 fun _=>st (aS Iz (zb (za (za (R0 fun _=>st (aS (Iv 0) (zb (zu ?_))))))))))
 have aC:Sep _ _ ((RowE (α:=Mv) own 143 Iz ([]:List Mv))::_) _:=(N.pt0 aB).rowNil own 143
 refine yf (fun mq σ wq=> ∃(k:Nat) (vm:Value) (ρ:Env),mq=((d.types.getD ty.toNat default).fields.getD fi.toNat default).moves.length-k∧σ=yo ρ [(3,Ix b2 0),(6,Ix S 0),(8,Ix ag 0),(10,Iw k),(9,vm)]∧(k≤((d.types.getD ty.toNat default).fields.getD fi.toNat default).moves.length)∧Sep G W ((RowE (α:=Mv) own 143 vm (((d.types.getD ty.toNat default).fields.getD fi.toNat default).moves.take k))::(Blk ag ((((d.types.getD ty.toNat default).fields).getD fi.toNat default).cells (zV W (sb (zV W (sb dd0) (so dd0+ty.toNat*1+0))) (so (zV W (sb dd0) (so dd0+ty.toNat*1+0))+fi.toNat*4+3))).toArray 106)::(Blk S #[Iv 0,Iv 0,.bool false,(Iz)] 106)::(Blk b2 (d.cells dd0 dd1).toArray 25)::Rs) wq) ⟨0,(Iz),_,rfl,sSf,zY _,aC⟩ ?_
 rintro m70 σ71 w69 ⟨k,vm,ρl1,rfl,rfl,hkk,h⟩
 have m:=h.r0
 have hr73s:_*32≤_:=m.2
 refine za (za (R0 fun _=>st (mV (Iw k) (st (yQ rfl (st (lD aO uT rfl (zd (h.b1) rfl) (st (zS (n:=((((d.types.getD ty.toNat default).fields).getD fi.toNat default).moves).length) rT rfl e.sl (st (zI (k:=.i64) (a:=((k:Nat):Int)) (b:=((((((d.types.getD ty.toNat default).fields).getD fi.toNat default).moves).length:Nat):Int)) rfl rfl (zb ?_))))))))))))
 cases o:decide (((k:Nat):Int)<((((((d.types.getD ty.toNat default).fields).getD fi.toNat default).moves).length:Nat):Int))
 have o:=fD o
 refine zf rfl (yh (zX (za (R0 fun _=>st (mV vm (st (yQ rfl (stn (yr (v:=vm) (c:=[Iv ((((d.types.getD ty.toNat default).fields).getD fi.toNat default).kind),Iv ((((d.types.getD ty.toNat default).fields).getD fi.toNat default).policy),.bool ((((d.types.getD ty.toNat default).fields).getD fi.toNat default).floor),aO]) (c':=[Iv ((((d.types.getD ty.toNat default).fields).getD fi.toNat default).kind),Iv ((((d.types.getD ty.toNat default).fields).getD fi.toNat default).policy),.bool ((((d.types.getD ty.toNat default).fields).getD fi.toNat default).floor),vm]) Tryz.sizeOf104 rfl rfl (h.b1) m.1.one rfl rfl ?_)))))))))
 intro w75 aD
 have ok77:Fld.Ok (⟨(((d.types.getD ty.toNat default).fields).getD fi.toNat default).kind,(((d.types.getD ty.toNat default).fields).getD fi.toNat default).policy,(((d.types.getD ty.toNat default).fields).getD fi.toNat default).floor,((d.types.getD ty.toNat default).fields.getD fi.toNat default).moves.take k⟩:Fld):=⟨(show InR ((((d.types.getD ty.toNat default).fields).getD fi.toNat default).kind)from p.kind),(show InR ((((d.types.getD ty.toNat default).fields).getD fi.toNat default).policy)from p.policy)⟩
 have u:=h.pt1 aD
 refine zb (za (R0 fun _=>st (ze (k:=4) mR mT rfl rfl (zi (u.b1)) (stn (zr (v:=.agg ((⟨(((d.types.getD ty.toNat default).fields).getD fi.toNat default).kind,(((d.types.getD ty.toNat default).fields).getD fi.toNat default).policy,(((d.types.getD ty.toNat default).fields).getD fi.toNat default).floor,((d.types.getD ty.toNat default).fields.getD fi.toNat default).moves.take k⟩:Fld).cells vm).toArray) (c':=((⟨(((d.types.getD ty.toNat default).fields).getD fi.toNat default).kind,(((d.types.getD ty.toNat default).fields).getD fi.toNat default).policy,(((d.types.getD ty.toNat default).fields).getD fi.toNat default).floor,((d.types.getD ty.toNat default).fields.getD fi.toNat default).moves.take k⟩:Fld).cells vm).toArray) mT rfl rfl (u.b2) (zZ ⟨rfl,rfl,rfl,m.1.one,zj⟩) yqc rfl ?_)))))
 intro w79 aE
 have O:=u.pt2 aE
 refine st (aS (.bool true) (zb (zo (xY (b:=S) pY mR mT rfl rfl (zi (O.b2)) (show _=(.bool true:Value)from rfl) ?_))))
 refine⟨(((d.types.getD ty.toNat default).fields).getD fi.toNat default).kind,(((d.types.getD ty.toNat default).fields).getD fi.toNat default).policy,(((d.types.getD ty.toNat default).fields).getD fi.toNat default).floor,vm,true,rfl,?_,?_,(O.s4_)⟩
 exact m.1.one
 intro _;omega
 have o:=tD o
 refine zg rfl (zp (za (zu (R0 fun _=>st (mV vm (st (yQ rfl (st (lD aO uT rfl (zd (h.b1) rfl) (st (mV (Iw k) ?_)))))))))))
 have aF:k<((((d.types.getD ty.toNat default).fields).getD fi.toNat default).moves).length:=bo
 refine st (zn (k:=4) (i:=k) rT vT rfl e.sl rfl aF ?_)
 have P:k<((((d.types.getD ty.toNat default).fields).getD fi.toNat default).moves).length:=bo
 obtain⟨ac,Q⟩:=e.mvD P
 have ad:=h.cells ac (e.foot (ne_of_lt P))
 refine st (ze (k:=4) nY vT rfl rfl ad (st (zL (k:=4) (parts':=[(0,.agg ((((((d.types.getD ty.toNat default).fields).getD fi.toNat default).moves).getD k default).cells).toArray)]) (c:=((((((d.types.getD ty.toNat default).fields).getD fi.toNat default).moves).getD k default).cells).toArray) rT vT oY dc rfl kr ?_)))
 intro w89 b88 aG
 have R:=h.new aG
 have ae:=R.b0
 refine st (yx (src:=own) (bytes:=32) (x1:=(((((d.types.getD ty.toNat default).fields).getD fi.toNat default).moves).getD k default)) ((R.s5_bcde).emp1) Jg rfl rfl ae (fun _ _ _=>(show _ from⟨rfl,Q⟩)) yqb rfl ?_)
 intro ah w91 x
 have aH:=x.r0
 have hr97s:_*32≤_:=aH.2
 refine st (aS ah (zb (R0 fun _=>st (mV (Iw k) ?_))))
 have aI:InR ((k+1:Nat):Int):=bo
 refine st (zU (r:=((k+1:Nat):Int)) (k:=.i64) (a:=((k:Nat):Int)) (b:=1) rfl rfl (by rw[show(((k:Nat):Int)+1:Int)=((k+1:Nat):Int)from bo];exact zJ aI) (st (aS (Iw (k+1)) (zb ?_))))
 have aJ:(((d.types.getD ty.toNat default).fields.getD fi.toNat default).moves.take (k+1))=(((d.types.getD ty.toNat default).fields.getD fi.toNat default).moves.take k)++[(((((d.types.getD ty.toNat default).fields).getD fi.toNat default).moves).getD k default)]:=(List.take_getD om)
 rw[←aJ]at x
 exact⟨_,by omega,k+1,ah,_,rfl,sSf,by omega,x⟩
 try simp only[zh]at K
 refine zg rfl (za (R0 fun _=>?_))
 have ok100:Fld.Ok (⟨0,0,false,[]⟩:Fld):=⟨(show InR (0)from dc),(show InR (0)from dc)⟩
 refine st (zQ (parts':=[]) (v:=.agg ((⟨0,0,false,[]⟩:Fld).cells Iz).toArray) rfl (by simp+zetaDelta [Instr.build,Instr.fill,go_sem,YR]) (stn (zr (v:=.agg ((⟨0,0,false,[]⟩:Fld).cells Iz).toArray) (c':=((⟨0,0,false,[]⟩:Fld).cells Iz).toArray) mT rfl rfl (g.b0) (zZ ⟨rfl,rfl,rfl,rfl,zj⟩) yqc rfl ?_)))
 intro w101 af
 have y:=g.pt0 af
 refine st (aS (.bool false) (zb (zo (xY (b:=S) pY mR mT rfl rfl (zi (y.b0)) (show _=(.bool false:Value)from rfl) ?_))))
 refine⟨0,0,false,(Iz),false,rfl,?_,?_,(y.s2_)⟩
 rfl
 intro h9;cases h9
theorem zcT {d:Dcl}{dd0:Value}(hdd0:RdS W G dd0 d.types){dd1:Value}(hdd1:RdS W G dd1 d.projs)(od:d.Ok)(hS0:Sep G W Rs w):Ret Tryz.prog 26 [.agg (d.cells dd0 dd1).toArray] w (fun r w'=> ∃(e:Int),r=(.int .i64 (e):Value)∧(InR e)∧(e=0→DclOk d∧zbf d)∧Sep G W Rs w'):=by
 have hdd0s:_*24≤_:=hdd0.small
 have hdd1s:_*40≤_:=hdd1.small
 refine zm (args:=[.agg (d.cells dd0 dd1).toArray]) Tryz.func26 rfl rfl ?_
 refine za (R0 fun _=>st (zT (v:=.agg (d.cells dd0 dd1).toArray) rfl ?_))
 intro w3 b2 df
 let dj:=Blk b2 (d.cells dd0 dd1).toArray 25
 have cQ:=hS0.new df
 refine st (aS (Iv 0) (zb (za (za (R0 fun _=>st (ze (k:=2) qY rY rfl rfl (zi (cQ.b0)) (st (cL Tryz.call63 (zep (d:=d) hdd0 hdd1 od cQ) ?_))))))))
 rintro _ w7 ⟨b5,rfl,dg,cR⟩
 refine zb ?_
 cases dh:b5
 have hfew:=dg dh
 refine zf rfl (zp (za (za (R0 fun _=>st (aS (Iv 0) (zb (zu (yf (fun mq σ S=> ∃(k:Nat) (ρ:Env),mq=d.types.length-k∧σ=yo ρ [(1,Ix b2 0),(3,Iw k)]∧(k≤d.types.length)∧(∀i,i<k→ ∀j,j<(d.types.getD i default).fields.length→QX (d.types.getD i default) ((d.types.getD i default).fields.getD j default))∧Sep G W ((Blk b2 (d.cells dd0 dd1).toArray 25)::Rs) S) ⟨0,_,rfl,sSf,zY _,(fun i h=>absurd h (yO i)),cR⟩ ?_))))))))
 rintro m11 σ12 w10 ⟨k,ρl1,rfl,rfl,hkk,hm,aw⟩
 let aj:=zV W (sb dd0) (so dd0+k*1+0)
 refine za (za (R0 fun _=>st (mV (Iw k) (st (yJ rfl (st (lD dd0 oT rfl (zd (aw.b0) rfl) (st (zS (n:=d.types.length) pT rfl hdd0.sl (st (zI (k:=.i64) (a:=((k:Nat):Int)) (b:=((d.types.length:Nat):Int)) rfl rfl (zb ?_))))))))))))
 cases ak:decide (((k:Nat):Int)<((d.types.length:Nat):Int))
 have ak:=fD ak
 refine zf rfl (yh (zX (za (za (R0 fun _=>st (aS (Iv 0) (zb (zu (yf (fun mq σ S=> ∃(z:Nat) (ρ:Env),mq=d.projs.length-z∧σ=yo ρ [(1,Ix b2 0),(6,Iw z)]∧(z≤d.projs.length)∧(∀i,i<z→Jw (d.projs.getD i default))∧Sep G W ((Blk b2 (d.cells dd0 dd1).toArray 25)::Rs) S) ⟨0,_,rfl,sSf,zY _,(fun i h=>absurd h (yO i)),aw⟩ ?_)))))))))
 rintro m16 σ17 w15 ⟨z,ρl2,rfl,rfl,hkz,hpz,ad⟩
 let di:=(d.projs.getD z default).cells
 refine za (za (R0 fun _=>st (mV (Iw z) (st (Ym rfl (st (lD dd1 pR rfl (zd (ad.b0) rfl) (st (zS (n:=d.projs.length) qR rfl hdd1.sl (st (zI (k:=.i64) (a:=((z:Nat):Int)) (b:=((d.projs.length:Nat):Int)) rfl rfl (zb ?_))))))))))))
 cases al:decide (((z:Nat):Int)<((d.projs.length:Nat):Int))
 have al:=fD al
 refine zf rfl (yh (zX (za (R0 fun _=>st (aS (Iv 0) (zb (zo (zN kR (show _=(Iv 0:Value)from rfl) ?_))))))))
 refine⟨0,rfl,?_,?_,(ad.s1_)⟩
 first|decide|assumption
 intro h9
 exact⟨zeo hfew.1 (fun i hi=>hm i om),hfew.2,fun i hi=>hpz i om⟩
 have al:=tD al
 refine zg rfl (zp (za (zu (za (R0 fun _=>st (Ym rfl (st (lD dd1 pR rfl (zd (ad.b0) rfl) (st (mV (Iw z) ?_))))))))))
 have cT:z<d.projs.length:=bo
 refine st (zn (k:=5) (i:=z) qR vR rfl hdd1.sl rfl cT ?_)
 have bh:z<d.projs.length:=bo
 obtain⟨bx,ae⟩:=hdd1.prjD bh
 have bz:=ad.cells bx (hdd1.foot (ne_of_lt bh))
 refine st (ze (k:=5) Tryz.isAgg112 vR rfl rfl bz (st (zv Tryz.zeroValue112 ?_)))
 intro w27 u cU
 have bi:=ad.new cU
 refine stn (zr (v:=.agg di.toArray) (c':=di.toArray) vR rfl rfl (bi.b0) (zZ ⟨rfl,rfl,rfl,rfl,rfl,zj⟩) yqc rfl ?_)
 intro w29 cV
 have am:=bi.pt0 cV
 refine zb (za (R0 fun _=>st (ze (k:=2) qY rY rfl rfl (zi (am.b1)) (st (Jr rfl (st (lD (Iv ((d.projs.getD z default).ptyp)) kT rfl (zd (am.b0) rfl) (st (zdi rfl (st (lD (Iv ((d.projs.getD z default).pfield)) kT rfl (zd (am.b0) rfl) (st (cL Tryz.call65 (zdv (d:=d) (ty:=(d.projs.getD z default).ptyp) (fi:=(d.projs.getD z default).pfield) hdd0 hdd1 od ae.ptyp ae.pfield am) ?_)))))))))))))
 rintro _ w39 ⟨o,p,q,s,x,rfl,hdx37,bj,cW⟩
 refine st (mV (.tuple #[.agg #[Iv o,Iv p,.bool q,s],.bool x]) (st (zl (vs:=[.agg #[Iv o,Iv p,.bool q,s],.bool x]) (i:=0) (v:=.agg #[Iv o,Iv p,.bool q,s]) rfl rfl (st (zl (vs:=[.agg #[Iv o,Iv p,.bool q,s],.bool x]) (i:=1) (v:=.bool x) rfl rfl (st (zv uR ?_)))))))
 intro w43 bk cX
 have bl:=cW.new cX
 refine stn (zr (v:=.agg #[Iv o,Iv p,.bool q,s]) (c':=#[Iv o,Iv p,.bool q,s]) mT rfl rfl (bl.b0) (zZ ⟨rfl,rfl,rfl,(by assumption),zj⟩) yqc rfl ?_)
 intro w45 cY
 have bm:=bl.pt0 cY
 refine st (aS (.bool x) (zb (za (za (R0 fun _=>st (mV (.bool x) (st (yw (a:=x) rfl (zb ?_)))))))))
 cases ax: !x
 try simp only[zh]at ax
 have hpt:=bj (by have h9:=ax;simpa using h9)
 refine zf rfl (zp (za (za ?_)))
 refine WD4 ((fun TT av=>WF [fun vals S=>Sep G W (av::TT) S,fun vals S=>(vals 12=(if(decide (((d.projs.getD z default).pgroup)=3))=true then(Iv ((xk (d.types.getD (((d.projs.getD z default).ptyp).toNat) default) ((d.projs.getD z default).pby))):Value)else undef))∧Sep G W (av::TT) S]) ((Blk u di.toArray 112)::dj::Rs) (Blk bk #[Iv o,Iv p,.bool q,s] 106)) (AF [Vl 0 (Ix u 2),Vl 1 (Iv ((d.projs.getD z default).pgroup)),Vl 2 (.bool (decide (((d.projs.getD z default).pgroup)=3))),Vl 3 (.bool (decide (((d.projs.getD z default).pgroup)=3))),Vl 4 (if(decide (((d.projs.getD z default).pgroup)=3))=true then Ix b2 0 else undef),Vl 5 (if(decide (((d.projs.getD z default).pgroup)=3))=true then dd0 else undef),Vl 6 (if(decide (((d.projs.getD z default).pgroup)=3))=true then Ix u 0 else undef),Vl 7 (if(decide (((d.projs.getD z default).pgroup)=3))=true then Iv ((d.projs.getD z default).ptyp)else undef),Vl 8 (if(decide (((d.projs.getD z default).pgroup)=3))=true then Ix (sb dd0) (so dd0+(((d.projs.getD z default).ptyp).toNat)*1)else undef),Vl 9 (if(decide (((d.projs.getD z default).pgroup)=3))=true then .agg ((d.types.getD (((d.projs.getD z default).ptyp).toNat) default).cells (zV W (sb dd0) (so dd0+(((d.projs.getD z default).ptyp).toNat)*1+0))).toArray else undef),Vl 10 (if(decide (((d.projs.getD z default).pgroup)=3))=true then Ix u 3 else undef),Vl 11 (if(decide (((d.projs.getD z default).pgroup)=3))=true then Iv ((d.projs.getD z default).pby)else undef),fun _=>True,Vl 13 (if(decide (((d.projs.getD z default).pgroup)=3))=true then .bool (!decide ((xk (d.types.getD (((d.projs.getD z default).ptyp).toNat) default) ((d.projs.getD z default).pby))=2))else undef),Vl 14 (.bool ((decide (((d.projs.getD z default).pgroup)=3))&&(!decide ((xk (d.types.getD (((d.projs.getD z default).ptyp).toNat) default) ((d.projs.getD z default).pby))=2)))),Vl 15 (.bool ((decide (((d.projs.getD z default).pgroup)=3))&&(!decide ((xk (d.types.getD (((d.projs.getD z default).ptyp).toNat) default) ((d.projs.getD z default).pby))=2)))),Vl 16 (if((decide (((d.projs.getD z default).pgroup)=3))&&(!decide ((xk (d.types.getD (((d.projs.getD z default).ptyp).toNat) default) ((d.projs.getD z default).pby))=2)))=false then Ix u 2 else undef),Vl 17 (if((decide (((d.projs.getD z default).pgroup)=3))&&(!decide ((xk (d.types.getD (((d.projs.getD z default).ptyp).toNat) default) ((d.projs.getD z default).pby))=2)))=false then Iv ((d.projs.getD z default).pgroup)else undef),Vl 18 (if((decide (((d.projs.getD z default).pgroup)=3))&&(!decide ((xk (d.types.getD (((d.projs.getD z default).ptyp).toNat) default) ((d.projs.getD z default).pby))=2)))=false then .bool (!decide (((d.projs.getD z default).pgroup)=3))else undef),Vl 19 (if((decide (((d.projs.getD z default).pgroup)=3))&&(!decide ((xk (d.types.getD (((d.projs.getD z default).ptyp).toNat) default) ((d.projs.getD z default).pby))=2)))=false then .bool (!decide (((d.projs.getD z default).pgroup)=3))else undef),Vl 20 (if(((decide (((d.projs.getD z default).pgroup)=3))&&(!decide ((xk (d.types.getD (((d.projs.getD z default).ptyp).toNat) default) ((d.projs.getD z default).pby))=2)))=false)∧(!decide (((d.projs.getD z default).pgroup)=3))=true then Ix u 3 else undef),Vl 21 (if(((decide (((d.projs.getD z default).pgroup)=3))&&(!decide ((xk (d.types.getD (((d.projs.getD z default).ptyp).toNat) default) ((d.projs.getD z default).pby))=2)))=false)∧(!decide (((d.projs.getD z default).pgroup)=3))=true then Iv ((d.projs.getD z default).pby)else undef),Vl 22 (if(((decide (((d.projs.getD z default).pgroup)=3))&&(!decide ((xk (d.types.getD (((d.projs.getD z default).ptyp).toNat) default) ((d.projs.getD z default).pby))=2)))=false)∧(!decide (((d.projs.getD z default).pgroup)=3))=true then .bool (!decide (((d.projs.getD z default).pby)=0))else undef),Vl 23 (if((decide (((d.projs.getD z default).pgroup)=3))&&(!decide ((xk (d.types.getD (((d.projs.getD z default).ptyp).toNat) default) ((d.projs.getD z default).pby))=2)))=false then .bool ((!decide (((d.projs.getD z default).pgroup)=3))&&(!decide (((d.projs.getD z default).pby)=0)))else undef),Vl 24 (.bool (((decide (((d.projs.getD z default).pgroup)=3))&&(!decide ((xk (d.types.getD (((d.projs.getD z default).ptyp).toNat) default) ((d.projs.getD z default).pby))=2)))||((!decide (((d.projs.getD z default).pgroup)=3))&&(!decide (((d.projs.getD z default).pby)=0)))))]) [[],[0],[0,1],[0,1,2],(rg 4),(rg 5),(rg 4),[0,1,2,3,6],(rg 8),(rg 9),(rg 4),[0,1,2,3,10],(rg 12),(rg 13),(rg 14),(rg 15),(rg 16),(rg 17),(rg 18),(rg 19),(rg 20),(rg 21),(rg 22),(rg 23),(rg 24)] [12] [(0,0),(0,0),(0,0),(0,0),(0,0),(0,0),(0,0),(0,0),(0,0),(0,0),(0,0),(0,0),(0,0),(1,1),(1,1),(1,1),(1,1),(1,1),(1,1),(1,1),(1,1),(1,1),(1,1),(1,1),(1,1)] bm ⟨fun _ _ _ _ _ _ _=>obl rfl (WA rfl dR),ob1 0 fun _ _ (bA:Sep _ _ _ _) bB=>obl rfl (lD (Iv ((d.projs.getD z default).pgroup)) kT (bB 0 dc) (zd (bA.b1) rfl) dR),ob1 0 fun _ _ _ bC=>obl rfl (zR (b:=3) (bC 1 dc) rfl dR),fun _ _ _ _ _ _ bD=>obl rfl (yg (v:=.bool (decide (((d.projs.getD z default).pgroup)=3))) (bD 2 dc) dR),?_,?_,?_,?_,?_,?_,?_,?_,?_,?_,fun _ _ _ _ _ _ aA=>obl rfl (zF (b:=decide (((d.projs.getD z default).pgroup)=3)) (b':= !decide ((xk (d.types.getD (((d.projs.getD z default).ptyp).toNat) default) ((d.projs.getD z default).pby))=2)) (aA 3 dc) (fun hbp=>(zH (aA 13 dc) (ifpC hbp))) dR),fun _ _ _ _ _ _ bE=>obl rfl (yg (v:=.bool ((decide (((d.projs.getD z default).pgroup)=3))&&(!decide ((xk (d.types.getD (((d.projs.getD z default).ptyp).toNat) default) ((d.projs.getD z default).pby))=2)))) (bE 14 dc) dR),?_,?_,?_,?_,?_,?_,?_,?_,fun _ _ _ _ _ _ aB=>obl rfl (zz (b:=(decide (((d.projs.getD z default).pgroup)=3))&&(!decide ((xk (d.types.getD (((d.projs.getD z default).ptyp).toNat) default) ((d.projs.getD z default).pby))=2))) (b':=(!decide (((d.projs.getD z default).pgroup)=3))&&(!decide (((d.projs.getD z default).pby)=0))) (aB 15 dc) (fun hbp=>(zH (aB 23 dc) (ifpC hbp))) dR),zj⟩ ?_
 refine fun _ _ _ _ _ _ bF=>(yq rfl rfl (bF 3 dc) (fun T=>?_) yD)
 have hl341:=tD T
 exact yJ rfl (yC T)
 refine ob1 0 fun _ _ (bG:Sep _ _ _ _) aC=>(yq rfl rfl (aC 3 dc) (fun I=>?_) yD)
 have hl352:=tD I
 exact lD dd0 oT (zH (aC 4 dc) (ifpC I)) (zd (bG.b2) rfl) (yC I)
 refine fun _ _ _ _ _ _ bH=>(yq rfl rfl (bH 3 dc) (fun U=>?_) yD)
 have hl361:=tD U
 exact Jr rfl (yC U)
 refine ob1 0 fun _ _ (bI:Sep _ _ _ _) aD=>(yq rfl rfl (aD 3 dc) (fun J=>?_) yD)
 have hl372:=tD J
 exact lD (Iv ((d.projs.getD z default).ptyp)) kT (zH (aD 6 dc) (ifpC J)) (zd (bI.b1) rfl) (yC J)
 refine ob1 0 fun _ _ _ an=>(yq rfl rfl (an 3 dc) (fun C=>?_) yD)
 have hl384:=tD C
 have hi385:((d.projs.getD z default).ptyp).toNat<d.types.length:=bo
 exact zA (k:=1) (i:=(d.projs.getD z default).ptyp) pT qT (zH (an 5 dc) (ifpC C)) hdd0.sl (zH (an 7 dc) (ifpC C)) ⟨by omega,by omega⟩ (yC C)
 refine ob1 0 fun _ _ (bJ:Sep _ _ _ _) aE=>(yq rfl rfl (aE 3 dc) (fun K=>?_) yD)
 have hl396:=tD K
 have aF:((d.projs.getD z default).ptyp).toNat<d.types.length:=bo
 obtain⟨bn,ay,hoke397⟩:=hdd0.typD aF
 have hsm399:((d.types.getD (((d.projs.getD z default).ptyp).toNat) default).fields).length*48≤140737488355328:=ay.small
 have bp:=bJ.cells bn (hdd0.foot (ne_of_lt aF))
 exact ze (k:=1) tR qT rfl (zH (aE 8 dc) (ifpC K)) bp (yC K)
 refine fun _ _ _ _ _ _ bK=>(yq rfl rfl (bK 3 dc) (fun X=>?_) yD)
 have hl409:=tD X
 exact JQ rfl (yC X)
 refine ob1 0 fun _ _ (bL:Sep _ _ _ _) aG=>(yq rfl rfl (aG 3 dc) (fun L=>?_) yD)
 have hl420:=tD L
 exact lD (Iv ((d.projs.getD z default).pby)) kT (zH (aG 10 dc) (ifpC L)) (zd (bL.b1) rfl) (yC L)
 refine ob1 0 fun vals cZ (ao:Sep _ _ _ _) ap=>(yq rfl rfl (ap 3 dc) (fun D=>?_) (fun D c g aH=>?_))
 have hl177:=tD D
 have aI:((d.projs.getD z default).ptyp).toNat<d.types.length:=bo
 obtain⟨bq,af,be⟩:=hdd0.typD aI
 have hsm180:((d.types.getD (((d.projs.getD z default).ptyp).toNat) default).fields).length*48≤140737488355328:=af.small
 have hcw181:=ao.cells bq (hdd0.foot (ne_of_lt aI))
 refine(zO (f:=66) (vals:=[.agg ((d.types.getD (((d.projs.getD z default).ptyp).toNat) default).cells (zV W (sb dd0) (so dd0+(((d.projs.getD z default).ptyp).toNat)*1+0))).toArray,Iv ((d.projs.getD z default).pby)]) (cap:=[]) rfl (yK ⟨(zH (ap 9 dc) (ifpC D)),(zH (ap 11 dc) (ifpC D)),zj⟩) mY (zbP (t:=(d.types.getD (((d.projs.getD z default).ptyp).toNat) default)) (n:=(d.projs.getD z default).pby) af be ae.pby ao) ?_)
 rintro _ w182 ⟨rfl,bM⟩
 exact fun c g aH=>⟨(zG (g.trans (ifpC D).symm) bM),zj⟩
 refine⟨?_,zj⟩
 show(c 12=(if(decide (((d.projs.getD z default).pgroup)=3))=true then(Iv ((xk (d.types.getD (((d.projs.getD z default).ptyp).toNat) default) ((d.projs.getD z default).pby))):Value)else undef))∧Sep G W ((Blk bk #[Iv o,Iv p,.bool q,s] 106)::(Blk u di.toArray 112)::dj::Rs) cZ
 exact⟨(g.trans (ifnC D).symm),ao⟩
 refine ob1 1 fun _ _ bN bO=>?_
 obtain⟨E,hS427⟩:=bN
 refine yq rfl rfl (bO 3 dc) (fun M=>?_) yD
 have hl430:=tD M
 exact yj (k:=.i64) (a:=(xk (d.types.getD (((d.projs.getD z default).ptyp).toNat) default) ((d.projs.getD z default).pby))) (b:=2) (zH E (ifpC M)) rfl (yC M)
 refine fun _ _ _ _ _ _ bP=>(yq rfl rfl (bP 15 dc) (fun Y=>?_) yD)
 have bQ:=Y
 try simp only[zh]at bQ
 exact WA rfl (yC Y)
 refine ob1 1 fun _ _ bR aJ=>?_
 obtain⟨E,bS⟩:=bR
 refine yq rfl rfl (aJ 15 dc) (fun N=>?_) yD
 have bT:=N
 try simp only[zh]at bT
 exact lD (Iv ((d.projs.getD z default).pgroup)) kT (zH (aJ 16 dc) (ifpC N)) (zd (bS.b1) rfl) (yC N)
 refine ob1 1 fun _ _ bU aK=>?_
 obtain⟨E,hS472⟩:=bU
 refine yq rfl rfl (aK 15 dc) (fun O=>?_) yD
 have bV:=O
 try simp only[zh]at bV
 exact yj (k:=.i64) (a:=(d.projs.getD z default).pgroup) (b:=3) (zH (aK 17 dc) (ifpC O)) rfl (yC O)
 refine fun _ _ _ _ _ _ aL=>(yq rfl rfl (aL 15 dc) (fun P=>?_) yD)
 have bW:=P
 try simp only[zh]at bW
 exact yg (v:=.bool (!decide (((d.projs.getD z default).pgroup)=3))) (zH (aL 18 dc) (ifpC P)) (yC P)
 refine fun _ _ _ _ _ _ bX=>(Zf rfl rfl (bX 19 dc) (fun Q=>?_) yD)
 have bY:=Q.1
 try simp only[zh]at bY
 have hl496:=zC Q.2
 exact JQ rfl (yC Q)
 refine ob1 1 fun _ _ bZ aM=>?_
 obtain⟨E,ca⟩:=bZ
 refine Zf rfl rfl (aM 19 dc) (fun y=>?_) yD
 have cb:=y.1
 try simp only[zh]at cb
 have hl508:=zC y.2
 exact lD (Iv ((d.projs.getD z default).pby)) kT (zH (aM 20 dc) (ifpC ⟨y.1,y.2⟩)) (zd (ca.b1) rfl) (yC y)
 refine ob1 1 fun _ _ cc aN=>?_
 obtain⟨E,hS515⟩:=cc
 refine Zf rfl rfl (aN 19 dc) (fun A=>?_) yD
 have cd:=A.1
 try simp only[zh]at cd
 have hl520:=zC A.2
 exact yj (k:=.i64) (a:=(d.projs.getD z default).pby) (b:=0) (zH (aN 21 dc) (ifpC ⟨A.1,A.2⟩)) rfl (yC A)
 refine fun _ _ _ _ _ _ aq=>(yq rfl rfl (aq 15 dc) (fun F=>?_) yD)
 have ce:=F
 try simp only[zh]at ce
 exact zF (b:= !decide (((d.projs.getD z default).pgroup)=3)) (b':= !decide (((d.projs.getD z default).pby)=0)) (zH (aq 19 dc) (ifpC F)) (fun hbp=>(zH (aq 22 dc) (ifpC ⟨F,hbp⟩))) (yC F)
 intro vals da cf cg
 obtain⟨E,B⟩:=cf
 have db:=cg 24 dc
 refine yd (kv:=[(1,Ix b2 0),(6,Iw z),(48,Iw z),(49,Ix b2 1),(50,dd1),(51,Iw d.projs.length),(52,.bool true),(55,Ix b2 1),(56,dd1),(57,Iw z),(58,Ix (sb dd1) (so dd1+z*5)),(59,.agg di.toArray),(7,Ix u 0),(61,.agg (d.cells dd0 dd1).toArray),(62,Ix u 0),(63,Iv ((d.projs.getD z default).ptyp)),(64,Ix u 1),(65,Iv ((d.projs.getD z default).pfield)),(66,.tuple #[.agg #[Iv o,Iv p,.bool q,s],.bool x]),(60,.tuple #[.agg #[Iv o,Iv p,.bool q,s],.bool x]),(67,.agg #[Iv o,Iv p,.bool q,s]),(68,.bool x),(8,Ix bk 0),(9,.bool x),(69,.bool x),(70,.bool false),(95,.bool (((decide (((d.projs.getD z default).pgroup)=3))&&(!decide ((xk (d.types.getD (((d.projs.getD z default).ptyp).toNat) default) ((d.projs.getD z default).pby))=2)))||((!decide (((d.projs.getD z default).pgroup)=3))&&(!decide (((d.projs.getD z default).pby)=0)))))]) ⟨rfl,rfl,rfl,rfl,rfl,rfl,rfl,rfl,rfl,rfl,rfl,rfl,rfl,rfl,rfl,rfl,rfl,rfl,rfl,rfl,rfl,rfl,rfl,rfl,rfl,rfl,(by exact db),zj⟩ (fun ρw540=>?_)
 refine zb ?_
 cases ar:((decide (((d.projs.getD z default).pgroup)=3))&&(!decide ((xk (d.types.getD (((d.projs.getD z default).ptyp).toNat) default) ((d.projs.getD z default).pby))=2)))||((!decide (((d.projs.getD z default).pgroup)=3))&&(!decide (((d.projs.getD z default).pby)=0)))
 try simp only[zh]at ar
 refine zf rfl (zp (za (zy kr (st (WA rfl (st (lD (Iv ((d.projs.getD z default).pgroup)) kT rfl (zd (B.b1) rfl) (st (zI (k:=.i64) (a:=(d.projs.getD z default).pgroup) (b:=1) rfl rfl (st (mV (.bool (decide (((d.projs.getD z default).pgroup)<1))) (stc (V:=Ix u 2) rfl rfl (fun ch=>?_) ?_))))))))))))
 have hl547:=fD ch
 exact WA rfl rflB
 refine stc (V:=Iv ((d.projs.getD z default).pgroup)) rfl rfl (fun aO=>?_) ?_
 have hl549:=fD aO
 exact lD (Iv ((d.projs.getD z default).pgroup)) kT (ifpC aO) (zd (B.b1) rfl) rflB
 refine stc (V:=.bool (decide (3<((d.projs.getD z default).pgroup)))) rfl rfl (fun aP=>?_) ?_
 have hl551:=fD aP
 exact xj (k:=.i64) (a:=(d.projs.getD z default).pgroup) (b:=3) (ifpC aP) rfl rflB
 refine st (zz (b:=decide (((d.projs.getD z default).pgroup)<1)) (b':=decide (3<((d.projs.getD z default).pgroup))) rfl (fun hbp=>(ifpC hbp)) (st (mV (.bool ((decide (((d.projs.getD z default).pgroup)<1))||(decide (3<((d.projs.getD z default).pgroup))))) (stc (V:=Ix u 4) rfl rfl (fun ci=>?_) ?_))))
 have cj:=ci
 try simp only[zh]at cj
 exact JC rfl rflB
 refine stc (V:=Iv ((d.projs.getD z default).pmake)) rfl rfl (fun aQ=>?_) ?_
 have ck:=aQ
 try simp only[zh]at ck
 exact lD (Iv ((d.projs.getD z default).pmake)) kT (ifpC aQ) (zd (B.b1) rfl) rflB
 refine stc (V:=.bool (decide (((d.projs.getD z default).pmake)<1))) rfl rfl (fun aR=>?_) ?_
 have cl:=aR
 try simp only[zh]at cl
 exact zI (k:=.i64) (a:=(d.projs.getD z default).pmake) (b:=1) (ifpC aR) rfl rflB
 refine st (zz (b:=(decide (((d.projs.getD z default).pgroup)<1))||(decide (3<((d.projs.getD z default).pgroup)))) (b':=decide (((d.projs.getD z default).pmake)<1)) rfl (fun hbp=>(ifpC hbp)) (st (mV (.bool (((decide (((d.projs.getD z default).pgroup)<1))||(decide (3<((d.projs.getD z default).pgroup))))||(decide (((d.projs.getD z default).pmake)<1)))) (stc (V:=Ix u 4) rfl rfl (fun cm=>?_) ?_))))
 have cn:=cm
 try simp only[zh]at cn
 exact JC rfl rflB
 refine stc (V:=Iv ((d.projs.getD z default).pmake)) rfl rfl (fun aT=>?_) ?_
 have co:=aT
 try simp only[zh]at co
 exact lD (Iv ((d.projs.getD z default).pmake)) kT (ifpC aT) (zd (B.b1) rfl) rflB
 refine stc (V:=.bool (decide (5<((d.projs.getD z default).pmake)))) rfl rfl (fun aU=>?_) ?_
 have cp:=aU
 try simp only[zh]at cp
 exact xj (k:=.i64) (a:=(d.projs.getD z default).pmake) (b:=5) (ifpC aU) rfl rflB
 refine st (zz (b:=((decide (((d.projs.getD z default).pgroup)<1))||(decide (3<((d.projs.getD z default).pgroup))))||(decide (((d.projs.getD z default).pmake)<1))) (b':=decide (5<((d.projs.getD z default).pmake))) rfl (fun hbp=>(ifpC hbp)) (zb ?_))
 cases au:(((decide (((d.projs.getD z default).pgroup)<1))||(decide (3<((d.projs.getD z default).pgroup))))||(decide (((d.projs.getD z default).pmake)<1)))||(decide (5<((d.projs.getD z default).pmake)))
 try simp only[zh]at au
 refine zf rfl (zp (R0 fun _=>st (mV (Iw z) ?_)))
 have cq:InR ((z+1:Nat):Int):=bo
 refine st (zU (r:=((z+1:Nat):Int)) (k:=.i64) (a:=((z:Nat):Int)) (b:=1) rfl rfl (by rw[show(((z:Nat):Int)+1:Int)=((z+1:Nat):Int)from bo];exact zJ cq) (st (aS (Iw (z+1)) (zb ?_))))
 have cr:Sep G W (dj::Rs) da:=B.sel 3 [2] (yL _ _) rfl rfl
 have dd:Jw (d.projs.getD z default):=by
  have h8:=ar
  have h9:=au
  unfold Jw
  by_cases hg:(d.projs.getD z default).pgroup=3
  ·have h7:=JV (t:=d.types.getD (d.projs.getD z default).ptyp.toNat default) (n:=(d.projs.getD z default).pby) (by omega);omega
  ·omega
 exact⟨_,by omega,z+1,_,rfl,sSf,by omega,(yU hpz dd),cr⟩
 try simp only[zh]at au
 refine zg rfl (za (R0 fun _=>st (aS (Iv 2) (zb (zo (zN kR (show _=(Iv 2:Value)from rfl) ?_))))))
 refine⟨2,rfl,?_,?_,(B.s3_)⟩
 first|decide|assumption
 intro h9
 exfalso;omega
 try simp only[zh]at ar
 refine zg rfl (za (R0 fun _=>st (aS (Iv 8) (zb (zo (zN kR (show _=(Iv 8:Value)from rfl) ?_))))))
 refine⟨8,rfl,?_,?_,(B.s3_)⟩
 first|decide|assumption
 intro h9
 exfalso;omega
 try simp only[zh]at ax
 refine zg rfl (za (R0 fun _=>st (aS (Iv 8) (zb (zo (zN kR (show _=(Iv 8:Value)from rfl) ?_))))))
 refine⟨8,rfl,?_,?_,(bm.s3_)⟩
 first|decide|assumption
 intro h9
 exfalso;omega
 have ak:=tD ak
 refine zg rfl (zp (za (zu (za (R0 fun _=>st (aS (Iv 0) (zb (zu (yf (fun mq σ S=> ∃(j:Nat) (ρ:Env),mq=(d.types.getD k default).fields.length-j∧σ=yo ρ [(1,Ix b2 0),(3,Iw k),(4,Iw j)]∧(j≤(d.types.getD k default).fields.length)∧(∀i,i<j→QX (d.types.getD k default) ((d.types.getD k default).fields.getD i default))∧Sep G W ((Blk b2 (d.cells dd0 dd1).toArray 25)::Rs) S) ⟨0,_,rfl,sSf,zY _,(fun i h=>absurd h (yO i)),aw⟩ ?_)))))))))
 rintro m571 σ572 w570 ⟨j,ρl3,rfl,rfl,hkj,cS,Z⟩
 refine za (za (R0 fun _=>st (mV (Iw j) (st (yJ rfl (st (lD dd0 oT rfl (zd (Z.b0) rfl) (st (mV (Iw k) ?_)))))))))
 have cs:k<d.types.length:=bo
 refine st (zn (k:=1) (i:=k) pT qT rfl hdd0.sl rfl cs (st (xi rfl ?_)))
 have aa:k<d.types.length:=bo
 obtain⟨ag,m,bf⟩:=hdd0.typD aa
 have hsm577:((d.types.getD k default).fields).length*48≤140737488355328:=m.small
 have br:=Z.cells ag (hdd0.foot (ne_of_lt aa))
 refine st (lD aj tT rfl (br.get (j:=0) rfl) (st (zS (n:=((d.types.getD k default).fields).length) lT rfl m.sl (st (zI (k:=.i64) (a:=((j:Nat):Int)) (b:=((((d.types.getD k default).fields).length:Nat):Int)) rfl rfl (zb ?_))))))
 cases ab:decide (((j:Nat):Int)<((((d.types.getD k default).fields).length:Nat):Int))
 have ab:=fD ab
 refine zf rfl (yh (zX (R0 fun _=>st (mV (Iw k) ?_))))
 have ct:InR ((k+1:Nat):Int):=bo
 refine st (zU (r:=((k+1:Nat):Int)) (k:=.i64) (a:=((k:Nat):Int)) (b:=1) rfl rfl (by rw[show(((k:Nat):Int)+1:Int)=((k+1:Nat):Int)from bo];exact zJ ct) (st (aS (Iw (k+1)) (zb ?_))))
 exact⟨_,by omega,k+1,_,rfl,sSf,by omega,(yU hm (fun j9 h9=>cS j9 om)),Z⟩
 have ab:=tD ab
 refine zg rfl (zp (za (zu (za ?_))))
 refine WD4 ((fun av=>WF [fun vals S=>Sep G W (av::Rs) S,fun vals S=> ∃(l:Int),(vals 14=(Iv l:Value))∧(InR l)∧(l=0→QX (d.types.getD k default) (((d.types.getD k default).fields).getD j default))∧Sep G W (av::Rs) S]) dj) (AF [Vl 0 (Ix b2 0),Vl 1 dd0,Vl 2 (Iw k),Vl 3 (Ix (sb dd0) (so dd0+k*1)),Vl 4 (.agg ((d.types.getD k default).cells aj).toArray),Vl 5 (Ix b2 0),Vl 6 dd0,Vl 7 (Iw k),Vl 8 (Ix (sb dd0) (so dd0+k*1)),Vl 9 (Ix (sb dd0) (so dd0+k*1)),Vl 10 aj,Vl 11 (Iw j),Vl 12 (Ix (sb aj) (so aj+j*4)),Vl 13 (.agg ((((d.types.getD k default).fields).getD j default).cells (zV W (sb aj) (so aj+j*4+3))).toArray),fun _=>True,fun vals=> ∀(l:Int),vals 14=(Iv l:Value)→vals 15=(Iv l:Value)]) [[],[0],[],[0,1,2],(rg 4),[],[5],[],[5,6,7],[5,6,7,8],[5,6,7,8,9],[],[5,6,7,8,9,10,11],[5,6,7,8,9,10,11,12],(rg 14),(rg 15)] [14] [(0,0),(0,0),(0,0),(0,0),(0,0),(0,0),(0,0),(0,0),(0,0),(0,0),(0,0),(0,0),(0,0),(0,0),(0,0),(1,1)] Z ⟨fun _ _ _ _ _ _ _=>obl rfl (yJ rfl dR),ob1 0 fun _ _ (cu:Sep _ _ _ _) cv=>obl rfl (lD dd0 oT (cv 0 dc) (zd (cu.b0) rfl) dR),fun _ _ _ _ _ _ _=>obl rfl (mV (Iw k) dR),?_,?_,fun _ _ _ _ _ _ _=>obl rfl (yJ rfl dR),ob1 0 fun _ _ (cw:Sep _ _ _ _) cx=>obl rfl (lD dd0 oT (cx 5 dc) (zd (cw.b0) rfl) dR),fun _ _ _ _ _ _ _=>obl rfl (mV (Iw k) dR),?_,fun _ _ _ _ _ _ cy=>obl rfl (xi (cy 8 dc) dR),?_,fun _ _ _ _ _ _ _=>obl rfl (mV (Iw j) dR),?_,?_,?_,?_,zj⟩ ?_ (hlocA:=xd ⟨dA,dA,dA,dA,dA,dA,dA,dA,dA,dA,dA,dA,dA,dA,dT,fun vals c g h=>fun l aV=>(g 15 (.inl rfl)).trans (h l ((g 14 (.inr dc)).symm.trans aV)),zj⟩)
 refine ob1 0 fun _ _ _ aW=>(obl rfl ?_)
 have cz:k<d.types.length:=bo
 exact zn (k:=1) (i:=k) pT qT (aW 1 dc) hdd0.sl (aW 2 dc) cz dR
 refine ob1 0 fun _ _ (cC:Sep _ _ _ _) cD=>(obl rfl ?_)
 have bs:=cC.cells ag (hdd0.foot (ne_of_lt aa))
 exact ze (k:=1) tR qT rfl (cD 3 dc) bs dR
 refine ob1 0 fun _ _ _ aX=>(obl rfl ?_)
 have cE:k<d.types.length:=bo
 exact zn (k:=1) (i:=k) pT qT (aX 6 dc) hdd0.sl (aX 7 dc) cE dR
 refine ob1 0 fun _ _ (cF:Sep _ _ _ _) cG=>(obl rfl ?_)
 have bt:=cF.cells ag (hdd0.foot (ne_of_lt aa))
 exact lD aj tT (cG 9 dc) (bt.get (j:=0) rfl) dR
 refine ob1 0 fun _ _ _ aY=>(obl rfl ?_)
 have cH:j<((d.types.getD k default).fields).length:=bo
 exact zn (k:=4) (i:=j) lT mT (aY 10 dc) m.sl (aY 11 dc) cH dR
 refine ob1 0 fun _ _ (cI:Sep _ _ _ _) cJ=>(obl rfl ?_)
 have aZ:j<((d.types.getD k default).fields).length:=bo
 obtain⟨bu,az,hoke833⟩:=m.fldD aZ
 have hsm835:((((d.types.getD k default).fields).getD j default).moves).length*32≤140737488355328:=az.small
 have bv:=cI.cells bu (m.foot (ne_of_lt aZ))
 exact ze (k:=4) mR mT rfl (cJ 12 dc) bv dR
 refine ob1 0 fun vals _ (ba:Sep _ _ _ _) bb=>(obl rfl ?_)
 have bc:j<((d.types.getD k default).fields).length:=bo
 obtain⟨bw,ah,bg⟩:=m.fldD bc
 have hsm707:((((d.types.getD k default).fields).getD j default).moves).length*32≤140737488355328:=ah.small
 have hcw708:=ba.cells bw (m.foot (ne_of_lt bc))
 refine(zO (f:=64) (vals:=[.agg ((d.types.getD k default).cells aj).toArray,.agg ((((d.types.getD k default).fields).getD j default).cells (zV W (sb aj) (so aj+j*4+3))).toArray]) (cap:=[]) rfl (yK ⟨(bb 4 dc),(bb 13 dc),zj⟩) Tryz.call64 (D_one (t:=(d.types.getD k default)) (f:=(((d.types.getD k default).fields).getD j default)) m bf ah bg ba) ?_)
 rintro _ w712 ⟨l,rfl,ai,H,cK⟩
 exact fun c g aH=>⟨(exiA l (zG g (zG ai (zG H cK)))),zj⟩
 refine ob1 1 fun _ _ cM _=>?_
 obtain⟨l,ac,ai,H,hS843⟩:=cM
 refine obl rfl (ya (v:=Iv l) ac (fun c g aH=>⟨rfl,?_⟩))
 intro e709q aV
 rw[aH 14 (by decide)]at aV;cases ac.symm.trans aV
 exact g
 intro vals w844 cN cO
 obtain⟨l,ac,ai,H,bd⟩:=cN
 have de:=cO 15 dc l ac
 refine yd (kv:=[(1,Ix b2 0),(3,Iw k),(4,Iw j),(19,Iw j),(20,Ix b2 0),(21,dd0),(22,Iw k),(23,Ix (sb dd0) (so dd0+k*1)),(24,Ix (sb dd0) (so dd0+k*1)),(25,aj),(26,Iw (((d.types.getD k default).fields).length)),(27,.bool true),(5,Iv l)]) ⟨rfl,rfl,rfl,rfl,rfl,rfl,rfl,rfl,rfl,rfl,rfl,rfl,(by exact de),zj⟩ (fun ρw844=>(zb (za (R0 fun _=>st (mV (Iv l) (st (yj (k:=.i64) (a:=l) (b:=0) rfl rfl (zb ?_))))))))
 cases R: !decide (l=0)
 have R:=zB R
 refine zf rfl (zp (R0 fun _=>st (mV (Iw j) ?_)))
 have cP:InR ((j+1:Nat):Int):=bo
 refine st (zU (r:=((j+1:Nat):Int)) rfl rfl (by rw[show(((j:Nat):Int)+1:Int)=((j+1:Nat):Int)from bo];exact zJ cP) (st (aS (Iw (j+1)) (zb ?_))))
 exact⟨_,by omega,j+1,_,rfl,sSf,by omega,(yU cS (H (by have h9:=R;omega))),bd⟩
 have R:=zC R
 refine zg rfl (za (R0 fun _=>st (mV (Iv l) (st (aS (Iv l) (zb (zo (zN kR rfl ?_))))))))
 refine⟨l,rfl,?_,?_,(bd.s1_)⟩
 first|decide|assumption
 intro h9
 exfalso;omega
 refine zg rfl (za (R0 fun _=>st (aS (Iv 3) (zb (zo (zN kR rfl ?_))))))
 refine⟨3,rfl,?_,?_,(cR.s1_)⟩
 first|decide|assumption
 intro h9
 exfalso;omega
theorem YM {x:Int}(hx:InR x){n:Nat}(hn:1≤n∧n≤281474976710656)(hS0:Sep G W Rs w):Ret Tryz.prog 7 [.int .i64 (x),.int .i64 ((n:Nat):Int)] w (fun r w'=> ∃(q:Nat),r=(.int .i64 ((q:Nat):Int):Value)∧(q<n)∧Sep G W Rs w'):=by
 refine zm Tryz.func7 rfl rfl ?_
 refine za (R0 fun _=>st (aS (Iv 0) (zb (za (za (R0 fun _=>st (mV (Iw n) (st (zI rfl rfl (zb ?_))))))))))
 cases d:decide (((n:Nat):Int)<1)
 have d:=fD d
 refine zf rfl (zp (za (R0 fun _=>st (mV (Iv x) (st (mV (Iw n) ?_))))))
 have f:(0:Int)<((n:Nat):Int):=by omega
 have h:=Int.tmod_lt_of_pos x f;have i:=Int.lt_tmod_of_pos x f
 obtain⟨c,g⟩: ∃z,Int.tmod x ((n:Nat):Int)=z:=⟨_,rfl⟩;rw[g]at h i
 refine st (zbL (r:=c) rfl rfl f g (st (aS (Iv c) (zb (za (za (R0 fun _=>st (mV (Iv c) (st (zI rfl rfl (zb ?_)))))))))))
 cases e:decide (c<0)
 have e:=fD e
 refine zf rfl (zp (za (R0 fun _=>st (mV (Iv c) (st (aS (Iv c) (zb (zo (zN wR (show _=(Iv c:Value)from rfl) ?_)))))))))
 refine⟨(c).toNat,?_,?_,hS0⟩
 rw[Int.toNat_of_nonneg (by omega)]
 omega
 have e:=tD e
 refine zg rfl (R0 fun _=>st (mV (Iv c) (st (mV (Iw n) ?_))))
 have j:InR (c+((n:Nat):Int)):=by omega
 refine st (zU rfl rfl (zJ j) (st (aS (Iv (c+((n:Nat):Int))) (zb (za (R0 fun _=>st (mV (Iv (c+((n:Nat):Int))) (st (aS (Iv (c+((n:Nat):Int))) (zb (zo (zN wR (show _=(Iv (c+((n:Nat):Int)):Value)from rfl) ?_))))))))))))
 refine⟨(c+((n:Nat):Int)).toNat,?_,?_,hS0⟩
 rw[Int.toNat_of_nonneg (by omega)]
 omega
 have d:=tD d
 refine zg rfl (za (R0 fun _=>st (aS (Iv 0) (zb (zo (zN wR rfl ?_))))))
 refine⟨0,?_,?_,hS0⟩
 exfalso;omega
 omega
theorem Xx {α:Type}{a b:List α}{d:α}(hl:a.length=b.length)(h: ∀i,i<a.length→a.getD i d=b.getD i d):a=b:=by
 refine List.ext_getElem hl (fun i h1 h2=>?_)
 have:=h i h1
 rwa [zK _ h1,zK _ h2]at this
theorem VC {vl:Value}{l:List Int}(hl:RdS W G vl l)(hS0:Sep G W Rs w):Ret Tryz.prog 90 [vl] w (fun r w'=> ∃(v:Value),r=(v:Value)∧Sep G W ((RowE (α:=Int) own 3 v l)::Rs) w'):=by
 have hls:_*8≤_:=hl.small
 refine zm Tryz.func90 rfl rfl ?_
 refine za (R0 fun _=>st (aS Iz (zb (za (R0 fun _=>st (aS Iz (zb (za (za (R0 fun _=>st (aS (Iv 0) (zb (zu ?_)))))))))))))
 have z:Sep G W ((RowE (α:=Int) own 3 Iz [])::Rs) w:=hS0.rowNil own 3
 refine yf (fun mq σ D=> ∃k vo ρ,mq=l.length-k∧σ=yo ρ [(0,vl),(4,Iw k),(3,vo)]∧(k≤l.length)∧Sep G W ((RowE own 3 vo (l.take k))::Rs) D) ⟨0,(Iz),_,rfl,sSf,zY _,z⟩ ?_
 rintro m3 σ4 w2 ⟨k,vo,ρl1,rfl,rfl,hkk,d⟩
 have A:=d.r0
 have hr6s:_*8≤_:=A.2
 refine za (za (R0 fun _=>st (mV (Iw k) (st (mV vl (st (zS nT rfl hl.sl (st (zI rfl rfl (zb ?_))))))))))
 cases f:decide (((k:Nat):Int)<((l.length:Nat):Int))
 have f:=fD f
 refine zf rfl (yh (zX (za (R0 fun _=>st (mV vo (st (aS vo (zb (zo (zN Tryz.results90 (show _=(vo:Value)from rfl) ?_))))))))))
 have B:k=l.length:=by omega
 rw[B,List.take_length]at d
 refine⟨vo,rfl,d⟩
 have f:=tD f
 refine zg rfl (zp (za (zu (R0 fun _=>st (mV vo (st (mV vl (st (mV (Iw k) ?_)))))))))
 have C:k<l.length:=bo
 refine st (zn (k:=1) nT sT rfl hl.sl rfl C ?_)
 have g:k<l.length:=bo
 obtain⟨q,s⟩:=hl.intD g
 have m:=d.cells q (hl.foot (ne_of_lt g))
 refine st (lD (Iv ((l.getD k 0))) kT rfl (m.get (j:=0) rfl) (st (zL (c:=#[Iv ((l.getD k 0))]) nT sT nR dc rfl kr ?_)))
 intro w14 b13 t
 have h:=d.new t
 have o:=h.b0
 refine st (yx (src:=own) (bytes:=8) (x1:=(l.getD k 0)) ((h.s2_b).emp1) UD rfl rfl o (fun _ _ _=>(show _ from⟨rfl,s⟩)) yqb rfl ?_)
 intro p w16 e
 have u:=e.r0
 have hr22s:_*8≤_:=u.2
 refine st (aS p (zb (R0 fun _=>st (mV (Iw k) ?_))))
 have x:InR ((k+1:Nat):Int):=bo
 refine st (zU (r:=((k+1:Nat):Int)) rfl rfl (by rw[show(((k:Nat):Int)+1:Int)=((k+1:Nat):Int)from bo];exact zJ x) (st (aS (Iw (k+1)) (zb ?_))))
 have y:(l.take (k+1))=(l.take k)++[(l.getD k 0)]:=(List.take_getD om)
 rw[←y]at e
 exact⟨_,by omega,k+1,p,_,rfl,sSf,by omega,e⟩
theorem Vd {va:Value}{a:List Int}(ha:RdS W G va a){vb:Value}{b:List Int}(hb:RdS W G vb b)(hS0:Sep G W Rs w):Ret Tryz.prog 52 [va,vb] w (fun r w'=>r=(.bool (decide (a=b)):Value)∧Sep G W Rs w'):=by
 have has:_*8≤_:=ha.small
 have hbs:_*8≤_:=hb.small
 refine zm Tryz.func52 rfl rfl ?_
 refine za (R0 fun _=>st (aS (.bool false) (zb (za (za (R0 fun _=>st (mV va (st (zS nT rfl ha.sl (st (mV vb (st (zS nT rfl hb.sl (st (yj rfl rfl (zb ?_))))))))))))))))
 cases d: !decide (((a.length:Nat):Int)=((b.length:Nat):Int))
 have d:=zB d
 refine zf rfl (zp (za (za (R0 fun _=>st (aS (Iv 0) (zb (zu (yf (fun mq σ I=> ∃k ρ,mq=a.length-k∧σ=yo ρ [(0,va),(1,vb),(5,Iw k)]∧(k≤a.length)∧(∀i,i<k→a.getD i 0=b.getD i 0)∧Sep G W Rs I) ⟨0,_,rfl,sSf,zY _,(fun i h=>absurd h (yO i)),hS0⟩ ?_))))))))
 rintro m3 σ4 w2 ⟨k,ρl1,rfl,rfl,hkk,hm,H⟩
 refine za (za (R0 fun _=>st (mV (Iw k) (st (mV va (st (zS nT rfl ha.sl (st (zI rfl rfl (zb ?_))))))))))
 cases f:decide (((k:Nat):Int)<((a.length:Nat):Int))
 have f:=fD f
 refine zf rfl (yh (zX (za (R0 fun _=>st (aS (.bool true) (zb (zo (zN kY (show _=(.bool true:Value)from rfl) ?_))))))))
 refine⟨?_,H⟩
 rw[decide_eq_true (Xx (by omega) (fun i hi=>hm i (by omega)))]
 have f:=tD f
 refine zg rfl (zp (za (zu (za (WD4 (WF [fun vals I=>Sep G W Rs I]) (AF [Vl 0 va,Vl 1 (Iw k),Vl 2 (Ix (sb va) (so va+k*1)),Vl 3 (Iv ((a.getD k 0))),Vl 4 vb,Vl 5 (Iw k),Vl 6 (Ix (sb vb) (so vb+k*1)),Vl 7 (Iv ((b.getD k 0))),Vl 8 (.bool (!decide ((a.getD k 0)=(b.getD k 0))))]) [[],[],[0,1],[0,1,2],[],[],[4,5],[4,5,6],(rg 8)] [] [(0,0),(0,0),(0,0),(0,0),(0,0),(0,0),(0,0),(0,0),(0,0)] H ⟨fun _ _ _ _ _ _ _=>obl rfl (mV va dR),fun _ _ _ _ _ _ _=>obl rfl (mV (Iw k) dR),?_,?_,fun _ _ _ _ _ _ _=>obl rfl (mV vb dR),fun _ _ _ _ _ _ _=>obl rfl (mV (Iw k) dR),?_,?_,ob1 0 fun _ _ _ g=>obl rfl (yj (g 3 dc) (g 7 dc) dR),zj⟩ ?_)))))
 refine ob1 0 fun _ _ _ q=>(obl rfl ?_)
 have x:k<a.length:=bo
 exact zn (k:=1) nT sT (q 0 dc) ha.sl (q 1 dc) x dR
 refine ob1 0 fun _ _ (y:Sep _ _ _ _) z=>(obl rfl ?_)
 have l:k<a.length:=bo
 obtain⟨s,hxe112⟩:=ha.intD l
 have t:=y.cells s (ha.foot (ne_of_lt l))
 exact lD (Iv ((a.getD k 0))) kT (z 2 dc) (t.get (j:=0) rfl) dR
 refine ob1 0 fun _ _ _ m=>(obl rfl ?_)
 have A:k<b.length:=bo
 exact zn (k:=1) nT sT (m 4 dc) hb.sl (m 5 dc) A dR
 refine ob1 0 fun _ _ (B:Sep _ _ _ _) C=>(obl rfl ?_)
 have o:k<b.length:=bo
 obtain⟨u,hxe145⟩:=hb.intD o
 have v:=B.cells u (hb.foot (ne_of_lt o))
 exact lD (Iv ((b.getD k 0))) kT (C 6 dc) (v.get (j:=0) rfl) dR
 intro vals w157 D E
 have p:=D
 have J:=E 8 dc
 refine yd (kv:=[(0,va),(1,vb),(5,Iw k),(11,Iw k),(12,va),(13,Iw a.length),(14,.bool true),(25,.bool (!decide ((a.getD k 0)=(b.getD k 0))))]) ⟨rfl,rfl,rfl,rfl,rfl,rfl,rfl,(by exact J),zj⟩ (fun ρw157=>(zb ?_))
 cases c: !decide ((a.getD k 0)=(b.getD k 0))
 have c:=zB c
 refine zf rfl (zp (R0 fun _=>st (mV (Iw k) ?_)))
 have F:InR ((k+1:Nat):Int):=bo
 refine st (zU (r:=((k+1:Nat):Int)) rfl rfl (by rw[show(((k:Nat):Int)+1:Int)=((k+1:Nat):Int)from bo];exact zJ F) (st (aS (Iw (k+1)) (zb ?_))))
 exact⟨_,by omega,k+1,_,rfl,sSf,by omega,(yU hm om),p⟩
 have c:=zC c
 refine zg rfl (za (R0 fun _=>st (aS (.bool false) (zb (zo (zN kY (show _=(.bool false:Value)from rfl) ?_))))))
 refine⟨?_,p⟩
 rw[decide_eq_false (fun e=>by subst e;omega)]
 have d:=zC d
 refine zg rfl (za (R0 fun _=>st (aS (.bool false) (zb (zo (zN kY (show _=(.bool false:Value)from rfl) ?_))))))
 refine⟨?_,hS0⟩
 rw[decide_eq_false (fun e=>by subst e;omega)]
end
section
open Go.RowKit
section
variable {G:Nat→Prop}{W w:World}{As:List HP}{T Ti:TypeId}{v:Value}{sh:List CelS}{l:List Cel}
theorem CelW.rowP {f:Nat→Prop}(h:(CelW v T Ti l).p w f):(RowE (α:=Cel) own T v l).p w f:=by
 obtain⟨sh,⟨hlen,hn⟩,hA⟩:=h
 obtain⟨fs,q1,q2⟩:=hA
 obtain⟨⟨css,hE,hown,hrow,hsm⟩,hf0⟩:=q1 0 _ rfl
 obtain⟨hSt,hf1⟩:=q1 1 _ rfl
 have q2':=q2 0 1 (by simp) (by simp) (by simp)
 have hcl:=hE.length
 refine⟨css,EP.of_at (by omega) (fun i h1 h2=>?_),by rw[←hlen];exact hown,fun b hb=>(hf0 b (hrow b hb)).1,by rw[←hlen];exact hsm⟩
 have hs:i<sh.length:=by omega
 obtain⟨hcs,hin,hone⟩:css[i]=sh[i].cells∧InR sh[i].n∧sh[i].v.oneCell'=true:=(EP.at2 hE i h1 hs).imp id (fun h=>⟨h.n,h.one⟩)
 have hr:(RowE (α:=Int) own Ti (sh.getD i default).v (l.getD i default).set).p w (fs 1):=Star.at_ hSt (SetRows.get hs h2)
 have hsoft:=RowE.soft hr
 have hni:=hn i h2
 rw[zK _ hs,zK _ h2]at hsoft hni
 refine⟨sh[i].v,?_,hsoft.mono (fun b hb hlt=>⟨rfl,⟨(hf1 b hb.1).1,fun e=>q2' b (hrow b e) hb.1⟩,hb.2⟩),⟨by rw[←hni];exact hin⟩⟩
 rw[hcs]
 show[Value.int .i64 sh[i].n,sh[i].v]=_
 rw[hni];rfl
theorem CelW.rd {f:Nat→Prop}(h:(CelW v T Ti l).p w f):RdS w f v l:=RowE.rd (CelW.rowP h)
end
end
section
open Go.Proofs Go.RowKit
def ZF (l:List Int)(n:Int)(b:Bool):List Int:=if b=true then l.filter (fun y=>decide (y<n))++n::l.filter (fun y=>decide (n<y))else l.filter (fun y=>decide (y≠n))
def XO (l:List Int)(n:Int)(b:Bool):Prop:=(b=false→ ∀y∈l,y≤n)∧(b=true→ ∃y∈l,n<y)
theorem w_le {l:List Int}{n:Int}(h: ∀y∈l,y≤n):l.filter (fun y=>decide (y≠n))=l.filter (fun y=>decide (y<n))∧l.filter (fun y=>decide (n<y))=[]:=by
 constructor
 ·refine List.filter_congr (fun y hy=>?_)
  have:=h y hy
  rw[decide_eq_decide];omega
 ·refine List.filter_eq_nil_iff.2 (fun y hy=>?_)
  have:=h y hy
  simp only[decide_eq_true_eq];omega
theorem Jh {l:List Int}{n x:Int}{b:Bool}(h:XO l n b)(hb:b=false)(hx:n<x):ZF (l++[x]) n true=ZF l n b++[n]++[x]∧XO (l++[x]) n true:=by
 subst hb
 obtain⟨e1,e2⟩:=w_le (h.1 rfl)
 refine⟨?_,fun h=>Bool.noConfusion h,fun _=>⟨x,by simp,hx⟩⟩
 unfold ZF
 rw[if_pos rfl,if_neg (by decide),e1,List.filter_append,List.filter_append,e2,List.filter_cons,List.filter_cons,if_neg (by simp;omega),if_pos (by simpa using hx)]
 simp
theorem Ji {l:List Int}{n x:Int}{b:Bool}(h:XO l n b)(ha:Asc (l++[x]))(hc:b=true∨x≤n)(hx: ¬x=n):ZF (l++[x]) n b=ZF l n b++[x]∧XO (l++[x]) n b:=by
 cases b with
 |false=>
  have hxn:x≤n:=by rcases hc with h|h;·cases h
                   ·exact h
  refine⟨?_,fun _ y hy=>?_,fun h=>Bool.noConfusion h⟩
  ·unfold ZF
   rw[if_neg (by decide),if_neg (by decide),List.filter_append,List.filter_cons,if_pos (by simpa using hx)];rfl
  ·rcases List.mem_append.1 hy with hy|hy
   ·exact h.1 rfl y hy
   ·rw[List.mem_singleton.1 hy];exact hxn
 |true=>
  obtain⟨y,hy,hny⟩:=h.2 rfl
  have hyx:y<x:=(List.pairwise_append.1 ha).2.2 y hy x (List.mem_singleton.2 rfl)
  refine⟨?_,fun h=>Bool.noConfusion h,fun _=>⟨y,List.mem_append_left _ hy,hny⟩⟩
  unfold ZF
  rw[if_pos rfl,if_pos rfl,List.filter_append,List.filter_append,List.filter_cons,List.filter_cons,if_neg (by simp;omega),if_pos (by simp;omega)]
  simp
theorem UL {l:List Int}{n x:Int}{b:Bool}(h:XO l n b)(hx:x=n):ZF (l++[x]) n b=ZF l n b∧XO (l++[x]) n b:=by
 subst hx
 refine⟨?_,fun hb y hy=>?_,fun hb=>?_⟩
 ·unfold ZF
  simp[List.filter_append,List.filter_cons]
 ·rcases List.mem_append.1 hy with hy|hy
  ·exact h.1 hb y hy
  ·rw[List.mem_singleton.1 hy];exact Int.le_refl _
 ·obtain⟨y,hy,hl⟩:=h.2 hb;exact⟨y,List.mem_append_left _ hy,hl⟩
theorem zaE {l:List Int}(ha:Asc l)(n:Int):ZF l n true=Yg l n:=by
 unfold ZF
 rw[if_pos rfl]
 refine zdH ?_ (Ks ha n) (fun y=>?_)
 ·refine List.pairwise_append.2 ⟨ha.filter _,List.pairwise_cons.2 ⟨fun y hy=>?_,ha.filter _⟩,fun a ha2 b hb=>?_⟩
  ·simpa using(List.mem_filter.1 hy).2
  ·have h1:a<n:=by simpa using(List.mem_filter.1 ha2).2
   rcases List.mem_cons.1 hb with rfl|hb
   ·exact h1
   ·have h2:n<b:=by simpa using(List.mem_filter.1 hb).2
    omega
 ·rw[zce]
  simp only[List.mem_append,List.mem_cons,List.mem_filter,decide_eq_true_eq]
  constructor
  ·rintro(⟨h1,_⟩|rfl|⟨h1,_⟩)
   ·exact .inr h1
   ·exact .inl rfl
   ·exact .inr h1
  ·rintro(rfl|h1)
   ·exact .inr (.inl rfl)
   ·rcases Int.lt_trichotomy y n with h2|h2|h2
    ·exact .inl ⟨h1,h2⟩
    ·exact .inr (.inl h2)
    ·exact .inr (.inr ⟨h1,h2⟩)
theorem w_end {l:List Int}{n:Int}{b:Bool}(h:XO l n b)(hb:b=false)(ha:Asc l):ZF l n b++[n]=Yg l n:=by
 subst hb
 obtain⟨e1,e2⟩:=w_le (h.1 rfl)
 rw[←zaE ha]
 unfold ZF
 rw[if_pos rfl,if_neg (by decide),e1,e2]
theorem Xy {l:List Int}(h:Asc l)(k:Nat):Asc (l.take k):=h.sublist (List.take_sublist k l)
theorem w_ini (l:List Int)(n:Int):XO (l.take 0) n false:=by
 rw[List.take_zero]
 exact⟨fun _ y hy=>(List.not_mem_nil hy).elim,fun h=>Bool.noConfusion h⟩
theorem zaU (l:List Int)(n:Int)(b:Bool):(ZF l n b).length≤l.length+1:=by
 have key: ∀l:List Int,(l.filter (fun y=>decide (y<n))).length+(l.filter (fun y=>decide (n<y))).length≤l.length:=by
  intro l
  induction l with
  |nil=>simp
  |cons x l ih=>
   rw[List.filter_cons,List.filter_cons]
   by_cases h1:x<n
   ·rw[if_pos (by simpa using h1),if_neg (by simp;omega)];simp only[List.length_cons];omega
   ·rw[if_neg (by simpa using h1)]
    split
    ·simp only[List.length_cons];omega
    ·simp only[List.length_cons];omega
 unfold ZF
 split
 ·have:=key l
  simp only[List.length_append,List.length_cons];omega
 ·have:=List.length_filter_le (fun y=>decide (y≠n)) l
  omega
theorem Zn {l:List Int}{k:Nat}(h:k<l.length):l.take (k+1)=l.take k++[l.getD k 0]:=by rw[List.take_succ_eq_append_getElem h,zK _ h]
theorem zew {vl:Value}{l:List Int}(hl:RdS W G vl l){n:Int}(hn:InR n)(hS0:Sep G W Rs w)(hasc:Asc l)(hfew:l.length≤1000):Ret Tryz.prog 111 [vl,.int .i64 (n)] w (fun r w'=> ∃(v:Value),r=(v:Value)∧Sep G W ((RowE (α:=Int) own 3 v (Yg l n))::Rs) w'):=by
 refine zm Tryz.func111 rfl rfl ?_
 refine za (R0 fun _=>st (aS Iz (zb (za (R0 fun _=>st (aS Iz (zb (za (R0 fun _=>st (aS (.bool false) (zb (za (za (R0 fun _=>st (aS (Iv 0) (zb (zu ?_)))))))))))))))))
 have aH:Sep G W ((RowE (α:=Int) own 3 Iz [])::Rs) w:=hS0.rowNil own 3
 refine yf (fun mq σ wq=> ∃k vo ld ρ,mq=l.length-k∧σ=yo ρ [(0,vl),(1,Iv n),(5,vo),(6,.bool ld),(7,Iw k)]∧(k≤l.length)∧(XO (l.take k) n ld)∧Sep G W ((RowE own 3 vo (ZF (l.take k) n ld))::Rs) wq) ⟨0,Iz,false,_,rfl,sSf,zY _,(w_ini l n),aH⟩ ?_
 rintro m3 σ4 w2 ⟨k,vo,ld,ρl1,rfl,rfl,hk,hw,e⟩
 have aI:=e.r0
 have hwl:=zaU (l.take k) n ld
 rw[List.length_take]at hwl
 refine za (za (R0 fun _=>st (mV (Iw k) (st (mV vl (st (zS nT rfl hl.sl (st (zI rfl rfl (zb ?_))))))))))
 cases A:decide (((k:Nat):Int)<((l.length:Nat):Int))
 have A:=fD A
 refine zf rfl (yh (zX (za (za (R0 fun _=>st (mV (.bool ld) (st (yw rfl (zb ?_)))))))))
 cases B: !ld
 try simp only[zh]at B
 refine zf rfl (zp (za (R0 fun _=>st (mV vo (st (aS vo (zb (zo (zN sY (show _=(vo:Value)from rfl) ?_)))))))))
 have p:k=l.length:=by omega
 rw[p,List.take_length]at e
 rw[p,List.take_length]at hw
 rw[B,zaE hasc]at e
 refine⟨vo,rfl,e⟩
 try simp only[zh]at B
 refine zg rfl (R0 fun _=>st (mV vo (st (mV (Iv n) (st (zL (c:=#[Iv n]) nT sT nR dc rfl kr ?_))))))
 intro w11 b10 aJ
 have E:=e.new aJ
 have Q:=E.b0
 refine st (yx (src:=own) (bytes:=8) ((E.s2_b).emp1) UD rfl rfl Q (fun _ _ _=>(show _ from⟨rfl,hn⟩)) yqb rfl ?_)
 intro q w13 o
 have ag:=o.r0
 refine st (aS q (zb (za (R0 fun _=>st (mV q (st (aS q (zb (zo (zN sY (show _=(q:Value)from rfl) ?_))))))))))
 have p:k=l.length:=by omega
 rw[p,List.take_length]at o
 rw[p,List.take_length]at hw
 rw[w_end hw B hasc]at o
 refine⟨q,rfl,o⟩
 have A:=tD A
 refine zg rfl (zp (za (zu (za (za (zy kr (st (mV (.bool ld) (st (yw rfl (st (mV (.bool (!ld)) (stc (V:=vl) rfl rfl (fun ah=>?_) ?_)))))))))))))
 have ai:=ah
 try simp only[zh]at ai
 exact mV vl rflB
 refine stc (V:=Iw k) rfl rfl (fun aj=>?_) ?_
 have ak:=aj
 try simp only[zh]at ak
 exact mV (Iw k) rflB
 refine stc (V:=Ix (sb vl) (so vl+k*1)) rfl rfl (fun s=>?_) ?_
 have al:=s
 try simp only[zh]at al
 have am:k<l.length:=bo
 exact zn (k:=1) nT sT (ifpC s) hl.sl (ifpC s) am rflB
 refine stc (V:=Iv ((l.getD k 0))) rfl rfl (fun F=>?_) ?_
 have an:=F
 try simp only[zh]at an
 have H:k<l.length:=bo
 obtain⟨R,hxe29⟩:=hl.intD H
 have S:=e.cells R (hl.foot (ne_of_lt H))
 exact lD (Iv ((l.getD k 0))) kT (ifpC F) (S.get (j:=0) rfl) rflB
 refine stc (V:=Iv n) rfl rfl (fun ao=>?_) ?_
 have ap:=ao
 try simp only[zh]at ap
 exact mV (Iv n) rflB
 refine stc (V:=.bool (decide (n<(l.getD k 0)))) rfl rfl (fun t=>?_) ?_
 have aq:=t
 try simp only[zh]at aq
 exact xj (k:=.i64) (a:=(l.getD k 0)) (b:=n) (ifpC t) (ifpC t) rflB
 refine st (zF rfl (fun hbp=>(ifpC hbp)) (zb ?_))
 cases d:(!ld)&&(decide (n<(l.getD k 0)))
 try simp only[zh]at d
 refine zf rfl (zp (za (R0 fun _=>st (mV vl (st (mV (Iw k) ?_))))))
 have ar:k<l.length:=bo
 refine st (zn (k:=1) nT sT rfl hl.sl rfl ar ?_)
 have u:k<l.length:=bo
 obtain⟨C,T⟩:=hl.intD u
 have U:=e.cells C (hl.foot (ne_of_lt u))
 refine st (lD (Iv ((l.getD k 0))) kT rfl (U.get (j:=0) rfl) (st (mV (Iv n) (st (yj rfl rfl (zb ?_))))))
 cases f: !decide ((l.getD k 0)=n)
 have f:=zB f
 refine zf rfl (zp (R0 fun _=>st (mV (Iw k) ?_)))
 have au:InR ((k+1:Nat):Int):=bo
 refine st (zU (r:=((k+1:Nat):Int)) rfl rfl (by rw[show(((k:Nat):Int)+1:Int)=((k+1:Nat):Int)from bo];exact zJ au) (st (aS (Iw (k+1)) (zb ?_))))
 have I:ZF (l.take (k+1)) n ld=(ZF (l.take k) n ld)∧XO (l.take (k+1)) n ld:=by
  rw[Zn (by omega)]
  have m:Asc (l.take k++[l.getD k 0]):=by rw[←Zn (by omega)];exact Xy hasc _
  first|(exfalso;omega)|exact Jh hw d.1 d.2|exact Ji hw m d f|exact UL hw f
 rw[←I.1]at e
 exact⟨_,by omega,k+1,vo,ld,_,rfl,sSf,by omega,I.2,e⟩
 have f:=zC f
 refine zg rfl (R0 fun _=>st (mV vo (st (mV vl (st (mV (Iw k) ?_))))))
 have av:k<l.length:=bo
 refine st (zn (k:=1) nT sT rfl hl.sl rfl av ?_)
 have X:=e.cells C (hl.foot (ne_of_lt u))
 refine st (lD (Iv ((l.getD k 0))) kT rfl (X.get (j:=0) rfl) (st (zL (c:=#[Iv ((l.getD k 0))]) nT sT nR dc rfl kr ?_)))
 intro w49 b48 aw
 have J:=e.new aw
 have Y:=J.b0
 refine st (yx (src:=own) (bytes:=8) ((J.s2_b).emp1) UD rfl rfl Y (fun _ _ _=>(show _ from⟨rfl,T⟩)) yqb rfl ?_)
 intro ae w51 x
 have ax:=x.r0
 refine st (aS ae (zb (R0 fun _=>st (mV (Iw k) ?_))))
 have ay:InR ((k+1:Nat):Int):=bo
 refine st (zU (r:=((k+1:Nat):Int)) rfl rfl (by rw[show(((k:Nat):Int)+1:Int)=((k+1:Nat):Int)from bo];exact zJ ay) (st (aS (Iw (k+1)) (zb ?_))))
 have K:ZF (l.take (k+1)) n ld=(ZF (l.take k) n ld)++[(l.getD k 0)]∧XO (l.take (k+1)) n ld:=by
  rw[Zn (by omega)]
  have m:Asc (l.take k++[l.getD k 0]):=by rw[←Zn (by omega)];exact Xy hasc _
  first|(exfalso;omega)|exact Jh hw d.1 d.2|exact Ji hw m d f|exact UL hw f
 rw[←K.1]at x
 exact⟨_,by omega,k+1,ae,ld,_,rfl,sSf,by omega,K.2,x⟩
 try simp only[zh]at d
 refine zg rfl (za (R0 fun _=>st (mV vo (st (mV (Iv n) (st (zL (c:=#[Iv n]) nT sT nR dc rfl kr ?_)))))))
 intro w62 b61 az
 have L:=e.new az
 have Z:=L.b0
 refine st (yx (src:=own) (bytes:=8) ((L.s2_b).emp1) UD rfl rfl Z (fun _ _ _=>(show _ from⟨rfl,hn⟩)) yqb rfl ?_)
 intro M w64 h
 have aA:=h.r0
 refine st (aS M (zb (R0 fun _=>st (aS (.bool true) (zb (za (R0 fun _=>st (mV vl (st (mV (Iw k) ?_))))))))))
 have aB:k<l.length:=bo
 refine st (zn (k:=1) nT sT rfl hl.sl rfl aB ?_)
 have y:k<l.length:=bo
 obtain⟨D,aa⟩:=hl.intD y
 have ab:=h.cells D (hl.foot (ne_of_lt y))
 refine st (lD (Iv ((l.getD k 0))) kT rfl (ab.get (j:=0) rfl) (st (mV (Iv n) (st (yj rfl rfl (zb ?_))))))
 cases g: !decide ((l.getD k 0)=n)
 have g:=zB g
 refine zf rfl (zp (R0 fun _=>st (mV (Iw k) ?_)))
 have aC:InR ((k+1:Nat):Int):=bo
 refine st (zU (r:=((k+1:Nat):Int)) rfl rfl (by rw[show(((k:Nat):Int)+1:Int)=((k+1:Nat):Int)from bo];exact zJ aC) (st (aS (Iw (k+1)) (zb ?_))))
 have N:ZF (l.take (k+1)) n true=(ZF (l.take k) n ld)++[n]∧XO (l.take (k+1)) n true:=by
  rw[Zn (by omega)]
  have m:Asc (l.take k++[l.getD k 0]):=by rw[←Zn (by omega)];exact Xy hasc _
  first|(exfalso;omega)|exact Jh hw d.1 d.2|exact Ji hw m d g|exact UL hw g
 rw[←N.1]at h
 exact⟨_,by omega,k+1,M,true,_,rfl,sSf,by omega,N.2,h⟩
 have g:=zC g
 refine zg rfl (R0 fun _=>st (mV M (st (mV vl (st (mV (Iw k) ?_))))))
 have aD:k<l.length:=bo
 refine st (zn (k:=1) nT sT rfl hl.sl rfl aD ?_)
 have ac:=h.cells D (hl.foot (ne_of_lt y))
 refine st (lD (Iv ((l.getD k 0))) kT rfl (ac.get (j:=0) rfl) (st (zL (c:=#[Iv ((l.getD k 0))]) nT sT nR dc rfl kr ?_)))
 intro w83 b82 aE
 have O:=h.new aE
 have ad:=O.b0
 refine st (yx (src:=own) (bytes:=8) ((O.s2_b).emp1) UD rfl rfl ad (fun _ _ _=>(show _ from⟨rfl,aa⟩)) yqb rfl ?_)
 intro af w85 z
 have aF:=z.r0
 refine st (aS af (zb (R0 fun _=>st (mV (Iw k) ?_))))
 have aG:InR ((k+1:Nat):Int):=bo
 refine st (zU (r:=((k+1:Nat):Int)) rfl rfl (by rw[show(((k:Nat):Int)+1:Int)=((k+1:Nat):Int)from bo];exact zJ aG) (st (aS (Iw (k+1)) (zb ?_))))
 have P:ZF (l.take (k+1)) n true=(ZF (l.take k) n ld)++[n]++[(l.getD k 0)]∧XO (l.take (k+1)) n true:=by
  rw[Zn (by omega)]
  have m:Asc (l.take k++[l.getD k 0]):=by rw[←Zn (by omega)];exact Xy hasc _
  first|(exfalso;omega)|exact Jh hw d.1 d.2|exact Ji hw m d g|exact UL hw g
 rw[←P.1]at z
 exact⟨_,by omega,k+1,af,true,_,rfl,sSf,by omega,P.2,z⟩
theorem zej {sh:List CelS}{c:List Cel}{k:Nat}{v:Value}(hlen:sh.length=c.length)(hn: ∀i,i<k→(sh.getD i default).n=(c.getD i default).n)(hk:k<c.length): ∀i,i<k+1→((sh.set k ⟨(c.getD k default).n,v⟩).getD i default).n=(c.getD i default).n:=by
 intro i hi
 by_cases e:i=k
 ·subst e;rw[Xq (by omega)]
 ·rw[Wg (fun h=>e h.symm)];exact hn i (by omega)
theorem zey {vc:Value}{c:List Cel}(hc:RdS W G vc c)(hS0:Sep G W Rs w):Ret Tryz.prog 110 [vc] w (fun r w'=> ∃(v:Value),r=(v:Value)∧Sep G W ((CelW v 140 3 c)::Rs) w'):=by
 have hcs:_*32≤_:=hc.small
 refine zm Tryz.func110 rfl rfl ?_
 refine za (R0 fun _=>st (aS Iz (zb (za (R0 fun _=>st (mV vc (st (zS (n:=c.length) wT rfl hc.sl (st (Zt (α:=CelS) (T:=140) (bytes:=32) (n:=c.length) (x1:=(⟨0,Iz⟩:CelS)) wT ⟨_,_,rfl,rfl,rfl,rfl,rfl,fun _ _=>⟨rfl,⟨by decide,rfl⟩⟩⟩ rfl rfl rfl (by show c.length*32≤140737488355328;omega) ?_))))))))))
 intro w6 g aW he3 hl4 aX
 let aV:=Iy g c.length c.length
 have aL:Sep G W ((RowE (α:=CelS) own 140 aV (List.replicate c.length (⟨0,Iz⟩:CelS)))::Rs) w6:=hS0.made aW aX
 have aY:=aL.r0
 refine st (aS aV (zb (za (za (R0 fun _=>st (aS (Iv 0) (zb (zu ?_))))))))
 have aZ:Sep G W ((Star [])::(RowE (α:=CelS) own 140 aV (List.replicate c.length (⟨0,Iz⟩:CelS)))::Rs) w6:=aL.nilStar
 refine yf (fun mq σ B=> ∃k shk ρ,mq=c.length-k∧σ=yo ρ [(0,vc),(3,(Iy g c.length c.length)),(4,Iw k)]∧(k≤c.length)∧(shk.length=c.length)∧(∀i,i<k→(shk.getD i default).n=(c.getD i default).n)∧Sep G W ((RowE own 140 (Iy g c.length c.length) shk)::(Star (SetRows 3 (shk.take k) (c.take k)))::Rs) B) ⟨0,List.replicate c.length (⟨0,Iz⟩:CelS),_,rfl,sSf,zY _,by rw[List.length_replicate],(fun i h=>absurd h (yO i)),(aZ.mv1)⟩ ?_
 rintro m12 σ13 ba ⟨k,shk,ρl1,rfl,rfl,hkk,hshl,hshn,q⟩
 let bb:=zV W (sb vc) (so vc+k*2+1)
 have ad:=q.r0
 refine za (za (R0 fun _=>st (mV (Iw k) (st (mV vc (st (zS wT rfl hc.sl (st (zI rfl rfl (zb ?_))))))))))
 cases s:decide (((k:Nat):Int)<((c.length:Nat):Int))
 have s:=fD s
 refine zf rfl (yh (zX (za (R0 fun _=>st (mV aV (st (aS aV (zb (zo (zN Tryz.results110 (show _=(aV:Value)from rfl) ?_))))))))))
 have hkl:k=c.length:=by omega
 rw[hkl,List.take_of_length_le (Nat.le_of_eq hshl),List.take_length]at q
 have aN:Sep G W ((CelW (Iy g c.length c.length) 140 3 c)::Rs) ba:=CelW.mk q ⟨hshl,fun i hi=>hshn i om⟩
 refine⟨aV,rfl,aN⟩
 have s:=tD s
 refine zg rfl (zp (za (zu ?_)))
 refine WD4 ((fun TT aM=>WF [fun vals B=>Sep G W (aM::TT) B,fun vals B=> ∃d,(vals 12=d)∧Sep G W ((RowE own 3 d ((c.gd k).set))::aM::TT) B,fun vals B=> ∃d,(vals 12=d)∧Sep G W ((RowE own 140 aV (shk.set k (⟨(c.gd k).n,d⟩:CelS)))::(RowE own 3 d ((c.gd k).set))::TT) B]) ((Star (SetRows 3 (shk.take k) (c.take k)))::Rs) (RowE own 140 aV shk)) (AF [Vl 0 aV,Vl 1 (Iw k),Vl 2 vc,Vl 3 (Iw k),Vl 4 (Ix (sb vc) (so vc+k*2)),Vl 5 (Ix (sb vc) (so vc+k*2)),Vl 6 (Iv ((c.gd k).n)),Vl 7 vc,Vl 8 (Iw k),Vl 9 (Ix (sb vc) (so vc+k*2)),Vl 10 (Ix (sb vc) (so vc+k*2+1)),Vl 11 bb,fun _=>True,fun vals=> ∀(d:Value),vals 12=d→vals 13=(.agg #[Iv ((c.gd k).n),d]:Value),Vl 14 (Ix (sb aV) (so aV+k*2)),fun _=>True]) [[],[],[],[],[2,3],[2,3,4],[2,3,4,5],[],[],[7,8],[7,8,9],[7,8,9,10],[7,8,9,10,11],[2,3,4,5,6,7,8,9,10,11,12],(rg 14),(rg 15)] [12,15] [(0,1),(0,1),(0,1),(0,1),(0,1),(0,1),(0,1),(0,0),(0,0),(0,0),(0,0),(0,0),(0,0),(1,1),(1,1),(1,1)] q ⟨fun _ _ _ _ _ _ _=>obl rfl (mV aV dR),fun _ _ _ _ _ _ _=>obl rfl (mV (Iw k) dR),fun _ _ _ _ _ _ _=>obl rfl (mV vc dR),fun _ _ _ _ _ _ _=>obl rfl (mV (Iw k) dR),?_,fun _ _ _ _ _ _ am=>obl rfl (xr (am 4 dc) dR),?_,fun _ _ _ _ _ _ _=>obl rfl (mV vc dR),fun _ _ _ _ _ _ _=>obl rfl (mV (Iw k) dR),?_,fun _ _ _ _ _ _ an=>obl rfl (xl (an 9 dc) dR),?_,?_,?_,?_,?_,zj⟩ ?_ (hlocA:=xd ⟨dA,dA,dA,dA,dA,dA,dA,dA,dA,dA,dA,dA,dT,fun vals t C h=>fun d I=>(C 13 (.inl rfl)).trans (h d ((C 12 (.inr dc)).symm.trans I)),dA,dT,zj⟩)
 refine fun x _ _ aO aP J m=>?_
 have hkk:=xz aO aP
 rcases hkk with rfl|rfl
 refine obl rfl ?_
 have ao:k<c.length:=bo
 exact zn (k:=2) wT oR (m 2 dc) hc.sl (m 3 dc) ao dR
 obtain⟨d,e,hS202⟩:=J
 refine obl rfl ?_
 have ap:k<c.length:=bo
 exact zn (k:=2) wT oR (m 2 dc) hc.sl (m 3 dc) ap dR
 refine fun y _ _ aQ aR K L=>?_
 have hkk:=xz aQ aR
 rcases hkk with rfl|rfl
 have aq:=K
 refine obl rfl ?_
 have M:k<c.length:=bo
 obtain⟨ae,D,hoke221⟩:=hc.celD M
 have af:=aq.cells ae (hc.foot (ne_of_lt M))
 exact lD (Iv ((c.gd k).n)) kT (L 5 dc) (af.get (j:=0) rfl) dR
 obtain⟨d,e,ar⟩:=K
 refine obl rfl ?_
 have N:k<c.length:=bo
 obtain⟨ag,E,hoke227⟩:=hc.celD N
 have ah:=ar.cells ag (hc.foot (ne_of_lt N))
 exact lD (Iv ((c.gd k).n)) kT (L 5 dc) (ah.get (j:=0) rfl) dR
 refine ob1 0 fun _ _ _ O=>(obl rfl ?_)
 have au:k<c.length:=bo
 exact zn (k:=2) wT oR (O 7 dc) hc.sl (O 8 dc) au dR
 refine ob1 0 fun _ _ (av:Sep _ _ _ _) aw=>(obl rfl ?_)
 have P:k<c.length:=bo
 obtain⟨ai,F,hoke268⟩:=hc.celD P
 have aj:=av.cells ai (hc.foot (ne_of_lt P))
 exact lD bb Tryz.isAgg42 (aw 10 dc) (aj.get (j:=1) rfl) dR
 refine ob1 0 fun vals _ (Q:Sep _ _ _ _) ax=>(obl rfl ?_)
 have R:k<c.length:=bo
 obtain⟨ak,p,hoke120⟩:=hc.celD R
 refine(zO (vals:=[bb]) rfl (yK ⟨(ax 11 dc),zj⟩) Tryz.call90 (VC p Q) ?_)
 rintro d w125 ⟨_,rfl,S⟩
 have ay:=S.r0
 exact fun t C U=>⟨(exiA d (zG C S)),zj⟩
 refine ob1 1 fun _ _ az aA=>?_
 obtain⟨d,e,aB⟩:=az
 refine obl rfl ?_
 have V:=aB.r0
 refine zQ (parts':=[(0,Iv ((c.getD k default).n)),(1,d)]) (v:=.agg #[Iv ((c.getD k default).n),d]) (ZH ⟨rfl,(aA 6 (by decide)),rfl,e,zj⟩) (by obtain⟨_,_,aC,_⟩:=V.1;rw[show d=Value.slice _ _ _ from aC];simp[Instr.build,Instr.fill,go_sem,YR]) (fun t C U=>⟨rfl,?_⟩)
 intro v124q I
 rw[U 12 (by decide)]at I;cases e.symm.trans I
 exact C
 refine ob1 1 fun _ _ aD X=>?_
 obtain⟨d,e,hS288⟩:=aD
 refine obl rfl ?_
 have aE:k<shk.length:=bo
 exact zn (k:=2) wT oR (X 0 dc) ad.1 (X 1 dc) aE dR
 refine ob1 1 fun vals _ aF Y=>?_
 obtain⟨d,e,z⟩:=aF
 have aT:=Y 13 dc d e
 refine obl rfl ?_
 have Z:k<c.length:=bo
 obtain⟨al,H,ac⟩:=hc.celD Z
 have A:=z.r0
 have aG:=(z.mv1).emp1
 refine(xe (α:=CelS) (j:=k) (o:=0) (us:=[Iv ((c.getD k default).n),d]) (x1:=(⟨(c.getD k default).n,d⟩:CelS)) aG oR bo (Y 14 (by decide)) aT rfl (xJ rfl) (zZ ⟨rfl,A.1.one,zj⟩) (fun _ _ _ hel _=>(by rw[←zK default (by omega)]at hel;obtain⟨rfl,hok⟩:=hel;exact⟨rfl,⟨ac.n,A.1.one⟩⟩)) ?_)
 intro w158 aa
 have aH:=aa.r0
 exact fun t C U=>⟨(exiA d (zG ((U 12 dc).trans e) aa)),zj⟩
 intro vals aU aI hA294
 obtain⟨d,e,aJ⟩:=aI
 refine yd (kv:=[(0,vc),(3,aV),(4,Iw k),(8,Iw k),(9,vc),(10,Iw c.length),(11,.bool true)]) sEv (fun ρw292=>(zb (R0 fun _=>st (mV (Iw k) ?_))))
 have aK:InR ((k+1:Nat):Int):=bo
 refine st (zU (r:=((k+1:Nat):Int)) rfl rfl (by rw[show(((k:Nat):Int)+1:Int)=((k+1:Nat):Int)from bo];exact zJ aK) (st (aS (Iw (k+1)) (zb ?_))))
 have ab:Sep G W ((Star (SetRows 3 (shk.take k) (c.take k)++[(RowE (α:=Int) own 3 d ((c.gd k).set))]))::(RowE own 140 aV (shk.set k (⟨(c.gd k).n,d⟩:CelS)))::Rs) aU:=(aJ.s3_bca).snocStar
 rw[←SetRows.step (⟨(c.getD k default).n,d⟩:CelS) hshl (by omega)]at ab
 exact⟨_,by omega,k+1,shk.set k (⟨(c.getD k default).n,d⟩:CelS),_,rfl,sSf,by omega,by rw[List.length_set];exact hshl,(zej hshl hshn (by omega)),(ab.mv1)⟩
end
section
open Go.Proofs Go.RowKit
theorem Je {t:Typ}:Right t (List.replicate t.fields.length ⟨0,[]⟩):=by
 have key: ∀i,i<(List.replicate t.fields.length (⟨0,[]⟩:Cel)).length→(List.replicate t.fields.length (⟨0,[]⟩:Cel)).getD i default=⟨0,[]⟩:=by
  intro i hi
  rw[zK _ hi,List.getElem_replicate]
 refine⟨by simp,fun i hi _=>?_,fun i hi _=>?_,fun i hi _=>?_,fun i hi=>?_,fun i hi=>?_⟩<;>rw[key i hi]
 ·exact Int.le_refl _
 ·simp
 ·exact List.Pairwise.nil
theorem zbO {l:List Int}{k:Nat}{n:Int}(hk:k<l.length)(h:l.getD k 0=n):n∈l:=by rw[zK _ hk]at h;rw[←h];exact List.getElem_mem hk
theorem Qn {l:List Int}{n:Int}(h: ∀i,i<l.length→ ¬l.getD i 0=n): ¬n∈l:=by
 intro hm
 obtain⟨i,hi,e⟩:=List.getElem_of_mem hm
 exact h i hi (by rw[zK _ hi];exact e)
theorem zbT {t:Typ}{dt0:Value}(hdt0:RdS W G dt0 t.fields)(ot:t.Ok)(hS0:Sep G W Rs w):Ret Tryz.prog 37 [.agg (t.cells dt0).toArray] w (fun r w'=> ∃(v:Value),r=(v:Value)∧Sep G W ((RowE (α:=Cel) own 140 v (List.replicate t.fields.length (⟨0,[]⟩:Cel)))::Rs) w'):=by
 have hdt0s:_*48≤_:=hdt0.small
 refine zm Tryz.func37 rfl rfl ?_
 refine za (R0 fun _=>st (zT rfl ?_))
 intro w3 b2 e
 have c:=hS0.new e
 refine st (aS Iz (zb (za (R0 fun _=>st (xi rfl (st (lD dt0 tT rfl (zd (c.b0) rfl) (st (zS lT rfl hdt0.sl (st (Zt (α:=Cel) (T:=140) (bytes:=32) (n:=t.fields.length) (x1:=(⟨0,[]⟩:Cel)) wT ⟨_,_,rfl,rfl,rfl,rfl,rfl,fun _ _=>⟨_,rfl,RdS.nil _ _,⟨by decide⟩⟩⟩ rfl rfl rfl (by show t.fields.length*32≤140737488355328;omega) ?_)))))))))))
 intro f b g he7 hl8 h
 let i:=Iy b t.fields.length t.fields.length
 have a:Sep G W ((RowE (α:=Cel) own 140 i (List.replicate t.fields.length (⟨0,[]⟩:Cel)))::(Blk b2 (t.cells dt0).toArray 74)::Rs) f:=c.made g h
 have d:=a.r0
 refine st (aS i (zb (zo (zN Tryz.results37 rfl ?_))))
 refine⟨i,rfl,(a.s2_a)⟩
instance (t:Typ) (c:List Cel) (f op arg:Int):Decidable (YU t c f op arg):=by unfold YU Asc;infer_instance
end
section
open Go.ChangeShapes Go.WideShapes Go.ChangeAt Go.RowKit
theorem zdL {P:Program}{W:World}{name:String}{zs:List Int}{g:Nat}(hg:P.globalNamed name=some g)(h:Lib.TabIs P W name .i64 zs)(hz: ∀z∈zs,InR z)(hs:zs.length*8≤140737488355328):
 RdS W (WN W) (.slice (some ⟨g,0,none⟩) zs.length zs.length) zs:=by
 have hc: ∀i,W.cell? ⟨g,i,none⟩=(zs.map fun z=>Value.int .i64 z)[i]? :=fun i=>by
  rw[World.var?_cell hg h i];simp
 refine⟨⟨_,_,rfl,Nat.le_refl _,fun _=>⟨_,_,rfl⟩⟩,fun hne=>?_,hs,fun i hi=>?_⟩
 ·have h0:0<zs.length:=List.length_pos_iff.2 hne
  have h1:=hc 0
  rw[List.getElem?_eq_getElem (by simpa using h0)]at h1
  exact Yn h1
 ·refine⟨[.int .i64 zs[i]],fun j hj=>?_,⟨rfl,hz _ (List.getElem_mem hi)⟩⟩
  obtain rfl:j=0:=by simp at hj;omega
  have h1:=hc i
  rw[List.getElem?_eq_getElem (by simpa using hi)]at h1
  have e:(so (.slice (some ⟨g,0,none⟩) zs.length zs.length)+i*Rep.k Int+0)=i:=by
   show 0+i*1+0=i
   omega
  show W.cell? ⟨g,so (.slice (some ⟨g,0,none⟩) zs.length zs.length)+i*Rep.k Int+0,none⟩=_
  rw[e,h1]
  simp
theorem VQ {P:Program}{d:Option Tmp}{ty:TypeId}{pos:String}{af:Array Edge}{g:Option (Nat×Bool)}{σ:Env}{w:World}{K:Value→World→Prop}{t e:TypeId}{k n b o off:Nat}{i:Int}{x y:Operand}{ki:IntKind}(hU:P.underlying t=some (.array n e))(hS: ∀w,(sizeOf e).run P w=.ok k w)(hx:ev σ x=.pointer (some ⟨b,o,none⟩))(hy:ev σ y=.int ki i)
 (hi:0≤i∧i<n) (ho:i.toNat*k=off) (h:K (.pointer (some ⟨b,o+off,none⟩)) w):opV P ⟨d,.indexAddr t x y,ty,pos,af,g⟩ σ w K:=by
 obtain⟨m,rfl⟩:=Int.eq_ofNat_of_zero_le hi.1
 exact VK (i:=m) hU hS hx hy (by omega) (by simpa using ho) h
theorem Wm {H:Type}{enc:TypeId×Value→H}{C:Checked}{os:Os}{f:FuncId}{fn:Func}{s:ChangeSpec}{tb:TypeId}{laid:List (String×DataW Unit)}
 (own:ownKnob C.prog.godebug=none) (started:os.Started) (noInit:C.prog.inits.idxOf? f=none) (hfn:C.prog.funcs[f]? =some fn)
 (hl:laidOutB C.prog=true) (hrt:fn.resultTypes=#[tb]) (htb:C.prog.underlying tb=some .bool) (hsv:s.vars=[])
 (hsf: ∀ds:List (DataW H),ds.length=fn.params.size→s.fn H ds={results:=[.lit (.bool true)],args:=ds})
 (hps: ∀t∈fn.params.toList,C.prog.readableRec t=true∧t<C.prog.types.size)
 (witness: ∃(w:World) (tape:Tape) (i:Input),w.os=os∧(w.forCall tape i).Shaped C.prog∧i.vars=[]∧Input.okWide C.prog (w.forCall tape i) .any w.heap.size f i∧
  ((s.pre enc C.prog fn [] false (w.forCall tape i).memory i.args∧laidMetH C.prog laid (w.forCall tape i).memory)∧sizedMet enc C.prog fn (OpenSpec.ofChange s) false (w.forCall tape i).memory i.args)∧({}:Assume).holds C.prog (lone (Frame.enter C.prog f i.args .normal) [] (w.forCall tape i)))
 (contract: ∀(W:World) (base:Nat) (args:Array Value) (ds:List (DataW H)) (ps:List MemPlace),
  (∀(j:Nat) t v,fn.params[j]? =some t→args[j]? =some v→Value.okWide C.prog W .any base t v)→
  DataW.TrodAll enc C.prog W 0 (fun _=>true) true fn.params.toList args.toList ds ps→
  (∀(j:Nat) t d,fn.params.toList[j]? =some t→ds[j]? =some d→zdQ C.prog t d)→laidMetH C.prog laid W→
  Ret C.prog f args.toList W (fun r w'=>r=.bool true∧Ext W w')):
 ReturnsInHanded {} C os f .any (fun w args=>(s.pre enc C.prog fn [] false w args∧laidMetH C.prog laid w)∧sizedMet enc C.prog fn (OpenSpec.ofChange s) false w args) (s.post enc C.prog fn false true false false):=by
 refine returnsInHanded_of_change_and (C:=C) (X:=fun w _=>laidMetH C.prog laid w) (fun _ _ _ hh h=>h.of_heap hh) own started noInit hfn witness ?_
 intro W base args ds gs before hval hW _ hsz hL _
 have hW':=hW
 obtain⟨p,q,hA,hV,rfl,hfz,hnd⟩:=hW
 have hlt:=hW'.lt
 rw[hsv]at hV
 obtain⟨rfl,rfl⟩:=trodVars_none hV
 simp only[List.append_nil]at hW' hlt
 have hlen:ds.length=fn.params.size:=by
  have: ∀{ts:List TypeId} {vs:List Value} {ds:List (DataW H)} {ps:List MemPlace},DataW.TrodAll enc C.prog W 0 (fun _=>true) true ts vs ds ps→ds.length=ts.length:=by
   intro ts
   induction ts with
   |nil=>intro vs ds ps h;obtain⟨_,rfl,_⟩:=trodAll_nil h;rfl
   |cons t ts ih=>intro vs ds ps h;obtain⟨_,_,_,ds1,_,_,_,rfl,_,_,h2⟩:=trodAll_cons h;simp[ih h2]
  simpa using this hA
 have hc:=contract W base args ds p hval hA (fun j t d ht hd n hn=>by
  have:=List.all_eq_true.1 hsz n (by
   rw[List.append_nil]
   refine DataW.weights_mem_each (j:=j) (t:=t) ?_ hd n hn
   rw[List.getElem?_append_left (by exact(List.getElem?_eq_some_iff.1 ht).1)]
   exact ht)
  simpa using this) hL
 have hc':Calls C.prog f args W fun e w'=> ∃v,e=.returned v∧v=.bool true∧Ext W w':=by
  have:args.toList.toArray=args:=by simp
  rw[←this];exact hc
 refine hc'.mono fun e W' ⟨v,he,hv,hx⟩=>⟨v,he,?_⟩
 subst hv
 have hb:=hx.below
 refine⟨ds,[],p,[],p,[],hW',?_,?_,?_,hb.frame _,fun h=>by cases h⟩
 ·rw[List.append_nil,hsf ds hlen,hrt]
  exact trodAll_mk1 (shut_bool htb _)
 ·rw[List.append_nil,hsf ds hlen]
  exact Xj hl hb hps hA (fun x hx=>hlt x hx)
 ·rw[List.append_nil,hsf ds hlen,hsv]
  rfl
end
end Go.Proofs.YtbcdijeggfoabaaGreatDoor
