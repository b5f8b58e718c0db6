import Derived.Test.YtbcdijeggfoabaaGreatDoorW3
import Derived.Test.YtbcdijeggfoabaaGreatDoorW2
import Derived.Test.YtbcdijeggfoabaaGreatDoorW1
import Derived.Lib.LaidTab
import Derived.LaidMore
import Derived.LaidLaws
import Derived.Stop.Joined
set_option linter.unusedSimpArgs false
set_option linter.unusedVariables false
set_option linter.unusedSectionVars false
set_option linter.deprecated false
open Go.Proofs.Tryz renaming isAgg3→kT,underlying72→lT,sizeOf106→mT,underlying42→nT,isAgg22→oT,underlying22→pT,sizeOf74→qT,underlying104→rT,sizeOf3→sT,isAgg72→tT,isAgg104→uT,sizeOf143→vT,underlying75→wT,results26→kR,results64→lR,isAgg106→mR,zeroValue3→nR,sizeOf140→oR,isAgg23→pR,underlying23→qR,results25→rR,results63→sR,isAgg74→tR,zeroValue106→uR,sizeOf112→vR,results7→wR,results52→kY,results66→lY,call66→mY,isAgg143→nY,zeroValue143→oY,results65→pY,isAgg25→qY,sizeOf25→rY,results111→sY
namespace Go.Proofs.YtbcdijeggfoabaaGreatDoor
variable {G:Nat→Prop}{W w:World}{Rs:List HP}
section
set_option maxRecDepth 8000
open Go.Proofs Go.RowKit
theorem xD {P:Program}{σ:Env}{w:World}{fn:Func}{a u:Tmp}{t:TypeId}{R:Value→World→Prop}{b k:Nat}{cs:List Value}{v':Value}(hr:fn.results=#[.cell a t,.tmp u])(hA: ∀w,(isAgg t).run P w=.ok true w)(hS: ∀w,(sizeOf t).run P w=.ok k w)(hk:cs.length=k)
 (hv:σ a=.pointer (some ⟨b,0,none⟩)) (hc:CellsAt w b 0 cs) (hu:σ u=v') (h:R (.tuple #[.agg cs.toArray,v']) w):YO P fn R .ret σ w:=by
 subst hk
 refine⟨_,fun tmps ht=>?_,h⟩
 have:=yY (P:=P) (w:=w) b 0 cs 0 #[] (fun j hj=>by simpa using hc j hj)
 have e:tmps[a]?.getD undef=.pointer (some ⟨b,0,none⟩):=by rw[←hv,←ht a];simp
 have e2:tmps[u]?.getD undef=v':=by rw[←hu,←ht u];simp
 simp[results,hr,e,e2,asAddr,loadVar,hA,hS,loadCells,this,go_sem]
def yU (t:Typ)(n:Int):Int:=if n<0∨(t.fields.length:Int)≤n then 0 else(t.fields.getD n.toNat default).kind
def Qj (t:Typ)(f:Fld):Prop:=(1≤f.kind∧f.kind≤4)∧(f.floor=true→f.kind=1)∧ ∀j,j<f.moves.length→(f.moves.getD j default).need= -1∨yU t (f.moves.getD j default).need=1
def zdN (f:Fld):Prop:=(f.kind=4→1≤f.moves.length)∧f.moves.length≤16
def FewT (t:Typ):Prop:=(1≤t.fields.length∧t.fields.length≤8)∧ ∀j,j<t.fields.length→zdN (t.fields.getD j default)
def KI (p:Prj):Prop:=0≤p.pby∧(1≤p.pgroup∧p.pgroup≤3)∧1≤p.pmake∧p.pmake≤5
def zaA (d:Dcl):Prop:=d.projs.length≤8∧ ∀i,i<d.projs.length→KI (d.projs.getD i default)
theorem Jl {t:Typ}{n:Int}(h:yU t n=2):0≤n:=by
 unfold yU at h
 split at h
 ·cases h
 ·omega
def FewD (d:Dcl):Prop:=(1≤d.types.length∧d.types.length≤8)∧ ∀i,i<d.types.length→FewT (d.types.getD i default)
theorem yL {p:Nat→Prop}{k:Nat}(h: ∀i,i<k→p i)(hk:p k): ∀i,i<k+1→p i:=fun i hi=>by
 by_cases e:i=k
 ·rw[e];exact hk
 ·exact h i (by omega)
theorem zdQ {d:Dcl}(h1:FewD d)(h2: ∀i,i<d.types.length→ ∀j,j<(d.types.getD i default).fields.length→Qj (d.types.getD i default) ((d.types.getD i default).fields.getD j default)):DclOk d:=by
 refine⟨h1.1.1,h1.1.2,fun i hi=>?_⟩
 have f1:=h1.2 i hi
 have f2:=h2 i hi
 refine⟨f1.1.1,f1.1.2,fun j hj=>(f2 j hj).1,fun j hj=>(f2 j hj).2.1,fun j hj=>f1.2 j hj,fun j hj q hq=>?_⟩
 rcases(f2 j hj).2.2 q hq with h|h
 ·exact .inl h
 ·right
  unfold yU at h
  split at h
  ·omega
  ·rename_i hn
   exact⟨by omega,by omega,h⟩
theorem zds {d:Dcl}{dd0:Value}(hdd0:RdS W G dd0 d.types){dd1:Value}(hdd1:RdS W G dd1 d.projs)(od:d.Ok)(hS0:Sep G W Rs w):Ret Tryz.prog 25 [.agg (d.cells dd0 dd1).toArray] w (fun r w'=> ∃(b:Bool),r=(.bool b:Value)∧Sep G W Rs w'):=by
 refine zi Tryz.func25 rfl rfl ?_
 refine za (R0 fun _=>st (zM rfl ?_))
 intro w3 b2 N
 have s:=hS0.new N
 refine st (aS (.bool false) (zb (za (za (zA kr (st (yC rfl (st (lD dd0 oT rfl (zd (s.b0) rfl) (st (zJ pT rfl hdd0.sl (st (yT rfl rfl (st (mV (.bool (decide (20<((d.types.length:Nat):Int)))) (stc (V:=Ix b2 1) rfl rfl (fun O=>?_) ?_))))))))))))))))
 have hl6:=fD O
 exact ZP rfl ⟨rfl,rfl⟩
 refine stc (V:=dd1) rfl rfl (fun D=>?_) ?_
 have hl8:=fD D
 exact lD dd1 pR (if_pos D) (zd (s.b0) rfl) ⟨rfl,rfl⟩
 refine stc (V:=Iw d.projs.length) rfl rfl (fun E=>?_) ?_
 have hl10:=fD E
 exact zJ qR (if_pos E) hdd1.sl ⟨rfl,rfl⟩
 refine stc (V:=.bool (decide (20<((d.projs.length:Nat):Int)))) rfl rfl (fun t=>?_) ?_
 have hl12:=fD t
 exact yT (if_pos t) rfl ⟨rfl,rfl⟩
 refine st (zt rfl (fun hbp=>(if_pos hbp)) (zb ?_))
 cases u:(decide (20<((d.types.length:Nat):Int)))||(decide (20<((d.projs.length:Nat):Int)))
 try simp only[zf]at u
 refine ze rfl (zl (za (za (R0 fun _=>st (aS (Iv 0) (zb (zn (zZ (fun mq σ F=> ∃k ρ,mq=d.types.length-k∧σ=yd ρ [(1,Ix b2 0),(3,Iw k)]∧(k≤d.types.length)∧Sep G W ((Blk b2 (d.cells dd0 dd1).toArray 25)::Rs) F) ⟨0,_,rfl,sSf,Nat.zero_le _,s⟩ ?_))))))))
 rintro m15 σ16 w14 ⟨k,ρl1,rfl,rfl,hkk,f⟩
 let P:=zN W (sb dd0) (so dd0+k*1+0)
 refine za (za (R0 fun _=>st (mV (Iw k) (st (yC rfl (st (lD dd0 oT rfl (zd (f.b0) rfl) (st (zJ pT rfl hdd0.sl (st (zC rfl rfl (zb ?_))))))))))))
 cases h:decide (((k:Nat):Int)<((d.types.length:Nat):Int))
 have h:=fD h
 refine ze rfl (ya (zS (za (R0 fun _=>st (aS (.bool false) (zb (zk (zG rR rfl ?_))))))))
 refine⟨false,rfl,(f.s1_)⟩
 have h:=tD h
 refine zg rfl (zl (za (zn (za (za (R0 fun _=>st (yC rfl (st (lD dd0 oT rfl (zd (f.b0) rfl) (st (mV (Iw k) ?_)))))))))))
 have H:k<d.types.length:=bo
 refine st (zj pT qT rfl hdd0.sl rfl H (st (yS rfl ?_)))
 have l:k<d.types.length:=bo
 obtain⟨m,c,hoke21⟩:=hdd0.typD l
 have hsm23:((d.types.getD k default).fields).length*48≤140737488355328:=c.small
 have y:=f.cells m (hdd0.foot (ne_of_lt l))
 refine st (lD P tT rfl (y.get rfl) (st (zJ lT rfl c.sl (st (yT rfl rfl (zb ?_))))))
 cases o:decide (20<((((d.types.getD k default).fields).length:Nat):Int))
 have o:=fD o
 refine ze rfl (zl (za (R0 fun _=>st (aS (Iv 0) (zb (zn (zZ (fun mq σ F=> ∃j ρ,mq=(d.types.getD k default).fields.length-j∧σ=yd ρ [(1,Ix b2 0),(3,Iw k),(4,Iw j)]∧(j≤(d.types.getD k default).fields.length)∧Sep G W ((Blk b2 (d.cells dd0 dd1).toArray 25)::Rs) F) ⟨0,_,rfl,sSf,Nat.zero_le _,f⟩ ?_)))))))
 rintro m27 σ28 w26 ⟨j,ρl2,rfl,rfl,hkj,e⟩
 refine za (za (R0 fun _=>st (mV (Iw j) (st (yC rfl (st (lD dd0 oT rfl (zd (e.b0) rfl) (st (mV (Iw k) ?_)))))))))
 have I:k<d.types.length:=bo
 refine st (zj pT qT rfl hdd0.sl rfl I (st (yS rfl ?_)))
 have z:=e.cells m (hdd0.foot (ne_of_lt l))
 refine st (lD P tT rfl (z.get rfl) (st (zJ lT rfl c.sl (st (zC rfl rfl (zb ?_))))))
 cases p:decide (((j:Nat):Int)<((((d.types.getD k default).fields).length:Nat):Int))
 have p:=fD p
 refine ze rfl (ya (zS (R0 fun _=>st (mV (Iw k) ?_))))
 have J:InR ((k+1:Nat):Int):=bo
 refine st (zP (r:=((k+1:Nat):Int)) (k:=.i64) (a:=((k:Nat):Int)) (b:=1) rfl rfl (by rw[show(((k:Nat):Int)+1:Int)=((k+1:Nat):Int)from bo];exact zF J) (st (aS (Iw (k+1)) (zb ?_))))
 exact⟨_,by omega,k+1,_,rfl,sSf,by omega,e⟩
 have p:=tD p
 refine zg rfl (zl (za (zn (za (R0 fun _=>st (yC rfl (st (lD dd0 oT rfl (zd (e.b0) rfl) (st (mV (Iw k) ?_))))))))))
 have K:k<d.types.length:=bo
 refine st (zj pT qT rfl hdd0.sl rfl K (st (yS rfl ?_)))
 have A:=e.cells m (hdd0.foot (ne_of_lt l))
 refine st (lD P tT rfl (A.get (j:=0) rfl) (st (mV (Iw j) ?_)))
 have L:j<((d.types.getD k default).fields).length:=bo
 refine st (zj lT mT rfl c.sl rfl L (st (yF rfl ?_)))
 have x:j<((d.types.getD k default).fields).length:=bo
 obtain⟨B,g,hoke39⟩:=c.fldD x
 have C:=e.cells B (c.foot (ne_of_lt x))
 refine st (lD (zN W (sb P) (so P+j*4+3)) uT rfl (C.get (j:=3) rfl) (st (zJ rT rfl g.sl (st (yT rfl rfl (zb ?_))))))
 cases q:decide (40<((((((d.types.getD k default).fields).getD j default).moves).length:Nat):Int))
 have q:=fD q
 refine ze rfl (zl (R0 fun _=>st (mV (Iw j) ?_)))
 have M:InR ((j+1:Nat):Int):=bo
 refine st (zP (r:=((j+1:Nat):Int)) (k:=.i64) (a:=((j:Nat):Int)) (b:=1) rfl rfl (by rw[show(((j:Nat):Int)+1:Int)=((j+1:Nat):Int)from bo];exact zF M) (st (aS (Iw (j+1)) (zb ?_))))
 exact⟨_,by omega,j+1,_,rfl,sSf,by omega,e⟩
 have q:=tD q
 refine zg rfl (za (R0 fun _=>st (aS (.bool true) (zb (zk (zG rR rfl ?_))))))
 refine⟨true,rfl,(e.s1_)⟩
 have o:=tD o
 refine zg rfl (za (R0 fun _=>st (aS (.bool true) (zb (zk (zG rR rfl ?_))))))
 refine⟨true,rfl,(f.s1_)⟩
 refine zg rfl (za (R0 fun _=>st (aS (.bool true) (zb (zk (zG rR rfl ?_))))))
 refine⟨true,rfl,(s.s1_)⟩
theorem zbf {t:Typ}{dt0:Value}(hdt0:RdS W G dt0 t.fields)(ot:t.Ok){n:Int}(hn:InR n)(hS0:Sep G W Rs w):Ret Tryz.prog 66 [.agg (t.cells dt0).toArray,.int .i64 (n)] w (fun r w'=>r=(.int .i64 ((yU t n)):Value)∧Sep G W Rs w'):=by
 have hdt0s:_*48≤_:=hdt0.small
 refine zi Tryz.func66 rfl rfl ?_
 refine za (R0 fun _=>st (zM rfl ?_))
 intro w3 b2 p
 have c:=hS0.new p
 refine st (aS (Iv 0) (zb (za (za (zA kr (st (mV (Iv n) (st (zC rfl rfl (st (mV (.bool (decide (n<0))) (stc (V:=Iv n) rfl rfl (fun q=>?_) ?_))))))))))))
 have hl6:=fD q
 exact mV (Iv n) ⟨rfl,rfl⟩
 refine stc (V:=Ix b2 0) rfl rfl (fun s=>?_) ?_
 have hl8:=fD s
 exact yS rfl ⟨rfl,rfl⟩
 refine stc (V:=dt0) rfl rfl (fun o=>?_) ?_
 have hl10:=fD o
 exact lD dt0 tT (if_pos o) (zd (c.b0) rfl) ⟨rfl,rfl⟩
 refine stc (V:=Iw t.fields.length) rfl rfl (fun f=>?_) ?_
 have hl12:=fD f
 exact zJ lT (if_pos f) hdt0.sl ⟨rfl,rfl⟩
 refine stc (V:=.bool (decide (((t.fields.length:Nat):Int)≤n))) rfl rfl (fun d=>?_) ?_
 have hl14:=fD d
 exact yR (k:=.i64) (a:=n) (b:=((t.fields.length:Nat):Int)) (if_pos d) (if_pos d) ⟨rfl,rfl⟩
 refine st (zt (b:=decide (n<0)) (b':=decide (((t.fields.length:Nat):Int)≤n)) rfl (fun hbp=>(if_pos hbp)) (zb ?_))
 cases g:(decide (n<0))||(decide (((t.fields.length:Nat):Int)≤n))
 try simp only[zf]at g
 refine ze rfl (zl (za (R0 fun _=>st (yS rfl (st (lD dt0 tT rfl (zd (c.b0) rfl) (st (mV (Iv n) ?_))))))))
 have hi16:n.toNat<t.fields.length:=bo
 refine st (zr (k:=4) (i:=n) lT mT rfl hdt0.sl rfl ⟨by omega,by omega⟩ (st (xg rfl ?_)))
 have h:n.toNat<t.fields.length:=bo
 obtain⟨l,e,hoke17⟩:=hdt0.fldD h
 have hsm19:((t.fields.getD n.toNat default).moves).length*32≤140737488355328:=e.small
 have m:=c.cells l (hdt0.foot (ne_of_lt h))
 refine st (lD (Iv ((t.fields.getD n.toNat default).kind)) kT rfl (m.get (j:=0) rfl) (st (aS (Iv ((t.fields.getD n.toNat default).kind)) (zb (zk (zG lY (show _=(Iv ((t.fields.getD n.toNat default).kind):Value)from rfl) ?_))))))
 refine⟨?_,(c.s1_)⟩
 unfold yU
 rw[if_neg (by omega)]
 try simp only[zf]at g
 refine zg rfl (za (R0 fun _=>st (aS (Iv 0) (zb (zk (zG lY (show _=(Iv 0:Value)from rfl) ?_))))))
 refine⟨?_,(c.s1_)⟩
 unfold yU
 rw[if_pos (by omega)]
theorem zdR {d:Dcl}{dd0:Value}(hdd0:RdS W G dd0 d.types){dd1:Value}(hdd1:RdS W G dd1 d.projs)(od:d.Ok)(hS0:Sep G W Rs w):Ret Tryz.prog 63 [.agg (d.cells dd0 dd1).toArray] w (fun r w'=> ∃(b:Bool),r=(.bool b:Value)∧(b=false→FewD d∧d.projs.length≤8)∧Sep G W Rs w'):=by
 let bj:=((d.types.length:Nat):Int)
 have hdd0s:_*24≤_:=hdd0.small
 have hdd1s:_*40≤_:=hdd1.small
 refine zi Tryz.func63 rfl rfl ?_
 refine za (R0 fun _=>st (zM rfl ?_))
 intro w3 b2 be
 have H:=hS0.new be
 refine st (aS (.bool false) (zb (za (za (zA kr (st (yC rfl (st (lD dd0 oT rfl (zd (H.b0) rfl) (st (zJ pT rfl hdd0.sl (st (zR rfl rfl (st (mV (.bool (decide (bj=0))) (stc (V:=Ix b2 0) rfl rfl (fun bf=>?_) ?_))))))))))))))))
 have hl6:=fD bf
 exact yC rfl ⟨rfl,rfl⟩
 refine stc (V:=dd0) rfl rfl (fun aI=>?_) ?_
 have hl8:=fD aI
 exact lD dd0 oT (if_pos aI) (zd (H.b0) rfl) ⟨rfl,rfl⟩
 refine stc (V:=Iw d.types.length) rfl rfl (fun aJ=>?_) ?_
 have hl10:=fD aJ
 exact zJ pT (if_pos aJ) hdd0.sl ⟨rfl,rfl⟩
 refine stc (V:=.bool (decide (8<bj))) rfl rfl (fun R=>?_) ?_
 have hl12:=fD R
 exact yT (if_pos R) rfl ⟨rfl,rfl⟩
 refine st (zt rfl (fun hbp=>(if_pos hbp)) (st (mV (.bool ((decide (bj=0))||(decide (8<bj)))) (stc (V:=Ix b2 1) rfl rfl (fun aL=>?_) ?_))))
 have aM:=aL
 try simp only[zf]at aM
 exact ZP rfl ⟨rfl,rfl⟩
 refine stc (V:=dd1) rfl rfl (fun S=>?_) ?_
 have aN:=S
 try simp only[zf]at aN
 exact lD dd1 pR (if_pos S) (zd (H.b0) rfl) ⟨rfl,rfl⟩
 refine stc (V:=Iw d.projs.length) rfl rfl (fun T=>?_) ?_
 have aO:=T
 try simp only[zf]at aO
 exact zJ qR (if_pos T) hdd1.sl ⟨rfl,rfl⟩
 refine stc (V:=.bool (decide (8<((d.projs.length:Nat):Int)))) rfl rfl (fun U=>?_) ?_
 have aP:=U
 try simp only[zf]at aP
 exact yT (if_pos U) rfl ⟨rfl,rfl⟩
 refine st (zt rfl (fun hbp=>(if_pos hbp)) (zb ?_))
 cases X:((decide (((d.types.length:Nat):Int)=0))||(decide (8<((d.types.length:Nat):Int))))||(decide (8<((d.projs.length:Nat):Int)))
 try simp only[zf]at X
 refine ze rfl (zl (za (za (R0 fun _=>st (aS (Iv 0) (zb (zn (zZ (fun mq σ wq=> ∃k ρ,mq=d.types.length-k∧σ=yd ρ [(1,Ix b2 0),(3,Iw k)]∧(k≤d.types.length)∧(∀i,i<k→FewT (d.types.getD i default))∧Sep G W ((Blk b2 (d.cells dd0 dd1).toArray 25)::Rs) wq) ⟨0,_,rfl,sSf,Nat.zero_le _,(fun i h=>absurd h (Nat.not_lt_zero i)),H⟩ ?_))))))))
 rintro m23 σ24 w22 ⟨k,ρl1,rfl,rfl,hkk,hm,m⟩
 let bl:=(d.types.getD k default).fields
 let bi:=((((d.types.getD k default).fields).length:Nat):Int)
 let bg:=zN W (sb dd0) (so dd0+k*1+0)
 refine za (za (R0 fun _=>st (mV (Iw k) (st (yC rfl (st (lD dd0 oT rfl (zd (m.b0) rfl) (st (zJ pT rfl hdd0.sl (st (zC rfl rfl (zb ?_))))))))))))
 cases x:decide (((k:Nat):Int)<((d.types.length:Nat):Int))
 have x:=fD x
 refine ze rfl (ya (zS (za (R0 fun _=>st (aS (.bool false) (zb (zk (zG sR rfl ?_))))))))
 refine⟨false,rfl,?_,(m.s1_)⟩
 intro I
 exact⟨⟨by omega,fun i hi=>hm i om⟩,by omega⟩
 have x:=tD x
 refine zg rfl (zl (za (zn (za (R0 fun _=>st (yC rfl (st (lD dd0 oT rfl (zd (m.b0) rfl) (st (mV (Iw k) ?_))))))))))
 have aR:k<d.types.length:=bo
 refine st (zj pT qT rfl hdd0.sl rfl aR (st (yS rfl ?_)))
 have Y:k<d.types.length:=bo
 obtain⟨al,c,hoke29⟩:=hdd0.typD Y
 have hsm31:((d.types.getD k default).fields).length*48≤140737488355328:=c.small
 have am:=m.cells al (hdd0.foot (ne_of_lt Y))
 refine st (lD bg tT rfl (am.get (j:=0) rfl) (st (aS bg (zb (za (za (zA kr (st (mV bg (st (zJ lT rfl c.sl (st (zR rfl rfl (st (mV (.bool (decide (bi=0))) (stc (V:=bg) rfl rfl (fun aT=>?_) ?_))))))))))))))))
 have hl34:=fD aT
 exact mV bg ⟨rfl,rfl⟩
 refine stc (V:=Iw (bl.length)) rfl rfl (fun Z=>?_) ?_
 have hl36:=fD Z
 exact zJ lT (if_pos Z) c.sl ⟨rfl,rfl⟩
 refine stc (V:=.bool (decide (8<bi))) rfl rfl (fun aa=>?_) ?_
 have hl38:=fD aa
 exact yT (if_pos aa) rfl ⟨rfl,rfl⟩
 refine st (zt rfl (fun hbp=>(if_pos hbp)) (zb ?_))
 cases ab:(decide (((((d.types.getD k default).fields).length:Nat):Int)=0))||(decide (8<((((d.types.getD k default).fields).length:Nat):Int)))
 try simp only[zf]at ab
 refine ze rfl (zl (za (R0 fun _=>st (aS (Iv 0) (zb (zn (zZ (fun mq σ wq=> ∃j ρ,mq=(d.types.getD k default).fields.length-j∧σ=yd ρ [(1,Ix b2 0),(3,Iw k),(4,(zN W (sb dd0) (so dd0+k*1+0))),(5,Iw j)]∧(j≤(d.types.getD k default).fields.length)∧(∀i,i<j→zdN ((d.types.getD k default).fields.getD i default))∧Sep G W ((Blk b2 (d.cells dd0 dd1).toArray 25)::Rs) wq) ⟨0,_,rfl,sSf,Nat.zero_le _,(fun i h=>absurd h (Nat.not_lt_zero i)),m⟩ ?_)))))))
 rintro m41 σ42 w40 ⟨j,ρl2,rfl,rfl,hkj,aK,e⟩
 let bk:=zN W (sb bg) (so bg+j*4+3)
 let aQ:=((d.types.getD k default).fields).getD j default
 let bh:=(((aQ.moves).length:Nat):Int)
 let bm:=(decide (bh=0))||(decide (16<bh))
 refine za (za (R0 fun _=>st (mV (Iw j) (st (mV bg (st (zJ lT rfl c.sl (st (zC rfl rfl (zb ?_))))))))))
 cases y:decide (((j:Nat):Int)<((((d.types.getD k default).fields).length:Nat):Int))
 have y:=fD y
 refine ze rfl (ya (zS (R0 fun _=>st (mV (Iw k) ?_))))
 have aU:InR ((k+1:Nat):Int):=bo
 refine st (zP (r:=((k+1:Nat):Int)) (k:=.i64) (a:=((k:Nat):Int)) (b:=1) rfl rfl (by rw[show(((k:Nat):Int)+1:Int)=((k+1:Nat):Int)from bo];exact zF aU) (st (aS (Iw (k+1)) (zb ?_))))
 exact⟨_,by omega,k+1,_,rfl,sSf,by omega,(yL hm ⟨by omega,fun j9 I=>aK j9 om⟩),e⟩
 have y:=tD y
 refine zg rfl (zl (za (zn (za (zA kr (st (mV bg (st (mV (Iw j) ?_)))))))))
 have aV:j<((d.types.getD k default).fields).length:=bo
 refine st (zj lT mT rfl c.sl rfl aV (st (xg rfl ?_)))
 have o:j<((d.types.getD k default).fields).length:=bo
 let bn:=c.foot (ne_of_lt o)
 obtain⟨l,f,hoke47⟩:=c.fldD o
 have an:=e.cells l bn
 refine st (lD (Iv (aQ.kind)) kT rfl (an.get (j:=0) rfl) (st (zR rfl rfl (st (mV (.bool (decide ((aQ.kind)=4))) (stc (V:=bg) rfl rfl (fun aW=>?_) ?_))))))
 exact mV bg ⟨rfl,rfl⟩
 refine stc (V:=Iw j) rfl rfl (fun aX=>?_) ?_
 exact mV (Iw j) ⟨rfl,rfl⟩
 refine stc (V:=Ix (sb bg) (so bg+j*4)) rfl rfl (fun J=>?_) ?_
 have aY:j<((d.types.getD k default).fields).length:=bo
 exact zj lT mT (if_pos J) c.sl (if_pos J) aY ⟨rfl,rfl⟩
 refine stc (V:=Ix (sb bg) (so bg+j*4+3)) rfl rfl (fun ac=>?_) ?_
 exact yF (if_pos ac) ⟨rfl,rfl⟩
 refine stc (V:=bk) rfl rfl (fun ad=>?_) ?_
 have ao:=e.cells l bn
 exact lD bk uT (if_pos ad) (ao.get (j:=3) rfl) ⟨rfl,rfl⟩
 refine stc (V:=Iw ((aQ.moves).length)) rfl rfl (fun ae=>?_) ?_
 exact zJ rT (if_pos ae) f.sl ⟨rfl,rfl⟩
 refine stc (V:=.bool (decide (bh=0))) rfl rfl (fun af=>?_) ?_
 exact zR (if_pos af) rfl ⟨rfl,rfl⟩
 refine stc (V:=.bool (decide (bh=0))) rfl rfl (fun ag=>?_) ?_
 exact yi (if_pos ag) ⟨rfl,rfl⟩
 refine xe (V:=bg) rfl rfl (fun ah=>?_) ?_
 exact mV bg ⟨rfl,rfl⟩
 refine xe (V:=Iw j) rfl rfl (fun ai=>?_) ?_
 exact mV (Iw j) ⟨rfl,rfl⟩
 refine xe (V:=Ix (sb bg) (so bg+j*4)) rfl rfl (fun p=>?_) ?_
 have aZ:j<((d.types.getD k default).fields).length:=bo
 exact zj lT mT (if_pos ⟨p.1,p.2⟩) c.sl (if_pos ⟨p.1,p.2⟩) aZ ⟨rfl,rfl⟩
 refine xe (V:=Ix (sb bg) (so bg+j*4+3)) rfl rfl (fun z=>?_) ?_
 exact yF (if_pos ⟨z.1,z.2⟩) ⟨rfl,rfl⟩
 refine xe (V:=bk) rfl rfl (fun A=>?_) ?_
 have ap:=e.cells l bn
 exact lD bk uT (if_pos ⟨A.1,A.2⟩) (ap.get (j:=3) rfl) ⟨rfl,rfl⟩
 refine xe (V:=Iw ((aQ.moves).length)) rfl rfl (fun B=>?_) ?_
 exact zJ rT (if_pos ⟨B.1,B.2⟩) f.sl ⟨rfl,rfl⟩
 refine xe (V:=.bool (decide (16<bh))) rfl rfl (fun C=>?_) ?_
 exact yT (if_pos ⟨C.1,C.2⟩) rfl ⟨rfl,rfl⟩
 refine stc (V:=.bool bm) rfl rfl (fun K=>?_) ?_
 exact zt (if_pos K) (fun hbp=>(if_pos ⟨K,hbp⟩)) ⟨rfl,rfl⟩
 refine st (zy rfl (fun hbp=>(if_pos hbp)) (st (mV (.bool ((decide ((aQ.kind)=4))&&bm)) (stc (V:=bg) rfl rfl (fun ba=>?_) ?_))))
 have bb:=ba
 exact mV bg ⟨rfl,rfl⟩
 refine stc (V:=Iw j) rfl rfl (fun bc=>?_) ?_
 have bd:=bc
 exact mV (Iw j) ⟨rfl,rfl⟩
 refine stc (V:=Ix (sb bg) (so bg+j*4)) rfl rfl (fun D=>?_) ?_
 have aq:=D
 have ar:j<((d.types.getD k default).fields).length:=bo
 exact zj lT mT (if_pos D) c.sl (if_pos D) ar ⟨rfl,rfl⟩
 refine stc (V:=Ix (sb bg) (so bg+j*4)) rfl rfl (fun L=>?_) ?_
 have au:=L
 exact xg (if_pos L) ⟨rfl,rfl⟩
 refine stc (V:=Iv (aQ.kind)) rfl rfl (fun M=>?_) ?_
 have av:=M
 have aj:=e.cells l bn
 exact lD (Iv (aQ.kind)) kT (if_pos M) (aj.get (j:=0) rfl) ⟨rfl,rfl⟩
 refine stc (V:=.bool (!decide ((aQ.kind)=4))) rfl rfl (fun N=>?_) ?_
 have aw:=N
 exact yn (if_pos N) rfl ⟨rfl,rfl⟩
 refine stc (V:=.bool (!decide ((aQ.kind)=4))) rfl rfl (fun O=>?_) ?_
 have ax:=O
 exact yi (if_pos O) ⟨rfl,rfl⟩
 refine xe (V:=bg) rfl rfl (fun P=>?_) ?_
 have ay:=P.1
 exact mV bg ⟨rfl,rfl⟩
 refine xe (V:=Iw j) rfl rfl (fun Q=>?_) ?_
 have az:=Q.1
 exact mV (Iw j) ⟨rfl,rfl⟩
 refine xe (V:=Ix (sb bg) (so bg+j*4)) rfl rfl (fun g=>?_) ?_
 have aA:=g.1
 have aB:j<((d.types.getD k default).fields).length:=bo
 exact zj lT mT (if_pos ⟨g.1,g.2⟩) c.sl (if_pos ⟨g.1,g.2⟩) aB ⟨rfl,rfl⟩
 refine xe (V:=Ix (sb bg) (so bg+j*4+3)) rfl rfl (fun q=>?_) ?_
 have aC:=q.1
 exact yF (if_pos ⟨q.1,q.2⟩) ⟨rfl,rfl⟩
 refine xe (V:=bk) rfl rfl (fun s=>?_) ?_
 have aD:=s.1
 have ak:=e.cells l bn
 exact lD bk uT (if_pos ⟨s.1,s.2⟩) (ak.get (j:=3) rfl) ⟨rfl,rfl⟩
 refine xe (V:=Iw ((aQ.moves).length)) rfl rfl (fun t=>?_) ?_
 have aE:=t.1
 exact zJ (n:=(aQ.moves).length) rT (if_pos ⟨t.1,t.2⟩) f.sl ⟨rfl,rfl⟩
 refine xe (V:=.bool (!decide (bh=0))) rfl rfl (fun u=>?_) ?_
 have aF:=u.1
 try simp only[zf]at aF
 have hl136:=zz u.2
 exact yn (k:=.i64) (a:=bh) (b:=0) (if_pos ⟨u.1,u.2⟩) rfl ⟨rfl,rfl⟩
 refine stc (V:=.bool ((!decide ((aQ.kind)=4))&&(!decide (bh=0)))) rfl rfl (fun E=>?_) ?_
 have aG:=E
 try simp only[zf]at aG
 exact zy (b:= !decide ((aQ.kind)=4)) (b':= !decide (bh=0)) (if_pos E) (fun hbp=>(if_pos ⟨E,hbp⟩)) ⟨rfl,rfl⟩
 refine st (zt (b:=(decide ((aQ.kind)=4))&&bm) (b':=(!decide ((aQ.kind)=4))&&(!decide (bh=0))) rfl (fun hbp=>(if_pos hbp)) (zb ?_))
 cases F:((decide (((((d.types.getD k default).fields).getD j default).kind)=4))&&((decide (((((((d.types.getD k default).fields).getD j default).moves).length:Nat):Int)=0))||(decide (16<((((((d.types.getD k default).fields).getD j default).moves).length:Nat):Int)))))||((!decide (((((d.types.getD k default).fields).getD j default).kind)=4))&&(!decide (((((((d.types.getD k default).fields).getD j default).moves).length:Nat):Int)=0)))
 try simp only[zf]at F
 refine ze rfl (zl (R0 fun _=>st (mV (Iw j) ?_)))
 have aH:InR ((j+1:Nat):Int):=bo
 refine st (zP (r:=((j+1:Nat):Int)) (k:=.i64) (a:=((j:Nat):Int)) (b:=1) rfl rfl (by rw[show(((j:Nat):Int)+1:Int)=((j+1:Nat):Int)from bo];exact zF aH) (st (aS (Iw (j+1)) (zb ?_))))
 exact⟨_,by omega,j+1,_,rfl,sSf,by omega,(yL aK (by unfold zdN;have I:=F;omega)),e⟩
 refine zg rfl (za (R0 fun _=>st (aS (.bool true) (zb (zk (zG sR rfl ?_))))))
 refine⟨true,rfl,?_,(e.s1_)⟩
 intro I
 exact absurd I dc
 refine zg rfl (za (R0 fun _=>st (aS (.bool true) (zb (zk (zG sR rfl ?_))))))
 refine⟨true,rfl,?_,(m.s1_)⟩
 intro I
 exact absurd I dc
 refine zg rfl (za (R0 fun _=>st (aS (.bool true) (zb (zk (zG sR rfl ?_))))))
 refine⟨true,rfl,?_,(H.s1_)⟩
 intro I
 exact absurd I dc
theorem D_one {t:Typ}{dt0:Value}(hdt0:RdS W G dt0 t.fields)(ot:t.Ok){f:Fld}{df0:Value}(hdf0:RdS W G df0 f.moves)(of:f.Ok)(hS0:Sep G W Rs w):Ret Tryz.prog 64 [.agg (t.cells dt0).toArray,.agg (f.cells df0).toArray] w (fun r w'=> ∃(e:Int),r=(.int .i64 (e):Value)∧(InR e)∧(e=0→Qj t f)∧Sep G W Rs w'):=by
 let cn:=decide (f.policy=1)
 let ck:=decide (f.policy=3)
 let cj:=decide (f.policy=2)
 let cm:=cj&&(!decide (f.kind=1))
 let ci:=((decide (f.policy=1))||((decide (f.policy=2))&&(!decide (f.kind=1))))||((decide (f.policy=3))&&(decide (f.kind=2)))
 have hdt0s:_*48≤_:=hdt0.small
 have hdf0s:_*32≤_:=hdf0.small
 refine zi Tryz.func64 rfl rfl ?_
 refine za (R0 fun _=>st (zM rfl ?_))
 intro w3 b2 cd
 let co:=Blk b2 (t.cells dt0).toArray 74
 refine st (zM rfl ?_)
 intro w7 l ce
 let cp:=Blk l (f.cells df0).toArray 106
 have g:=(hS0.new cd).new ce
 refine st (aS (Iv 0) (zb (za (za (zA kr (st (xg rfl (st (lD (Iv (f.kind)) kT rfl (zd (g.b0) rfl) (st (zC rfl rfl (st (mV (.bool (decide (f.kind<1))) (stc (V:=Ix l 0) rfl rfl (fun cf=>?_) ?_))))))))))))))
 have hl10:=fD cf
 exact xg rfl ⟨rfl,rfl⟩
 refine stc (V:=Iv (f.kind)) rfl rfl (fun ay=>?_) ?_
 have hl12:=fD ay
 exact lD (Iv (f.kind)) kT (if_pos ay) (zd (g.b0) rfl) ⟨rfl,rfl⟩
 refine stc (V:=.bool (decide (4<f.kind))) rfl rfl (fun az=>?_) ?_
 have hl14:=fD az
 exact yT (if_pos az) rfl ⟨rfl,rfl⟩
 refine st (zt rfl (fun hbp=>(if_pos hbp)) (zb ?_))
 cases aA:(decide (f.kind<1))||(decide (4<f.kind))
 try simp only[zf]at aA
 refine ze rfl (zl (za (zA kr (st (ZS rfl (st (lD (Iv (f.policy)) kT rfl (zd (g.b0) rfl) (st (zR rfl rfl (st (mV (.bool cn) (stc (V:=Ix l 1) rfl rfl (fun bI=>?_) ?_))))))))))))
 have hl17:=fD bI
 exact ZS rfl ⟨rfl,rfl⟩
 refine stc (V:=Iv (f.policy)) rfl rfl (fun aB=>?_) ?_
 have hl19:=fD aB
 exact lD (Iv (f.policy)) kT (if_pos aB) (zd (g.b0) rfl) ⟨rfl,rfl⟩
 refine stc (V:=.bool cj) rfl rfl (fun aC=>?_) ?_
 have hl21:=fD aC
 exact zR (if_pos aC) rfl ⟨rfl,rfl⟩
 refine stc (V:=.bool cj) rfl rfl (fun aD=>?_) ?_
 have hl23:=fD aD
 exact yi (if_pos aD) ⟨rfl,rfl⟩
 refine xe (V:=Ix l 0) rfl rfl (fun aE=>?_) ?_
 have hl25:=fD aE.1
 have hl26:=tD aE.2
 exact xg rfl ⟨rfl,rfl⟩
 refine xe (V:=Iv (f.kind)) rfl rfl (fun F=>?_) ?_
 have hl28:=fD F.1
 have hl29:=tD F.2
 exact lD (Iv (f.kind)) kT (if_pos ⟨F.1,F.2⟩) (zd (g.b0) rfl) ⟨rfl,rfl⟩
 refine xe (V:=.bool (!decide (f.kind=1))) rfl rfl (fun H=>?_) ?_
 have hl31:=fD H.1
 have hl32:=tD H.2
 exact yn (if_pos ⟨H.1,H.2⟩) rfl ⟨rfl,rfl⟩
 refine stc (V:=.bool cm) rfl rfl (fun T=>?_) ?_
 have hl34:=fD T
 exact zy (if_pos T) (fun hbp=>(if_pos ⟨T,hbp⟩)) ⟨rfl,rfl⟩
 refine st (zt rfl (fun hbp=>(if_pos hbp)) (st (mV (.bool (cn||cm)) (stc (V:=Ix l 1) rfl rfl (fun bJ=>?_) ?_))))
 have bK:=bJ
 try simp only[zf]at bK
 exact ZS rfl ⟨rfl,rfl⟩
 refine stc (V:=Iv (f.policy)) rfl rfl (fun aF=>?_) ?_
 have bL:=aF
 try simp only[zf]at bL
 exact lD (Iv (f.policy)) kT (if_pos aF) (zd (g.b0) rfl) ⟨rfl,rfl⟩
 refine stc (V:=.bool ck) rfl rfl (fun aG=>?_) ?_
 have bM:=aG
 try simp only[zf]at bM
 exact zR (if_pos aG) rfl ⟨rfl,rfl⟩
 refine stc (V:=.bool ck) rfl rfl (fun aH=>?_) ?_
 have bN:=aH
 try simp only[zf]at bN
 exact yi (if_pos aH) ⟨rfl,rfl⟩
 refine xe (V:=Ix l 0) rfl rfl (fun aI=>?_) ?_
 have bO:=aI.1
 try simp only[zf]at bO
 have hl45:=tD aI.2
 exact xg rfl ⟨rfl,rfl⟩
 refine xe (V:=Iv (f.kind)) rfl rfl (fun I=>?_) ?_
 have bP:=I.1
 try simp only[zf]at bP
 have hl48:=tD I.2
 exact lD (Iv (f.kind)) kT (if_pos ⟨I.1,I.2⟩) (zd (g.b0) rfl) ⟨rfl,rfl⟩
 refine xe (V:=.bool (decide (f.kind=2))) rfl rfl (fun J=>?_) ?_
 have bQ:=J.1
 try simp only[zf]at bQ
 have hl51:=tD J.2
 exact zR (if_pos ⟨J.1,J.2⟩) rfl ⟨rfl,rfl⟩
 refine stc (V:=.bool (ck&&(decide (f.kind=2)))) rfl rfl (fun U=>?_) ?_
 have bR:=U
 try simp only[zf]at bR
 exact zy (if_pos U) (fun hbp=>(if_pos ⟨U,hbp⟩)) ⟨rfl,rfl⟩
 refine st (zt rfl (fun hbp=>(if_pos hbp)) (st (aS (.bool ci) (zb (za (za (zA kr (st (mV (.bool ci) (st (yB rfl (st (mV (.bool (!ci)) (stc (V:=Ix l 2) rfl rfl (fun bS=>?_) ?_))))))))))))))
 have bT:=bS
 try simp only[zf]at bT
 exact Wc rfl ⟨rfl,rfl⟩
 refine stc (V:=.bool (f.floor)) rfl rfl (fun aJ=>?_) ?_
 have bU:=aJ
 try simp only[zf]at bU
 exact lD (.bool (f.floor)) Tryz.isAgg4 (if_pos aJ) (zd (g.b0) rfl) ⟨rfl,rfl⟩
 refine stc (V:=.bool (f.floor)) rfl rfl (fun aK=>?_) ?_
 have bV:=aK
 try simp only[zf]at bV
 exact yi (if_pos aK) ⟨rfl,rfl⟩
 refine xe (V:=Ix l 0) rfl rfl (fun aL=>?_) ?_
 have bW:=aL.1
 try simp only[zf]at bW
 have hl62:=aL.2
 exact xg rfl ⟨rfl,rfl⟩
 refine xe (V:=Iv (f.kind)) rfl rfl (fun K=>?_) ?_
 have bX:=K.1
 try simp only[zf]at bX
 have hl65:=K.2
 exact lD (Iv (f.kind)) kT (if_pos ⟨K.1,K.2⟩) (zd (g.b0) rfl) ⟨rfl,rfl⟩
 refine xe (V:=.bool (!decide (f.kind=1))) rfl rfl (fun L=>?_) ?_
 have bY:=L.1
 try simp only[zf]at bY
 have hl68:=L.2
 exact yn (if_pos ⟨L.1,L.2⟩) rfl ⟨rfl,rfl⟩
 refine stc (V:=.bool (f.floor&&(!decide (f.kind=1)))) rfl rfl (fun X=>?_) ?_
 have bZ:=X
 try simp only[zf]at bZ
 exact zy (if_pos X) (fun hbp=>(if_pos ⟨X,hbp⟩)) ⟨rfl,rfl⟩
 refine st (zt rfl (fun hbp=>(if_pos hbp)) (zb ?_))
 cases Y:(!(((decide (f.policy=1))||((decide (f.policy=2))&&(!decide (f.kind=1))))||((decide (f.policy=3))&&(decide (f.kind=2)))))||(f.floor&&(!decide (f.kind=1)))
 try simp only[zf]at Y
 have hfl:f.floor=true→f.kind=1:=by
  intro D
  rcases Y.2 with h7|h7
  ·rw[D]at h7;cases h7
  ·exact h7
 refine ze rfl (zl (za (za (R0 fun _=>st (aS (Iv 0) (zb (zn (zZ (fun mq σ Z=> ∃k ρ,mq=f.moves.length-k∧σ=yd ρ [(2,Ix b2 0),(3,Ix l 0),(6,Iw k)]∧(k≤f.moves.length)∧Sep G W ((Blk l (f.cells df0).toArray 106)::(Blk b2 (t.cells dt0).toArray 74)::Rs) Z) ⟨0,_,rfl,sSf,Nat.zero_le _,g⟩ ?_))))))))
 rintro m73 σ74 w72 ⟨k,ρl1,rfl,rfl,hkk,E⟩
 let ch:=f.moves.getD k default
 let cl:=decide ((ch.need)=(-1))
 refine za (za (R0 fun _=>st (mV (Iw k) (st (yF rfl (st (lD df0 uT rfl (zd (E.b0) rfl) (st (zJ rT rfl hdf0.sl (st (zC rfl rfl (zb ?_))))))))))))
 cases M:decide (((k:Nat):Int)<((f.moves.length:Nat):Int))
 have M:=fD M
 refine ze rfl (ya (zS (za (za (R0 fun _=>st (aS (Iv 0) (zb (zn (zZ (fun mq σ Z=> ∃j ρ,mq=f.moves.length-j∧σ=yd ρ [(2,Ix b2 0),(3,Ix l 0),(8,Iw j)]∧(j≤f.moves.length)∧(∀i,i<j→(f.moves.getD i default).need= -1∨yU t (f.moves.getD i default).need=1)∧Sep G W ((Blk l (f.cells df0).toArray 106)::(Blk b2 (t.cells dt0).toArray 74)::Rs) Z) ⟨0,_,rfl,sSf,Nat.zero_le _,(fun i h=>absurd h (Nat.not_lt_zero i)),E⟩ ?_)))))))))
 rintro m78 σ79 w77 ⟨j,ρl2,rfl,rfl,hkj,hm,aa⟩
 let aU:=(f.moves.getD j default).need
 refine za (za (R0 fun _=>st (mV (Iw j) (st (yF rfl (st (lD df0 uT rfl (zd (aa.b0) rfl) (st (zJ rT rfl hdf0.sl (st (zC rfl rfl (zb ?_))))))))))))
 cases N:decide (((j:Nat):Int)<((f.moves.length:Nat):Int))
 have N:=fD N
 refine ze rfl (ya (zS (za (R0 fun _=>st (aS (Iv 0) (zb (zk (zG lR rfl ?_))))))))
 refine⟨0,rfl,?_,?_,(aa.s2_)⟩
 decide
 intro D
 exact⟨by omega,hfl,fun i hi=>hm i om⟩
 have N:=tD N
 refine zg rfl (zl (za (zn (za ?_))))
 refine WD4 ((fun TT bH=>WF [fun vals Z=>Sep G W (bH::TT) Z,fun vals Z=>(vals 15=(if(!decide (aU=(-1)))=true then(Iv ((yU t aU)):Value)else undef))∧Sep G W (bH::TT) Z]) (co::Rs) cp) (AF [Vl 0 (Ix l 3),Vl 1 (df0),Vl 2 (Iw j),Vl 3 (Ix (sb df0) (so df0+j*4)),Vl 4 (Ix (sb df0) (so df0+j*4+2)),Vl 5 (Iv aU),Vl 6 (.bool (!decide (aU=(-1)))),Vl 7 (.bool (!decide (aU=(-1)))),Vl 8 (if(!decide (aU=(-1)))=true then .agg (t.cells dt0).toArray else undef),Vl 9 (if(!decide (aU=(-1)))=true then Ix l 3 else undef),Vl 10 (if(!decide (aU=(-1)))=true then df0 else undef),Vl 11 (if(!decide (aU=(-1)))=true then Iw j else undef),Vl 12 (if(!decide (aU=(-1)))=true then Ix (sb df0) (so df0+j*4)else undef),Vl 13 (if(!decide (aU=(-1)))=true then Ix (sb df0) (so df0+j*4+2)else undef),Vl 14 (if(!decide (aU=(-1)))=true then Iv aU else undef),fun _=>True,Vl 16 (if(!decide (aU=(-1)))=true then .bool (!decide ((yU t aU)=1))else undef),Vl 17 (.bool ((!decide (aU=(-1)))&&(!decide ((yU t aU)=1))))]) [[],[0],[],[0,1,2],(rg 4),(rg 5),(rg 6),(rg 7),(rg 8),(rg 8),[0,1,2,3,4,5,6,7,9],(rg 8),[0,1,2,3,4,5,6,7,9,10,11],[0,1,2,3,4,5,6,7,9,10,11,12],[0,1,2,3,4,5,6,7,9,10,11,12,13],(rg 15),(rg 16),(rg 17)] [15] [(0,0),(0,0),(0,0),(0,0),(0,0),(0,0),(0,0),(0,0),(0,0),(0,0),(0,0),(0,0),(0,0),(0,0),(0,0),(0,0),(1,1),(1,1)] aa ⟨fun _ _ _ _ _ _ _=>obl rfl (yF rfl dR),ob1 0 fun _ _ (aV:Sep _ _ _ _) aW=>obl rfl (lD df0 uT (aW 0 dc) (zd (aV.b0) rfl) dR),fun _ _ _ _ _ _ _=>obl rfl (mV (Iw j) dR),?_,fun _ _ _ _ _ _ aX=>obl rfl (ZW (aX 3 dc) dR),?_,ob1 0 fun _ _ _ aY=>obl rfl (yn (aY 5 dc) rfl dR),fun _ _ _ _ _ _ aZ=>obl rfl (yi (aZ 6 dc) dR),?_,?_,?_,?_,?_,?_,?_,?_,?_,fun _ _ _ _ _ _ ac=>obl rfl (zy (ac 7 dc) (fun hbp=>(Eq.trans (ac 16 dc) (if_pos hbp))) dR),trivial⟩ ?_
 refine ob1 0 fun _ _ _ ad=>(obl rfl ?_)
 have ba:j<f.moves.length:=bo
 exact zj rT vT (ad 1 dc) hdf0.sl (ad 2 dc) ba dR
 refine ob1 0 fun _ _ (bb:Sep _ _ _ _) bc=>(obl rfl ?_)
 have ae:j<f.moves.length:=bo
 obtain⟨aM,hoke303⟩:=hdf0.mvD ae
 have aN:=bb.cells aM (hdf0.foot (ne_of_lt ae))
 exact lD (Iv aU) kT (bc 4 dc) (aN.get (j:=2) rfl) dR
 refine ob1 0 fun _ _ (bd:Sep _ _ _ _) be=>(yr rfl rfl (be 7 dc) (fun y=>?_) (fun y=>fun c d _=>⟨trivial,d.trans (if_neg y).symm⟩))
 exact zh tR qT rfl rfl (CellsAt.all (bd.b1)) (fun c d _=>⟨rfl,d.trans (if_pos y).symm⟩)
 refine fun _ _ _ _ _ _ bf=>(yr rfl rfl (bf 7 dc) (fun z=>?_) (fun z=>fun c d _=>⟨trivial,d.trans (if_neg z).symm⟩))
 exact yF rfl (fun c d _=>⟨rfl,d.trans (if_pos z).symm⟩)
 refine ob1 0 fun _ _ (bg:Sep _ _ _ _) af=>(yr rfl rfl (af 7 dc) (fun q=>?_) (fun q=>fun c d _=>⟨trivial,d.trans (if_neg q).symm⟩))
 exact lD df0 uT (Eq.trans (af 9 dc) (if_pos q)) (zd (bg.b0) rfl) (fun c d _=>⟨rfl,d.trans (if_pos q).symm⟩)
 refine fun _ _ _ _ _ _ bh=>(yr rfl rfl (bh 7 dc) (fun A=>?_) (fun A=>fun c d _=>⟨trivial,d.trans (if_neg A).symm⟩))
 exact mV (Iw j) (fun c d _=>⟨rfl,d.trans (if_pos A).symm⟩)
 refine ob1 0 fun _ _ _ O=>(yr rfl rfl (O 7 dc) (fun m=>?_) (fun m=>fun c d _=>⟨trivial,d.trans (if_neg m).symm⟩))
 have bi:j<f.moves.length:=bo
 exact zj rT vT (Eq.trans (O 10 dc) (if_pos m)) hdf0.sl (Eq.trans (O 11 dc) (if_pos m)) bi (fun c d _=>⟨rfl,d.trans (if_pos m).symm⟩)
 refine fun _ _ _ _ _ _ ag=>(yr rfl rfl (ag 7 dc) (fun s=>?_) (fun s=>fun c d _=>⟨trivial,d.trans (if_neg s).symm⟩))
 exact ZW (Eq.trans (ag 12 dc) (if_pos s)) (fun c d _=>⟨rfl,d.trans (if_pos s).symm⟩)
 refine ob1 0 fun _ _ (bj:Sep _ _ _ _) ah=>(yr rfl rfl (ah 7 dc) (fun u=>?_) (fun u=>fun c d _=>⟨trivial,d.trans (if_neg u).symm⟩))
 have ai:j<f.moves.length:=bo
 obtain⟨aO,hoke394⟩:=hdf0.mvD ai
 have aP:=bj.cells aO (hdf0.foot (ne_of_lt ai))
 exact lD (Iv aU) kT (Eq.trans (ah 13 dc) (if_pos u)) (aP.get (j:=2) rfl) (fun c d _=>⟨rfl,d.trans (if_pos u).symm⟩)
 refine ob1 0 fun vals ca (P:Sep _ _ _ _) Q=>(yr rfl rfl (Q 7 dc) (fun o=>?_) (fun o c d cg=>?_))
 have aj:j<f.moves.length:=bo
 obtain⟨aQ,ax⟩:=hdf0.mvD aj
 refine(zH (f:=66) (vals:=[.agg (t.cells dt0).toArray,Iv aU]) (cap:=[]) rfl (yE ⟨(Eq.trans (Q 8 dc) (if_pos o)),(Eq.trans (Q 14 dc) (if_pos o)),trivial⟩) mY (zbf hdt0 ot ax.need P) ?_)
 rintro _ w237 ⟨rfl,bk⟩
 exact fun c d cg=>⟨(zx (d.trans (if_pos o).symm) bk),trivial⟩
 refine⟨?_,trivial⟩
 show(c 15=(if(!decide (aU=(-1)))=true then(Iv ((yU t aU)):Value)else undef))∧Sep G W (cp::co::Rs) ca
 exact⟨(d.trans (if_neg o).symm),P⟩
 refine ob1 1 fun _ _ bl bm=>?_
 obtain⟨ak,hS403⟩:=bl
 refine yr rfl rfl (bm 7 dc) (fun x=>?_) (fun x=>fun c d _=>⟨trivial,d.trans (if_neg x).symm⟩)
 have hl406:=zz x
 exact yn (k:=.i64) (a:=(yU t aU)) (b:=1) (Eq.trans ak (if_pos x)) rfl (fun c d _=>⟨rfl,d.trans (if_pos x).symm⟩)
 intro vals w415 bn bp
 obtain⟨ak,al⟩:=bn
 have cb:=bp 17 dc
 refine zT (kv:=[(2,Ix b2 0),(3,Ix l 0),(8,Iw j),(81,Iw j),(82,Ix l 3),(83,df0),(84,Iw f.moves.length),(85,.bool true),(105,.bool ((!decide (aU=(-1)))&&(!decide ((yU t aU)=1))))]) ⟨rfl,rfl,rfl,rfl,rfl,rfl,rfl,rfl,(by exact cb),trivial⟩ (fun ρw415=>(zb ?_))
 cases R:(!decide (((f.moves.getD j default).need)=(-1)))&&(!decide ((yU t ((f.moves.getD j default).need))=1))
 try simp only[zf]at R
 refine ze rfl (zl (R0 fun _=>st (mV (Iw j) ?_)))
 have bq:InR ((j+1:Nat):Int):=bo
 refine st (zP (r:=((j+1:Nat):Int)) (k:=.i64) (a:=((j:Nat):Int)) (b:=1) rfl rfl (by rw[show(((j:Nat):Int)+1:Int)=((j+1:Nat):Int)from bo];exact zF bq) (st (aS (Iw (j+1)) (zb ?_))))
 exact⟨_,by omega,j+1,_,rfl,sSf,by omega,(yL hm (by have D:=R;omega)),al⟩
 refine zg rfl (za (R0 fun _=>st (aS (Iv 8) (zb (zk (zG lR rfl ?_))))))
 refine⟨8,rfl,?_,?_,(al.s2_)⟩
 decide
 intro D
 exact absurd D dc
 have M:=tD M
 refine zg rfl (zl (za (zn (za (R0 fun _=>st (yF rfl (st (lD df0 uT rfl (zd (E.b0) rfl) (st (mV (Iw k) ?_))))))))))
 have br:k<f.moves.length:=bo
 refine st (zj rT vT rfl hdf0.sl rfl br ?_)
 have am:k<f.moves.length:=bo
 obtain⟨aR,hoke424⟩:=hdf0.mvD am
 have aT:=E.cells aR (hdf0.foot (ne_of_lt am))
 refine st (zh nY vT rfl rfl aT (st (zq oY ?_)))
 intro w429 ab bs
 have an:=E.new bs
 refine stn (zp (v:=.agg (ch.cells).toArray) (c':=(ch.cells).toArray) vT rfl rfl (an.b0) (zX ⟨rfl,rfl,rfl,rfl,trivial⟩) yqc rfl ?_)
 intro cc bt
 have p:=an.pt0 bt
 refine zb (za (zA kr (st (Um rfl (st (lD (Iv (ch.frm)) kT rfl (zd (p.b0) rfl) (st (zC rfl rfl (st (mV (.bool (decide ((ch.frm)<0))) (stc (V:=Ix ab 1) rfl rfl (fun bu=>?_) ?_)))))))))))
 exact Ud rfl ⟨rfl,rfl⟩
 refine stc (V:=Iv (ch.to)) rfl rfl (fun ao=>?_) ?_
 exact lD (Iv (ch.to)) kT (if_pos ao) (zd (p.b0) rfl) ⟨rfl,rfl⟩
 refine stc (V:=.bool (decide ((ch.to)<0))) rfl rfl (fun ap=>?_) ?_
 exact zC (if_pos ap) rfl ⟨rfl,rfl⟩
 refine st (zt rfl (fun hbp=>(if_pos hbp)) (st (mV (.bool ((decide ((ch.frm)<0))||(decide ((ch.to)<0)))) (stc (V:=Ix ab 2) rfl rfl (fun bv=>?_) ?_))))
 have bw:=bv
 exact ZW rfl ⟨rfl,rfl⟩
 refine stc (V:=Iv (ch.need)) rfl rfl (fun aq=>?_) ?_
 have bx:=aq
 exact lD (Iv (ch.need)) kT (if_pos aq) (zd (p.b0) rfl) ⟨rfl,rfl⟩
 refine stc (V:=.bool cl) rfl rfl (fun ar=>?_) ?_
 have bz:=ar
 exact zR (if_pos ar) rfl ⟨rfl,rfl⟩
 refine stc (V:=.bool cl) rfl rfl (fun au=>?_) ?_
 have bA:=au
 exact yi (if_pos au) ⟨rfl,rfl⟩
 refine xe (V:=Ix ab 3) rfl rfl (fun av=>?_) ?_
 have bB:=av.1
 exact Uc rfl ⟨rfl,rfl⟩
 refine xe (V:=Iv (ch.least)) rfl rfl (fun B=>?_) ?_
 have bC:=B.1
 exact lD (Iv (ch.least)) kT (if_pos ⟨B.1,B.2⟩) (zd (p.b0) rfl) ⟨rfl,rfl⟩
 refine xe (V:=.bool (!decide ((ch.least)=0))) rfl rfl (fun C=>?_) ?_
 have bD:=C.1
 exact yn (if_pos ⟨C.1,C.2⟩) rfl ⟨rfl,rfl⟩
 refine stc (V:=.bool (cl&&(!decide ((ch.least)=0)))) rfl rfl (fun S=>?_) ?_
 have bE:=S
 exact zy (if_pos S) (fun hbp=>(if_pos ⟨S,hbp⟩)) ⟨rfl,rfl⟩
 refine st (zt rfl (fun hbp=>(if_pos hbp)) (zb ?_))
 cases aw:((decide (((f.moves.getD k default).frm)<0))||(decide (((f.moves.getD k default).to)<0)))||((decide (((f.moves.getD k default).need)=(-1)))&&(!decide (((f.moves.getD k default).least)=0)))
 refine ze rfl (zl (R0 fun _=>st (mV (Iw k) ?_)))
 have bF:InR ((k+1:Nat):Int):=bo
 refine st (zP (r:=((k+1:Nat):Int)) (k:=.i64) (a:=((k:Nat):Int)) (b:=1) rfl rfl (by rw[show(((k:Nat):Int)+1:Int)=((k+1:Nat):Int)from bo];exact zF bF) (st (aS (Iw (k+1)) (zb ?_))))
 have bG:Sep G W (cp::co::Rs) cc:=p.sel 3 [1,2] (Nat.le_add_left _ _) rfl rfl
 exact⟨_,by omega,k+1,_,rfl,sSf,by omega,bG⟩
 refine zg rfl (za (R0 fun _=>st (aS (Iv 1) (zb (zk (zG lR rfl ?_))))))
 refine⟨1,rfl,?_,?_,(p.s3_)⟩
 decide
 intro D
 exact absurd D dc
 refine zg rfl (za (R0 fun _=>st (aS (Iv 1) (zb (zk (zG lR rfl ?_))))))
 refine⟨1,rfl,?_,?_,(g.s2_)⟩
 decide
 intro D
 exact absurd D dc
 refine zg rfl (za (R0 fun _=>st (aS (Iv 2) (zb (zk (zG lR rfl ?_))))))
 refine⟨2,rfl,?_,?_,(g.s2_)⟩
 decide
 intro D
 exact absurd D dc
theorem Kt:Elem Tryz.prog 104 143 4 32:=⟨rT,_,_,rfl,rfl,rfl,rfl,rfl⟩
theorem zcL {d:Dcl}{dd0:Value}(hdd0:RdS W G dd0 d.types){dd1:Value}(hdd1:RdS W G dd1 d.projs)(od:d.Ok){ty:Int}(hty:InR ty){fi:Int}(hfi:InR fi)(hS0:Sep G W Rs w):Ret Tryz.prog 65 [.agg (d.cells dd0 dd1).toArray,.int .i64 (ty),.int .i64 (fi)] w (fun r w'=> ∃(c1:Int) (c2:Int) (c3:Bool) (dx:Value) (b:Bool),r=(.tuple #[.agg #[.int .i64 (c1),.int .i64 (c2),.bool c3,dx],.bool b]:Value)∧(dx.oneCell'=true)∧(b=true→(0≤ty∧ty<d.types.length)∧0≤fi∧fi<(d.types.getD ty.toNat default).fields.length)∧Sep G W Rs w'):=by
 let aN:=zN W (sb dd0) (so dd0+ty.toNat*1+0)
 let aO:=zN W (sb aN) (so aN+fi.toNat*4+3)
 have hdd0s:_*24≤_:=hdd0.small
 have hdd1s:_*40≤_:=hdd1.small
 refine zi (args:=[.agg (d.cells dd0 dd1).toArray,Iv ty,Iv fi]) Tryz.func65 rfl rfl ?_
 refine za (R0 fun _=>st (zM (v:=.agg (d.cells dd0 dd1).toArray) rfl ?_))
 intro w3 b2 aK
 refine st (zq uR ?_)
 intro w7 S aL
 have g:=(hS0.new aK).new aL
 refine st (aS (.bool false) (zb (za (za (zA kr (st (mV (Iv ty) (st (zC (k:=.i64) (a:=ty) (b:=0) rfl rfl (st (mV (.bool (decide (ty<0))) (stc (V:=Iv ty) rfl rfl (fun aM=>?_) ?_))))))))))))
 have hl10:=fD aM
 exact mV (Iv ty) ⟨rfl,rfl⟩
 refine stc (V:=Ix b2 0) rfl rfl (fun ai=>?_) ?_
 have hl12:=fD ai
 exact yC rfl ⟨rfl,rfl⟩
 refine stc (V:=dd0) rfl rfl (fun A=>?_) ?_
 have hl14:=fD A
 exact lD dd0 oT (if_pos A) (zd (g.b1) rfl) ⟨rfl,rfl⟩
 refine stc (V:=Iw d.types.length) rfl rfl (fun B=>?_) ?_
 have hl16:=fD B
 exact zJ (n:=d.types.length) pT (if_pos B) hdd0.sl ⟨rfl,rfl⟩
 refine stc (V:=.bool (decide (((d.types.length:Nat):Int)≤ty))) rfl rfl (fun q=>?_) ?_
 have hl18:=fD q
 exact yR (k:=.i64) (a:=ty) (b:=((d.types.length:Nat):Int)) (if_pos q) (if_pos q) ⟨rfl,rfl⟩
 refine st (zt (b:=decide (ty<0)) (b':=decide (((d.types.length:Nat):Int)≤ty)) rfl (fun hbp=>(if_pos hbp)) (st (mV (.bool ((decide (ty<0))||(decide (((d.types.length:Nat):Int)≤ty)))) (stc (V:=Iv fi) rfl rfl (fun aj=>?_) ?_))))
 have ak:=aj
 try simp only[zf]at ak
 exact mV (Iv fi) ⟨rfl,rfl⟩
 refine stc (V:=.bool (decide (fi<0))) rfl rfl (fun C=>?_) ?_
 have al:=C
 try simp only[zf]at al
 exact zC (k:=.i64) (a:=fi) (b:=0) (if_pos C) rfl ⟨rfl,rfl⟩
 refine st (zt (b:=(decide (ty<0))||(decide (((d.types.length:Nat):Int)≤ty))) (b':=decide (fi<0)) rfl (fun hbp=>(if_pos hbp)) (st (mV (.bool (((decide (ty<0))||(decide (((d.types.length:Nat):Int)≤ty)))||(decide (fi<0)))) (stc (V:=Iv fi) rfl rfl (fun am=>?_) ?_))))
 have an:=am
 try simp only[zf]at an
 exact mV (Iv fi) ⟨rfl,rfl⟩
 refine stc (V:=Ix b2 0) rfl rfl (fun ao=>?_) ?_
 have ap:=ao
 try simp only[zf]at ap
 exact yC rfl ⟨rfl,rfl⟩
 refine stc (V:=dd0) rfl rfl (fun D=>?_) ?_
 have aq:=D
 try simp only[zf]at aq
 exact lD dd0 oT (if_pos D) (zd (g.b1) rfl) ⟨rfl,rfl⟩
 refine stc (V:=Iv ty) rfl rfl (fun ar=>?_) ?_
 have au:=ar
 try simp only[zf]at au
 exact mV (Iv ty) ⟨rfl,rfl⟩
 refine stc (V:=Ix (sb dd0) (so dd0+ty.toNat*1)) rfl rfl (fun s=>?_) ?_
 have av:=s
 try simp only[zf]at av
 have hi33:ty.toNat<d.types.length:=bo
 exact zr (k:=1) (i:=ty) pT qT (if_pos s) hdd0.sl (if_pos s) ⟨by omega,by omega⟩ ⟨rfl,rfl⟩
 refine stc (V:=Ix (sb dd0) (so dd0+ty.toNat*1)) rfl rfl (fun E=>?_) ?_
 have aw:=E
 try simp only[zf]at aw
 exact yS (if_pos E) ⟨rfl,rfl⟩
 refine stc (V:=aN) rfl rfl (fun F=>?_) ?_
 have ax:=F
 try simp only[zf]at ax
 have H:ty.toNat<d.types.length:=bo
 obtain⟨T,z,hoke38⟩:=hdd0.typD H
 have hsm40:((d.types.getD ty.toNat default).fields).length*48≤140737488355328:=z.small
 have U:=g.cells T (hdd0.foot (ne_of_lt H))
 exact lD aN tT (if_pos F) (U.get (j:=0) rfl) ⟨rfl,rfl⟩
 refine stc (V:=Iw (((d.types.getD ty.toNat default).fields).length)) rfl rfl (fun I=>?_) ?_
 have ay:=I
 try simp only[zf]at ay
 have J:ty.toNat<d.types.length:=bo
 obtain⟨X,l,hoke44⟩:=hdd0.typD J
 have hsm46:((d.types.getD ty.toNat default).fields).length*48≤140737488355328:=l.small
 have hcw47:=g.cells X (hdd0.foot (ne_of_lt J))
 exact zJ (n:=((d.types.getD ty.toNat default).fields).length) lT (if_pos I) l.sl ⟨rfl,rfl⟩
 refine stc (V:=.bool (decide (((((d.types.getD ty.toNat default).fields).length:Nat):Int)≤fi))) rfl rfl (fun t=>?_) ?_
 have az:=t
 try simp only[zf]at az
 exact yR (k:=.i64) (a:=fi) (b:=((((d.types.getD ty.toNat default).fields).length:Nat):Int)) (if_pos t) (if_pos t) ⟨rfl,rfl⟩
 refine st (zt (b:=((decide (ty<0))||(decide (((d.types.length:Nat):Int)≤ty)))||(decide (fi<0))) (b':=decide (((((d.types.getD ty.toNat default).fields).length:Nat):Int)≤fi)) rfl (fun hbp=>(if_pos hbp)) (zb ?_))
 cases K:(((decide (ty<0))||(decide (((d.types.length:Nat):Int)≤ty)))||(decide (fi<0)))||(decide (((((d.types.getD ty.toNat default).fields).length:Nat):Int)≤fi))
 try simp only[zf]at K
 refine ze rfl (zl (za (R0 fun _=>st (yC rfl (st (lD dd0 oT rfl (zd (g.b1) rfl) (st (mV (Iv ty) ?_))))))))
 have hi51:ty.toNat<d.types.length:=bo
 refine st (zr (k:=1) (i:=ty) pT qT rfl hdd0.sl rfl ⟨by omega,by omega⟩ (st (yS rfl ?_)))
 have L:ty.toNat<d.types.length:=bo
 obtain⟨Y,f,hoke52⟩:=hdd0.typD L
 have hsm54:((d.types.getD ty.toNat default).fields).length*48≤140737488355328:=f.small
 have Z:=g.cells Y (hdd0.foot (ne_of_lt L))
 refine st (lD aN tT rfl (Z.get (j:=0) rfl) (st (mV (Iv fi) ?_)))
 have hi56:fi.toNat<((d.types.getD ty.toNat default).fields).length:=bo
 refine st (zr (k:=4) (i:=fi) lT mT rfl f.sl rfl ⟨by omega,by omega⟩ ?_)
 have M:fi.toNat<((d.types.getD ty.toNat default).fields).length:=bo
 obtain⟨aa,e,p⟩:=f.fldD M
 have hsm59:((((d.types.getD ty.toNat default).fields).getD fi.toNat default).moves).length*32≤140737488355328:=e.small
 have ab:=g.cells aa (f.foot (ne_of_lt M))
 refine st (zh (k:=4) mR mT rfl rfl ab (st (zq uR ?_)))
 intro w63 ag aA
 have N:=g.new aA
 refine stn (zp (v:=.agg ((((d.types.getD ty.toNat default).fields).getD fi.toNat default).cells aO).toArray) (c':=((((d.types.getD ty.toNat default).fields).getD fi.toNat default).cells aO).toArray) mT rfl rfl (N.b0) (zX ⟨rfl,rfl,rfl,e.sl.one,trivial⟩) yqc rfl ?_)
 intro w65 aB
 refine zb (za (R0 fun _=>st (aS (Iz) (zb (za (za (R0 fun _=>st (aS (Iv 0) (zb (zn ?_))))))))))
 have aC:Sep _ _ ((RowE (α:=Mv) own 143 (Iz) ([]:List Mv))::_) _:=(N.pt0 aB).rowNil own 143
 refine zZ (fun mq σ wq=> ∃(k:Nat) (vm:Value) (ρ:Env),mq=((d.types.getD ty.toNat default).fields.getD fi.toNat default).moves.length-k∧σ=yd ρ [(3,Ix b2 0),(6,Ix S 0),(8,Ix ag 0),(10,Iw k),(9,vm)]∧(k≤((d.types.getD ty.toNat default).fields.getD fi.toNat default).moves.length)∧Sep G W ((RowE (α:=Mv) own 143 vm (((d.types.getD ty.toNat default).fields.getD fi.toNat default).moves.take k))::(Blk ag ((((d.types.getD ty.toNat default).fields).getD fi.toNat default).cells (zN W (sb (zN W (sb dd0) (so dd0+ty.toNat*1+0))) (so (zN W (sb dd0) (so dd0+ty.toNat*1+0))+fi.toNat*4+3))).toArray 106)::(Blk S #[Iv 0,Iv 0,.bool false,(Iz)] 106)::(Blk b2 (d.cells dd0 dd1).toArray 25)::Rs) wq) ⟨0,(Iz),_,rfl,sSf,Nat.zero_le _,aC⟩ ?_
 rintro m70 σ71 w69 ⟨k,vm,ρl1,rfl,rfl,hkk,h⟩
 have m:=h.r0
 have hr73s:_*32≤_:=m.2
 refine za (za (R0 fun _=>st (mV (Iw k) (st (yF rfl (st (lD aO uT rfl (zd (h.b1) rfl) (st (zJ (n:=((((d.types.getD ty.toNat default).fields).getD fi.toNat default).moves).length) rT rfl e.sl (st (zC (k:=.i64) (a:=((k:Nat):Int)) (b:=((((((d.types.getD ty.toNat default).fields).getD fi.toNat default).moves).length:Nat):Int)) rfl rfl (zb ?_))))))))))))
 cases o:decide (((k:Nat):Int)<((((((d.types.getD ty.toNat default).fields).getD fi.toNat default).moves).length:Nat):Int))
 have o:=fD o
 refine ze rfl (ya (zS (za (R0 fun _=>st (mV vm (st (yF rfl (stn (ym (v:=vm) (c:=[Iv ((((d.types.getD ty.toNat default).fields).getD fi.toNat default).kind),Iv ((((d.types.getD ty.toNat default).fields).getD fi.toNat default).policy),.bool ((((d.types.getD ty.toNat default).fields).getD fi.toNat default).floor),aO]) (c':=[Iv ((((d.types.getD ty.toNat default).fields).getD fi.toNat default).kind),Iv ((((d.types.getD ty.toNat default).fields).getD fi.toNat default).policy),.bool ((((d.types.getD ty.toNat default).fields).getD fi.toNat default).floor),vm]) Tryz.sizeOf104 rfl rfl (h.b1) m.1.one rfl rfl ?_)))))))))
 intro w75 aD
 have ok77:Fld.Ok (⟨(((d.types.getD ty.toNat default).fields).getD fi.toNat default).kind,(((d.types.getD ty.toNat default).fields).getD fi.toNat default).policy,(((d.types.getD ty.toNat default).fields).getD fi.toNat default).floor,((d.types.getD ty.toNat default).fields.getD fi.toNat default).moves.take k⟩:Fld):=⟨(show InR ((((d.types.getD ty.toNat default).fields).getD fi.toNat default).kind)from p.kind),(show InR ((((d.types.getD ty.toNat default).fields).getD fi.toNat default).policy)from p.policy)⟩
 have u:=h.pt1 aD
 refine zb (za (R0 fun _=>st (zh (k:=4) mR mT rfl rfl (CellsAt.all (u.b1)) (stn (zp (v:=.agg ((⟨(((d.types.getD ty.toNat default).fields).getD fi.toNat default).kind,(((d.types.getD ty.toNat default).fields).getD fi.toNat default).policy,(((d.types.getD ty.toNat default).fields).getD fi.toNat default).floor,((d.types.getD ty.toNat default).fields.getD fi.toNat default).moves.take k⟩:Fld).cells vm).toArray) (c':=((⟨(((d.types.getD ty.toNat default).fields).getD fi.toNat default).kind,(((d.types.getD ty.toNat default).fields).getD fi.toNat default).policy,(((d.types.getD ty.toNat default).fields).getD fi.toNat default).floor,((d.types.getD ty.toNat default).fields.getD fi.toNat default).moves.take k⟩:Fld).cells vm).toArray) mT rfl rfl (u.b2) (zX ⟨rfl,rfl,rfl,m.1.one,trivial⟩) yqc rfl ?_)))))
 intro w79 aE
 have O:=u.pt2 aE
 refine st (aS (.bool true) (zb (zk (xD (b:=S) pY mR mT rfl rfl (CellsAt.all (O.b2)) (show _=(.bool true:Value)from rfl) ?_))))
 refine⟨(((d.types.getD ty.toNat default).fields).getD fi.toNat default).kind,(((d.types.getD ty.toNat default).fields).getD fi.toNat default).policy,(((d.types.getD ty.toNat default).fields).getD fi.toNat default).floor,vm,true,rfl,?_,?_,(O.s4_)⟩
 exact m.1.one
 intro _;omega
 have o:=tD o
 refine zg rfl (zl (za (zn (R0 fun _=>st (mV vm (st (yF rfl (st (lD aO uT rfl (zd (h.b1) rfl) (st (mV (Iw k) ?_)))))))))))
 have aF:k<((((d.types.getD ty.toNat default).fields).getD fi.toNat default).moves).length:=bo
 refine st (zj (k:=4) (i:=k) rT vT rfl e.sl rfl aF ?_)
 have P:k<((((d.types.getD ty.toNat default).fields).getD fi.toNat default).moves).length:=bo
 obtain⟨ac,Q⟩:=e.mvD P
 have ad:=h.cells ac (e.foot (ne_of_lt P))
 refine st (zh (k:=4) nY vT rfl rfl ad (st (zI (k:=4) (parts':=[(0,.agg ((((((d.types.getD ty.toNat default).fields).getD fi.toNat default).moves).getD k default).cells).toArray)]) (c:=((((((d.types.getD ty.toNat default).fields).getD fi.toNat default).moves).getD k default).cells).toArray) rT vT oY dc rfl kr ?_)))
 intro w89 b88 aG
 have R:=h.new aG
 have ae:=R.b0
 refine st (yj (src:=own) (bytes:=32) (x1:=(((((d.types.getD ty.toNat default).fields).getD fi.toNat default).moves).getD k default)) ((R.s5_bcde).emp1) Kt rfl rfl ae (fun _ _ _=>(show _ from⟨rfl,Q⟩)) yqb rfl ?_)
 intro ah w91 x
 have aH:=x.r0
 have hr97s:_*32≤_:=aH.2
 refine st (aS ah (zb (R0 fun _=>st (mV (Iw k) ?_))))
 have aI:InR ((k+1:Nat):Int):=bo
 refine st (zP (r:=((k+1:Nat):Int)) (k:=.i64) (a:=((k:Nat):Int)) (b:=1) rfl rfl (by rw[show(((k:Nat):Int)+1:Int)=((k+1:Nat):Int)from bo];exact zF aI) (st (aS (Iw (k+1)) (zb ?_))))
 have aJ:(((d.types.getD ty.toNat default).fields.getD fi.toNat default).moves.take (k+1))=(((d.types.getD ty.toNat default).fields.getD fi.toNat default).moves.take k)++[(((((d.types.getD ty.toNat default).fields).getD fi.toNat default).moves).getD k default)]:=(List.take_getD om)
 rw[←aJ]at x
 exact⟨_,by omega,k+1,ah,_,rfl,sSf,by omega,x⟩
 try simp only[zf]at K
 refine zg rfl (za (R0 fun _=>?_))
 have ok100:Fld.Ok (⟨0,0,false,[]⟩:Fld):=⟨(show InR (0)from dc),(show InR (0)from dc)⟩
 refine st (zL (parts':=[]) (v:=.agg ((⟨0,0,false,[]⟩:Fld).cells (Iz)).toArray) rfl (by simp+zetaDelta [Instr.build,Instr.fill,Ev.cells,go_sem,Mv.cells,Fld.cells,Typ.cells,Prj.cells,Dcl.cells,Cel.cells,AskR.cells]) (stn (zp (v:=.agg ((⟨0,0,false,[]⟩:Fld).cells (Iz)).toArray) (c':=((⟨0,0,false,[]⟩:Fld).cells (Iz)).toArray) mT rfl rfl (g.b0) (zX ⟨rfl,rfl,rfl,rfl,trivial⟩) yqc rfl ?_)))
 intro w101 af
 have y:=g.pt0 af
 refine st (aS (.bool false) (zb (zk (xD (b:=S) pY mR mT rfl rfl (CellsAt.all (y.b0)) (show _=(.bool false:Value)from rfl) ?_))))
 refine⟨0,0,false,(Iz),false,rfl,?_,?_,(y.s2_)⟩
 rfl
 intro h9;cases h9
theorem zcg {d:Dcl}{dd0:Value}(hdd0:RdS W G dd0 d.types){dd1:Value}(hdd1:RdS W G dd1 d.projs)(od:d.Ok)(hS0:Sep G W Rs w):Ret Tryz.prog 26 [.agg (d.cells dd0 dd1).toArray] w (fun r w'=> ∃(e:Int),r=(.int .i64 (e):Value)∧(InR e)∧(e=0→DclOk d∧zaA d)∧Sep G W Rs w'):=by
 have hdd0s:_*24≤_:=hdd0.small
 have hdd1s:_*40≤_:=hdd1.small
 refine zi (args:=[.agg (d.cells dd0 dd1).toArray]) Tryz.func26 rfl rfl ?_
 refine za (R0 fun _=>st (zM (v:=.agg (d.cells dd0 dd1).toArray) rfl ?_))
 intro w3 b2 df
 let dj:=Blk b2 (d.cells dd0 dd1).toArray 25
 have cQ:=hS0.new df
 refine st (aS (Iv 0) (zb (za (za (R0 fun _=>st (zh (k:=2) qY rY rfl rfl (CellsAt.all (cQ.b0)) (st (cL Tryz.call63 (zdR (d:=d) hdd0 hdd1 od cQ) ?_))))))))
 rintro _ w7 ⟨b5,rfl,dg,cR⟩
 refine zb ?_
 cases dh:b5
 have hfew:=dg dh
 refine ze rfl (zl (za (za (R0 fun _=>st (aS (Iv 0) (zb (zn (zZ (fun mq σ S=> ∃(k:Nat) (ρ:Env),mq=d.types.length-k∧σ=yd ρ [(1,Ix b2 0),(3,Iw k)]∧(k≤d.types.length)∧(∀i,i<k→ ∀j,j<(d.types.getD i default).fields.length→Qj (d.types.getD i default) ((d.types.getD i default).fields.getD j default))∧Sep G W ((Blk b2 (d.cells dd0 dd1).toArray 25)::Rs) S) ⟨0,_,rfl,sSf,Nat.zero_le _,(fun i h=>absurd h (Nat.not_lt_zero i)),cR⟩ ?_))))))))
 rintro m11 σ12 w10 ⟨k,ρl1,rfl,rfl,hkk,hm,aw⟩
 let aj:=zN W (sb dd0) (so dd0+k*1+0)
 refine za (za (R0 fun _=>st (mV (Iw k) (st (yC rfl (st (lD dd0 oT rfl (zd (aw.b0) rfl) (st (zJ (n:=d.types.length) pT rfl hdd0.sl (st (zC (k:=.i64) (a:=((k:Nat):Int)) (b:=((d.types.length:Nat):Int)) rfl rfl (zb ?_))))))))))))
 cases ak:decide (((k:Nat):Int)<((d.types.length:Nat):Int))
 have ak:=fD ak
 refine ze rfl (ya (zS (za (za (R0 fun _=>st (aS (Iv 0) (zb (zn (zZ (fun mq σ S=> ∃(z:Nat) (ρ:Env),mq=d.projs.length-z∧σ=yd ρ [(1,Ix b2 0),(6,Iw z)]∧(z≤d.projs.length)∧(∀i,i<z→KI (d.projs.getD i default))∧Sep G W ((Blk b2 (d.cells dd0 dd1).toArray 25)::Rs) S) ⟨0,_,rfl,sSf,Nat.zero_le _,(fun i h=>absurd h (Nat.not_lt_zero i)),aw⟩ ?_)))))))))
 rintro m16 σ17 w15 ⟨z,ρl2,rfl,rfl,hkz,hpz,ad⟩
 let di:=(d.projs.getD z default).cells
 refine za (za (R0 fun _=>st (mV (Iw z) (st (ZP rfl (st (lD dd1 pR rfl (zd (ad.b0) rfl) (st (zJ (n:=d.projs.length) qR rfl hdd1.sl (st (zC (k:=.i64) (a:=((z:Nat):Int)) (b:=((d.projs.length:Nat):Int)) rfl rfl (zb ?_))))))))))))
 cases al:decide (((z:Nat):Int)<((d.projs.length:Nat):Int))
 have al:=fD al
 refine ze rfl (ya (zS (za (R0 fun _=>st (aS (Iv 0) (zb (zk (zG kR (show _=(Iv 0:Value)from rfl) ?_))))))))
 refine⟨0,rfl,?_,?_,(ad.s1_)⟩
 first|decide|assumption
 intro h9
 exact⟨zdQ hfew.1 (fun i hi=>hm i om),hfew.2,fun i hi=>hpz i om⟩
 have al:=tD al
 refine zg rfl (zl (za (zn (za (R0 fun _=>st (ZP rfl (st (lD dd1 pR rfl (zd (ad.b0) rfl) (st (mV (Iw z) ?_))))))))))
 have cT:z<d.projs.length:=bo
 refine st (zj (k:=5) (i:=z) qR vR rfl hdd1.sl rfl cT ?_)
 have bh:z<d.projs.length:=bo
 obtain⟨bx,ae⟩:=hdd1.prjD bh
 have bz:=ad.cells bx (hdd1.foot (ne_of_lt bh))
 refine st (zh (k:=5) Tryz.isAgg112 vR rfl rfl bz (st (zq Tryz.zeroValue112 ?_)))
 intro w27 u cU
 have bi:=ad.new cU
 refine stn (zp (v:=.agg di.toArray) (c':=di.toArray) vR rfl rfl (bi.b0) (zX ⟨rfl,rfl,rfl,rfl,rfl,trivial⟩) yqc rfl ?_)
 intro w29 cV
 have am:=bi.pt0 cV
 refine zb (za (R0 fun _=>st (zh (k:=2) qY rY rfl rfl (CellsAt.all (am.b1)) (st (KE rfl (st (lD (Iv ((d.projs.getD z default).ptyp)) kT rfl (zd (am.b0) rfl) (st (zcw rfl (st (lD (Iv ((d.projs.getD z default).pfield)) kT rfl (zd (am.b0) rfl) (st (cL Tryz.call65 (zcL (d:=d) (ty:=(d.projs.getD z default).ptyp) (fi:=(d.projs.getD z default).pfield) hdd0 hdd1 od ae.ptyp ae.pfield am) ?_)))))))))))))
 rintro _ w39 ⟨o,p,q,s,x,rfl,hdx37,bj,cW⟩
 refine st (mV (.tuple #[.agg #[Iv o,Iv p,.bool q,s],.bool x]) (st (zm (vs:=[.agg #[Iv o,Iv p,.bool q,s],.bool x]) (i:=0) (v:=.agg #[Iv o,Iv p,.bool q,s]) rfl rfl (st (zm (vs:=[.agg #[Iv o,Iv p,.bool q,s],.bool x]) (i:=1) (v:=.bool x) rfl rfl (st (zq uR ?_)))))))
 intro w43 bk cX
 have bl:=cW.new cX
 refine stn (zp (v:=.agg #[Iv o,Iv p,.bool q,s]) (c':=#[Iv o,Iv p,.bool q,s]) mT rfl rfl (bl.b0) (zX ⟨rfl,rfl,rfl,(by assumption),trivial⟩) yqc rfl ?_)
 intro w45 cY
 have bm:=bl.pt0 cY
 refine st (aS (.bool x) (zb (za (za (R0 fun _=>st (mV (.bool x) (st (yB (a:=x) rfl (zb ?_)))))))))
 cases ax: !x
 try simp only[zf]at ax
 have hpt:=bj (by have h9:=ax;simpa using h9)
 refine ze rfl (zl (za (za ?_)))
 refine WD4 ((fun TT av=>WF [fun vals S=>Sep G W (av::TT) S,fun vals S=>(vals 12=(if(decide (((d.projs.getD z default).pgroup)=3))=true then(Iv ((yU (d.types.getD (((d.projs.getD z default).ptyp).toNat) default) ((d.projs.getD z default).pby))):Value)else undef))∧Sep G W (av::TT) S]) ((Blk u di.toArray 112)::dj::Rs) (Blk bk #[Iv o,Iv p,.bool q,s] 106)) (AF [Vl 0 (Ix u 2),Vl 1 (Iv ((d.projs.getD z default).pgroup)),Vl 2 (.bool (decide (((d.projs.getD z default).pgroup)=3))),Vl 3 (.bool (decide (((d.projs.getD z default).pgroup)=3))),Vl 4 (if(decide (((d.projs.getD z default).pgroup)=3))=true then Ix b2 0 else undef),Vl 5 (if(decide (((d.projs.getD z default).pgroup)=3))=true then dd0 else undef),Vl 6 (if(decide (((d.projs.getD z default).pgroup)=3))=true then Ix u 0 else undef),Vl 7 (if(decide (((d.projs.getD z default).pgroup)=3))=true then Iv ((d.projs.getD z default).ptyp)else undef),Vl 8 (if(decide (((d.projs.getD z default).pgroup)=3))=true then Ix (sb dd0) (so dd0+(((d.projs.getD z default).ptyp).toNat)*1)else undef),Vl 9 (if(decide (((d.projs.getD z default).pgroup)=3))=true then .agg ((d.types.getD (((d.projs.getD z default).ptyp).toNat) default).cells (zN W (sb dd0) (so dd0+(((d.projs.getD z default).ptyp).toNat)*1+0))).toArray else undef),Vl 10 (if(decide (((d.projs.getD z default).pgroup)=3))=true then Ix u 3 else undef),Vl 11 (if(decide (((d.projs.getD z default).pgroup)=3))=true then Iv ((d.projs.getD z default).pby)else undef),fun _=>True,Vl 13 (if(decide (((d.projs.getD z default).pgroup)=3))=true then .bool (!decide ((yU (d.types.getD (((d.projs.getD z default).ptyp).toNat) default) ((d.projs.getD z default).pby))=2))else undef),Vl 14 (.bool ((decide (((d.projs.getD z default).pgroup)=3))&&(!decide ((yU (d.types.getD (((d.projs.getD z default).ptyp).toNat) default) ((d.projs.getD z default).pby))=2)))),Vl 15 (.bool ((decide (((d.projs.getD z default).pgroup)=3))&&(!decide ((yU (d.types.getD (((d.projs.getD z default).ptyp).toNat) default) ((d.projs.getD z default).pby))=2)))),Vl 16 (if((decide (((d.projs.getD z default).pgroup)=3))&&(!decide ((yU (d.types.getD (((d.projs.getD z default).ptyp).toNat) default) ((d.projs.getD z default).pby))=2)))=false then Ix u 2 else undef),Vl 17 (if((decide (((d.projs.getD z default).pgroup)=3))&&(!decide ((yU (d.types.getD (((d.projs.getD z default).ptyp).toNat) default) ((d.projs.getD z default).pby))=2)))=false then Iv ((d.projs.getD z default).pgroup)else undef),Vl 18 (if((decide (((d.projs.getD z default).pgroup)=3))&&(!decide ((yU (d.types.getD (((d.projs.getD z default).ptyp).toNat) default) ((d.projs.getD z default).pby))=2)))=false then .bool (!decide (((d.projs.getD z default).pgroup)=3))else undef),Vl 19 (if((decide (((d.projs.getD z default).pgroup)=3))&&(!decide ((yU (d.types.getD (((d.projs.getD z default).ptyp).toNat) default) ((d.projs.getD z default).pby))=2)))=false then .bool (!decide (((d.projs.getD z default).pgroup)=3))else undef),Vl 20 (if(((decide (((d.projs.getD z default).pgroup)=3))&&(!decide ((yU (d.types.getD (((d.projs.getD z default).ptyp).toNat) default) ((d.projs.getD z default).pby))=2)))=false)∧(!decide (((d.projs.getD z default).pgroup)=3))=true then Ix u 3 else undef),Vl 21 (if(((decide (((d.projs.getD z default).pgroup)=3))&&(!decide ((yU (d.types.getD (((d.projs.getD z default).ptyp).toNat) default) ((d.projs.getD z default).pby))=2)))=false)∧(!decide (((d.projs.getD z default).pgroup)=3))=true then Iv ((d.projs.getD z default).pby)else undef),Vl 22 (if(((decide (((d.projs.getD z default).pgroup)=3))&&(!decide ((yU (d.types.getD (((d.projs.getD z default).ptyp).toNat) default) ((d.projs.getD z default).pby))=2)))=false)∧(!decide (((d.projs.getD z default).pgroup)=3))=true then .bool (!decide (((d.projs.getD z default).pby)=0))else undef),Vl 23 (if((decide (((d.projs.getD z default).pgroup)=3))&&(!decide ((yU (d.types.getD (((d.projs.getD z default).ptyp).toNat) default) ((d.projs.getD z default).pby))=2)))=false then .bool ((!decide (((d.projs.getD z default).pgroup)=3))&&(!decide (((d.projs.getD z default).pby)=0)))else undef),Vl 24 (.bool (((decide (((d.projs.getD z default).pgroup)=3))&&(!decide ((yU (d.types.getD (((d.projs.getD z default).ptyp).toNat) default) ((d.projs.getD z default).pby))=2)))||((!decide (((d.projs.getD z default).pgroup)=3))&&(!decide (((d.projs.getD z default).pby)=0)))))]) [[],[0],[0,1],[0,1,2],(rg 4),(rg 5),(rg 4),[0,1,2,3,6],(rg 8),(rg 9),(rg 4),[0,1,2,3,10],(rg 12),(rg 13),(rg 14),(rg 15),(rg 16),(rg 17),(rg 18),(rg 19),(rg 20),(rg 21),(rg 22),(rg 23),(rg 24)] [12] [(0,0),(0,0),(0,0),(0,0),(0,0),(0,0),(0,0),(0,0),(0,0),(0,0),(0,0),(0,0),(0,0),(1,1),(1,1),(1,1),(1,1),(1,1),(1,1),(1,1),(1,1),(1,1),(1,1),(1,1),(1,1)] bm ⟨fun _ _ _ _ _ _ _=>obl rfl (XZ rfl dR),ob1 0 fun _ _ (bA:Sep _ _ _ _) bB=>obl rfl (lD (Iv ((d.projs.getD z default).pgroup)) kT (bB 0 dc) (zd (bA.b1) rfl) dR),ob1 0 fun _ _ _ bC=>obl rfl (zR (k:=.i64) (a:=(d.projs.getD z default).pgroup) (b:=3) (bC 1 dc) rfl dR),fun _ _ _ _ _ _ bD=>obl rfl (yi (v:=.bool (decide (((d.projs.getD z default).pgroup)=3))) (bD 2 dc) dR),?_,?_,?_,?_,?_,?_,?_,?_,?_,?_,fun _ _ _ _ _ _ aA=>obl rfl (zy (b:=decide (((d.projs.getD z default).pgroup)=3)) (b':= !decide ((yU (d.types.getD (((d.projs.getD z default).ptyp).toNat) default) ((d.projs.getD z default).pby))=2)) (aA 3 dc) (fun hbp=>(Eq.trans (aA 13 dc) (if_pos hbp))) dR),fun _ _ _ _ _ _ bE=>obl rfl (yi (v:=.bool ((decide (((d.projs.getD z default).pgroup)=3))&&(!decide ((yU (d.types.getD (((d.projs.getD z default).ptyp).toNat) default) ((d.projs.getD z default).pby))=2)))) (bE 14 dc) dR),?_,?_,?_,?_,?_,?_,?_,?_,fun _ _ _ _ _ _ aB=>obl rfl (zt (b:=(decide (((d.projs.getD z default).pgroup)=3))&&(!decide ((yU (d.types.getD (((d.projs.getD z default).ptyp).toNat) default) ((d.projs.getD z default).pby))=2))) (b':=(!decide (((d.projs.getD z default).pgroup)=3))&&(!decide (((d.projs.getD z default).pby)=0))) (aB 15 dc) (fun hbp=>(Eq.trans (aB 23 dc) (if_pos hbp))) dR),trivial⟩ ?_
 refine fun _ _ _ _ _ _ bF=>(yr rfl rfl (bF 3 dc) (fun T=>?_) (fun T=>fun c g _=>⟨trivial,g.trans (if_neg T).symm⟩))
 have hl341:=tD T
 exact yC rfl (fun c g _=>⟨rfl,g.trans (if_pos T).symm⟩)
 refine ob1 0 fun _ _ (bG:Sep _ _ _ _) aC=>(yr rfl rfl (aC 3 dc) (fun I=>?_) (fun I=>fun c g _=>⟨trivial,g.trans (if_neg I).symm⟩))
 have hl352:=tD I
 exact lD dd0 oT (Eq.trans (aC 4 dc) (if_pos I)) (zd (bG.b2) rfl) (fun c g _=>⟨rfl,g.trans (if_pos I).symm⟩)
 refine fun _ _ _ _ _ _ bH=>(yr rfl rfl (bH 3 dc) (fun U=>?_) (fun U=>fun c g _=>⟨trivial,g.trans (if_neg U).symm⟩))
 have hl361:=tD U
 exact KE rfl (fun c g _=>⟨rfl,g.trans (if_pos U).symm⟩)
 refine ob1 0 fun _ _ (bI:Sep _ _ _ _) aD=>(yr rfl rfl (aD 3 dc) (fun J=>?_) (fun J=>fun c g _=>⟨trivial,g.trans (if_neg J).symm⟩))
 have hl372:=tD J
 exact lD (Iv ((d.projs.getD z default).ptyp)) kT (Eq.trans (aD 6 dc) (if_pos J)) (zd (bI.b1) rfl) (fun c g _=>⟨rfl,g.trans (if_pos J).symm⟩)
 refine ob1 0 fun _ _ _ an=>(yr rfl rfl (an 3 dc) (fun C=>?_) (fun C=>fun c g _=>⟨trivial,g.trans (if_neg C).symm⟩))
 have hl384:=tD C
 have hi385:((d.projs.getD z default).ptyp).toNat<d.types.length:=bo
 exact zr (k:=1) (i:=(d.projs.getD z default).ptyp) pT qT (Eq.trans (an 5 dc) (if_pos C)) hdd0.sl (Eq.trans (an 7 dc) (if_pos C)) ⟨by omega,by omega⟩ (fun c g _=>⟨rfl,g.trans (if_pos C).symm⟩)
 refine ob1 0 fun _ _ (bJ:Sep _ _ _ _) aE=>(yr rfl rfl (aE 3 dc) (fun K=>?_) (fun K=>fun c g _=>⟨trivial,g.trans (if_neg K).symm⟩))
 have hl396:=tD K
 have aF:((d.projs.getD z default).ptyp).toNat<d.types.length:=bo
 obtain⟨bn,ay,hoke397⟩:=hdd0.typD aF
 have hsm399:((d.types.getD (((d.projs.getD z default).ptyp).toNat) default).fields).length*48≤140737488355328:=ay.small
 have bp:=bJ.cells bn (hdd0.foot (ne_of_lt aF))
 exact zh (k:=1) tR qT rfl (Eq.trans (aE 8 dc) (if_pos K)) bp (fun c g _=>⟨rfl,g.trans (if_pos K).symm⟩)
 refine fun _ _ _ _ _ _ bK=>(yr rfl rfl (bK 3 dc) (fun X=>?_) (fun X=>fun c g _=>⟨trivial,g.trans (if_neg X).symm⟩))
 have hl409:=tD X
 exact Jg rfl (fun c g _=>⟨rfl,g.trans (if_pos X).symm⟩)
 refine ob1 0 fun _ _ (bL:Sep _ _ _ _) aG=>(yr rfl rfl (aG 3 dc) (fun L=>?_) (fun L=>fun c g _=>⟨trivial,g.trans (if_neg L).symm⟩))
 have hl420:=tD L
 exact lD (Iv ((d.projs.getD z default).pby)) kT (Eq.trans (aG 10 dc) (if_pos L)) (zd (bL.b1) rfl) (fun c g _=>⟨rfl,g.trans (if_pos L).symm⟩)
 refine ob1 0 fun vals cZ (ao:Sep _ _ _ _) ap=>(yr rfl rfl (ap 3 dc) (fun D=>?_) (fun D c g aH=>?_))
 have hl177:=tD D
 have aI:((d.projs.getD z default).ptyp).toNat<d.types.length:=bo
 obtain⟨bq,af,be⟩:=hdd0.typD aI
 have hsm180:((d.types.getD (((d.projs.getD z default).ptyp).toNat) default).fields).length*48≤140737488355328:=af.small
 have hcw181:=ao.cells bq (hdd0.foot (ne_of_lt aI))
 refine(zH (f:=66) (vals:=[.agg ((d.types.getD (((d.projs.getD z default).ptyp).toNat) default).cells (zN W (sb dd0) (so dd0+(((d.projs.getD z default).ptyp).toNat)*1+0))).toArray,Iv ((d.projs.getD z default).pby)]) (cap:=[]) rfl (yE ⟨(Eq.trans (ap 9 dc) (if_pos D)),(Eq.trans (ap 11 dc) (if_pos D)),trivial⟩) mY (zbf (t:=(d.types.getD (((d.projs.getD z default).ptyp).toNat) default)) (n:=(d.projs.getD z default).pby) af be ae.pby ao) ?_)
 rintro _ w182 ⟨rfl,bM⟩
 exact fun c g aH=>⟨(zx (g.trans (if_pos D).symm) bM),trivial⟩
 refine⟨?_,trivial⟩
 show(c 12=(if(decide (((d.projs.getD z default).pgroup)=3))=true then(Iv ((yU (d.types.getD (((d.projs.getD z default).ptyp).toNat) default) ((d.projs.getD z default).pby))):Value)else undef))∧Sep G W ((Blk bk #[Iv o,Iv p,.bool q,s] 106)::(Blk u di.toArray 112)::dj::Rs) cZ
 exact⟨(g.trans (if_neg D).symm),ao⟩
 refine ob1 1 fun _ _ bN bO=>?_
 obtain⟨E,hS427⟩:=bN
 refine yr rfl rfl (bO 3 dc) (fun M=>?_) (fun M=>fun c g _=>⟨trivial,g.trans (if_neg M).symm⟩)
 have hl430:=tD M
 exact yn (k:=.i64) (a:=(yU (d.types.getD (((d.projs.getD z default).ptyp).toNat) default) ((d.projs.getD z default).pby))) (b:=2) (Eq.trans E (if_pos M)) rfl (fun c g _=>⟨rfl,g.trans (if_pos M).symm⟩)
 refine fun _ _ _ _ _ _ bP=>(yr rfl rfl (bP 15 dc) (fun Y=>?_) (fun Y=>fun c g _=>⟨trivial,g.trans (if_neg Y).symm⟩))
 have bQ:=Y
 try simp only[zf]at bQ
 exact XZ rfl (fun c g _=>⟨rfl,g.trans (if_pos Y).symm⟩)
 refine ob1 1 fun _ _ bR aJ=>?_
 obtain⟨E,bS⟩:=bR
 refine yr rfl rfl (aJ 15 dc) (fun N=>?_) (fun N=>fun c g _=>⟨trivial,g.trans (if_neg N).symm⟩)
 have bT:=N
 try simp only[zf]at bT
 exact lD (Iv ((d.projs.getD z default).pgroup)) kT (Eq.trans (aJ 16 dc) (if_pos N)) (zd (bS.b1) rfl) (fun c g _=>⟨rfl,g.trans (if_pos N).symm⟩)
 refine ob1 1 fun _ _ bU aK=>?_
 obtain⟨E,hS472⟩:=bU
 refine yr rfl rfl (aK 15 dc) (fun O=>?_) (fun O=>fun c g _=>⟨trivial,g.trans (if_neg O).symm⟩)
 have bV:=O
 try simp only[zf]at bV
 exact yn (k:=.i64) (a:=(d.projs.getD z default).pgroup) (b:=3) (Eq.trans (aK 17 dc) (if_pos O)) rfl (fun c g _=>⟨rfl,g.trans (if_pos O).symm⟩)
 refine fun _ _ _ _ _ _ aL=>(yr rfl rfl (aL 15 dc) (fun P=>?_) (fun P=>fun c g _=>⟨trivial,g.trans (if_neg P).symm⟩))
 have bW:=P
 try simp only[zf]at bW
 exact yi (v:=.bool (!decide (((d.projs.getD z default).pgroup)=3))) (Eq.trans (aL 18 dc) (if_pos P)) (fun c g _=>⟨rfl,g.trans (if_pos P).symm⟩)
 refine fun _ _ _ _ _ _ bX=>(xG rfl rfl (bX 19 dc) (fun Q=>?_) (fun Q=>fun c g _=>⟨trivial,g.trans (if_neg Q).symm⟩))
 have bY:=Q.1
 try simp only[zf]at bY
 have hl496:=zz Q.2
 exact Jg rfl (fun c g _=>⟨rfl,g.trans (if_pos Q).symm⟩)
 refine ob1 1 fun _ _ bZ aM=>?_
 obtain⟨E,ca⟩:=bZ
 refine xG rfl rfl (aM 19 dc) (fun y=>?_) (fun y=>fun c g _=>⟨trivial,g.trans (if_neg y).symm⟩)
 have cb:=y.1
 try simp only[zf]at cb
 have hl508:=zz y.2
 exact lD (Iv ((d.projs.getD z default).pby)) kT (Eq.trans (aM 20 dc) (if_pos ⟨y.1,y.2⟩)) (zd (ca.b1) rfl) (fun c g _=>⟨rfl,g.trans (if_pos y).symm⟩)
 refine ob1 1 fun _ _ cc aN=>?_
 obtain⟨E,hS515⟩:=cc
 refine xG rfl rfl (aN 19 dc) (fun A=>?_) (fun A=>fun c g _=>⟨trivial,g.trans (if_neg A).symm⟩)
 have cd:=A.1
 try simp only[zf]at cd
 have hl520:=zz A.2
 exact yn (k:=.i64) (a:=(d.projs.getD z default).pby) (b:=0) (Eq.trans (aN 21 dc) (if_pos ⟨A.1,A.2⟩)) rfl (fun c g _=>⟨rfl,g.trans (if_pos A).symm⟩)
 refine fun _ _ _ _ _ _ aq=>(yr rfl rfl (aq 15 dc) (fun F=>?_) (fun F=>fun c g _=>⟨trivial,g.trans (if_neg F).symm⟩))
 have ce:=F
 try simp only[zf]at ce
 exact zy (b:= !decide (((d.projs.getD z default).pgroup)=3)) (b':= !decide (((d.projs.getD z default).pby)=0)) (Eq.trans (aq 19 dc) (if_pos F)) (fun hbp=>(Eq.trans (aq 22 dc) (if_pos ⟨F,hbp⟩))) (fun c g _=>⟨rfl,g.trans (if_pos F).symm⟩)
 intro vals da cf cg
 obtain⟨E,B⟩:=cf
 have db:=cg 24 dc
 refine zT (kv:=[(1,Ix b2 0),(6,Iw z),(48,Iw z),(49,Ix b2 1),(50,dd1),(51,Iw d.projs.length),(52,.bool true),(55,Ix b2 1),(56,dd1),(57,Iw z),(58,Ix (sb dd1) (so dd1+z*5)),(59,.agg di.toArray),(7,Ix u 0),(61,.agg (d.cells dd0 dd1).toArray),(62,Ix u 0),(63,Iv ((d.projs.getD z default).ptyp)),(64,Ix u 1),(65,Iv ((d.projs.getD z default).pfield)),(66,.tuple #[.agg #[Iv o,Iv p,.bool q,s],.bool x]),(60,.tuple #[.agg #[Iv o,Iv p,.bool q,s],.bool x]),(67,.agg #[Iv o,Iv p,.bool q,s]),(68,.bool x),(8,Ix bk 0),(9,.bool x),(69,.bool x),(70,.bool false),(95,.bool (((decide (((d.projs.getD z default).pgroup)=3))&&(!decide ((yU (d.types.getD (((d.projs.getD z default).ptyp).toNat) default) ((d.projs.getD z default).pby))=2)))||((!decide (((d.projs.getD z default).pgroup)=3))&&(!decide (((d.projs.getD z default).pby)=0)))))]) ⟨rfl,rfl,rfl,rfl,rfl,rfl,rfl,rfl,rfl,rfl,rfl,rfl,rfl,rfl,rfl,rfl,rfl,rfl,rfl,rfl,rfl,rfl,rfl,rfl,rfl,rfl,(by exact db),trivial⟩ (fun ρw540=>?_)
 refine zb ?_
 cases ar:((decide (((d.projs.getD z default).pgroup)=3))&&(!decide ((yU (d.types.getD (((d.projs.getD z default).ptyp).toNat) default) ((d.projs.getD z default).pby))=2)))||((!decide (((d.projs.getD z default).pgroup)=3))&&(!decide (((d.projs.getD z default).pby)=0)))
 try simp only[zf]at ar
 refine ze rfl (zl (za (zA kr (st (XZ rfl (st (lD (Iv ((d.projs.getD z default).pgroup)) kT rfl (zd (B.b1) rfl) (st (zC (k:=.i64) (a:=(d.projs.getD z default).pgroup) (b:=1) rfl rfl (st (mV (.bool (decide (((d.projs.getD z default).pgroup)<1))) (stc (V:=Ix u 2) rfl rfl (fun ch=>?_) ?_))))))))))))
 have hl547:=fD ch
 exact XZ rfl ⟨rfl,rfl⟩
 refine stc (V:=Iv ((d.projs.getD z default).pgroup)) rfl rfl (fun aO=>?_) ?_
 have hl549:=fD aO
 exact lD (Iv ((d.projs.getD z default).pgroup)) kT (if_pos aO) (zd (B.b1) rfl) ⟨rfl,rfl⟩
 refine stc (V:=.bool (decide (3<((d.projs.getD z default).pgroup)))) rfl rfl (fun aP=>?_) ?_
 have hl551:=fD aP
 exact yT (k:=.i64) (a:=(d.projs.getD z default).pgroup) (b:=3) (if_pos aP) rfl ⟨rfl,rfl⟩
 refine st (zt (b:=decide (((d.projs.getD z default).pgroup)<1)) (b':=decide (3<((d.projs.getD z default).pgroup))) rfl (fun hbp=>(if_pos hbp)) (st (mV (.bool ((decide (((d.projs.getD z default).pgroup)<1))||(decide (3<((d.projs.getD z default).pgroup))))) (stc (V:=Ix u 4) rfl rfl (fun ci=>?_) ?_))))
 have cj:=ci
 try simp only[zf]at cj
 exact KQ rfl ⟨rfl,rfl⟩
 refine stc (V:=Iv ((d.projs.getD z default).pmake)) rfl rfl (fun aQ=>?_) ?_
 have ck:=aQ
 try simp only[zf]at ck
 exact lD (Iv ((d.projs.getD z default).pmake)) kT (if_pos aQ) (zd (B.b1) rfl) ⟨rfl,rfl⟩
 refine stc (V:=.bool (decide (((d.projs.getD z default).pmake)<1))) rfl rfl (fun aR=>?_) ?_
 have cl:=aR
 try simp only[zf]at cl
 exact zC (k:=.i64) (a:=(d.projs.getD z default).pmake) (b:=1) (if_pos aR) rfl ⟨rfl,rfl⟩
 refine st (zt (b:=(decide (((d.projs.getD z default).pgroup)<1))||(decide (3<((d.projs.getD z default).pgroup)))) (b':=decide (((d.projs.getD z default).pmake)<1)) rfl (fun hbp=>(if_pos hbp)) (st (mV (.bool (((decide (((d.projs.getD z default).pgroup)<1))||(decide (3<((d.projs.getD z default).pgroup))))||(decide (((d.projs.getD z default).pmake)<1)))) (stc (V:=Ix u 4) rfl rfl (fun cm=>?_) ?_))))
 have cn:=cm
 try simp only[zf]at cn
 exact KQ rfl ⟨rfl,rfl⟩
 refine stc (V:=Iv ((d.projs.getD z default).pmake)) rfl rfl (fun aT=>?_) ?_
 have co:=aT
 try simp only[zf]at co
 exact lD (Iv ((d.projs.getD z default).pmake)) kT (if_pos aT) (zd (B.b1) rfl) ⟨rfl,rfl⟩
 refine stc (V:=.bool (decide (5<((d.projs.getD z default).pmake)))) rfl rfl (fun aU=>?_) ?_
 have cp:=aU
 try simp only[zf]at cp
 exact yT (k:=.i64) (a:=(d.projs.getD z default).pmake) (b:=5) (if_pos aU) rfl ⟨rfl,rfl⟩
 refine st (zt (b:=((decide (((d.projs.getD z default).pgroup)<1))||(decide (3<((d.projs.getD z default).pgroup))))||(decide (((d.projs.getD z default).pmake)<1))) (b':=decide (5<((d.projs.getD z default).pmake))) rfl (fun hbp=>(if_pos hbp)) (zb ?_))
 cases au:(((decide (((d.projs.getD z default).pgroup)<1))||(decide (3<((d.projs.getD z default).pgroup))))||(decide (((d.projs.getD z default).pmake)<1)))||(decide (5<((d.projs.getD z default).pmake)))
 try simp only[zf]at au
 refine ze rfl (zl (R0 fun _=>st (mV (Iw z) ?_)))
 have cq:InR ((z+1:Nat):Int):=bo
 refine st (zP (r:=((z+1:Nat):Int)) (k:=.i64) (a:=((z:Nat):Int)) (b:=1) rfl rfl (by rw[show(((z:Nat):Int)+1:Int)=((z+1:Nat):Int)from bo];exact zF cq) (st (aS (Iw (z+1)) (zb ?_))))
 have cr:Sep G W (dj::Rs) da:=B.sel 3 [2] (Nat.le_add_left _ _) rfl rfl
 have dd:KI (d.projs.getD z default):=by
  have h8:=ar
  have h9:=au
  unfold KI
  by_cases hg:(d.projs.getD z default).pgroup=3
  ·have h7:=Jl (t:=d.types.getD (d.projs.getD z default).ptyp.toNat default) (n:=(d.projs.getD z default).pby) (by omega);omega
  ·omega
 exact⟨_,by omega,z+1,_,rfl,sSf,by omega,(yL hpz dd),cr⟩
 try simp only[zf]at au
 refine zg rfl (za (R0 fun _=>st (aS (Iv 2) (zb (zk (zG kR (show _=(Iv 2:Value)from rfl) ?_))))))
 refine⟨2,rfl,?_,?_,(B.s3_)⟩
 first|decide|assumption
 intro h9
 exfalso;omega
 try simp only[zf]at ar
 refine zg rfl (za (R0 fun _=>st (aS (Iv 8) (zb (zk (zG kR (show _=(Iv 8:Value)from rfl) ?_))))))
 refine⟨8,rfl,?_,?_,(B.s3_)⟩
 first|decide|assumption
 intro h9
 exfalso;omega
 try simp only[zf]at ax
 refine zg rfl (za (R0 fun _=>st (aS (Iv 8) (zb (zk (zG kR (show _=(Iv 8:Value)from rfl) ?_))))))
 refine⟨8,rfl,?_,?_,(bm.s3_)⟩
 first|decide|assumption
 intro h9
 exfalso;omega
 have ak:=tD ak
 refine zg rfl (zl (za (zn (za (R0 fun _=>st (aS (Iv 0) (zb (zn (zZ (fun mq σ S=> ∃(j:Nat) (ρ:Env),mq=(d.types.getD k default).fields.length-j∧σ=yd ρ [(1,Ix b2 0),(3,Iw k),(4,Iw j)]∧(j≤(d.types.getD k default).fields.length)∧(∀i,i<j→Qj (d.types.getD k default) ((d.types.getD k default).fields.getD i default))∧Sep G W ((Blk b2 (d.cells dd0 dd1).toArray 25)::Rs) S) ⟨0,_,rfl,sSf,Nat.zero_le _,(fun i h=>absurd h (Nat.not_lt_zero i)),aw⟩ ?_)))))))))
 rintro m571 σ572 w570 ⟨j,ρl3,rfl,rfl,hkj,cS,Z⟩
 refine za (za (R0 fun _=>st (mV (Iw j) (st (yC rfl (st (lD dd0 oT rfl (zd (Z.b0) rfl) (st (mV (Iw k) ?_)))))))))
 have cs:k<d.types.length:=bo
 refine st (zj (k:=1) (i:=k) pT qT rfl hdd0.sl rfl cs (st (yS rfl ?_)))
 have aa:k<d.types.length:=bo
 obtain⟨ag,m,bf⟩:=hdd0.typD aa
 have hsm577:((d.types.getD k default).fields).length*48≤140737488355328:=m.small
 have br:=Z.cells ag (hdd0.foot (ne_of_lt aa))
 refine st (lD aj tT rfl (br.get (j:=0) rfl) (st (zJ (n:=((d.types.getD k default).fields).length) lT rfl m.sl (st (zC (k:=.i64) (a:=((j:Nat):Int)) (b:=((((d.types.getD k default).fields).length:Nat):Int)) rfl rfl (zb ?_))))))
 cases ab:decide (((j:Nat):Int)<((((d.types.getD k default).fields).length:Nat):Int))
 have ab:=fD ab
 refine ze rfl (ya (zS (R0 fun _=>st (mV (Iw k) ?_))))
 have ct:InR ((k+1:Nat):Int):=bo
 refine st (zP (r:=((k+1:Nat):Int)) (k:=.i64) (a:=((k:Nat):Int)) (b:=1) rfl rfl (by rw[show(((k:Nat):Int)+1:Int)=((k+1:Nat):Int)from bo];exact zF ct) (st (aS (Iw (k+1)) (zb ?_))))
 exact⟨_,by omega,k+1,_,rfl,sSf,by omega,(yL hm (fun j9 h9=>cS j9 om)),Z⟩
 have ab:=tD ab
 refine zg rfl (zl (za (zn (za ?_))))
 refine WD4 ((fun av=>WF [fun vals S=>Sep G W (av::Rs) S,fun vals S=> ∃(l:Int),(vals 14=(Iv l:Value))∧(InR l)∧(l=0→Qj (d.types.getD k default) (((d.types.getD k default).fields).getD j default))∧Sep G W (av::Rs) S]) dj) (AF [Vl 0 (Ix b2 0),Vl 1 (dd0),Vl 2 (Iw k),Vl 3 (Ix (sb dd0) (so dd0+k*1)),Vl 4 (.agg ((d.types.getD k default).cells aj).toArray),Vl 5 (Ix b2 0),Vl 6 (dd0),Vl 7 (Iw k),Vl 8 (Ix (sb dd0) (so dd0+k*1)),Vl 9 (Ix (sb dd0) (so dd0+k*1)),Vl 10 (aj),Vl 11 (Iw j),Vl 12 (Ix (sb aj) (so aj+j*4)),Vl 13 (.agg ((((d.types.getD k default).fields).getD j default).cells (zN W (sb aj) (so aj+j*4+3))).toArray),fun _=>True,fun vals=> ∀(l:Int),vals 14=(Iv l:Value)→vals 15=(Iv l:Value)]) [[],[0],[],[0,1,2],(rg 4),[],[5],[],[5,6,7],[5,6,7,8],[5,6,7,8,9],[],[5,6,7,8,9,10,11],[5,6,7,8,9,10,11,12],(rg 14),(rg 15)] [14] [(0,0),(0,0),(0,0),(0,0),(0,0),(0,0),(0,0),(0,0),(0,0),(0,0),(0,0),(0,0),(0,0),(0,0),(0,0),(1,1)] Z ⟨fun _ _ _ _ _ _ _=>obl rfl (yC rfl dR),ob1 0 fun _ _ (cu:Sep _ _ _ _) cv=>obl rfl (lD dd0 oT (cv 0 dc) (zd (cu.b0) rfl) dR),fun _ _ _ _ _ _ _=>obl rfl (mV (Iw k) dR),?_,?_,fun _ _ _ _ _ _ _=>obl rfl (yC rfl dR),ob1 0 fun _ _ (cw:Sep _ _ _ _) cx=>obl rfl (lD dd0 oT (cx 5 dc) (zd (cw.b0) rfl) dR),fun _ _ _ _ _ _ _=>obl rfl (mV (Iw k) dR),?_,fun _ _ _ _ _ _ cy=>obl rfl (yS (cy 8 dc) dR),?_,fun _ _ _ _ _ _ _=>obl rfl (mV (Iw j) dR),?_,?_,?_,?_,trivial⟩ ?_ (hlocA:=yX ⟨dA,dA,dA,dA,dA,dA,dA,dA,dA,dA,dA,dA,dA,dA,dT,fun vals c g h=>fun l aV=>(g 15 (.inl rfl)).trans (h l ((g 14 (.inr dc)).symm.trans aV)),trivial⟩)
 refine ob1 0 fun _ _ _ aW=>(obl rfl ?_)
 have cz:k<d.types.length:=bo
 exact zj (k:=1) (i:=k) pT qT (aW 1 dc) hdd0.sl (aW 2 dc) cz dR
 refine ob1 0 fun _ _ (cC:Sep _ _ _ _) cD=>(obl rfl ?_)
 have bs:=cC.cells ag (hdd0.foot (ne_of_lt aa))
 exact zh (k:=1) tR qT rfl (cD 3 dc) bs dR
 refine ob1 0 fun _ _ _ aX=>(obl rfl ?_)
 have cE:k<d.types.length:=bo
 exact zj (k:=1) (i:=k) pT qT (aX 6 dc) hdd0.sl (aX 7 dc) cE dR
 refine ob1 0 fun _ _ (cF:Sep _ _ _ _) cG=>(obl rfl ?_)
 have bt:=cF.cells ag (hdd0.foot (ne_of_lt aa))
 exact lD aj tT (cG 9 dc) (bt.get (j:=0) rfl) dR
 refine ob1 0 fun _ _ _ aY=>(obl rfl ?_)
 have cH:j<((d.types.getD k default).fields).length:=bo
 exact zj (k:=4) (i:=j) lT mT (aY 10 dc) m.sl (aY 11 dc) cH dR
 refine ob1 0 fun _ _ (cI:Sep _ _ _ _) cJ=>(obl rfl ?_)
 have aZ:j<((d.types.getD k default).fields).length:=bo
 obtain⟨bu,az,hoke833⟩:=m.fldD aZ
 have hsm835:((((d.types.getD k default).fields).getD j default).moves).length*32≤140737488355328:=az.small
 have bv:=cI.cells bu (m.foot (ne_of_lt aZ))
 exact zh (k:=4) mR mT rfl (cJ 12 dc) bv dR
 refine ob1 0 fun vals _ (ba:Sep _ _ _ _) bb=>(obl rfl ?_)
 have bc:j<((d.types.getD k default).fields).length:=bo
 obtain⟨bw,ah,bg⟩:=m.fldD bc
 have hsm707:((((d.types.getD k default).fields).getD j default).moves).length*32≤140737488355328:=ah.small
 have hcw708:=ba.cells bw (m.foot (ne_of_lt bc))
 refine(zH (f:=64) (vals:=[.agg ((d.types.getD k default).cells aj).toArray,.agg ((((d.types.getD k default).fields).getD j default).cells (zN W (sb aj) (so aj+j*4+3))).toArray]) (cap:=[]) rfl (yE ⟨(bb 4 dc),(bb 13 dc),trivial⟩) Tryz.call64 (D_one (t:=(d.types.getD k default)) (f:=(((d.types.getD k default).fields).getD j default)) m bf ah bg ba) ?_)
 rintro _ w712 ⟨l,rfl,ai,H,cK⟩
 exact fun c g aH=>⟨(exiA l (zx g (zx ai (zx H cK)))),trivial⟩
 refine ob1 1 fun _ _ cM _=>?_
 obtain⟨l,ac,ai,H,hS843⟩:=cM
 refine obl rfl (zY (v:=Iv l) ac (fun c g aH=>⟨rfl,?_⟩))
 intro e709q aV
 rw[aH 14 (by decide)]at aV;cases ac.symm.trans aV
 exact g
 intro vals w844 cN cO
 obtain⟨l,ac,ai,H,bd⟩:=cN
 have de:vals 15=(Iv l:Value):=cO 15 dc l ac
 refine zT (kv:=[(1,Ix b2 0),(3,Iw k),(4,Iw j),(19,Iw j),(20,Ix b2 0),(21,dd0),(22,Iw k),(23,Ix (sb dd0) (so dd0+k*1)),(24,Ix (sb dd0) (so dd0+k*1)),(25,aj),(26,Iw (((d.types.getD k default).fields).length)),(27,.bool true),(5,Iv l)]) ⟨rfl,rfl,rfl,rfl,rfl,rfl,rfl,rfl,rfl,rfl,rfl,rfl,(by exact de),trivial⟩ (fun ρw844=>(zb (za (R0 fun _=>st (mV (Iv l) (st (yn (k:=.i64) (a:=l) (b:=0) rfl rfl (zb ?_))))))))
 cases R: !decide (l=0)
 have R:=zQ R
 refine ze rfl (zl (R0 fun _=>st (mV (Iw j) ?_)))
 have cP:InR ((j+1:Nat):Int):=bo
 refine st (zP (r:=((j+1:Nat):Int)) (k:=.i64) (a:=((j:Nat):Int)) (b:=1) rfl rfl (by rw[show(((j:Nat):Int)+1:Int)=((j+1:Nat):Int)from bo];exact zF cP) (st (aS (Iw (j+1)) (zb ?_))))
 exact⟨_,by omega,j+1,_,rfl,sSf,by omega,(yL cS (H (by have h9:=R;omega))),bd⟩
 have R:=zz R
 refine zg rfl (za (R0 fun _=>st (mV (Iv l) (st (aS (Iv l) (zb (zk (zG kR rfl ?_))))))))
 refine⟨l,rfl,?_,?_,(bd.s1_)⟩
 first|decide|assumption
 intro h9
 exfalso;omega
 refine zg rfl (za (R0 fun _=>st (aS (Iv 3) (zb (zk (zG kR rfl ?_))))))
 refine⟨3,rfl,?_,?_,(cR.s1_)⟩
 first|decide|assumption
 intro h9
 exfalso;omega
theorem zaR {x:Int}(hx:InR x){n:Nat}(hn:1≤n∧n≤281474976710656)(hS0:Sep G W Rs w):Ret Tryz.prog 7 [.int .i64 (x),.int .i64 ((n:Nat):Int)] w (fun r w'=> ∃(q:Nat),r=(.int .i64 ((q:Nat):Int):Value)∧(q<n)∧Sep G W Rs w'):=by
 refine zi Tryz.func7 rfl rfl ?_
 refine za (R0 fun _=>st (aS (Iv 0) (zb (za (za (R0 fun _=>st (mV (Iw n) (st (zC rfl rfl (zb ?_))))))))))
 cases d:decide (((n:Nat):Int)<1)
 have d:=fD d
 refine ze rfl (zl (za (R0 fun _=>st (mV (Iv x) (st (mV (Iw n) ?_))))))
 have f:(0:Int)<((n:Nat):Int):=by omega
 have h:=Int.tmod_lt_of_pos x f;have i:=Int.lt_tmod_of_pos x f
 obtain⟨c,g⟩: ∃z,Int.tmod x ((n:Nat):Int)=z:=⟨_,rfl⟩;rw[g]at h i
 refine st (zdI (r:=c) rfl rfl f g (st (aS (Iv c) (zb (za (za (R0 fun _=>st (mV (Iv c) (st (zC (k:=.i64) (a:=c) (b:=0) rfl rfl (zb ?_)))))))))))
 cases e:decide (c<0)
 have e:=fD e
 refine ze rfl (zl (za (R0 fun _=>st (mV (Iv c) (st (aS (Iv c) (zb (zk (zG wR (show _=(Iv c:Value)from rfl) ?_)))))))))
 refine⟨(c).toNat,?_,?_,hS0⟩
 rw[Int.toNat_of_nonneg (by omega)]
 omega
 have e:=tD e
 refine zg rfl (R0 fun _=>st (mV (Iv c) (st (mV (Iw n) ?_))))
 have j:InR (c+((n:Nat):Int)):=by omega
 refine st (zP (r:=c+((n:Nat):Int)) (k:=.i64) (a:=c) (b:=((n:Nat):Int)) rfl rfl (zF j) (st (aS (Iv (c+((n:Nat):Int))) (zb (za (R0 fun _=>st (mV (Iv (c+((n:Nat):Int))) (st (aS (Iv (c+((n:Nat):Int))) (zb (zk (zG wR (show _=(Iv (c+((n:Nat):Int)):Value)from rfl) ?_))))))))))))
 refine⟨(c+((n:Nat):Int)).toNat,?_,?_,hS0⟩
 rw[Int.toNat_of_nonneg (by omega)]
 omega
 have d:=tD d
 refine zg rfl (za (R0 fun _=>st (aS (Iv 0) (zb (zk (zG wR rfl ?_))))))
 refine⟨0,?_,?_,hS0⟩
 exfalso;omega
 omega
theorem Wg {α:Type}{a b:List α}{d:α}(hl:a.length=b.length)(h: ∀i,i<a.length→a.getD i d=b.getD i d):a=b:=by
 refine List.ext_getElem hl (fun i h1 h2=>?_)
 have:=h i h1
 rwa [zB _ h1,zB _ h2]at this
theorem WO {vl:Value}{l:List Int}(hl:RdS W G vl l)(hS0:Sep G W Rs w):Ret Tryz.prog 90 [vl] w (fun r w'=> ∃(v:Value),r=(v:Value)∧Sep G W ((RowE (α:=Int) own 3 v l)::Rs) w'):=by
 have hls:_*8≤_:=hl.small
 refine zi (args:=[vl]) Tryz.func90 rfl rfl ?_
 refine za (R0 fun _=>st (aS (Iz) (zb (za (R0 fun _=>st (aS (Iz) (zb (za (za (R0 fun _=>st (aS (Iv 0) (zb (zn ?_)))))))))))))
 have z:Sep G W ((RowE (α:=Int) own 3 (Iz) ([]:List Int))::Rs) w:=hS0.rowNil own 3
 refine zZ (fun mq σ D=> ∃(k:Nat) (vo:Value) (ρ:Env),mq=l.length-k∧σ=yd ρ [(0,vl),(4,Iw k),(3,vo)]∧(k≤l.length)∧Sep G W ((RowE (α:=Int) own 3 vo (l.take k))::Rs) D) ⟨0,(Iz),_,rfl,sSf,Nat.zero_le _,z⟩ ?_
 rintro m3 σ4 w2 ⟨k,vo,ρl1,rfl,rfl,hkk,d⟩
 have A:=d.r0
 have hr6s:_*8≤_:=A.2
 refine za (za (R0 fun _=>st (mV (Iw k) (st (mV vl (st (zJ (n:=l.length) nT rfl hl.sl (st (zC (k:=.i64) (a:=((k:Nat):Int)) (b:=((l.length:Nat):Int)) rfl rfl (zb ?_))))))))))
 cases f:decide (((k:Nat):Int)<((l.length:Nat):Int))
 have f:=fD f
 refine ze rfl (ya (zS (za (R0 fun _=>st (mV vo (st (aS vo (zb (zk (zG Tryz.results90 (show _=(vo:Value)from rfl) ?_))))))))))
 have B:k=l.length:=by omega
 rw[B,List.take_length]at d
 refine⟨vo,rfl,d⟩
 have f:=tD f
 refine zg rfl (zl (za (zn (R0 fun _=>st (mV vo (st (mV vl (st (mV (Iw k) ?_)))))))))
 have C:k<l.length:=bo
 refine st (zj (k:=1) (i:=k) nT sT rfl hl.sl rfl C ?_)
 have g:k<l.length:=bo
 obtain⟨q,s⟩:=hl.intD g
 have m:=d.cells q (hl.foot (ne_of_lt g))
 refine st (lD (Iv ((l.getD k 0))) kT rfl (m.get (j:=0) rfl) (st (zI (k:=1) (parts':=[(0,Iv ((l.getD k 0)))]) (c:=#[Iv ((l.getD k 0))]) nT sT nR dc rfl kr ?_)))
 intro w14 b13 t
 have h:=d.new t
 have o:=h.b0
 refine st (yj (src:=own) (bytes:=8) (x1:=(l.getD k 0)) ((h.s2_b).emp1) VR rfl rfl o (fun _ _ _=>(show _ from⟨rfl,s⟩)) yqb rfl ?_)
 intro p w16 e
 have u:=e.r0
 have hr22s:_*8≤_:=u.2
 refine st (aS p (zb (R0 fun _=>st (mV (Iw k) ?_))))
 have x:InR ((k+1:Nat):Int):=bo
 refine st (zP (r:=((k+1:Nat):Int)) (k:=.i64) (a:=((k:Nat):Int)) (b:=1) rfl rfl (by rw[show(((k:Nat):Int)+1:Int)=((k+1:Nat):Int)from bo];exact zF x) (st (aS (Iw (k+1)) (zb ?_))))
 have y:(l.take (k+1))=(l.take k)++[(l.getD k 0)]:=(List.take_getD om)
 rw[←y]at e
 exact⟨_,by omega,k+1,p,_,rfl,sSf,by omega,e⟩
theorem QW {va:Value}{a:List Int}(ha:RdS W G va a){vb:Value}{b:List Int}(hb:RdS W G vb b)(hS0:Sep G W Rs w):Ret Tryz.prog 52 [va,vb] w (fun r w'=>r=(.bool (decide (a=b)):Value)∧Sep G W Rs w'):=by
 have has:_*8≤_:=ha.small
 have hbs:_*8≤_:=hb.small
 refine zi (args:=[va,vb]) Tryz.func52 rfl rfl ?_
 refine za (R0 fun _=>st (aS (.bool false) (zb (za (za (R0 fun _=>st (mV va (st (zJ (n:=a.length) nT rfl ha.sl (st (mV vb (st (zJ (n:=b.length) nT rfl hb.sl (st (yn (k:=.i64) (a:=((a.length:Nat):Int)) (b:=((b.length:Nat):Int)) rfl rfl (zb ?_))))))))))))))))
 cases d: !decide (((a.length:Nat):Int)=((b.length:Nat):Int))
 have d:=zQ d
 refine ze rfl (zl (za (za (R0 fun _=>st (aS (Iv 0) (zb (zn (zZ (fun mq σ I=> ∃(k:Nat) (ρ:Env),mq=a.length-k∧σ=yd ρ [(0,va),(1,vb),(5,Iw k)]∧(k≤a.length)∧(∀i,i<k→a.getD i 0=b.getD i 0)∧Sep G W Rs I) ⟨0,_,rfl,sSf,Nat.zero_le _,(fun i h=>absurd h (Nat.not_lt_zero i)),hS0⟩ ?_))))))))
 rintro m3 σ4 w2 ⟨k,ρl1,rfl,rfl,hkk,hm,H⟩
 refine za (za (R0 fun _=>st (mV (Iw k) (st (mV va (st (zJ (n:=a.length) nT rfl ha.sl (st (zC (k:=.i64) (a:=((k:Nat):Int)) (b:=((a.length:Nat):Int)) rfl rfl (zb ?_))))))))))
 cases f:decide (((k:Nat):Int)<((a.length:Nat):Int))
 have f:=fD f
 refine ze rfl (ya (zS (za (R0 fun _=>st (aS (.bool true) (zb (zk (zG kY (show _=(.bool true:Value)from rfl) ?_))))))))
 refine⟨?_,H⟩
 rw[decide_eq_true (Wg (by omega) (fun i hi=>hm i (by omega)))]
 have f:=tD f
 refine zg rfl (zl (za (zn (za (WD4 (WF [fun vals I=>Sep G W Rs I]) (AF [Vl 0 (va),Vl 1 (Iw k),Vl 2 (Ix (sb va) (so va+k*1)),Vl 3 (Iv ((a.getD k 0))),Vl 4 (vb),Vl 5 (Iw k),Vl 6 (Ix (sb vb) (so vb+k*1)),Vl 7 (Iv ((b.getD k 0))),Vl 8 (.bool (!decide ((a.getD k 0)=(b.getD k 0))))]) [[],[],[0,1],[0,1,2],[],[],[4,5],[4,5,6],(rg 8)] [] [(0,0),(0,0),(0,0),(0,0),(0,0),(0,0),(0,0),(0,0),(0,0)] H ⟨fun _ _ _ _ _ _ _=>obl rfl (mV va dR),fun _ _ _ _ _ _ _=>obl rfl (mV (Iw k) dR),?_,?_,fun _ _ _ _ _ _ _=>obl rfl (mV vb dR),fun _ _ _ _ _ _ _=>obl rfl (mV (Iw k) dR),?_,?_,ob1 0 fun _ _ _ g=>obl rfl (yn (k:=.i64) (a:=(a.getD k 0)) (b:=(b.getD k 0)) (g 3 dc) (g 7 dc) dR),trivial⟩ ?_)))))
 refine ob1 0 fun _ _ _ q=>(obl rfl ?_)
 have x:k<a.length:=bo
 exact zj (k:=1) (i:=k) nT sT (q 0 dc) ha.sl (q 1 dc) x dR
 refine ob1 0 fun _ _ (y:Sep _ _ _ _) z=>(obl rfl ?_)
 have l:k<a.length:=bo
 obtain⟨s,hxe112⟩:=ha.intD l
 have t:=y.cells s (ha.foot (ne_of_lt l))
 exact lD (Iv ((a.getD k 0))) kT (z 2 dc) (t.get (j:=0) rfl) dR
 refine ob1 0 fun _ _ _ m=>(obl rfl ?_)
 have A:k<b.length:=bo
 exact zj (k:=1) (i:=k) nT sT (m 4 dc) hb.sl (m 5 dc) A dR
 refine ob1 0 fun _ _ (B:Sep _ _ _ _) C=>(obl rfl ?_)
 have o:k<b.length:=bo
 obtain⟨u,hxe145⟩:=hb.intD o
 have v:=B.cells u (hb.foot (ne_of_lt o))
 exact lD (Iv ((b.getD k 0))) kT (C 6 dc) (v.get (j:=0) rfl) dR
 intro vals w157 D E
 have p:Sep _ _ _ _:=D
 have J:=E 8 dc
 refine zT (kv:=[(0,va),(1,vb),(5,Iw k),(11,Iw k),(12,va),(13,Iw a.length),(14,.bool true),(25,.bool (!decide ((a.getD k 0)=(b.getD k 0))))]) ⟨rfl,rfl,rfl,rfl,rfl,rfl,rfl,(by exact J),trivial⟩ (fun ρw157=>(zb ?_))
 cases c: !decide ((a.getD k 0)=(b.getD k 0))
 have c:=zQ c
 refine ze rfl (zl (R0 fun _=>st (mV (Iw k) ?_)))
 have F:InR ((k+1:Nat):Int):=bo
 refine st (zP (r:=((k+1:Nat):Int)) (k:=.i64) (a:=((k:Nat):Int)) (b:=1) rfl rfl (by rw[show(((k:Nat):Int)+1:Int)=((k+1:Nat):Int)from bo];exact zF F) (st (aS (Iw (k+1)) (zb ?_))))
 exact⟨_,by omega,k+1,_,rfl,sSf,by omega,(yL hm om),p⟩
 have c:=zz c
 refine zg rfl (za (R0 fun _=>st (aS (.bool false) (zb (zk (zG kY (show _=(.bool false:Value)from rfl) ?_))))))
 refine⟨?_,p⟩
 rw[decide_eq_false (fun e=>by subst e;omega)]
 have d:=zz d
 refine zg rfl (za (R0 fun _=>st (aS (.bool false) (zb (zk (zG kY (show _=(.bool false:Value)from rfl) ?_))))))
 refine⟨?_,hS0⟩
 rw[decide_eq_false (fun e=>by subst e;omega)]
end
section
open Go.RowKit
section
variable {G:Nat→Prop}{W w:World}{As:List HP}{T Ti:TypeId}{v:Value}{sh:List CelS}{l:List Cel}
theorem CelW.rowP {f:Nat→Prop}(h:(CelW v T Ti l).p w f):(RowE (α:=Cel) own T v l).p w f:=by
 obtain⟨sh,⟨hlen,hn⟩,hA⟩:=h
 obtain⟨fs,q1,q2⟩:=hA
 obtain⟨⟨css,hE,hown,hrow,hsm⟩,hf0⟩:=q1 0 _ rfl
 obtain⟨hSt,hf1⟩:=q1 1 _ rfl
 have q2':=q2 0 1 (by simp) (by simp) (by simp)
 have hcl:=hE.length
 refine⟨css,EP.of_at (by omega) (fun i h1 h2=>?_),by rw[←hlen];exact hown,fun b hb=>(hf0 b (hrow b hb)).1,by rw[←hlen];exact hsm⟩
 have hs:i<sh.length:=by omega
 obtain⟨hcs,hin,hone⟩:css[i]=sh[i].cells∧InR sh[i].n∧sh[i].v.oneCell'=true:=(EP.at2 hE i h1 hs).imp id (fun h=>⟨h.n,h.one⟩)
 have hr:(RowE (α:=Int) own Ti (sh.getD i default).v (l.getD i default).set).p w (fs 1):=Star.at_ hSt (SetRows.get hs h2)
 have hsoft:=RowE.soft hr
 have hni:=hn i h2
 rw[zB _ hs,zB _ h2]at hsoft hni
 refine⟨sh[i].v,?_,hsoft.mono (fun b hb hlt=>⟨rfl,⟨(hf1 b hb.1).1,fun e=>q2' b (hrow b e) hb.1⟩,hb.2⟩),⟨by rw[←hni];exact hin⟩⟩
 rw[hcs]
 show[Value.int .i64 sh[i].n,sh[i].v]=_
 rw[hni];rfl
theorem CelW.rd {f:Nat→Prop}(h:(CelW v T Ti l).p w f):RdS w f v l:=RowE.rd (CelW.rowP h)
end
end
section
set_option maxRecDepth 8000
open Go.Proofs Go.RowKit
def Zg (l:List Int)(n:Int)(b:Bool):List Int:=if b=true then l.filter (fun y=>decide (y<n))++n::l.filter (fun y=>decide (n<y))else l.filter (fun y=>decide (y≠n))
def Xn (l:List Int)(n:Int)(b:Bool):Prop:=(b=false→ ∀y∈l,y≤n)∧(b=true→ ∃y∈l,n<y)
theorem w_le {l:List Int}{n:Int}(h: ∀y∈l,y≤n):l.filter (fun y=>decide (y≠n))=l.filter (fun y=>decide (y<n))∧l.filter (fun y=>decide (n<y))=[]:=by
 constructor
 ·refine List.filter_congr (fun y hy=>?_)
  have:=h y hy
  rw[decide_eq_decide];omega
 ·refine List.filter_eq_nil_iff.2 (fun y hy=>?_)
  have:=h y hy
  simp only[decide_eq_true_eq];omega
theorem Ku {l:List Int}{n x:Int}{b:Bool}(h:Xn l n b)(hb:b=false)(hx:n<x):Zg (l++[x]) n true=Zg l n b++[n]++[x]∧Xn (l++[x]) n true:=by
 subst hb
 obtain⟨e1,e2⟩:=w_le (h.1 rfl)
 refine⟨?_,fun h=>Bool.noConfusion h,fun _=>⟨x,by simp,hx⟩⟩
 unfold Zg
 rw[if_pos rfl,if_neg (by decide),e1,List.filter_append,List.filter_append,e2,List.filter_cons,List.filter_cons,if_neg (by simp;omega),if_pos (by simpa using hx)]
 simp
theorem Kv {l:List Int}{n x:Int}{b:Bool}(h:Xn l n b)(ha:Asc (l++[x]))(hc:b=true∨x≤n)(hx: ¬x=n):Zg (l++[x]) n b=Zg l n b++[x]∧Xn (l++[x]) n b:=by
 cases b with
 |false=>
  have hxn:x≤n:=by rcases hc with h|h;·cases h
                   ·exact h
  refine⟨?_,fun _ y hy=>?_,fun h=>Bool.noConfusion h⟩
  ·unfold Zg
   rw[if_neg (by decide),if_neg (by decide),List.filter_append,List.filter_cons,if_pos (by simpa using hx)];rfl
  ·rcases List.mem_append.1 hy with hy|hy
   ·exact h.1 rfl y hy
   ·rw[List.mem_singleton.1 hy];exact hxn
 |true=>
  obtain⟨y,hy,hny⟩:=h.2 rfl
  have hyx:y<x:=(List.pairwise_append.1 ha).2.2 y hy x (List.mem_singleton.2 rfl)
  refine⟨?_,fun h=>Bool.noConfusion h,fun _=>⟨y,List.mem_append_left _ hy,hny⟩⟩
  unfold Zg
  rw[if_pos rfl,if_pos rfl,List.filter_append,List.filter_append,List.filter_cons,List.filter_cons,if_neg (by simp;omega),if_pos (by simp;omega)]
  simp
theorem VZ {l:List Int}{n x:Int}{b:Bool}(h:Xn l n b)(hx:x=n):Zg (l++[x]) n b=Zg l n b∧Xn (l++[x]) n b:=by
 subst hx
 refine⟨?_,fun hb y hy=>?_,fun hb=>?_⟩
 ·unfold Zg
  simp[List.filter_append,List.filter_cons]
 ·rcases List.mem_append.1 hy with hy|hy
  ·exact h.1 hb y hy
  ·rw[List.mem_singleton.1 hy];exact Int.le_refl _
 ·obtain⟨y,hy,hl⟩:=h.2 hb;exact⟨y,List.mem_append_left _ hy,hl⟩
theorem JX {l:List Int}(ha:Asc l)(n:Int):Zg l n true=ZG l n:=by
 unfold Zg
 rw[if_pos rfl]
 refine zcX ?_ (Qz ha n) (fun y=>?_)
 ·refine List.pairwise_append.2 ⟨ha.filter _,List.pairwise_cons.2 ⟨fun y hy=>?_,ha.filter _⟩,fun a ha2 b hb=>?_⟩
  ·simpa using(List.mem_filter.1 hy).2
  ·have h1:a<n:=by simpa using(List.mem_filter.1 ha2).2
   rcases List.mem_cons.1 hb with rfl|hb
   ·exact h1
   ·have h2:n<b:=by simpa using(List.mem_filter.1 hb).2
    omega
 ·rw[zbt]
  simp only[List.mem_append,List.mem_cons,List.mem_filter,decide_eq_true_eq]
  constructor
  ·rintro(⟨h1,_⟩|rfl|⟨h1,_⟩)
   ·exact .inr h1
   ·exact .inl rfl
   ·exact .inr h1
  ·rintro(rfl|h1)
   ·exact .inr (.inl rfl)
   ·rcases Int.lt_trichotomy y n with h2|h2|h2
    ·exact .inl ⟨h1,h2⟩
    ·exact .inr (.inl h2)
    ·exact .inr (.inr ⟨h1,h2⟩)
theorem w_end {l:List Int}{n:Int}{b:Bool}(h:Xn l n b)(hb:b=false)(ha:Asc l):Zg l n b++[n]=ZG l n:=by
 subst hb
 obtain⟨e1,e2⟩:=w_le (h.1 rfl)
 rw[←JX ha]
 unfold Zg
 rw[if_pos rfl,if_neg (by decide),e1,e2]
theorem YW {l:List Int}(h:Asc l)(k:Nat):Asc (l.take k):=h.sublist (List.take_sublist k l)
theorem w_ini (l:List Int)(n:Int):Xn (l.take 0) n false:=by
 rw[List.take_zero]
 exact⟨fun _ y hy=>(List.not_mem_nil hy).elim,fun h=>Bool.noConfusion h⟩
theorem zao (l:List Int)(n:Int)(b:Bool):(Zg l n b).length≤l.length+1:=by
 have key: ∀l:List Int,(l.filter (fun y=>decide (y<n))).length+(l.filter (fun y=>decide (n<y))).length≤l.length:=by
  intro l
  induction l with
  |nil=>simp
  |cons x l ih=>
   rw[List.filter_cons,List.filter_cons]
   by_cases h1:x<n
   ·rw[if_pos (by simpa using h1),if_neg (by simp;omega)];simp only[List.length_cons];omega
   ·rw[if_neg (by simpa using h1)]
    split
    ·simp only[List.length_cons];omega
    ·simp only[List.length_cons];omega
 unfold Zg
 split
 ·have:=key l
  simp only[List.length_append,List.length_cons];omega
 ·have:=List.length_filter_le (fun y=>decide (y≠n)) l
  omega
theorem xQ {l:List Int}{k:Nat}(h:k<l.length):l.take (k+1)=l.take k++[l.getD k 0]:=by rw[List.take_succ_eq_append_getElem h,zB _ h]
theorem zdY {vl:Value}{l:List Int}(hl:RdS W G vl l){n:Int}(hn:InR n)(hS0:Sep G W Rs w)(hasc:Asc l)(hfew:l.length≤1000):Ret Tryz.prog 111 [vl,.int .i64 (n)] w (fun r w'=> ∃(v:Value),r=(v:Value)∧Sep G W ((RowE (α:=Int) own 3 v (ZG l n))::Rs) w'):=by
 have hls:_*8≤_:=hl.small
 refine zi (args:=[vl,Iv n]) Tryz.func111 rfl rfl ?_
 refine za (R0 fun _=>st (aS (Iz) (zb (za (R0 fun _=>st (aS (Iz) (zb (za (R0 fun _=>st (aS (.bool false) (zb (za (za (R0 fun _=>st (aS (Iv 0) (zb (zn ?_)))))))))))))))))
 have aH:Sep G W ((RowE (α:=Int) own 3 (Iz) ([]:List Int))::Rs) w:=hS0.rowNil own 3
 refine zZ (fun mq σ wq=> ∃(k:Nat) (vo:Value) (ld:Bool) (ρ:Env),mq=l.length-k∧σ=yd ρ [(0,vl),(1,Iv n),(5,vo),(6,.bool ld),(7,Iw k)]∧(k≤l.length)∧(Xn (l.take k) n ld)∧Sep G W ((RowE (α:=Int) own 3 vo (Zg (l.take k) n ld))::Rs) wq) ⟨0,Iz,false,_,rfl,sSf,Nat.zero_le _,(w_ini l n),aH⟩ ?_
 rintro m3 σ4 w2 ⟨k,vo,ld,ρl1,rfl,rfl,hk,hw,e⟩
 have aI:=e.r0
 have hr6s:_*8≤_:=aI.2
 have hwl:=zao (l.take k) n ld
 rw[List.length_take]at hwl
 refine za (za (R0 fun _=>st (mV (Iw k) (st (mV vl (st (zJ (n:=l.length) nT rfl hl.sl (st (zC (k:=.i64) (a:=((k:Nat):Int)) (b:=((l.length:Nat):Int)) rfl rfl (zb ?_))))))))))
 cases A:decide (((k:Nat):Int)<((l.length:Nat):Int))
 have A:=fD A
 refine ze rfl (ya (zS (za (za (R0 fun _=>st (mV (.bool ld) (st (yB (a:=ld) rfl (zb ?_)))))))))
 cases B: !ld
 try simp only[zf]at B
 refine ze rfl (zl (za (R0 fun _=>st (mV vo (st (aS vo (zb (zk (zG sY (show _=(vo:Value)from rfl) ?_)))))))))
 have p:k=l.length:=by omega
 rw[p,List.take_length]at e
 rw[p,List.take_length]at hw
 rw[B,JX hasc]at e
 refine⟨vo,rfl,e⟩
 try simp only[zf]at B
 refine zg rfl (R0 fun _=>st (mV vo (st (mV (Iv n) (st (zI (k:=1) (parts':=[(0,Iv n)]) (c:=#[Iv n]) nT sT nR dc rfl kr ?_))))))
 intro w11 b10 aJ
 have E:=e.new aJ
 have Q:=E.b0
 refine st (yj (src:=own) (bytes:=8) (x1:=n) ((E.s2_b).emp1) VR rfl rfl Q (fun _ _ _=>(show _ from⟨rfl,hn⟩)) yqb rfl ?_)
 intro q w13 o
 have ag:=o.r0
 have hr19s:_*8≤_:=ag.2
 refine st (aS q (zb (za (R0 fun _=>st (mV q (st (aS q (zb (zk (zG sY (show _=(q:Value)from rfl) ?_))))))))))
 have p:k=l.length:=by omega
 rw[p,List.take_length]at o
 rw[p,List.take_length]at hw
 rw[w_end hw B hasc]at o
 refine⟨q,rfl,o⟩
 have A:=tD A
 refine zg rfl (zl (za (zn (za (za (zA kr (st (mV (.bool ld) (st (yB (a:=ld) rfl (st (mV (.bool (!ld)) (stc (V:=vl) rfl rfl (fun ah=>?_) ?_)))))))))))))
 have ai:=ah
 try simp only[zf]at ai
 exact mV vl ⟨rfl,rfl⟩
 refine stc (V:=Iw k) rfl rfl (fun aj=>?_) ?_
 have ak:=aj
 try simp only[zf]at ak
 exact mV (Iw k) ⟨rfl,rfl⟩
 refine stc (V:=Ix (sb vl) (so vl+k*1)) rfl rfl (fun s=>?_) ?_
 have al:=s
 try simp only[zf]at al
 have am:k<l.length:=bo
 exact zj (k:=1) (i:=k) nT sT (if_pos s) hl.sl (if_pos s) am ⟨rfl,rfl⟩
 refine stc (V:=Iv ((l.getD k 0))) rfl rfl (fun F=>?_) ?_
 have an:=F
 try simp only[zf]at an
 have H:k<l.length:=bo
 obtain⟨R,hxe29⟩:=hl.intD H
 have S:=e.cells R (hl.foot (ne_of_lt H))
 exact lD (Iv ((l.getD k 0))) kT (if_pos F) (S.get (j:=0) rfl) ⟨rfl,rfl⟩
 refine stc (V:=Iv n) rfl rfl (fun ao=>?_) ?_
 have ap:=ao
 try simp only[zf]at ap
 exact mV (Iv n) ⟨rfl,rfl⟩
 refine stc (V:=.bool (decide (n<(l.getD k 0)))) rfl rfl (fun t=>?_) ?_
 have aq:=t
 try simp only[zf]at aq
 exact yT (k:=.i64) (a:=(l.getD k 0)) (b:=n) (if_pos t) (if_pos t) ⟨rfl,rfl⟩
 refine st (zy (b:= !ld) (b':=decide (n<(l.getD k 0))) rfl (fun hbp=>(if_pos hbp)) (zb ?_))
 cases d:(!ld)&&(decide (n<(l.getD k 0)))
 try simp only[zf]at d
 refine ze rfl (zl (za (R0 fun _=>st (mV vl (st (mV (Iw k) ?_))))))
 have ar:k<l.length:=bo
 refine st (zj (k:=1) (i:=k) nT sT rfl hl.sl rfl ar ?_)
 have u:k<l.length:=bo
 obtain⟨C,T⟩:=hl.intD u
 have U:=e.cells C (hl.foot (ne_of_lt u))
 refine st (lD (Iv ((l.getD k 0))) kT rfl (U.get (j:=0) rfl) (st (mV (Iv n) (st (yn (k:=.i64) (a:=(l.getD k 0)) (b:=n) rfl rfl (zb ?_))))))
 cases f: !decide ((l.getD k 0)=n)
 have f:=zQ f
 refine ze rfl (zl (R0 fun _=>st (mV (Iw k) ?_)))
 have au:InR ((k+1:Nat):Int):=bo
 refine st (zP (r:=((k+1:Nat):Int)) (k:=.i64) (a:=((k:Nat):Int)) (b:=1) rfl rfl (by rw[show(((k:Nat):Int)+1:Int)=((k+1:Nat):Int)from bo];exact zF au) (st (aS (Iw (k+1)) (zb ?_))))
 have I:Zg (l.take (k+1)) n ld=(Zg (l.take k) n ld)∧Xn (l.take (k+1)) n ld:=by
  rw[xQ (by omega)]
  have m:Asc (l.take k++[l.getD k 0]):=by rw[←xQ (by omega)];exact YW hasc _
  first|(exfalso;omega)|exact Ku hw d.1 d.2|exact Kv hw m d f|exact VZ hw f
 rw[←I.1]at e
 exact⟨_,by omega,k+1,vo,ld,_,rfl,sSf,by omega,I.2,e⟩
 have f:=zz f
 refine zg rfl (R0 fun _=>st (mV vo (st (mV vl (st (mV (Iw k) ?_))))))
 have av:k<l.length:=bo
 refine st (zj (k:=1) (i:=k) nT sT rfl hl.sl rfl av ?_)
 have X:=e.cells C (hl.foot (ne_of_lt u))
 refine st (lD (Iv ((l.getD k 0))) kT rfl (X.get (j:=0) rfl) (st (zI (k:=1) (parts':=[(0,Iv ((l.getD k 0)))]) (c:=#[Iv ((l.getD k 0))]) nT sT nR dc rfl kr ?_)))
 intro w49 b48 aw
 have J:=e.new aw
 have Y:=J.b0
 refine st (yj (src:=own) (bytes:=8) (x1:=(l.getD k 0)) ((J.s2_b).emp1) VR rfl rfl Y (fun _ _ _=>(show _ from⟨rfl,T⟩)) yqb rfl ?_)
 intro ae w51 x
 have ax:=x.r0
 have hr57s:_*8≤_:=ax.2
 refine st (aS ae (zb (R0 fun _=>st (mV (Iw k) ?_))))
 have ay:InR ((k+1:Nat):Int):=bo
 refine st (zP (r:=((k+1:Nat):Int)) (k:=.i64) (a:=((k:Nat):Int)) (b:=1) rfl rfl (by rw[show(((k:Nat):Int)+1:Int)=((k+1:Nat):Int)from bo];exact zF ay) (st (aS (Iw (k+1)) (zb ?_))))
 have K:Zg (l.take (k+1)) n ld=(Zg (l.take k) n ld)++[(l.getD k 0)]∧Xn (l.take (k+1)) n ld:=by
  rw[xQ (by omega)]
  have m:Asc (l.take k++[l.getD k 0]):=by rw[←xQ (by omega)];exact YW hasc _
  first|(exfalso;omega)|exact Ku hw d.1 d.2|exact Kv hw m d f|exact VZ hw f
 rw[←K.1]at x
 exact⟨_,by omega,k+1,ae,ld,_,rfl,sSf,by omega,K.2,x⟩
 try simp only[zf]at d
 refine zg rfl (za (R0 fun _=>st (mV vo (st (mV (Iv n) (st (zI (k:=1) (parts':=[(0,Iv n)]) (c:=#[Iv n]) nT sT nR dc rfl kr ?_)))))))
 intro w62 b61 az
 have L:=e.new az
 have Z:=L.b0
 refine st (yj (src:=own) (bytes:=8) (x1:=n) ((L.s2_b).emp1) VR rfl rfl Z (fun _ _ _=>(show _ from⟨rfl,hn⟩)) yqb rfl ?_)
 intro M w64 h
 have aA:=h.r0
 have hr70s:_*8≤_:=aA.2
 refine st (aS M (zb (R0 fun _=>st (aS (.bool true) (zb (za (R0 fun _=>st (mV vl (st (mV (Iw k) ?_))))))))))
 have aB:k<l.length:=bo
 refine st (zj (k:=1) (i:=k) nT sT rfl hl.sl rfl aB ?_)
 have y:k<l.length:=bo
 obtain⟨D,aa⟩:=hl.intD y
 have ab:=h.cells D (hl.foot (ne_of_lt y))
 refine st (lD (Iv ((l.getD k 0))) kT rfl (ab.get (j:=0) rfl) (st (mV (Iv n) (st (yn (k:=.i64) (a:=(l.getD k 0)) (b:=n) rfl rfl (zb ?_))))))
 cases g: !decide ((l.getD k 0)=n)
 have g:=zQ g
 refine ze rfl (zl (R0 fun _=>st (mV (Iw k) ?_)))
 have aC:InR ((k+1:Nat):Int):=bo
 refine st (zP (r:=((k+1:Nat):Int)) (k:=.i64) (a:=((k:Nat):Int)) (b:=1) rfl rfl (by rw[show(((k:Nat):Int)+1:Int)=((k+1:Nat):Int)from bo];exact zF aC) (st (aS (Iw (k+1)) (zb ?_))))
 have N:Zg (l.take (k+1)) n true=(Zg (l.take k) n ld)++[n]∧Xn (l.take (k+1)) n true:=by
  rw[xQ (by omega)]
  have m:Asc (l.take k++[l.getD k 0]):=by rw[←xQ (by omega)];exact YW hasc _
  first|(exfalso;omega)|exact Ku hw d.1 d.2|exact Kv hw m d g|exact VZ hw g
 rw[←N.1]at h
 exact⟨_,by omega,k+1,M,true,_,rfl,sSf,by omega,N.2,h⟩
 have g:=zz g
 refine zg rfl (R0 fun _=>st (mV M (st (mV vl (st (mV (Iw k) ?_))))))
 have aD:k<l.length:=bo
 refine st (zj (k:=1) (i:=k) nT sT rfl hl.sl rfl aD ?_)
 have ac:=h.cells D (hl.foot (ne_of_lt y))
 refine st (lD (Iv ((l.getD k 0))) kT rfl (ac.get (j:=0) rfl) (st (zI (k:=1) (parts':=[(0,Iv ((l.getD k 0)))]) (c:=#[Iv ((l.getD k 0))]) nT sT nR dc rfl kr ?_)))
 intro w83 b82 aE
 have O:=h.new aE
 have ad:=O.b0
 refine st (yj (src:=own) (bytes:=8) (x1:=(l.getD k 0)) ((O.s2_b).emp1) VR rfl rfl ad (fun _ _ _=>(show _ from⟨rfl,aa⟩)) yqb rfl ?_)
 intro af w85 z
 have aF:=z.r0
 have hr91s:_*8≤_:=aF.2
 refine st (aS af (zb (R0 fun _=>st (mV (Iw k) ?_))))
 have aG:InR ((k+1:Nat):Int):=bo
 refine st (zP (r:=((k+1:Nat):Int)) (k:=.i64) (a:=((k:Nat):Int)) (b:=1) rfl rfl (by rw[show(((k:Nat):Int)+1:Int)=((k+1:Nat):Int)from bo];exact zF aG) (st (aS (Iw (k+1)) (zb ?_))))
 have P:Zg (l.take (k+1)) n true=(Zg (l.take k) n ld)++[n]++[(l.getD k 0)]∧Xn (l.take (k+1)) n true:=by
  rw[xQ (by omega)]
  have m:Asc (l.take k++[l.getD k 0]):=by rw[←xQ (by omega)];exact YW hasc _
  first|(exfalso;omega)|exact Ku hw d.1 d.2|exact Kv hw m d g|exact VZ hw g
 rw[←P.1]at z
 exact⟨_,by omega,k+1,af,true,_,rfl,sSf,by omega,P.2,z⟩
theorem zdL {sh:List CelS}{c:List Cel}{k:Nat}{v:Value}(hlen:sh.length=c.length)(hn: ∀i,i<k→(sh.getD i default).n=(c.getD i default).n)(hk:k<c.length): ∀i,i<k+1→((sh.set k ⟨(c.getD k default).n,v⟩).getD i default).n=(c.getD i default).n:=by
 intro i hi
 by_cases e:i=k
 ·subst e;rw[YP (by omega)]
 ·rw[XH (fun h=>e h.symm)];exact hn i (by omega)
theorem zeb {vc:Value}{c:List Cel}(hc:RdS W G vc c)(hS0:Sep G W Rs w):Ret Tryz.prog 110 [vc] w (fun r w'=> ∃(v:Value),r=(v:Value)∧Sep G W ((CelW v 140 3 c)::Rs) w'):=by
 have hcs:_*32≤_:=hc.small
 refine zi (args:=[vc]) Tryz.func110 rfl rfl ?_
 refine za (R0 fun _=>st (aS (Iz) (zb (za (R0 fun _=>st (mV vc (st (zJ (n:=c.length) wT rfl hc.sl (st (xW (α:=CelS) (T:=140) (bytes:=32) (n:=c.length) (x1:=(⟨0,Iz⟩:CelS)) wT ⟨_,_,rfl,rfl,rfl,rfl,rfl,fun _ _=>⟨rfl,⟨by decide,rfl⟩⟩⟩ rfl rfl rfl (by show c.length*32≤140737488355328;omega) ?_))))))))))
 intro w6 g aW he3 hl4 aX
 let aV:=Iy g c.length c.length
 have aL:Sep G W ((RowE (α:=CelS) own 140 aV (List.replicate c.length (⟨0,Iz⟩:CelS)))::Rs) w6:=hS0.made aW aX
 have aY:=aL.r0
 have hr8s:_*32≤_:=aY.2
 refine st (aS aV (zb (za (za (R0 fun _=>st (aS (Iv 0) (zb (zn ?_))))))))
 have aZ:Sep G W ((Star [])::(RowE (α:=CelS) own 140 aV (List.replicate c.length (⟨0,Iz⟩:CelS)))::Rs) w6:=aL.nilStar
 refine zZ (fun mq σ B=> ∃(k:Nat) (shk:List CelS) (ρ:Env),mq=c.length-k∧σ=yd ρ [(0,vc),(3,(Iy g c.length c.length)),(4,Iw k)]∧(k≤c.length)∧(shk.length=c.length)∧(∀i,i<k→(shk.getD i default).n=(c.getD i default).n)∧Sep G W ((RowE (α:=CelS) own 140 (Iy g c.length c.length) shk)::(Star (SetRows 3 (shk.take k) (c.take k)))::Rs) B) ⟨0,List.replicate c.length (⟨0,Iz⟩:CelS),_,rfl,sSf,Nat.zero_le _,by rw[List.length_replicate],(fun i h=>absurd h (Nat.not_lt_zero i)),(aZ.mv1)⟩ ?_
 rintro m12 σ13 ba ⟨k,shk,ρl1,rfl,rfl,hkk,hshl,hshn,q⟩
 let bb:=zN W (sb vc) (so vc+k*2+1)
 have ad:=q.r0
 have hr15s:_*32≤_:=ad.2
 refine za (za (R0 fun _=>st (mV (Iw k) (st (mV vc (st (zJ (n:=c.length) wT rfl hc.sl (st (zC (k:=.i64) (a:=((k:Nat):Int)) (b:=((c.length:Nat):Int)) rfl rfl (zb ?_))))))))))
 cases s:decide (((k:Nat):Int)<((c.length:Nat):Int))
 have s:=fD s
 refine ze rfl (ya (zS (za (R0 fun _=>st (mV aV (st (aS aV (zb (zk (zG Tryz.results110 (show _=(aV:Value)from rfl) ?_))))))))))
 have hkl:k=c.length:=by omega
 rw[hkl,List.take_of_length_le (Nat.le_of_eq hshl),List.take_length]at q
 have aN:Sep G W ((CelW (Iy g c.length c.length) 140 3 c)::Rs) ba:=CelW.mk q ⟨hshl,fun i hi=>hshn i om⟩
 refine⟨aV,rfl,aN⟩
 have s:=tD s
 refine zg rfl (zl (za (zn ?_)))
 refine WD4 ((fun TT aM=>WF [fun vals B=>Sep G W (aM::TT) B,fun vals B=> ∃(d:Value),(vals 12=(d:Value))∧Sep G W ((RowE (α:=Int) own 3 d ((c.getD k default).set))::aM::TT) B,fun vals B=> ∃(d:Value),(vals 12=(d:Value))∧Sep G W ((RowE (α:=CelS) own 140 aV (shk.set k (⟨(c.getD k default).n,d⟩:CelS)))::(RowE (α:=Int) own 3 d ((c.getD k default).set))::TT) B]) ((Star (SetRows 3 (shk.take k) (c.take k)))::Rs) (RowE (α:=CelS) own 140 aV shk)) (AF [Vl 0 (aV),Vl 1 (Iw k),Vl 2 (vc),Vl 3 (Iw k),Vl 4 (Ix (sb vc) (so vc+k*2)),Vl 5 (Ix (sb vc) (so vc+k*2)),Vl 6 (Iv ((c.getD k default).n)),Vl 7 (vc),Vl 8 (Iw k),Vl 9 (Ix (sb vc) (so vc+k*2)),Vl 10 (Ix (sb vc) (so vc+k*2+1)),Vl 11 (bb),fun _=>True,fun vals=> ∀(d:Value),vals 12=(d:Value)→vals 13=(.agg #[Iv ((c.getD k default).n),d]:Value),Vl 14 (Ix (sb aV) (so aV+k*2)),fun _=>True]) [[],[],[],[],[2,3],[2,3,4],[2,3,4,5],[],[],[7,8],[7,8,9],[7,8,9,10],[7,8,9,10,11],[2,3,4,5,6,7,8,9,10,11,12],(rg 14),(rg 15)] [12,15] [(0,1),(0,1),(0,1),(0,1),(0,1),(0,1),(0,1),(0,0),(0,0),(0,0),(0,0),(0,0),(0,0),(1,1),(1,1),(1,1)] q ⟨fun _ _ _ _ _ _ _=>obl rfl (mV aV dR),fun _ _ _ _ _ _ _=>obl rfl (mV (Iw k) dR),fun _ _ _ _ _ _ _=>obl rfl (mV vc dR),fun _ _ _ _ _ _ _=>obl rfl (mV (Iw k) dR),?_,fun _ _ _ _ _ _ am=>obl rfl (xm (am 4 dc) dR),?_,fun _ _ _ _ _ _ _=>obl rfl (mV vc dR),fun _ _ _ _ _ _ _=>obl rfl (mV (Iw k) dR),?_,fun _ _ _ _ _ _ an=>obl rfl (xc (an 9 dc) dR),?_,?_,?_,?_,?_,trivial⟩ ?_ (hlocA:=yX ⟨dA,dA,dA,dA,dA,dA,dA,dA,dA,dA,dA,dA,dT,fun vals t C h=>fun d I=>(C 13 (.inl rfl)).trans (h d ((C 12 (.inr dc)).symm.trans I)),dA,dT,trivial⟩)
 refine fun x _ _ aO aP J m=>?_
 have hkk:=xk aO aP
 rcases hkk with rfl|rfl
 have hS198:Sep _ _ _ _:=J
 refine obl rfl ?_
 have ao:k<c.length:=bo
 exact zj (k:=2) (i:=k) wT oR (m 2 dc) hc.sl (m 3 dc) ao dR
 obtain⟨d,e,hS202⟩:=J
 refine obl rfl ?_
 have ap:k<c.length:=bo
 exact zj (k:=2) (i:=k) wT oR (m 2 dc) hc.sl (m 3 dc) ap dR
 refine fun y _ _ aQ aR K L=>?_
 have hkk:=xk aQ aR
 rcases hkk with rfl|rfl
 have aq:Sep _ _ _ _:=K
 refine obl rfl ?_
 have M:k<c.length:=bo
 obtain⟨ae,D,hoke221⟩:=hc.celD M
 have hsm223:((c.getD k default).set).length*8≤140737488355328:=D.small
 have af:=aq.cells ae (hc.foot (ne_of_lt M))
 exact lD (Iv ((c.getD k default).n)) kT (L 5 dc) (af.get (j:=0) rfl) dR
 obtain⟨d,e,ar⟩:=K
 refine obl rfl ?_
 have N:k<c.length:=bo
 obtain⟨ag,E,hoke227⟩:=hc.celD N
 have hsm229:((c.getD k default).set).length*8≤140737488355328:=E.small
 have ah:=ar.cells ag (hc.foot (ne_of_lt N))
 exact lD (Iv ((c.getD k default).n)) kT (L 5 dc) (ah.get (j:=0) rfl) dR
 refine ob1 0 fun _ _ _ O=>(obl rfl ?_)
 have au:k<c.length:=bo
 exact zj (k:=2) (i:=k) wT oR (O 7 dc) hc.sl (O 8 dc) au dR
 refine ob1 0 fun _ _ (av:Sep _ _ _ _) aw=>(obl rfl ?_)
 have P:k<c.length:=bo
 obtain⟨ai,F,hoke268⟩:=hc.celD P
 have hsm270:((c.getD k default).set).length*8≤140737488355328:=F.small
 have aj:=av.cells ai (hc.foot (ne_of_lt P))
 exact lD bb Tryz.isAgg42 (aw 10 dc) (aj.get (j:=1) rfl) dR
 refine ob1 0 fun vals _ (Q:Sep _ _ _ _) ax=>(obl rfl ?_)
 have R:k<c.length:=bo
 obtain⟨ak,p,hoke120⟩:=hc.celD R
 have hsm122:((c.getD k default).set).length*8≤140737488355328:=p.small
 have hcw123:=Q.cells ak (hc.foot (ne_of_lt R))
 refine(zH (f:=90) (vals:=[bb]) (cap:=[]) rfl (yE ⟨(ax 11 dc),trivial⟩) Tryz.call90 (WO (l:=(c.getD k default).set) (vl:=bb) p Q) ?_)
 rintro d w125 ⟨_,rfl,S⟩
 have ay:=S.r0
 have hr127s:_*8≤_:=ay.2
 exact fun t C U=>⟨(exiA d (zx C S)),trivial⟩
 refine ob1 1 fun _ _ az aA=>?_
 obtain⟨d,e,aB⟩:=az
 refine obl rfl ?_
 have V:=aB.r0
 have hr281s:_*8≤_:=V.2
 refine zL (parts':=[(0,Iv ((c.getD k default).n)),(1,d)]) (v:=.agg #[Iv ((c.getD k default).n),d]) (Zi ⟨rfl,(aA 6 (by decide)),rfl,e,trivial⟩) (by obtain⟨_,_,aC,_⟩:=V.1;rw[show d=Value.slice _ _ _ from aC];simp[Instr.build,Instr.fill,Ev.cells,go_sem,Mv.cells,Fld.cells,Typ.cells,Prj.cells,Dcl.cells,Cel.cells,AskR.cells]) (fun t C U=>⟨rfl,?_⟩)
 intro v124q I
 rw[U 12 (by decide)]at I;cases e.symm.trans I
 exact C
 refine ob1 1 fun _ _ aD X=>?_
 obtain⟨d,e,hS288⟩:=aD
 refine obl rfl ?_
 have aE:k<shk.length:=bo
 exact zj (k:=2) (i:=k) wT oR (X 0 dc) ad.1 (X 1 dc) aE dR
 refine ob1 1 fun vals _ aF Y=>?_
 obtain⟨d,e,z⟩:=aF
 have aT:vals 13=(.agg #[Iv ((c.getD k default).n),d]:Value):=Y 13 dc d e
 refine obl rfl ?_
 have Z:k<c.length:=bo
 obtain⟨al,H,ac⟩:=hc.celD Z
 have hsm161:((c.getD k default).set).length*8≤140737488355328:=H.small
 have hcw162:=z.cells al (hc.foot (ne_of_lt Z))
 have A:=z.r0
 have hr163s:_*8≤_:=A.2
 have aG:=(z.mv1).emp1
 refine(yP (α:=CelS) (j:=k) (o:=0) (u:=.agg #[Iv ((c.getD k default).n),d]) (us:=[Iv ((c.getD k default).n),d]) (x1:=(⟨(c.getD k default).n,d⟩:CelS)) aG oR bo (Y 14 (by decide)) aT rfl (Nat.le_of_ble_eq_true rfl) (zX ⟨rfl,A.1.one,trivial⟩) (fun _ _ _ hel _=>(by rw[←zB default (by omega)]at hel;obtain⟨rfl,hok⟩:=hel;exact⟨rfl,⟨ac.n,A.1.one⟩⟩)) ?_)
 intro w158 aa
 have aH:=aa.r0
 have hr167s:_*32≤_:=aH.2
 exact fun t C U=>⟨(exiA d (zx ((U 12 dc).trans e) aa)),trivial⟩
 intro vals aU aI hA294
 obtain⟨d,e,aJ⟩:=aI
 refine zT (kv:=[(0,vc),(3,aV),(4,Iw k),(8,Iw k),(9,vc),(10,Iw c.length),(11,.bool true)]) sEv (fun ρw292=>(zb (R0 fun _=>st (mV (Iw k) ?_))))
 have aK:InR ((k+1:Nat):Int):=bo
 refine st (zP (r:=((k+1:Nat):Int)) (k:=.i64) (a:=((k:Nat):Int)) (b:=1) rfl rfl (by rw[show(((k:Nat):Int)+1:Int)=((k+1:Nat):Int)from bo];exact zF aK) (st (aS (Iw (k+1)) (zb ?_))))
 have ab:Sep G W ((Star (SetRows 3 (shk.take k) (c.take k)++[(RowE (α:=Int) own 3 d ((c.getD k default).set))]))::(RowE (α:=CelS) own 140 aV (shk.set k (⟨(c.getD k default).n,d⟩:CelS)))::Rs) aU:=(aJ.s3_bca).snocStar
 rw[←SetRows.step (Ti:=3) (⟨(c.getD k default).n,d⟩:CelS) hshl (by omega)]at ab
 exact⟨_,by omega,k+1,shk.set k (⟨(c.getD k default).n,d⟩:CelS),_,rfl,sSf,by omega,by rw[List.length_set];exact hshl,(zdL hshl hshn (by omega)),(ab.mv1)⟩
end
section
set_option maxRecDepth 8000
set_option maxHeartbeats 4000000
open Go.Proofs Go.RowKit
theorem Kr {t:Typ}:Right t (List.replicate t.fields.length ⟨0,[]⟩):=by
 have key: ∀i,i<(List.replicate t.fields.length (⟨0,[]⟩:Cel)).length→(List.replicate t.fields.length (⟨0,[]⟩:Cel)).getD i default=⟨0,[]⟩:=by
  intro i hi
  rw[zB _ hi,List.getElem_replicate]
 refine⟨by simp,fun i hi _=>?_,fun i hi _=>?_,fun i hi _=>?_,fun i hi=>?_,fun i hi=>?_⟩<;>rw[key i hi]
 ·exact Int.le_refl _
 ·simp
 ·exact List.Pairwise.nil
theorem zbe {l:List Int}{k:Nat}{n:Int}(hk:k<l.length)(h:l.getD k 0=n):n∈l:=by rw[zB _ hk]at h;rw[←h];exact List.getElem_mem hk
theorem Uz {l:List Int}{n:Int}(h: ∀i,i<l.length→ ¬l.getD i 0=n): ¬n∈l:=by
 intro hm
 obtain⟨i,hi,e⟩:=List.getElem_of_mem hm
 exact h i hi (by rw[zB _ hi];exact e)
theorem zdm {t:Typ}{dt0:Value}(hdt0:RdS W G dt0 t.fields)(ot:t.Ok)(hS0:Sep G W Rs w):Ret Tryz.prog 37 [.agg (t.cells dt0).toArray] w (fun r w'=> ∃(v:Value),r=(v:Value)∧Sep G W ((RowE (α:=Cel) own 140 v (List.replicate t.fields.length (⟨0,[]⟩:Cel)))::Rs) w'):=by
 have hdt0s:_*48≤_:=hdt0.small
 refine zi Tryz.func37 rfl rfl ?_
 refine za (R0 fun _=>st (zM rfl ?_))
 intro w3 b2 e
 have c:=hS0.new e
 refine st (aS (Iz) (zb (za (R0 fun _=>st (yS rfl (st (lD dt0 tT rfl (zd (c.b0) rfl) (st (zJ (n:=t.fields.length) lT rfl hdt0.sl (st (xW (α:=Cel) (T:=140) (bytes:=32) (n:=t.fields.length) (x1:=(⟨0,[]⟩:Cel)) wT ⟨_,_,rfl,rfl,rfl,rfl,rfl,fun _ _=>⟨_,rfl,RdS.nil _ _,⟨by decide⟩⟩⟩ rfl rfl rfl (by show t.fields.length*32≤140737488355328;omega) ?_)))))))))))
 intro f b g he7 hl8 h
 let i:=Iy b t.fields.length t.fields.length
 have a:Sep G W ((RowE (α:=Cel) own 140 i (List.replicate t.fields.length (⟨0,[]⟩:Cel)))::(Blk b2 (t.cells dt0).toArray 74)::Rs) f:=c.made g h
 have d:=a.r0
 refine st (aS i (zb (zk (zG Tryz.results37 rfl ?_))))
 refine⟨i,rfl,(a.s2_a)⟩
instance (t:Typ) (c:List Cel) (f op arg:Int):Decidable (Yw t c f op arg):=by unfold Yw Asc;infer_instance
end
section
open Go.ChangeShapes Go.WideShapes Go.ChangeAt Go.RowKit
theorem zdc {P:Program}{W:World}{name:String}{zs:List Int}{g:Nat}(hg:P.globalNamed name=some g)(h:Lib.TabIs P W name .i64 zs)(hz: ∀z∈zs,InR z)(hs:zs.length*8≤140737488355328):
 RdS W (xA W) (.slice (some ⟨g,0,none⟩) zs.length zs.length) zs:=by
 have hc: ∀i,W.cell? ⟨g,i,none⟩=(zs.map fun z=>Value.int .i64 z)[i]? :=fun i=>by
  rw[World.var?_cell hg h i];simp
 refine⟨⟨_,_,rfl,Nat.le_refl _,fun _=>⟨_,_,rfl⟩⟩,fun hne=>?_,hs,fun i hi=>?_⟩
 ·have h0:0<zs.length:=List.length_pos_iff.2 hne
  have h1:=hc 0
  rw[List.getElem?_eq_getElem (by simpa using h0)]at h1
  exact ZQ h1
 ·refine⟨[.int .i64 zs[i]],fun j hj=>?_,⟨rfl,hz _ (List.getElem_mem hi)⟩⟩
  obtain rfl:j=0:=by simp at hj;omega
  have h1:=hc i
  rw[List.getElem?_eq_getElem (by simpa using hi)]at h1
  have e:(so (.slice (some ⟨g,0,none⟩) zs.length zs.length)+i*Rep.k Int+0)=i:=by
   show 0+i*1+0=i
   omega
  show W.cell? ⟨g,so (.slice (some ⟨g,0,none⟩) zs.length zs.length)+i*Rep.k Int+0,none⟩=_
  rw[e,h1]
  simp
theorem Va {P:Program}{d:Option Tmp}{ty:TypeId}{pos:String}{af:Array Edge}{g:Option (Nat×Bool)}{σ:Env}{w:World}{K:Value→World→Prop}{t e:TypeId}{k n b o off:Nat}{i:Int}{x y:Operand}{ki:IntKind}(hU:P.underlying t=some (.array n e))(hS: ∀w,(sizeOf e).run P w=.ok k w)(hx:ev σ x=.pointer (some ⟨b,o,none⟩))(hy:ev σ y=.int ki i)
 (hi:0≤i∧i<n) (ho:i.toNat*k=off) (h:K (.pointer (some ⟨b,o+off,none⟩)) w):opV P ⟨d,.indexAddr t x y,ty,pos,af,g⟩ σ w K:=by
 obtain⟨m,rfl⟩:=Int.eq_ofNat_of_zero_le hi.1
 exact WV (i:=m) hU hS hx hy (by omega) (by simpa using ho) h
theorem XO {H:Type}{enc:TypeId×Value→H}{C:Checked}{os:Os}{f:FuncId}{fn:Func}{s:ChangeSpec}{tb:TypeId}{laid:List (String×DataW Unit)}
 (own:ownKnob C.prog.godebug=none) (started:os.Started) (noInit:C.prog.inits.idxOf? f=none) (hfn:C.prog.funcs[f]? =some fn)
 (hl:laidOutB C.prog=true) (hrt:fn.resultTypes=#[tb]) (htb:C.prog.underlying tb=some .bool) (hsv:s.vars=[])
 (hsf: ∀ds:List (DataW H),ds.length=fn.params.size→s.fn H ds={results:=[.lit (.bool true)],args:=ds})
 (hps: ∀t∈fn.params.toList,C.prog.readableRec t=true∧t<C.prog.types.size)
 (witness: ∃(w:World) (tape:Tape) (i:Input),w.os=os∧(w.forCall tape i).Shaped C.prog∧i.vars=[]∧Input.okWide C.prog (w.forCall tape i) .any w.heap.size f i∧
  ((s.pre enc C.prog fn [] false (w.forCall tape i).memory i.args∧laidMetH C.prog laid (w.forCall tape i).memory)∧sizedMet enc C.prog fn (OpenSpec.ofChange s) false (w.forCall tape i).memory i.args)∧({}:Assume).holds C.prog (lone (Frame.enter C.prog f i.args .normal) [] (w.forCall tape i)))
 (contract: ∀(W:World) (base:Nat) (args:Array Value) (ds:List (DataW H)) (ps:List MemPlace),
  (∀(j:Nat) t v,fn.params[j]? =some t→args[j]? =some v→Value.okWide C.prog W .any base t v)→
  DataW.TrodAll enc C.prog W 0 (fun _=>true) true fn.params.toList args.toList ds ps→
  (∀(j:Nat) t d,fn.params.toList[j]? =some t→ds[j]? =some d→Ye C.prog t d)→laidMetH C.prog laid W→
  Ret C.prog f args.toList W (fun r w'=>r=.bool true∧Ext W w')):
 ReturnsInHanded {} C os f .any (fun w args=>(s.pre enc C.prog fn [] false w args∧laidMetH C.prog laid w)∧sizedMet enc C.prog fn (OpenSpec.ofChange s) false w args) (s.post enc C.prog fn false true false false):=by
 refine returnsInHanded_of_change_and (C:=C) (X:=fun w _=>laidMetH C.prog laid w) (fun _ _ _ hh h=>h.of_heap hh) own started noInit hfn witness ?_
 intro W base args ds gs before hval hW _ hsz hL _
 have hW':=hW
 obtain⟨p,q,hA,hV,rfl,hfz,hnd⟩:=hW
 have hlt:=hW'.lt
 rw[hsv]at hV
 obtain⟨rfl,rfl⟩:=trodVars_none hV
 simp only[List.append_nil]at hW' hlt
 have hlen:ds.length=fn.params.size:=by
  have: ∀{ts:List TypeId} {vs:List Value} {ds:List (DataW H)} {ps:List MemPlace},DataW.TrodAll enc C.prog W 0 (fun _=>true) true ts vs ds ps→ds.length=ts.length:=by
   intro ts
   induction ts with
   |nil=>intro vs ds ps h;obtain⟨_,rfl,_⟩:=trodAll_nil h;rfl
   |cons t ts ih=>intro vs ds ps h;obtain⟨_,_,_,ds1,_,_,_,rfl,_,_,h2⟩:=trodAll_cons h;simp[ih h2]
  simpa using this hA
 have hc:=contract W base args ds p hval hA (fun j t d ht hd n hn=>by
  have:=List.all_eq_true.1 hsz n (by
   rw[List.append_nil]
   refine DataW.weights_mem_each (j:=j) (t:=t) ?_ hd n hn
   rw[List.getElem?_append_left (by exact(List.getElem?_eq_some_iff.1 ht).1)]
   exact ht)
  simpa using this) hL
 have hc':Calls C.prog f args W fun e w'=> ∃v,e=.returned v∧v=.bool true∧Ext W w':=by
  have:args.toList.toArray=args:=by simp
  rw[←this];exact hc
 refine hc'.mono fun e W' ⟨v,he,hv,hx⟩=>⟨v,he,?_⟩
 subst hv
 have hb:=hx.below
 refine⟨ds,[],p,[],p,[],hW',?_,?_,?_,hb.frame _,fun h=>by cases h⟩
 ·rw[List.append_nil,hsf ds hlen,hrt]
  exact trodAll_mk1 (shut_bool htb _)
 ·rw[List.append_nil,hsf ds hlen]
  exact YI hl hb hps hA (fun x hx=>hlt x hx)
 ·rw[List.append_nil,hsf ds hlen,hsv]
  rfl
end
end Go.Proofs.YtbcdijeggfoabaaGreatDoor
