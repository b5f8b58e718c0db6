import Derived.Test.YtpdolkiohjdodaaGreatDoorL9
set_option maxRecDepth 8000
set_option maxHeartbeats 4000000
set_option linter.unusedSimpArgs false
set_option linter.unusedVariables false
set_option linter.unusedSectionVars false
set_option linter.deprecated false
open Go.Proofs.Tryz renaming sizeOf55→kT,underlying26→lT,isAgg55→mT,underlying67→nT,sizeOf87→oT,sizeOf70→pT,sizeOf83→qT,call13→rT,underlying22→sT,sizeOf25→tT,isAgg81→uT,zeroValue55→vT,underlying81→wT,underlying23→kR,sizeOf73→lR,isAgg22→mR,isAgg23→nR,isAgg3→oR,call8→pR,underlying53→qR,sizeOf3→rR,results30→sR,zeroValue25→tR,zeroValue87→uR,zeroValue83→vR,isAgg25→wR,underlying85→kY,isAgg87→lY,sizeOf90→mY,isAgg70→nY,zeroValue73→oY,call31→pY,zeroValue70→qY,isAgg85→rY
namespace Go.Proofs.YtpdolkiohjdodaaGreatDoor
variable {G:Nat→Prop}{W w:World}{Rs:List HP}
section
open Go.Proofs Go.RowKit
theorem zba {vl:Value}{l:List Ev}(hl:RdS W G vl l){t:Trn}(ot:t.Ok)(hS0:Sep G W Rs w)(hl9:l.length≤1000):Ret Tryz.prog 11 [vl,.agg (t.cells).toArray] w (fun r w'=> ∃(v:Value) (x:List Ev),r=(v:Value)∧(x.length≤l.length)∧(∀y∈x,y∈l)∧Sep G W ((RowE (α:=Ev) (shr G W) 55 v x)::Rs) w'):=by
 have hls:_*96≤_:=hl.small
 refine zk (args:=[vl,.agg (t.cells).toArray]) Tryz.func11 rfl rfl ?_
 refine za (R0 fun _=>st (zW (v:=.agg (t.cells).toArray) rfl ?_))
 intro w3 b2 aX
 have ap:=hS0.new aX
 refine st (aS Iz (zb (za (R0 fun _=>st (aS Iz (zb (za (R0 fun _=>st (zdR rfl ?_)))))))))
 refine st (lD (Iv (t.first)) oR rfl (zd (ap.b0) rfl) (st (mV vl (st (zF (n:=l.length) lT rfl hl.sl ?_)))))
 have aY:InR ((l.length+1:Nat):Int):=bo
 refine st (zR (r:=((l.length+1:Nat):Int)) (k:=.i64) (a:=((l.length:Nat):Int)) (b:=1) rfl rfl (by rw[show(((l.length:Nat):Int)+1:Int)=((l.length+1:Nat):Int)from bo];exact zz aY) ?_)
 refine st (cL pR (Un (x:=t.first) (n:=l.length+1) ot.first yqf ap) ?_)
 rintro _ w8 ⟨q6,rfl,hq7,aq⟩
 refine st (aS (Iw q6) (zb (za (R0 fun _=>st (zdE rfl (st (lD (Iv (t.most)) oR rfl (zd (aq.b0) rfl) (st (mV vl (st (zF (n:=l.length) lT rfl hl.sl ?_)))))))))))
 have ar:InR ((l.length+1:Nat):Int):=bo
 refine st (zR (r:=((l.length+1:Nat):Int)) (k:=.i64) (a:=((l.length:Nat):Int)) (b:=1) rfl rfl (by rw[show(((l.length:Nat):Int)+1:Int)=((l.length+1:Nat):Int)from bo];exact zz ar) ?_)
 refine st (cL pR (Un (x:=t.most) (n:=l.length+1) ot.most yqf aq) ?_)
 rintro _ w13 ⟨z,rfl,hq12,P⟩
 refine st (aS (Iw z) (zb (za (R0 fun _=>st (zdp rfl (st (lD (Iv (t.skip)) oR rfl (zd (P.b0) rfl) ?_)))))))
 refine st (cL pR (Un (x:=t.skip) (n:=9) ot.skip yqf P) ?_)
 rintro _ w17 ⟨f,rfl,hq16,au⟩
 have av:InR ((1+f:Nat):Int):=bo
 refine st (zR (r:=((1+f:Nat):Int)) (k:=.i64) (a:=1) (b:=((f:Nat):Int)) rfl rfl (by rw[show(1+((f:Nat):Int):Int)=((1+f:Nat):Int)from bo];exact zz av) (st (aS (Iw (1+f)) (zb (za (za (zK (by kernel_rfl) (fun _=>(st (mV (Iw q6) (st (aS (Iw q6) (zb (zu ?_))))))))))))))
 have aw:Sep _ _ ((RowE (α:=Ev) (shr G W) 55 Iz ([]:List Ev))::_) _:=au.rowNil (shr G W) 55
 refine yd (fun mq σ wq=> ∃(k:Nat) (vo:Value) (g:List Ev) (ρ:Env),mq=l.length-k∧σ=yg ρ [(0,vl),(3,Ix b2 0),(4,(Iz)),(7,Iw z),(8,Iw (1+f)),(5,vo),(9,Iw k)]∧(k≤l.length∧g.length≤k)∧(∀x∈g,x∈l)∧Sep G W ((RowE (α:=Ev) (shr G W) 55 vo g)::(Blk b2 (t.cells).toArray 38)::Rs) wq) ⟨q6,(Iz),[],_,rfl,sSf,⟨by omega,yc _⟩,(fun x h=>absurd h List.not_mem_nil),aw⟩ ?_
 rintro m22 σ23 w21 ⟨k,vo,g,ρl1,rfl,rfl,hkk,H,A⟩
 have Q:=A.r0
 have hr25s:_*96≤_:=Q.2
 refine za (za (zG kr (st (mV (Iw k) (st (mV vl (st (zF (n:=l.length) lT rfl hl.sl (st (zL (k:=.i64) (a:=((k:Nat):Int)) (b:=((l.length:Nat):Int)) rfl rfl (st (mV (.bool (decide (((k:Nat):Int)<((l.length:Nat):Int)))) (stc (V:=vo) rfl rfl (fun ay=>?_) ?_)))))))))))))
 have hl27:=tD ay
 exact mV vo rflB
 refine stc (V:=Iw g.length) rfl rfl (fun R=>?_) ?_
 have hl29:=tD R
 exact zF (n:=g.length) lT (ifpC R) Q.1 rflB
 refine stc (V:=Iw z) rfl rfl (fun az=>?_) ?_
 have hl31:=tD az
 exact mV (Iw z) rflB
 refine stc (V:=.bool (decide (((g.length:Nat):Int)<((z:Nat):Int)))) rfl rfl (fun I=>?_) ?_
 have hl33:=tD I
 exact zL (k:=.i64) (a:=((g.length:Nat):Int)) (b:=((z:Nat):Int)) (ifpC I) (ifpC I) rflB
 refine st (zv (b:=decide (((k:Nat):Int)<((l.length:Nat):Int))) (b':=decide (((g.length:Nat):Int)<((z:Nat):Int))) rfl (fun hbp=>(ifpC hbp)) (zb ?_))
 cases J:(decide (((k:Nat):Int)<((l.length:Nat):Int)))&&(decide (((g.length:Nat):Int)<((z:Nat):Int)))
 have hc34r:=J
 try simp only[zh]at J
 refine ze rfl (ye (zT (za (za (R0 fun _=>st (aS (Iv 0) (zb (zu (yd (fun mq σ wq=> ∃(e:Nat) (d:List Ev) (ρ:Env),mq=d.length-e∧σ=yg ρ [(0,vl),(3,Ix b2 0),(4,(Iz)),(5,vo),(10,Iw e)]∧(d.length≤l.length)∧(∀x∈d,x∈l)∧Sep G W ((RowE (α:=Ev) (shr G W) 55 vo d)::(Blk b2 (t.cells).toArray 38)::Rs) wq) ⟨0,g,_,rfl,sSf,by omega,H,A⟩ ?_)))))))))
 rintro m36 σ37 w35 ⟨e,d,ρl2,rfl,rfl,aA,E,B⟩
 have q:=B.r0
 have hr39s:_*96≤_:=q.2
 refine za (za (zG kr (st (zdk rfl (st (lD (.bool (t.back)) Tryz.isAgg4 rfl (zd (B.b1) rfl) (st (mV (.bool (t.back)) (stc (V:=Iw e) rfl rfl (fun hb40=>?_) ?_)))))))))
 exact mV (Iw e) rflB
 refine stc (V:=vo) rfl rfl (fun hb42=>?_) ?_
 exact mV vo rflB
 refine stc (V:=Iw d.length) rfl rfl (fun aB=>?_) ?_
 exact zF (n:=d.length) lT (ifpC aB) q.1 rflB
 refine stc (V:=Iw (d.length/2)) rfl rfl (fun aC=>?_) ?_
 exact Ke (r:=((d.length/2:Nat):Int)) (ifpC aC) rfl (by omega) (by rw[show Int.tdiv (((d.length:Nat):Int)) (2)=((d.length/2:Nat):Int)from(Int.ofNat_tdiv _ _).symm];exact zz (by omega)) rflB
 refine stc (V:=.bool (decide (((e:Nat):Int)<((d.length/2:Nat):Int)))) rfl rfl (fun S=>?_) ?_
 exact zL (k:=.i64) (a:=((e:Nat):Int)) (b:=((d.length/2:Nat):Int)) (ifpC S) (ifpC S) rflB
 refine st (zv (b:=t.back) (b':=decide (((e:Nat):Int)<((d.length/2:Nat):Int))) rfl (fun hbp=>(ifpC hbp)) (zb ?_))
 cases K:t.back&&(decide (((e:Nat):Int)<((d.length/2:Nat):Int)))
 have hc50r:=K
 try simp only[zh]at K
 refine ze rfl (ye (zT (za (R0 fun _=>st (mV vo (st (aS vo (zb (zp (zU Tryz.results11 (show _=(vo:Value)from rfl) ?_))))))))))
 refine⟨vo,d,rfl,?_,?_,(B.s2_a)⟩
 exact aA
 exact E
 try simp only[zh]at K
 refine zf rfl (zr (za (zu (za (R0 fun _=>st (mV vo (st (zF (n:=d.length) lT rfl q.1 ?_))))))))
 have aD:InR ((d.length-1:Nat):Int):=bo
 refine st (ZN (r:=((d.length-1:Nat):Int)) (k:=.i64) (a:=((d.length:Nat):Int)) (b:=1) rfl rfl (by rw[show(((d.length:Nat):Int)-1:Int)=((d.length-1:Nat):Int)from bo];exact zz aD) (st (mV (Iw e) ?_)))
 have aE:InR (((d.length-1)-e:Nat):Int):=bo
 refine st (ZN (r:=(((d.length-1)-e:Nat):Int)) (k:=.i64) (a:=((d.length-1:Nat):Int)) (b:=((e:Nat):Int)) rfl rfl (by rw[show(((d.length-1:Nat):Int)-((e:Nat):Int):Int)=(((d.length-1)-e:Nat):Int)from bo];exact zz aE) (st (aS (Iw ((d.length-1)-e)) (zb (za (zK (by kernel_rfl) (fun _=>(st (mV vo (st (mV (Iw e) ?_)))))))))))
 have aF:e<d.length:=bo
 refine st (zg (k:=10) (i:=e) lT kT rfl q.1 rfl aF ?_)
 have aG:e<d.length:=bo
 obtain⟨_,_,aj,m,rfl,s,T⟩:=B.rowAtD (i:=0) (j:=e) rfl aG
 refine st (zi (k:=10) mT kT rfl rfl aj (st (zB vT ?_)))
 intro w59 b58 aH
 have U:=B.new aH
 refine stn (zw (v:=.agg ((d.getD e default).cells m).toArray) (c':=((d.getD e default).cells m).toArray) kT rfl rfl (U.b0) (yo ⟨rfl,rfl,rfl,s.sl.one,rfl,rfl,rfl,rfl,rfl,rfl,zl⟩) yqc rfl ?_)
 intro w61 aI
 have X:=U.pt0 aI
 refine zb (za (R0 fun _=>st (mV vo (st (mV (Iw e) (st (mV vo (st (mV (Iw ((d.length-1)-e)) ?_)))))))))
 have aJ:(d.length-1)-e<d.length:=bo
 refine st (zg (k:=10) (i:=(d.length-1)-e) lT kT rfl q.1 rfl aJ ?_)
 have aK:(d.length-1)-e<d.length:=bo
 obtain⟨_,_,ak,p,rfl,C,Y⟩:=X.rowAtD (i:=1) (j:=(d.length-1)-e) rfl aK
 refine st (zi (k:=10) mT kT rfl rfl ak ?_)
 have aL:e<d.length:=bo
 refine st (zg (k:=10) (i:=e) lT kT rfl q.1 rfl aL ?_)
 refine stn (yI (α:=Ev) (j:=e) (o:=0) (u:=.agg ((d.getD ((d.length-1)-e) default).cells p).toArray) (us:=(d.getD ((d.length-1)-e) default).cells p) (x1:=(d.getD ((d.length-1)-e) default)) ((X.mv1).emp1) kT bo rfl rfl rfl (yQ rfl) (yo ⟨rfl,rfl,rfl,C.sl.one,rfl,rfl,rfl,rfl,rfl,rfl,zl⟩) (fun _ _ F hel _=>(by have Z:=Src.len _ hel;have e0:F.take 0++((d.getD ((d.length-1)-e) default).cells p)++F.drop (0+((d.getD ((d.length-1)-e) default).cells p).length)=((d.getD ((d.length-1)-e) default).cells p):=(by rw[List.drop_eq_nil_of_le (by rw[Z];exact yQ rfl)];simp);rw[e0];exact(show _ from⟨_,rfl,C,Y⟩))) ?_)
 intro w68 L
 have aa:=L.r0
 have hr72s:_*96≤_:=aa.2
 refine zb (R0 fun _=>st (mV vo (st (mV (Iw ((d.length-1)-e)) (st (zi (k:=10) mT kT rfl rfl (zo (L.b1)) ?_))))))
 have aN:(d.length-1)-e<(d.set e (d.getD ((d.length-1)-e) default)).length:=bo
 refine st (zg (k:=10) (i:=(d.length-1)-e) lT kT rfl aa.1 rfl aN ?_)
 refine stn (yI (α:=Ev) (j:=(d.length-1)-e) (o:=0) (u:=.agg ((d.getD e default).cells m).toArray) (us:=(d.getD e default).cells m) (x1:=(d.getD e default)) (L.emp1) kT bo rfl rfl rfl (yQ rfl) (yo ⟨rfl,rfl,rfl,s.sl.one,rfl,rfl,rfl,rfl,rfl,rfl,zl⟩) (fun _ _ F hel _=>(by have Z:=Src.len _ hel;have e0:F.take 0++((d.getD e default).cells m)++F.drop (0+((d.getD e default).cells m).length)=((d.getD e default).cells m):=(by rw[List.drop_eq_nil_of_le (by rw[Z];exact yQ rfl)];simp);rw[e0];exact(show _ from⟨_,rfl,s,T⟩))) ?_)
 intro w74 ab
 have aO:=ab.r0
 have hr77s:_*96≤_:=aO.2
 refine zb (R0 fun _=>st (mV (Iw e) ?_))
 have aP:InR ((e+1:Nat):Int):=bo
 refine st (zR (r:=((e+1:Nat):Int)) (k:=.i64) (a:=((e:Nat):Int)) (b:=1) rfl rfl (by rw[show(((e:Nat):Int)+1:Int)=((e+1:Nat):Int)from bo];exact zz aP) (st (aS (Iw (e+1)) (zb ?_))))
 exact⟨_,by simp only[List.length_set];omega,e+1,((d.set e (d.getD ((d.length-1)-e) default)).set ((d.length-1)-e) (d.getD e default)),_,rfl,sSf,by simp only[List.length_set];omega,(KD (KD E (E _ (Ux (by omega)))) (E _ (Ux (by omega)))),(ab.s3_ac)⟩
 try simp only[zh]at J
 refine zf rfl (zr (za (zu (za (zG kr (st (mV (Iw (1+f)) (st (zL (k:=.i64) (a:=((1+f:Nat):Int)) (b:=3) rfl rfl (st (mV (.bool (decide (((1+f:Nat):Int)<3))) (stc (V:=Iw k) rfl rfl (fun aQ=>?_) ?_))))))))))))
 have hl81:=fD aQ
 exact mV (Iw k) rflB
 refine stc (V:=Iw (1+f)) rfl rfl (fun aR=>?_) ?_
 have hl83:=fD aR
 exact mV (Iw (1+f)) rflB
 refine stc (V:=Iw (k%(1+f))) rfl rfl (fun M=>?_) ?_
 have hl85:=fD M
 have aT:(0:Int)<((1+f:Nat):Int):=by omega
 have h086m:k%(1+f)<(1+f):=Nat.mod_lt _ om
 exact zaJ (r:=((k%(1+f):Nat):Int)) (ifpC M) (ifpC M) aT (Int.ofNat_tmod _ _).symm rflB
 refine stc (V:=.bool (!decide (((k%(1+f):Nat):Int)=1))) rfl rfl (fun ac=>?_) ?_
 have hl88:=fD ac
 exact yx (k:=.i64) (a:=((k%(1+f):Nat):Int)) (b:=1) (ifpC ac) rfl rflB
 refine st (zC (b:=decide (((1+f:Nat):Int)<3)) (b':= !decide (((k%(1+f):Nat):Int)=1)) rfl (fun hbp=>(ifpC hbp)) (zb ?_))
 cases N:(decide (((1+f:Nat):Int)<3))||(!decide (((k%(1+f):Nat):Int)=1))
 have hc89r:=N
 try simp only[zh]at N
 refine ze rfl (zr (R0 fun _=>st (mV (Iw k) ?_)))
 have aU:InR ((k+1:Nat):Int):=bo
 refine st (zR (r:=((k+1:Nat):Int)) (k:=.i64) (a:=((k:Nat):Int)) (b:=1) rfl rfl (by rw[show(((k:Nat):Int)+1:Int)=((k+1:Nat):Int)from bo];exact zz aU) (st (aS (Iw (k+1)) (zb ?_))))
 exact⟨_,by omega,k+1,vo,g,_,rfl,sSf,⟨by omega,by omega⟩,H,A⟩
 try simp only[zh]at N
 refine zf rfl (R0 fun _=>st (mV vo (st (mV vl (st (mV (Iw k) ?_))))))
 have aV:k<l.length:=bo
 refine st (zg (k:=10) (i:=k) lT kT rfl hl.sl rfl aV ?_)
 have ad:k<l.length:=bo
 obtain⟨al,D,ae⟩:=hl.evD ad
 have hsm94:((l.getD k default).deps).length*8≤140737488355328:=D.small
 have am:=A.cells al (hl.foot (ne_of_lt ad))
 refine st (zi (k:=10) mT kT rfl rfl am (st (zD (k:=10) (parts':=[(0,.agg ((l.getD k default).cells (zP W (sb vl) (so vl+k*10+3))).toArray)]) (c:=((l.getD k default).cells (zP W (sb vl) (so vl+k*10+3))).toArray) lT kT vT dc rfl kr ?_)))
 intro w98 b97 aW
 have af:=A.new aW
 have ag:=af.b0
 refine st (yq (src:=(shr G W)) (bytes:=96) (x1:=(l.getD k default)) ((af.s3_bc).emp1) QI rfl rfl ag (fun _ _ _=>(show _ from⟨_,rfl,D,ae⟩)) yqb rfl ?_)
 intro ah w100 O
 have an:=O.r0
 have hr106s:_*96≤_:=an.2
 refine st (aS ah (zb (R0 fun _=>st (mV (Iw k) ?_))))
 have ao:InR ((k+1:Nat):Int):=bo
 refine st (zR (r:=((k+1:Nat):Int)) (k:=.i64) (a:=((k:Nat):Int)) (b:=1) rfl rfl (by rw[show(((k:Nat):Int)+1:Int)=((k+1:Nat):Int)from bo];exact zz ao) (st (aS (Iw (k+1)) (zb ?_))))
 exact⟨_,by omega,k+1,ah,(g++[(l.getD k default)]),_,rfl,sSf,⟨by omega,by rw[List.length_append,List.length_singleton];omega⟩,(JR H (Ux (by omega))),O⟩
theorem zde {P:Program}{d:Option Tmp}{ty:TypeId}{pos:String}{af:Array Edge}{g:Option (Nat×Bool)}{σ:Env}{w:World}{K:Value→World→Prop}{x y:Operand}{t t2:TypeId}{k yk:IntKind}{a b r:Int}(hx:ev σ x=.int k a)(hy:ev σ y=.int yk b)(h0:0≤b)(h1:b≤k.bits)(hr:k.wrap (a*2^b.toNat)=r)(h:K (.int k r) w):opV P ⟨d,.binOp .shl t x y t2,ty,pos,af,g⟩ σ w K:=
 yp (v:=.int k r) (w':=w) (by subst hr;simp[execOp,hx,hy,eqGuard,binOp,shift_shl k yk a b h0 h1,go_sem]) h
def dC:Dcl:=⟨[⟨[⟨1,1,false,[]⟩]⟩],[⟨0,0,1,0,2⟩]⟩
def fiv:List Ev:=[⟨0,1,1,[0],0,0,0,1,1,0⟩,⟨0,2,2,[1],0,0,0,1,2,0⟩,⟨0,3,3,[2],0,0,0,1,4,0⟩,⟨0,4,4,[3],0,0,0,1,8,0⟩,⟨0,5,5,[4],0,0,0,1,16,0⟩]
theorem Xs {P:Nat→Prop}(h0:P 0)(h1:P 1)(h2:P 2)(h3:P 3)(h4:P 4){k:Nat}(h:k<5):P k:=by
 match k,h with
 |0,_=>exact h0
 |1,_=>exact h1
 |2,_=>exact h2
 |3,_=>exact h3
 |4,_=>exact h4
theorem zcO {k:Nat}(h:k<5):InR ((2^k:Nat):Int):=Xs (P:=fun k=>InR ((2^k:Nat):Int)) (by decide) (by decide) (by decide) (by decide) (by decide) h
theorem zcU {k:Nat}(h:k<5):IntKind.i64.wrap (1*2^((k:Nat):Int).toNat)=((2^k:Nat):Int):=Xs (P:=fun k=>IntKind.i64.wrap (1*2^((k:Nat):Int).toNat)=((2^k:Nat):Int)) rfl rfl rfl rfl rfl h
theorem VI {k:Nat}(h:k<5)(d:Value):(fiv.getD k default).cells d=[.int .i64 0,.int .i64 ((k+1:Nat):Int),.int .i64 ((k+1:Nat):Int),d,.int .i64 0,.int .i64 0,.int .i64 0,.int .i64 1,.int .i64 ((2^k:Nat):Int),.int .i64 0]:=Xs (P:=fun k=>(fiv.getD k default).cells d=[.int .i64 0,.int .i64 ((k+1:Nat):Int),.int .i64 ((k+1:Nat):Int),d,.int .i64 0,.int .i64 0,.int .i64 0,.int .i64 1,.int .i64 ((2^k:Nat):Int),.int .i64 0]) rfl rfl rfl rfl rfl h
theorem zdQ {k:Nat}(h:k<5):(fiv.getD k default).Ok:=Xs (P:=fun k=>(fiv.getD k default).Ok) (by constructor<;>decide) (by constructor<;>decide) (by constructor<;>decide) (by constructor<;>decide) (by constructor<;>decide) h
theorem zbp {k:Nat}(h:k<5):[((k:Nat):Int)]=(fiv.getD k default).deps:=Xs (P:=fun k=>[((k:Nat):Int)]=(fiv.getD k default).deps) rfl rfl rfl rfl rfl h
instance (a b:Ev):Decidable (Zt a b):=inferInstanceAs (Decidable (_∧_))
instance (l m:List Ev):Decidable (UL l m):=inferInstanceAs (Decidable (∀a∈l,∀b∈m,Zt a b→a=b))
theorem WH:DclOk dC:=by
 have one: ∀{P:Nat→Prop},P 0→ ∀i,i<1→P i:=fun{P} h i hi=>(show i=0 by omega)▸h
 refine⟨Nat.le_refl 1,(by show 1≤8;decide),one (P:=fun i=>TypOk (dC.types.getD i default)) ?_⟩
 refine⟨Nat.le_refl 1,(by show 1≤8;decide),?_,?_,?_,?_⟩
 ·intro i hi;obtain rfl:i=0:=by have:i<1:=hi;omega
  exact⟨(by decide:(1:Int)≤1),(by decide:(1:Int)≤4)⟩
 ·intro i hi h;obtain rfl:i=0:=by have:i<1:=hi;omega
  cases h
 ·intro i hi;obtain rfl:i=0:=by have:i<1:=hi;omega
  exact⟨fun h=>absurd h (by show ¬(1:Int)=4;decide),Nat.zero_le _⟩
 ·intro i hi j hj;obtain rfl:i=0:=by have:i<1:=hi;omega
  exact absurd hj (Nat.not_lt_zero j)
theorem Wa:Xj dC:=⟨by decide,fun i hi=>(show i=0 by have:i<1:=hi;omega)▸⟨by decide,⟨by decide,by decide⟩,by decide,by decide⟩⟩
theorem zdS (hS0:Sep G W Rs w):Ret Tryz.prog 24 [] w (fun r w'=> ∃(v:Value),r=(v:Value)∧Sep G W ((RowE (α:=Ev) own 55 v fiv)::Rs) w'):=by
 refine zk (args:=[]) Tryz.func24 rfl rfl ?_
 refine za (R0 fun _=>st (aS Iz (zb (za (R0 fun _=>st (aS Iz (zb (za (za (R0 fun _=>st (aS (Iv 0) (zb (zu ?_)))))))))))))
 have z:Sep G W ((RowE (α:=Ev) own 55 Iz ([]:List Ev))::Rs) w:=hS0.rowNil own 55
 refine yd (fun mq σ F=> ∃(k:Nat) (vo:Value) (ρ:Env),mq=5-k∧σ=yg ρ [(0,(Iz)),(2,Iw k),(1,vo)]∧(k≤5)∧Sep G W ((RowE (α:=Ev) own 55 vo (fiv.take k))::Rs) F) ⟨0,(Iz),_,rfl,sSf,yc _,z⟩ ?_
 rintro m3 σ4 w2 ⟨k,vo,ρl1,rfl,rfl,hkk,h⟩
 have A:=h.r0
 have hr6s:_*96≤_:=A.2
 refine za (za (R0 fun _=>st (mV (Iw k) (st (zL (k:=.i64) (a:=((k:Nat):Int)) (b:=5) rfl rfl (zb ?_))))))
 cases g:decide (((k:Nat):Int)<5)
 have g:=fD g
 have B:k=5:=by omega
 subst B
 refine ze rfl (ye (zT (za (R0 fun _=>st (mV vo (st (aS vo (zb (zp (zU Tryz.results24 (show _=(vo:Value)from rfl) ?_))))))))))
 refine⟨vo,rfl,h⟩
 have g:=tD g
 refine zf rfl (zr (za (zu (R0 fun _=>st (mV vo (st (mV (Iw k) ?_)))))))
 have C:InR ((k+1:Nat):Int):=bo
 refine st (zR (r:=((k+1:Nat):Int)) (k:=.i64) (a:=((k:Nat):Int)) (b:=1) rfl rfl (by rw[show(((k:Nat):Int)+1:Int)=((k+1:Nat):Int)from bo];exact zz C) ?_)
 refine st (zX (parts':=[(1,Iw (k+1))]) (v:=.agg #[Iv 0,Iw (k+1)]) rfl (by first|(rw[VI (by omega)];simp[Instr.build,Instr.fill,go_sem])|simp[Instr.build,Instr.fill,go_sem]) (st (mV (Iw k) ?_)))
 have D:InR ((k+1:Nat):Int):=bo
 refine st (zR (r:=((k+1:Nat):Int)) (k:=.i64) (a:=((k:Nat):Int)) (b:=1) rfl rfl (by rw[show(((k:Nat):Int)+1:Int)=((k+1:Nat):Int)from bo];exact zz D) (st (mV (Iw k) (st (zD (k:=1) (parts':=[(0,Iw k)]) (c:=#[Iw k]) qR rR Tryz.zeroValue3 (by decide) rfl (by kernel_rfl) ?_)))))
 intro E d o
 refine st (mV (Iw k) (st (Kv (k:=.i64) (k2:=.u64) (a:=((k:Nat):Int)) (r:=((k:Nat):Int)) (by rw[Tryz.underlying3];rfl) Tryz.underlying108 rfl (UW ⟨by omega,by omega⟩) ?_)))
 have hpw14:=zcO (k:=k) om
 refine st (zde (k:=.i64) (yk:=.u64) (a:=1) (b:=((k:Nat):Int)) (r:=((2^k:Nat):Int)) rfl rfl om (show((k:Nat):Int)≤64 by omega) (zcU om) ?_)
 refine st (zX (parts':=[(0,.agg #[Iv 0,Iw (k+1)]),(1,Iw (k+1)),(2,(Iy d 1 1)),(6,Iv 1),(7,Iv (((2^k:Nat):Int)))]) (v:=.agg ((fiv.getD k default).cells (Iy d 1 1)).toArray) rfl (by first|(rw[VI (by omega)];simp[Instr.build,Instr.fill,go_sem])|simp[Instr.build,Instr.fill,go_sem]) ?_)
 have e:Sep _ _ ((RowE (α:=Int) own 3 (Iy d 1 1) [((k:Nat):Int)])::_) _:=Sep.blkRow (src:=own) (l:=[((k:Nat):Int)]) (css:=[[Iw k]]) (h.new o) rfl ⟨fun _ _=>⟨rfl,(by omega)⟩,zl⟩ yqa (show 1≤maxLen by decide)
 have p:=e.r0
 have hr16s:_*8≤_:=p.2
 have q:=zbp (k:=k) om
 rw[q]at e
 have i:Sep G W ((RowE (α:=Int) own 3 (Iy d 1 1) ((fiv.getD k default).deps))::(RowE (α:=Ev) own 55 vo (fiv.take k))::Rs) E:=e
 have s:=i.r0
 have hr18s:_*8≤_:=s.2
 refine st (zD (k:=10) (parts':=[(0,.agg ((fiv.getD k default).cells (Iy d 1 1)).toArray)]) (c:=((fiv.getD k default).cells (Iy d 1 1)).toArray) lT kT vT dc rfl kr ?_)
 intro w21 b20 t
 have j:=i.new t
 have m:=j.b0
 refine st (yq (src:=own) (bytes:=96) (x1:=(fiv.getD k default)) (j.s3_cb) QI rfl rfl m (fun _ _ H=>⟨_,rfl,RowE.soft H,(zdQ (by omega))⟩) yqb rfl ?_)
 intro n w23 f
 have u:=f.r0
 have hr28s:_*96≤_:=u.2
 refine st (aS n (zb (R0 fun _=>st (mV (Iw k) ?_))))
 have x:InR ((k+1:Nat):Int):=bo
 refine st (zR (r:=((k+1:Nat):Int)) (k:=.i64) (a:=((k:Nat):Int)) (b:=1) rfl rfl (by rw[show(((k:Nat):Int)+1:Int)=((k+1:Nat):Int)from bo];exact zz x) (st (aS (Iw (k+1)) (zb ?_))))
 have y:(fiv.take (k+1))=(fiv.take k)++[(fiv.getD k default)]:=(List.take_getD (show k<5 by omega))
 rw[←y]at f
 exact⟨_,by omega,k+1,n,_,rfl,sSf,by omega,f⟩
theorem yqg {p:Prop}(h:p:=by decide+kernel):p:=h
theorem zcP {x y:Operand}{a0 a1 a2 b0 b1 b2:Int}: ∀w,(do eqGuard .neq 70 x y (.agg #[.int .i64 a0,.int .i64 a1,.int .i64 a2]) (.agg #[.int .i64 b0,.int .i64 b1,.int .i64 b2]);binOp .neq 70 (.agg #[.int .i64 a0,.int .i64 a1,.int .i64 a2]) (.agg #[.int .i64 b0,.int .i64 b1,.int .i64 b2]):Sem Value).run Tryz.prog w=.ok (.bool (!decide (a0=b0∧a1=b1∧a2=b2))) w:=by
 intro w
 have h: ∀w,(Op.equal 70 (.agg #[.int .i64 a0,.int .i64 a1,.int .i64 a2]) (.agg #[.int .i64 b0,.int .i64 b1,.int .i64 b2])).run Tryz.prog w=.ok (decide (a0=b0∧a1=b1∧a2=b2)) w:=by
  intro w
  rw[show decide (a0=b0∧a1=b1∧a2=b2)=(a0== b0&&a1== b1&&a2== b2) by by_cases h1:a0=b0<;>by_cases h2:a1=b1<;>by_cases h3:a2=b2<;>simp[h1,h2,h3]];unfold Op.equal Op.maxDepth;simp[go_sem];by_cases h1:a0=b0<;>by_cases h2:a1=b1<;>by_cases h3:a2=b2<;>simp[h1,h2,h3]
 simp[eqGuard,binOp,h,go_sem]
theorem Vu {va:Value}{a:List Row}(ha:RdS W G va a){vb:Value}{b:List Row}(hb:RdS W G vb b)(hS0:Sep G W Rs w):Ret Tryz.prog 30 [va,vb] w (fun r w'=>r=(.bool (decide (a=b)):Value)∧Sep G W Rs w'):=by
 have has:_*24≤_:=ha.small
 have hbs:_*24≤_:=hb.small
 refine zk (args:=[va,vb]) Tryz.func30 rfl rfl ?_
 refine za (R0 fun _=>st (aS (.bool false) (zb (za (za (R0 fun _=>st (mV va (st (zF (n:=a.length) nT rfl ha.sl (st (mV vb (st (zF (n:=b.length) nT rfl hb.sl (st (yx (k:=.i64) (a:=((a.length:Nat):Int)) (b:=((b.length:Nat):Int)) rfl rfl (zb ?_))))))))))))))))
 cases g: !decide (((a.length:Nat):Int)=((b.length:Nat):Int))
 have g:=zO g
 refine ze rfl (zr (za (za (R0 fun _=>st (aS (Iv 0) (zb (zu (yd (fun mq σ J=> ∃(k:Nat) (ρ:Env),mq=a.length-k∧σ=yg ρ [(0,va),(1,vb),(5,Iw k)]∧(k≤a.length)∧(∀i,i<k→a.getD i default=b.getD i default)∧Sep G W Rs J) ⟨0,_,rfl,sSf,yc _,(fun i h=>absurd h (yO i)),hS0⟩ ?_))))))))
 rintro m3 σ4 w2 ⟨k,ρl1,rfl,rfl,hkk,hm,I⟩
 refine za (za (R0 fun _=>st (mV (Iw k) (st (mV va (st (zF (n:=a.length) nT rfl ha.sl (st (zL (k:=.i64) (a:=((k:Nat):Int)) (b:=((a.length:Nat):Int)) rfl rfl (zb ?_))))))))))
 cases m:decide (((k:Nat):Int)<((a.length:Nat):Int))
 have m:=fD m
 refine ze rfl (ye (zT (za (R0 fun _=>st (aS (.bool true) (zb (zp (zU sR (show _=(.bool true:Value)from rfl) ?_))))))))
 refine⟨?_,I⟩
 rw[decide_eq_true (Xu (by omega) (fun i hi=>hm i (by omega)))]
 have m:=tD m
 refine zf rfl (zr (za (zu (za ?_))))
 refine WD4 (WF [fun vals J=>Sep G W Rs J]) (AF [Vl 0 va,Vl 1 (Iw k),Vl 2 (Ix (sb va) (so va+k*3)),Vl 3 (.agg ((a.getD k default).cells).toArray),Vl 4 vb,Vl 5 (Iw k),Vl 6 (Ix (sb vb) (so vb+k*3)),Vl 7 (.agg ((b.getD k default).cells).toArray),Vl 8 (.bool (!decide ((a.getD k default).group=(b.getD k default).group∧(a.getD k default).value=(b.getD k default).value∧(a.getD k default).count=(b.getD k default).count)))]) [[],[],[0,1],[0,1,2],[],[],[4,5],[4,5,6],(rg 8)] [] [(0,0),(0,0),(0,0),(0,0),(0,0),(0,0),(0,0),(0,0),(0,0)] I ⟨fun _ _ _ _ _ _ _=>obl rfl (mV va dR),fun _ _ _ _ _ _ _=>obl rfl (mV (Iw k) dR),?_,?_,fun _ _ _ _ _ _ _=>obl rfl (mV vb dR),fun _ _ _ _ _ _ _=>obl rfl (mV (Iw k) dR),?_,?_,ob1 0 fun _ _ _ o=>obl rfl (XG (e:=decide ((a.getD k default).group=(b.getD k default).group∧(a.getD k default).value=(b.getD k default).value∧(a.getD k default).count=(b.getD k default).count)) (xs:=#[Iv ((a.getD k default).group),Iv ((a.getD k default).value),Iv ((a.getD k default).count)]) (ys:=#[Iv ((b.getD k default).group),Iv ((b.getD k default).value),Iv ((b.getD k default).count)]) zcP (o 3 dc) (o 7 dc) dR),zl⟩ ?_
 refine ob1 0 fun _ _ _ u=>(obl rfl ?_)
 have y:k<a.length:=bo
 exact zg (k:=3) (i:=k) nT pT (u 0 dc) ha.sl (u 1 dc) y dR
 refine ob1 0 fun _ _ (z:Sep _ _ _ _) A=>(obl rfl ?_)
 have d:k<a.length:=bo
 obtain⟨j,s⟩:=ha.row d
 rw[←zI default d]at j s
 have v:=z.cells j (ha.foot (ne_of_lt d))
 exact zi (k:=3) nY pT rfl (A 2 dc) v dR
 refine ob1 0 fun _ _ _ p=>(obl rfl ?_)
 have B:k<b.length:=bo
 exact zg (k:=3) (i:=k) nT pT (p 4 dc) hb.sl (p 5 dc) B dR
 refine ob1 0 fun _ _ (C:Sep _ _ _ _) D=>(obl rfl ?_)
 have f:k<b.length:=bo
 obtain⟨l,t⟩:=hb.row f
 rw[←zI default f]at l t
 have x:=C.cells l (hb.foot (ne_of_lt f))
 exact zi (k:=3) nY pT rfl (D 6 dc) x dR
 intro vals w157 E F
 have q:Sep _ _ _ _:=E
 have K:=F 8 dc
 refine yi (kv:=[(0,va),(1,vb),(5,Iw k),(11,Iw k),(12,va),(13,Iw a.length),(14,.bool true),(25,.bool (!decide ((a.getD k default).group=(b.getD k default).group∧(a.getD k default).value=(b.getD k default).value∧(a.getD k default).count=(b.getD k default).count)))]) ⟨rfl,rfl,rfl,rfl,rfl,rfl,rfl,(by exact K),zl⟩ (fun ρw157=>(zb ?_))
 cases c: !decide ((a.getD k default).group=(b.getD k default).group∧(a.getD k default).value=(b.getD k default).value∧(a.getD k default).count=(b.getD k default).count)
 have c:=zO c
 refine ze rfl (zr (R0 fun _=>st (mV (Iw k) ?_)))
 have H:InR ((k+1:Nat):Int):=bo
 refine st (zR (r:=((k+1:Nat):Int)) (k:=.i64) (a:=((k:Nat):Int)) (b:=1) rfl rfl (by rw[show(((k:Nat):Int)+1:Int)=((k+1:Nat):Int)from bo];exact zz H) (st (aS (Iw (k+1)) (zb ?_))))
 exact⟨_,by omega,k+1,_,rfl,sSf,by omega,(xe hm (Row.eq_iff.2 c)),q⟩
 have c:=yn c
 refine zf rfl (za (R0 fun _=>st (aS (.bool false) (zb (zp (zU sR (show _=(.bool false:Value)from rfl) ?_))))))
 refine⟨?_,q⟩
 rw[decide_eq_false (fun e=>by subst e;first|omega|(simp at c))]
 have g:=yn g
 refine zf rfl (za (R0 fun _=>st (aS (.bool false) (zb (zp (zU sR (show _=(.bool false:Value)from rfl) ?_))))))
 refine⟨?_,hS0⟩
 rw[decide_eq_false (fun e=>by subst e;first|omega|(simp at g))]
theorem Jc (hS0:Sep G W Rs w):Ret Tryz.prog 25 [] w (fun r w'=> ∃(bt:Nat) (bf:Nat) (bp:Nat),r=(.agg #[(.slice (some ⟨bt,0,none⟩) 1 1),(.slice (some ⟨bp,0,none⟩) 1 1)]:Value)∧Sep G W ((Blk bt #[(.slice (some ⟨bf,0,none⟩) 1 1)] 83)::(Blk bf #[.int .i64 (1),.int .i64 (1),.bool false,.slice none 0 0] 87)::(Blk bp #[.int .i64 (0),.int .i64 (0),.int .i64 (1),.int .i64 (0),.int .i64 (2)] 73)::Rs) w'):=by
 refine zk (args:=[]) Tryz.func25 rfl rfl ?_
 refine za (R0 fun _=>st (zB tR ?_))
 intro w3 b2 j
 refine zb (za (zK (by kernel_rfl) (fun _=>(st (zX (parts':=[(0,Iv 1),(1,Iv 1)]) (v:=.agg #[Iv 1,Iv 1,.bool false,(Iz)]) rfl (by simp+zetaDelta [Instr.build,Instr.fill,go_sem,Zc]) (st (zD (k:=4) (parts':=[(0,.agg #[Iv 1,Iv 1,.bool false,(Iz)])]) (c:=#[Iv 1,Iv 1,.bool false,(Iz)]) wT oT uR (by decide) rfl (by kernel_rfl) ?_)))))))
 intro w7 e l
 refine st (zX (parts':=[(0,(Iy e 1 1))]) (v:=.agg #[(Iy e 1 1)]) rfl (by simp+zetaDelta [Instr.build,Instr.fill,go_sem,Zc]) (st (zD (k:=1) (parts':=[(0,.agg #[(Iy e 1 1)])]) (c:=#[(Iy e 1 1)]) sT qT vR (by decide) rfl (by kernel_rfl) ?_)))
 intro w11 a m
 refine st (zX (parts':=[(2,Iv 1),(4,Iv 2)]) (v:=.agg #[Iv 0,Iv 0,Iv 1,Iv 0,Iv 2]) rfl (by simp+zetaDelta [Instr.build,Instr.fill,go_sem,Zc]) (st (zD (k:=5) (parts':=[(0,.agg #[Iv 0,Iv 0,Iv 1,Iv 0,Iv 2])]) (c:=#[Iv 0,Iv 0,Iv 1,Iv 0,Iv 2]) kR lR oY (by decide) rfl (by kernel_rfl) ?_)))
 intro w15 d h
 have f:=(((hS0.new j).new l).new m).new h
 refine st (zX (parts':=[(0,(Iy a 1 1)),(1,(Iy d 1 1))]) (v:=.agg #[(Iy a 1 1),(Iy d 1 1)]) rfl (by simp+zetaDelta [Instr.build,Instr.fill,go_sem,Zc]) (stn (zw (v:=.agg #[(Iy a 1 1),(Iy d 1 1)]) (c':=#[(Iy a 1 1),(Iy d 1 1)]) tT rfl rfl (f.b3) (yo ⟨rfl,rfl,zl⟩) yqc rfl ?_)))
 intro w17 i
 have g:=f.pt3 i
 refine zb (zp (ZY (b:=b2) Tryz.results25 wR tT rfl rfl (zo (g.b3)) ?_))
 refine⟨a,e,d,rfl,(g.s4_bca)⟩
set_option maxHeartbeats 8000000 in
set_option maxRecDepth 20000 in
theorem VZ (hKN:RdS W G (.slice (some ⟨0,0,none⟩) 6 6) kindsL)(hS0:Sep G W Rs w):Ret Tryz.prog 6 [] w (fun r w'=>r=(.bool true:Value)∧Sep G W Rs w'):=by
 have hKNs:_*8≤_:=hKN.small
 refine zk (args:=[]) Tryz.func6 rfl rfl ?_
 refine za (R0 fun _=>st (aS (.bool false) (zb (za (R0 fun _=>st (cL Tryz.call25 (Jc hS0) ?_))))))
 rintro _ w4 ⟨es,aD,aE,rfl,fp⟩
 have et:Sep _ _ ((RowE (α:=Fld) (shr G W) 87 (Iy aD 1 1) [(⟨1,1,false,[]⟩:Fld)])::_) _:=Sep.blkRow (src:=(shr G W)) (l:=[(⟨1,1,false,[]⟩:Fld)]) (css:=[(⟨1,1,false,[]⟩:Fld).cells (Iz)]) (fp.mv1) rfl ⟨fun _ _=>⟨_,rfl,(RdS.nil _ _),(show Fld.Ok (⟨1,1,false,[]⟩:Fld)from⟨by decide,by decide⟩)⟩,zl⟩ yqa (show 1≤maxLen by decide)
 have fq:=et.r0
 have hr8s:_*48≤_:=fq.2
 obtain⟨G9,ew,bv,ex,ey⟩:=et.lend
 have aF:=RowE.rdB ew bv
 have hrd15s:_*48≤_:=aF.small
 have bw:Sep _ _ ((RowE (α:=Typ) (shr G9 w4) 83 (Iy es 1 1) [(⟨[(⟨1,1,false,[]⟩:Fld)]⟩:Typ)])::_) _:=Sep.blkRow (src:=(shr G9 w4)) (l:=[(⟨[(⟨1,1,false,[]⟩:Fld)]⟩:Typ)]) (css:=[(⟨[(⟨1,1,false,[]⟩:Fld)]⟩:Typ).cells (Iy aD 1 1)]) ex rfl ⟨fun _ _=>⟨_,rfl,aF,(show Typ.Ok (⟨[(⟨1,1,false,[]⟩:Fld)]⟩:Typ)from⟨⟩)⟩,zl⟩ yqa (show 1≤maxLen by decide)
 have ez:=bw.r0
 have hr17s:_*24≤_:=ez.2
 obtain⟨fs,eA,bx,eB,eC⟩:=bw.lend
 have aG:=RowE.rdB eA bx
 have hrd24s:_*24≤_:=aG.small
 have bz:Sep fs w4 ((RowE (α:=Prj) own 73 (Iy aE 1 1) [(⟨0,0,1,0,2⟩:Prj)])::Rs) w4:=Sep.blkRow (src:=own) (l:=[(⟨0,0,1,0,2⟩:Prj)]) (css:=[(⟨0,0,1,0,2⟩:Prj).cells]) eB rfl ⟨fun _ _=>⟨rfl,(show Prj.Ok (⟨0,0,1,0,2⟩:Prj)from⟨by decide,by decide,by decide,by decide,by decide⟩)⟩,zl⟩ yqa (show 1≤maxLen by decide)
 have eD:=bz.r0
 have hr26s:_*40≤_:=eD.2
 obtain⟨G27,eE,bA,eF,eG⟩:=bz.lend
 have aH:=RowE.rd eE
 have hrd33s:_*40≤_:=aH.small
 refine st (cL Tryz.call9 (UX (d:=dC) (every:=2) (zS aG bA) aH (⟨⟩:Dcl.Ok dC) dc (zS (zS (zS hKN bv) bx) bA) eF WH) ?_)
 rintro _ ft ⟨x,eH,rfl,hev36,eI⟩
 have eJ:=eG _ _ eI
 have eK:=eC _ _ eJ
 have eL:=ey _ _ eK
 refine st (aS (Ix x 0) (zb (za ?_)))
 obtain rfl:eH=2:=by omega
 have eM:Sep G W ((RowE (α:=Fld) (shr G W) 87 (Iy aD 1 1) [(⟨1,1,false,[]⟩:Fld)])::(RowE (α:=Prj) own 73 (Iy aE 1 1) [(⟨0,0,1,0,2⟩:Prj)])::(BaseO x dC 2 ([]:List Ev))::Rs) ft:=(eL.s4_acd)
 refine R0 fun _=>st (cL Tryz.call24 (zdS eM) ?_)
 rintro e t ⟨_,rfl,bB⟩
 let fv:=zP t (sb e) (so e+4*10+3)
 let fu:=zP t (sb e) (so e+2*10+3)
 let fr:=zP t (sb e) (so e+1*10+3)
 let bW:=zP t (sb e) (so e+0*10+3)
 have eN:=bB.r0
 have hr47s:_*96≤_:=eN.2
 refine st (aS e (zb (za (za ?_))))
 have hf5:fiv.length=5:=rfl
 obtain⟨E,eO,Q,eP,eQ⟩:=bB.lend
 have m:=RowE.rd eO
 have hrd54s:_*96≤_:=m.small
 refine WD6 ((fun N O eu X=>WF [fun vals I=>Sep E t (N::O::(BaseO x dC 2 ([]:List Ev))::Rs) I,fun vals I=>(vals 6=(Iw ((fiv.take 3).length-yL 2 (fiv.take 3) ([]:List Ev)):Value))∧Sep E t ((BaseO x dC 2 (fiv.take 3))::N::O::Rs) I,fun _ _=>True,fun vals I=>(vals 6=(Iw ((fiv.take 3).length-yL 2 (fiv.take 3) ([]:List Ev)):Value))∧(vals 13=(Iw ((fiv.take 4).length-yL 2 (fiv.take 4) (fiv.take 3)):Value))∧Sep E t (eu::N::O::Rs) I,fun _ _=>True,fun _ _=>True,fun _ _=>True,fun vals I=> ∃(h:Nat),(vals 6=(Iw ((fiv.take 3).length-yL 2 (fiv.take 3) ([]:List Ev)):Value))∧(vals 13=(Iw ((fiv.take 4).length-yL 2 (fiv.take 4) (fiv.take 3)):Value))∧(vals 30=((Iy h 4 4):Value))∧Sep E t ((Blk h #[Iv ((fiv.getD 0 default).origin),Iv ((fiv.getD 0 default).seq),Iv ((fiv.getD 0 default).lam),bW,Iv ((fiv.getD 0 default).typ),Iv ((fiv.getD 0 default).agg),Iv ((fiv.getD 0 default).field),Iv ((fiv.getD 0 default).op),Iv ((fiv.getD 0 default).arg),Iv ((fiv.getD 0 default).key),Iv ((fiv.getD 1 default).origin),Iv ((fiv.getD 1 default).seq),Iv ((fiv.getD 1 default).lam),fr,Iv ((fiv.getD 1 default).typ),Iv ((fiv.getD 1 default).agg),Iv ((fiv.getD 1 default).field),Iv ((fiv.getD 1 default).op),Iv ((fiv.getD 1 default).arg),Iv ((fiv.getD 1 default).key),Iv ((fiv.getD 2 default).origin),Iv ((fiv.getD 2 default).seq),Iv ((fiv.getD 2 default).lam),fu,Iv ((fiv.getD 2 default).typ),Iv ((fiv.getD 2 default).agg),Iv ((fiv.getD 2 default).field),Iv ((fiv.getD 2 default).op),Iv ((fiv.getD 2 default).arg),Iv ((fiv.getD 2 default).key),Iv ((fiv.getD 4 default).origin),Iv ((fiv.getD 4 default).seq),Iv ((fiv.getD 4 default).lam),fv,Iv ((fiv.getD 4 default).typ),Iv ((fiv.getD 4 default).agg),Iv ((fiv.getD 4 default).field),Iv ((fiv.getD 4 default).op),Iv ((fiv.getD 4 default).arg),Iv ((fiv.getD 4 default).key)] 55)::eu::N::O::Rs) I,fun _ _=>True,fun _ _=>True,fun _ _=>True,fun _ _=>True,fun _ _=>True,fun _ _=>True,fun _ _=>True,fun vals I=> ∃(h:Nat),(vals 6=(Iw ((fiv.take 3).length-yL 2 (fiv.take 3) ([]:List Ev)):Value))∧(vals 13=(Iw ((fiv.take 4).length-yL 2 (fiv.take 4) (fiv.take 3)):Value))∧(vals 30=((Iy h 4 4):Value))∧(vals 31=(Iw ([(fiv.getD 0 default),(fiv.getD 1 default),(fiv.getD 2 default),(fiv.getD 4 default)].length-yL 2 [(fiv.getD 0 default),(fiv.getD 1 default),(fiv.getD 2 default),(fiv.getD 4 default)] (fiv.take 4)):Value))∧Sep E t ((RowE (α:=Ev) (shr E t) 55 (Iy h 4 4) [(fiv.getD 0 default),(fiv.getD 1 default),(fiv.getD 2 default),(fiv.getD 4 default)])::X::N::O::Rs) I,fun _ _=>True,fun _ _=>True,fun _ _=>True,fun _ _=>True,fun _ _=>True,fun _ _=>True,fun _ _=>True,fun _ _=>True,fun _ _=>True,fun _ _=>True,fun _ _=>True,fun _ _=>True,fun _ _=>True,fun _ _=>True,fun _ _=>True,fun vals I=> ∃(h:Nat) (y:Value),(vals 6=(Iw ((fiv.take 3).length-yL 2 (fiv.take 3) ([]:List Ev)):Value))∧(vals 13=(Iw ((fiv.take 4).length-yL 2 (fiv.take 4) (fiv.take 3)):Value))∧(vals 30=((Iy h 4 4):Value))∧(vals 31=(Iw ([(fiv.getD 0 default),(fiv.getD 1 default),(fiv.getD 2 default),(fiv.getD 4 default)].length-yL 2 [(fiv.getD 0 default),(fiv.getD 1 default),(fiv.getD 2 default),(fiv.getD 4 default)] (fiv.take 4)):Value))∧(vals 36=(y:Value))∧Sep E t (X::(RowE (α:=Row) own 70 y (xd dC [(fiv.getD 0 default),(fiv.getD 1 default),(fiv.getD 2 default),(fiv.getD 4 default)] 0))::(RowE (α:=Ev) (shr E t) 55 (Iy h 4 4) [(fiv.getD 0 default),(fiv.getD 1 default),(fiv.getD 2 default),(fiv.getD 4 default)])::N::O::Rs) I,fun _ _=>True,fun _ _=>True,fun _ _=>True,fun _ _=>True,fun _ _=>True,fun _ _=>True,fun _ _=>True,fun _ _=>True,fun _ _=>True,fun _ _=>True,fun _ _=>True,fun _ _=>True,fun _ _=>True,fun _ _=>True,fun _ _=>True,fun vals I=> ∃(h:Nat) (u:Nat),(vals 6=(Iw ((fiv.take 3).length-yL 2 (fiv.take 3) ([]:List Ev)):Value))∧(vals 13=(Iw ((fiv.take 4).length-yL 2 (fiv.take 4) (fiv.take 3)):Value))∧(vals 30=((Iy h 4 4):Value))∧(vals 31=(Iw ([(fiv.getD 0 default),(fiv.getD 1 default),(fiv.getD 2 default),(fiv.getD 4 default)].length-yL 2 [(fiv.getD 0 default),(fiv.getD 1 default),(fiv.getD 2 default),(fiv.getD 4 default)] (fiv.take 4)):Value))∧(vals 38=((Iy u 1 1):Value))∧Sep E t ((Blk u ((⟨0,23,4⟩:Row).cells).toArray 70)::(RowE (α:=Ev) (shr E t) 55 (Iy h 4 4) [(fiv.getD 0 default),(fiv.getD 1 default),(fiv.getD 2 default),(fiv.getD 4 default)])::X::N::O::Rs) I,fun _ _=>True,fun _ _=>True,fun _ _=>True,fun _ _=>True,fun _ _=>True,fun _ _=>True,fun _ _=>True,fun _ _=>True,fun _ _=>True,fun _ _=>True,fun _ _=>True,fun _ _=>True,fun _ _=>True,fun _ _=>True,fun _ _=>True,fun vals I=> ∃(h:Nat) (y:Value) (u:Nat),(vals 6=(Iw ((fiv.take 3).length-yL 2 (fiv.take 3) ([]:List Ev)):Value))∧(vals 13=(Iw ((fiv.take 4).length-yL 2 (fiv.take 4) (fiv.take 3)):Value))∧(vals 30=((Iy h 4 4):Value))∧(vals 31=(Iw ([(fiv.getD 0 default),(fiv.getD 1 default),(fiv.getD 2 default),(fiv.getD 4 default)].length-yL 2 [(fiv.getD 0 default),(fiv.getD 1 default),(fiv.getD 2 default),(fiv.getD 4 default)] (fiv.take 4)):Value))∧(vals 36=(y:Value))∧(vals 38=((Iy u 1 1):Value))∧Sep E t ((Blk u ((⟨0,23,4⟩:Row).cells).toArray 70)::X::(RowE (α:=Row) own 70 y (xd dC [(fiv.getD 0 default),(fiv.getD 1 default),(fiv.getD 2 default),(fiv.getD 4 default)] 0))::(RowE (α:=Ev) (shr E t) 55 (Iy h 4 4) [(fiv.getD 0 default),(fiv.getD 1 default),(fiv.getD 2 default),(fiv.getD 4 default)])::N::O::Rs) I,fun _ _=>True,fun _ _=>True,fun _ _=>True,fun _ _=>True,fun _ _=>True,fun _ _=>True,fun _ _=>True,fun _ _=>True,fun _ _=>True,fun _ _=>True,fun _ _=>True,fun _ _=>True,fun _ _=>True,fun _ _=>True,fun _ _=>True,fun _ _=>True,fun _ _=>True,fun _ _=>True,fun _ _=>True,fun _ _=>True,fun _ _=>True,fun _ _=>True,fun _ _=>True,fun _ _=>True,fun _ _=>True,fun _ _=>True,fun _ _=>True,fun _ _=>True,fun _ _=>True,fun _ _=>True,fun _ _=>True,fun _ _=>True,fun _ _=>True,fun _ _=>True,fun _ _=>True,fun _ _=>True,fun _ _=>True,fun _ _=>True,fun _ _=>True,fun _ _=>True,fun _ _=>True,fun _ _=>True,fun _ _=>True,fun _ _=>True,fun _ _=>True,fun _ _=>True,fun _ _=>True,fun _ _=>True,fun _ _=>True,fun _ _=>True,fun _ _=>True,fun _ _=>True,fun _ _=>True,fun _ _=>True,fun _ _=>True,fun _ _=>True,fun _ _=>True,fun _ _=>True,fun _ _=>True,fun _ _=>True,fun _ _=>True,fun _ _=>True,fun _ _=>True,fun vals I=> ∃(h:Nat) (y:Value) (u:Nat),(vals 6=(Iw ((fiv.take 3).length-yL 2 (fiv.take 3) ([]:List Ev)):Value))∧(vals 13=(Iw ((fiv.take 4).length-yL 2 (fiv.take 4) (fiv.take 3)):Value))∧(vals 30=((Iy h 4 4):Value))∧(vals 31=(Iw ([(fiv.getD 0 default),(fiv.getD 1 default),(fiv.getD 2 default),(fiv.getD 4 default)].length-yL 2 [(fiv.getD 0 default),(fiv.getD 1 default),(fiv.getD 2 default),(fiv.getD 4 default)] (fiv.take 4)):Value))∧(vals 36=(y:Value))∧(vals 38=((Iy u 1 1):Value))∧(vals 39=(.bool (decide ((xd dC [(fiv.getD 0 default),(fiv.getD 1 default),(fiv.getD 2 default),(fiv.getD 4 default)] 0)=[(⟨0,23,4⟩:Row)])):Value))∧Sep E t ((RowE (α:=Row) own 70 y (xd dC [(fiv.getD 0 default),(fiv.getD 1 default),(fiv.getD 2 default),(fiv.getD 4 default)] 0))::(RowE (α:=Row) own 70 (Iy u 1 1) [(⟨0,23,4⟩:Row)])::X::(RowE (α:=Ev) (shr E t) 55 (Iy h 4 4) [(fiv.getD 0 default),(fiv.getD 1 default),(fiv.getD 2 default),(fiv.getD 4 default)])::N::O::Rs) I]) (RowE (α:=Fld) (shr G W) 87 (Iy aD 1 1) [(⟨1,1,false,[]⟩:Fld)]) (RowE (α:=Prj) own 73 (Iy aE 1 1) [(⟨0,0,1,0,2⟩:Prj)]) (BaseO x dC 2 (fiv.take 4)) (BaseO x dC 2 [(fiv.getD 0 default),(fiv.getD 1 default),(fiv.getD 2 default),(fiv.getD 4 default)])) (AF [Vl 0 (Ix x 0),Vl 1 (.bool false),Vl 2 (.bool false),Vl 3 (Ix x 0),Vl 4 e,Vl 5 ((Ze 10 e 0 3)),fun _=>True,Vl 7 (.bool false),Vl 8 (.bool false),Vl 9 (.bool false),Vl 10 (Ix x 0),Vl 11 e,Vl 12 ((Ze 10 e 0 4)),fun _=>True,Vl 14 (.bool false),Vl 15 (.bool false),Vl 16 (.bool false),Vl 17 (Ix x 0),Vl 18 e,Vl 19 (Ix (sb e) (so e+0*10)),Vl 20 (.agg ((fiv.getD 0 default).cells bW).toArray),Vl 21 e,Vl 22 (Ix (sb e) (so e+1*10)),Vl 23 (.agg ((fiv.getD 1 default).cells fr).toArray),Vl 24 e,Vl 25 (Ix (sb e) (so e+2*10)),Vl 26 (.agg ((fiv.getD 2 default).cells fu).toArray),Vl 27 e,Vl 28 (Ix (sb e) (so e+4*10)),Vl 29 (.agg ((fiv.getD 4 default).cells fv).toArray),fun _=>True,fun _=>True,Vl 32 (.bool false),Vl 33 (.bool false),Vl 34 (.bool false),Vl 35 (Ix x 0),fun _=>True,Vl 37 (.agg ((⟨0,23,4⟩:Row).cells).toArray),fun _=>True,fun _=>True,Vl 40 (.bool false),Vl 41 (.bool false)]) [[],[0],[0,1],[0,1,2],[0,1,2],[0,1,2,4],(rg 6),(rg 7),(rg 8),(rg 9),(rg 10),(rg 10),[0,1,2,3,4,5,6,7,8,9,11],(rg 13),(rg 14),(rg 15),(rg 16),(rg 17),(rg 17),[0,1,2,3,4,5,6,7,8,9,10,11,12,13,14,15,16,18],[0,1,2,3,4,5,6,7,8,9,10,11,12,13,14,15,16,18,19],(rg 17),[0,1,2,3,4,5,6,7,8,9,10,11,12,13,14,15,16,21],[0,1,2,3,4,5,6,7,8,9,10,11,12,13,14,15,16,21,22],(rg 17),[0,1,2,3,4,5,6,7,8,9,10,11,12,13,14,15,16,24],[0,1,2,3,4,5,6,7,8,9,10,11,12,13,14,15,16,24,25],(rg 17),[0,1,2,3,4,5,6,7,8,9,10,11,12,13,14,15,16,27],[0,1,2,3,4,5,6,7,8,9,10,11,12,13,14,15,16,27,28],[0,1,2,3,4,5,6,7,8,9,10,11,12,13,14,15,16,18,19,20,21,22,23,24,25,26,27,28,29],(rg 31),(rg 32),(rg 33),(rg 34),(rg 35),(rg 36),(rg 35),[0,1,2,3,4,5,6,7,8,9,10,11,12,13,14,15,16,17,18,19,20,21,22,23,24,25,26,27,28,29,30,31,32,33,34,37],(rg 39),(rg 40),(rg 41)] [6,13,30,31,36,38,39] [[0],[0],[0],[0],[0],[0],[0],[1],[1],[1],[1],[1],[1],[1],[3],[3],[3],[3,7],[3],[3],[3],[3],[3],[3],[3],[3],[3],[3],[3],[3],[3],[7],[15],[15],[15],[15,47],[15,47],[15,31],[15,31],[63],[127],[127]] eP ⟨fun _ _ _ _ _ _=>obl rfl (mV (Ix x 0) dR),?_,fun _ _ _ _ _ bX=>obl rfl (zN (v:=.bool false) (bX 1 dc) dR),?_,?_,?_,?_,?_,fun _ _ _ _ _ aI=>obl rfl (yw (v:=.bool false) (aI 2 dc) (aI 7 dc) dR),fun _ _ _ _ _ bY=>obl rfl (zN (v:=.bool false) (bY 8 dc) dR),?_,?_,?_,?_,?_,fun _ _ _ _ _ aJ=>obl rfl (yw (v:=.bool false) (aJ 9 dc) (aJ 14 dc) dR),fun _ _ _ _ _ bZ=>obl rfl (zN (v:=.bool false) (bZ 15 dc) dR),?_,?_,?_,?_,?_,?_,?_,?_,?_,?_,?_,?_,?_,?_,?_,?_,fun _ _ _ _ _ aK=>obl rfl (yw (v:=.bool false) (aK 16 dc) (aK 32 dc) dR),fun _ _ _ _ _ ca=>obl rfl (zN (v:=.bool false) (ca 33 dc) dR),?_,?_,?_,?_,?_,?_,fun _ _ _ _ _ aL=>obl rfl (yw (v:=.bool false) (aL 34 dc) (aL 40 dc) dR),zl⟩ ?_
 intro eR vals w486 cb cc cd
 have Y:eR∈[0]:=cb
 simp only[yF]at Y
 subst Y
 have hS490:Sep _ _ _ _:=cc
 exact obl rfl (VM (b:=x) (o:=0) Tryz.underlying32 (cd 0 dc) dR)
 intro k498 vals w499 hk502 hW501 ce
 refine zJ rfl rfl (ce 2 dc) (fun _=>?_) yqd
 exact mV (Ix x 0) dR
 intro k504 vals w505 hk508 hW507 cf
 refine zJ rfl rfl (cf 2 dc) (fun _=>?_) yqd
 exact mV e dR
 intro eS vals w511 cg ch aM
 have Z:eS∈[0]:=cg
 simp only[yF]at Z
 subst Z
 have hS515:Sep _ _ _ _:=ch
 refine zJ rfl rfl (aM 2 dc) (fun _=>?_) yqd
 exact Yo (j:=3) (k:=10) (n:=fiv.length) lT kT (aM 4 dc) m.sl rfl bo dR
 intro eT vals w519 ci cj J
 have aa:eT∈[0]:=ci
 simp only[yF]at aa
 subst aa
 have ck:Sep _ _ _ _:=cj
 have e525:=J 3 dc
 have e526:=J 5 dc
 refine zJ rfl rfl (J 2 dc) (fun _=>?_) yqd
 have e527:=J 2 dc
 have bC:=RdS.sub_hi (j:=3) m (by first|omega|(simp only[List.length_drop,List.length_take];omega))
 have h530s:_*96≤_:=bC.small
 refine(zV (f:=13) (vals:=[Ix x 0,(Ze 10 e 0 3)]) (cap:=[]) rfl (yM ⟨(J 3 dc),(J 5 dc),zl⟩) rT (ZI (l:=fiv.take 3) (vl:=(Ze 10 e 0 3)) bC (zS hKN Q) (ck.mv2) WH Wa yqg yqg yqg) ?_)
 rintro _ w532 ⟨rfl,cl⟩
 exact fun B D s=>⟨(zA D cl),zl⟩
 intro eU vals w535 cm cn co
 have ab:eU∈[1]:=cm
 simp only[yF]at ab
 subst ab
 obtain⟨g,hS539⟩:=cn
 refine zJ rfl rfl (co 2 dc) (fun _=>?_) yqd
 have cp:(!decide (((((fiv.take 3).length-yL 2 (fiv.take 3) ([]:List Ev)):Nat):Int)=3))=false:=by decide+kernel
 exact yx (k:=.i64) (a:=((((fiv.take 3).length-yL 2 (fiv.take 3) ([]:List Ev)):Nat):Int)) (b:=3) g rfl (fun B D _=>⟨rfl,D.trans (congrArg Value.bool cp)⟩)
 intro k555 vals w556 hk559 hW558 cq
 refine zJ rfl rfl (cq 9 dc) (fun _=>?_) yqd
 exact mV (Ix x 0) dR
 intro k561 vals w562 hk565 hW564 cr
 refine zJ rfl rfl (cr 9 dc) (fun _=>?_) yqd
 exact mV e dR
 intro eV vals w568 cs ct aN
 have ac:eV∈[1]:=cs
 simp only[yF]at ac
 subst ac
 obtain⟨g,hS572⟩:=ct
 refine zJ rfl rfl (aN 9 dc) (fun _=>?_) yqd
 exact Yo (j:=4) (k:=10) (n:=fiv.length) lT kT (aN 11 dc) m.sl rfl bo dR
 intro eW vals w576 cu cv K
 have ad:eW∈[1]:=cu
 simp only[yF]at ad
 subst ad
 obtain⟨g,cw⟩:=cv
 have e582:=K 10 dc
 have e583:=K 12 dc
 refine zJ rfl rfl (K 9 dc) (fun _=>?_) yqd
 have e584:=K 9 dc
 have bD:=RdS.sub_hi (j:=4) m (by first|omega|(simp only[List.length_drop,List.length_take];omega))
 have h587s:_*96≤_:=bD.small
 refine(zV (f:=13) (vals:=[Ix x 0,(Ze 10 e 0 4)]) (cap:=[]) rfl (yM ⟨(K 10 dc),(K 12 dc),zl⟩) rT (ZI (l:=fiv.take 4) (vl:=(Ze 10 e 0 4)) bD (zS hKN Q) cw WH Wa yqg yqg yqg) ?_)
 rintro _ w588 ⟨rfl,cx⟩
 exact fun B D s=>⟨(zA ((s 6 dc).trans g) (zA D cx)),zl⟩
 intro eX vals w591 cy cz cA
 have ae:eX∈[3]:=cy
 simp only[yF]at ae
 subst ae
 obtain⟨g,p,hS595⟩:=cz
 refine zJ rfl rfl (cA 9 dc) (fun _=>?_) yqd
 have cB:(!decide (((((fiv.take 4).length-yL 2 (fiv.take 4) (fiv.take 3)):Nat):Int)=1))=false:=by decide+kernel
 exact yx (k:=.i64) (a:=((((fiv.take 4).length-yL 2 (fiv.take 4) (fiv.take 3)):Nat):Int)) (b:=1) p rfl (fun B D _=>⟨rfl,D.trans (congrArg Value.bool cB)⟩)
 intro k611 vals w612 hk615 hW614 cC
 refine zJ rfl rfl (cC 16 dc) (fun _=>?_) yqd
 exact mV (Ix x 0) dR
 intro k617 vals w618 hk621 hW620 cD
 refine zJ rfl rfl (cD 16 dc) (fun _=>?_) yqd
 exact mV e dR
 intro eY vals w624 cE cF aO
 have af:eY∈[3]:=cE
 simp only[yF]at af
 subst af
 obtain⟨g,p,hS628⟩:=cF
 refine zJ rfl rfl (aO 16 dc) (fun _=>?_) yqd
 have cG:0<fiv.length:=bo
 exact zg (k:=10) (i:=0) lT kT (aO 18 dc) m.sl rfl cG dR
 intro eZ vals w633 cH cI aP
 have ag:eZ∈[3]:=cH
 simp only[yF]at ag
 subst ag
 obtain⟨g,p,cJ⟩:=cI
 refine zJ rfl rfl (aP 16 dc) (fun _=>?_) yqd
 have aQ:0<fiv.length:=bo
 obtain⟨bE,az,hoke640⟩:=m.evD aQ
 have hsm642:((fiv.getD 0 default).deps).length*8≤140737488355328:=az.small
 have bF:=cJ.cells bE (m.foot (ne_of_lt aQ))
 exact zi (k:=10) mT kT rfl (aP 19 dc) bF dR
 intro k644 vals w645 hk648 hW647 cK
 refine zJ rfl rfl (cK 16 dc) (fun _=>?_) yqd
 exact mV e dR
 intro fa vals w651 cM cN aR
 have ah:fa∈[3]:=cM
 simp only[yF]at ah
 subst ah
 obtain⟨g,p,hS655⟩:=cN
 refine zJ rfl rfl (aR 16 dc) (fun _=>?_) yqd
 have cO:1<fiv.length:=bo
 exact zg (k:=10) (i:=1) lT kT (aR 21 dc) m.sl rfl cO dR
 intro fb vals w660 cP cQ aT
 have ai:fb∈[3]:=cP
 simp only[yF]at ai
 subst ai
 obtain⟨g,p,cR⟩:=cQ
 refine zJ rfl rfl (aT 16 dc) (fun _=>?_) yqd
 have aU:1<fiv.length:=bo
 obtain⟨bG,aA,hoke667⟩:=m.evD aU
 have hsm669:((fiv.getD 1 default).deps).length*8≤140737488355328:=aA.small
 have bH:=cR.cells bG (m.foot (ne_of_lt aU))
 exact zi (k:=10) mT kT rfl (aT 22 dc) bH dR
 intro k671 vals w672 hk675 hW674 cS
 refine zJ rfl rfl (cS 16 dc) (fun _=>?_) yqd
 exact mV e dR
 intro fc vals w678 cT cU aV
 have aj:fc∈[3]:=cT
 simp only[yF]at aj
 subst aj
 obtain⟨g,p,hS682⟩:=cU
 refine zJ rfl rfl (aV 16 dc) (fun _=>?_) yqd
 have cV:2<fiv.length:=bo
 exact zg (k:=10) (i:=2) lT kT (aV 24 dc) m.sl rfl cV dR
 intro fd vals w687 cW cX aW
 have ak:fd∈[3]:=cW
 simp only[yF]at ak
 subst ak
 obtain⟨g,p,cY⟩:=cX
 refine zJ rfl rfl (aW 16 dc) (fun _=>?_) yqd
 have aX:2<fiv.length:=bo
 obtain⟨bI,aB,hoke694⟩:=m.evD aX
 have hsm696:((fiv.getD 2 default).deps).length*8≤140737488355328:=aB.small
 have bJ:=cY.cells bI (m.foot (ne_of_lt aX))
 exact zi (k:=10) mT kT rfl (aW 25 dc) bJ dR
 intro k698 vals w699 hk702 hW701 cZ
 refine zJ rfl rfl (cZ 16 dc) (fun _=>?_) yqd
 exact mV e dR
 intro fe vals w705 da db aY
 have al:fe∈[3]:=da
 simp only[yF]at al
 subst al
 obtain⟨g,p,hS709⟩:=db
 refine zJ rfl rfl (aY 16 dc) (fun _=>?_) yqd
 have dd:4<fiv.length:=bo
 exact zg (k:=10) (i:=4) lT kT (aY 27 dc) m.sl rfl dd dR
 intro ff vals w714 de df aZ
 have am:ff∈[3]:=de
 simp only[yF]at am
 subst am
 obtain⟨g,p,dg⟩:=df
 refine zJ rfl rfl (aZ 16 dc) (fun _=>?_) yqd
 have ba:4<fiv.length:=bo
 obtain⟨bK,aC,hoke721⟩:=m.evD ba
 have hsm723:((fiv.getD 4 default).deps).length*8≤140737488355328:=aC.small
 have bL:=dg.cells bK (m.foot (ne_of_lt ba))
 exact zi (k:=10) mT kT rfl (aZ 28 dc) bL dR
 intro fg vals w726 dh di C
 have an:fg∈[3]:=dh
 simp only[yF]at an
 subst an
 obtain⟨g,p,dj⟩:=di
 have e732:=C 20 dc
 have e733:=C 23 dc
 have e734:=C 26 dc
 have e735:=C 29 dc
 refine zJ rfl rfl (C 16 dc) (fun _=>?_) yqd
 have e736:=C 16 dc
 refine(zD (k:=10) (parts':=[(0,.agg ((fiv.getD 0 default).cells bW).toArray),(1,.agg ((fiv.getD 1 default).cells fr).toArray),(2,.agg ((fiv.getD 2 default).cells fu).toArray),(3,.agg ((fiv.getD 4 default).cells fv).toArray)]) (c:=#[Iv ((fiv.getD 0 default).origin),Iv ((fiv.getD 0 default).seq),Iv ((fiv.getD 0 default).lam),bW,Iv ((fiv.getD 0 default).typ),Iv ((fiv.getD 0 default).agg),Iv ((fiv.getD 0 default).field),Iv ((fiv.getD 0 default).op),Iv ((fiv.getD 0 default).arg),Iv ((fiv.getD 0 default).key),Iv ((fiv.getD 1 default).origin),Iv ((fiv.getD 1 default).seq),Iv ((fiv.getD 1 default).lam),fr,Iv ((fiv.getD 1 default).typ),Iv ((fiv.getD 1 default).agg),Iv ((fiv.getD 1 default).field),Iv ((fiv.getD 1 default).op),Iv ((fiv.getD 1 default).arg),Iv ((fiv.getD 1 default).key),Iv ((fiv.getD 2 default).origin),Iv ((fiv.getD 2 default).seq),Iv ((fiv.getD 2 default).lam),fu,Iv ((fiv.getD 2 default).typ),Iv ((fiv.getD 2 default).agg),Iv ((fiv.getD 2 default).field),Iv ((fiv.getD 2 default).op),Iv ((fiv.getD 2 default).arg),Iv ((fiv.getD 2 default).key),Iv ((fiv.getD 4 default).origin),Iv ((fiv.getD 4 default).seq),Iv ((fiv.getD 4 default).lam),fv,Iv ((fiv.getD 4 default).typ),Iv ((fiv.getD 4 default).agg),Iv ((fiv.getD 4 default).field),Iv ((fiv.getD 4 default).op),Iv ((fiv.getD 4 default).arg),Iv ((fiv.getD 4 default).key)]) lT kT vT dc (xU ⟨rfl,(C 20 dc),rfl,(C 23 dc),rfl,(C 26 dc),rfl,(C 29 dc),zl⟩) kr ?_)
 intro w743 h dk
 exact fun B D s=>⟨(exiA h (zA ((s 6 dc).trans g) (zA ((s 13 dc).trans p) (zA D (dj.new dk))))),zl⟩
 intro fh vals w746 dl dm R
 have ao:fh∈[7]:=dl
 simp only[yF]at ao
 subst ao
 obtain⟨h,g,p,z,P⟩:=dm
 have e752:=R 17 dc
 refine zJ rfl rfl (R 16 dc) (fun _=>?_) yqd
 have e753:=R 16 dc
 have bb:0<fiv.length:=bo
 obtain⟨bM,S,br⟩:=m.evD bb
 have hsm757:((fiv.getD 0 default).deps).length*8≤140737488355328:=S.small
 have hcw758:=P.cells bM (m.foot (ne_of_lt bb))
 have bc:1<fiv.length:=bo
 obtain⟨bN,T,bs⟩:=m.evD bc
 have hsm761:((fiv.getD 1 default).deps).length*8≤140737488355328:=T.small
 have hcw762:=P.cells bN (m.foot (ne_of_lt bc))
 have bd:2<fiv.length:=bo
 obtain⟨bO,U,bt⟩:=m.evD bd
 have hsm765:((fiv.getD 2 default).deps).length*8≤140737488355328:=U.small
 have hcw766:=P.cells bO (m.foot (ne_of_lt bd))
 have be:4<fiv.length:=bo
 obtain⟨bP,V,bu⟩:=m.evD be
 have hsm769:((fiv.getD 4 default).deps).length*8≤140737488355328:=V.small
 have hcw770:=P.cells bP (m.foot (ne_of_lt be))
 have bf:Sep _ _ ((RowE (α:=Ev) (shr E t) 55 (Iy h 4 4) [(fiv.getD 0 default),(fiv.getD 1 default),(fiv.getD 2 default),(fiv.getD 4 default)])::_) _:=Sep.blkRow (src:=(shr E t)) (l:=[(fiv.getD 0 default),(fiv.getD 1 default),(fiv.getD 2 default),(fiv.getD 4 default)]) (css:=[(fiv.getD 0 default).cells (zP t (sb e) (so e+0*10+3)),(fiv.getD 1 default).cells (zP t (sb e) (so e+1*10+3)),(fiv.getD 2 default).cells (zP t (sb e) (so e+2*10+3)),(fiv.getD 4 default).cells (zP t (sb e) (so e+4*10+3))]) P rfl ⟨fun _ _=>⟨_,rfl,S,br⟩,fun _ _=>⟨_,rfl,T,bs⟩,fun _ _=>⟨_,rfl,U,bt⟩,fun _ _=>⟨_,rfl,V,bu⟩,zl⟩ yqa (show 4≤maxLen by decide)
 have dp:=bf.r0
 have hr772s:_*96≤_:=dp.2
 obtain⟨G773,dq,bg,dr,ds⟩:=bf.lend
 have ap:=RowE.rdB dq bg
 have hrd779s:_*96≤_:=ap.small
 refine(zV (f:=13) (vals:=[Ix x 0,(Iy h 4 4)]) (cap:=[]) rfl (yM ⟨(R 17 dc),z,zl⟩) rT (ZI (l:=[(fiv.getD 0 default),(fiv.getD 1 default),(fiv.getD 2 default),(fiv.getD 4 default)]) (vl:=(Iy h 4 4)) ap (zS (zS hKN Q) bg) dr WH Wa yqg yqg yqg) ?_)
 rintro _ w780 ⟨rfl,dt⟩
 have du:=ds _ _ dt
 exact fun B D s=>⟨(exiA h (zA ((s 6 dc).trans g) (zA ((s 13 dc).trans p) (zA ((s 30 dc).trans z) (zA D du))))),zl⟩
 intro fi vals w784 dv dw dx
 have aq:fi∈[15]:=dv
 simp only[yF]at aq
 subst aq
 obtain⟨h,g,p,z,A,hS788⟩:=dw
 refine zJ rfl rfl (dx 16 dc) (fun _=>?_) yqd
 have dy:(!decide (((([(fiv.getD 0 default),(fiv.getD 1 default),(fiv.getD 2 default),(fiv.getD 4 default)].length-yL 2 [(fiv.getD 0 default),(fiv.getD 1 default),(fiv.getD 2 default),(fiv.getD 4 default)] (fiv.take 4)):Nat):Int)=2))=false:=by decide+kernel
 exact yx (k:=.i64) (a:=((([(fiv.getD 0 default),(fiv.getD 1 default),(fiv.getD 2 default),(fiv.getD 4 default)].length-yL 2 [(fiv.getD 0 default),(fiv.getD 1 default),(fiv.getD 2 default),(fiv.getD 4 default)] (fiv.take 4)):Nat):Int)) (b:=2) A rfl (fun B D _=>⟨rfl,D.trans (congrArg Value.bool dy)⟩)
 intro k804 vals w805 hk808 hW807 dz
 refine zJ rfl rfl (dz 34 dc) (fun _=>?_) yqd
 exact mV (Ix x 0) dR
 intro fj vals w811 dB bh F
 have ar:fj∈[15,47]:=dB
 simp only[yF]at ar
 rcases ar with rfl|rfl
 obtain⟨h,g,p,z,A,dD⟩:=bh
 have e817:=F 35 dc
 refine zJ rfl rfl (F 34 dc) (fun _=>?_) yqd
 have e818:=F 34 dc
 refine(zV (f:=31) (vals:=[Ix x 0,Iv 0]) (cap:=[]) rfl (yM ⟨(F 35 dc),rfl,zl⟩) pY (Uz (q:=0) dc (dD.mv1) yqg) ?_)
 rintro y w822 ⟨_,rfl,bi⟩
 have dE:=bi.r1
 have hr824s:_*24≤_:=dE.2
 exact fun B D s=>⟨(exiA h (exiA y (zA ((s 6 dc).trans g) (zA ((s 13 dc).trans p) (zA ((s 30 dc).trans z) (zA ((s 31 dc).trans A) (zA D bi))))))),zl⟩
 obtain⟨h,u,g,p,z,A,L,dF⟩:=bh
 have e827:=F 35 dc
 refine zJ rfl rfl (F 34 dc) (fun _=>?_) yqd
 have e828:=F 34 dc
 refine(zV (f:=31) (vals:=[Ix x 0,Iv 0]) (cap:=[]) rfl (yM ⟨(F 35 dc),rfl,zl⟩) pY (Uz (q:=0) dc (dF.mv2) yqg) ?_)
 rintro y w832 ⟨_,rfl,bj⟩
 have dG:=bj.r1
 have hr834s:_*24≤_:=dG.2
 exact fun B D s=>⟨(exiA h (exiA y (exiA u (zA ((s 6 dc).trans g) (zA ((s 13 dc).trans p) (zA ((s 30 dc).trans z) (zA ((s 31 dc).trans A) (zA D (zA ((s 38 dc).trans L) (bj.mv2)))))))))),zl⟩
 intro k836 vals w837 hk840 hW839 dH
 refine zJ rfl rfl (dH 34 dc) (fun _=>?_) yqd
 have ok842:Row.Ok (⟨0,23,4⟩:Row):=⟨(show InR (0)from dc),(show InR (23)from dc),(show InR (4)from dc)⟩
 exact zX (parts':=[(1,Iv 23),(2,Iv 4)]) (v:=.agg ((⟨0,23,4⟩:Row).cells).toArray) rfl (by simp+zetaDelta [Instr.build,Instr.fill,go_sem,Zc]) dR
 intro fk vals w844 dI bk H
 have au:fk∈[15,31]:=dI
 simp only[yF]at au
 rcases au with rfl|rfl
 obtain⟨h,g,p,z,A,dJ⟩:=bk
 have e850:=H 37 dc
 refine zJ rfl rfl (H 34 dc) (fun _=>?_) yqd
 have e851:=H 34 dc
 refine(zD (k:=3) (parts':=[(0,.agg ((⟨0,23,4⟩:Row).cells).toArray)]) (c:=((⟨0,23,4⟩:Row).cells).toArray) nT pT qY dc (xU ⟨rfl,(H 37 dc),zl⟩) kr ?_)
 intro w855 u dK
 exact fun B D s=>⟨(exiA h (exiA u (zA ((s 6 dc).trans g) (zA ((s 13 dc).trans p) (zA ((s 30 dc).trans z) (zA ((s 31 dc).trans A) (zA D (dJ.new dK)))))))),zl⟩
 obtain⟨h,y,g,p,z,A,M,dL⟩:=bk
 have e859:=H 37 dc
 refine zJ rfl rfl (H 34 dc) (fun _=>?_) yqd
 have e860:=H 34 dc
 refine(zD (k:=3) (parts':=[(0,.agg ((⟨0,23,4⟩:Row).cells).toArray)]) (c:=((⟨0,23,4⟩:Row).cells).toArray) nT pT qY dc (xU ⟨rfl,(H 37 dc),zl⟩) kr ?_)
 intro w864 u dM
 exact fun B D s=>⟨(exiA h (exiA y (exiA u (zA ((s 6 dc).trans g) (zA ((s 13 dc).trans p) (zA ((s 30 dc).trans z) (zA ((s 31 dc).trans A) (zA ((s 36 dc).trans M) (zA D (dL.new dM)))))))))),zl⟩
 intro fl vals w867 dN dO bl
 have av:fl∈[63]:=dN
 simp only[yF]at av
 subst av
 obtain⟨h,y,u,g,p,z,A,M,L,dP⟩:=dO
 refine zJ rfl rfl (bl 34 dc) (fun _=>?_) yqd
 have e873:=bl 34 dc
 obtain⟨G875,dQ,hB878,dS,dU⟩:=(dP.mv2).lend
 have aw:=RowE.rd dQ
 have hrd881s:_*24≤_:=aw.small
 have dV:Row.Ok (⟨0,23,4⟩:Row):=⟨(show InR (0)from dc),(show InR (23)from dc),(show InR (4)from dc)⟩
 have bm:Sep _ _ ((RowE (α:=Row) own 70 (Iy u 1 1) [(⟨0,23,4⟩:Row)])::_) _:=Sep.blkRow (src:=own) (l:=[(⟨0,23,4⟩:Row)]) (css:=[(⟨0,23,4⟩:Row).cells]) dS rfl ⟨fun _ _=>⟨rfl,dV⟩,zl⟩ yqa (show 1≤maxLen by decide)
 have dW:=bm.r0
 have hr884s:_*24≤_:=dW.2
 obtain⟨G885,dX,dY,dZ,ea⟩:=bm.lend
 have ax:=RowE.rd dX
 have hrd891s:_*24≤_:=ax.small
 refine(zV (f:=30) (vals:=[y,(Iy u 1 1)]) (cap:=[]) rfl (yM ⟨M,L,zl⟩) Tryz.call30 (Vu (a:=(xd dC [(fiv.getD 0 default),(fiv.getD 1 default),(fiv.getD 2 default),(fiv.getD 4 default)] 0)) (va:=y) (b:=[(⟨0,23,4⟩:Row)]) (vb:=(Iy u 1 1)) (zS aw dY) ax dZ) ?_)
 rintro _ w892 ⟨rfl,eb⟩
 have ec:=ea _ _ eb
 have ed:=dU _ _ ec
 exact fun B D s=>⟨(exiA h (exiA y (exiA u (zA ((s 6 dc).trans g) (zA ((s 13 dc).trans p) (zA ((s 30 dc).trans z) (zA ((s 31 dc).trans A) (zA ((s 36 dc).trans M) (zA ((s 38 dc).trans L) (zA D ed)))))))))),zl⟩
 intro fm vals w897 ee ef eg
 have ay:fm∈[127]:=ee
 simp only[yF]at ay
 subst ay
 obtain⟨h,y,u,g,p,z,A,M,L,bn,hS901⟩:=ef
 refine zJ rfl rfl (eg 34 dc) (fun _=>?_) yqd
 have eh:(!(decide ((xd dC [(fiv.getD 0 default),(fiv.getD 1 default),(fiv.getD 2 default),(fiv.getD 4 default)] 0)=[(⟨0,23,4⟩:Row)])))=false:=by decide+kernel
 exact yH (a:=decide ((xd dC [(fiv.getD 0 default),(fiv.getD 1 default),(fiv.getD 2 default),(fiv.getD 4 default)] 0)=[(⟨0,23,4⟩:Row)])) bn (fun B D _=>⟨rfl,D.trans (congrArg Value.bool eh)⟩)
 intro vals w911 ei ej
 obtain⟨h,y,u,g,p,z,A,M,L,bn,ek⟩:=ei
 have fn:=ej 41 dc
 refine yi (kv:=[(0,.bool false),(3,.agg #[(Iy es 1 1),(Iy aE 1 1)]),(4,Ix x 0),(1,Ix x 0),(5,e),(2,e),(47,.bool false)]) ⟨rfl,rfl,rfl,rfl,rfl,rfl,(by exact fn),zl⟩ (fun ρw911=>(zb (ze rfl (zr (za (zG kr (st (mV (Ix x 0) (st (mV e ?_))))))))))
 refine st (Yo (j:=2) (k:=10) (n:=fiv.length) lT kT rfl m.sl rfl bo ?_)
 have bQ:=RdS.sub_hi (j:=2) m (by first|omega|(simp only[List.length_drop,List.length_take];omega))
 have h916s:_*96≤_:=bQ.small
 refine st (cL rT (ZI (l:=fiv.take 2) (vl:=(Ze 10 e 0 2)) bQ (zS hKN Q) (ek.mv2) WH Wa yqg yqg yqg) ?_)
 rintro _ w918 ⟨rfl,el⟩
 refine st (zQ (k:=.i64) (a:=((((fiv.take 2).length-yL 2 (fiv.take 2) [(fiv.getD 0 default),(fiv.getD 1 default),(fiv.getD 2 default),(fiv.getD 4 default)]):Nat):Int)) (b:=0) rfl rfl ?_)
 have bR:(decide (((((fiv.take 2).length-yL 2 (fiv.take 2) [(fiv.getD 0 default),(fiv.getD 1 default),(fiv.getD 2 default),(fiv.getD 4 default)]):Nat):Int)=0))=true:=yqg
 rw[bR]
 refine st (mV (.bool true) (sty rfl rfl (mV (Ix x 0) (sty rfl rfl (mV e ?_)))))
 refine sty rfl rfl (Yo (j:=1) (k:=10) (n:=fiv.length) lT kT rfl m.sl rfl bo ?_)
 have bS:=RdS.sub_hi (j:=1) m (by first|omega|(simp only[List.length_drop,List.length_take];omega))
 have h921s:_*96≤_:=bS.small
 refine sty rfl rfl (cL rT (ZI (l:=fiv.take 1) (vl:=(Ze 10 e 0 1)) bS (zS hKN Q) el WH Wa yqg yqg yqg) ?_)
 rintro _ w922 ⟨rfl,em⟩
 refine sty rfl rfl (zQ (k:=.i64) (a:=((((fiv.take 1).length-yL 2 (fiv.take 1) (fiv.take 2)):Nat):Int)) (b:=1) rfl rfl ?_)
 have bT:(decide (((((fiv.take 1).length-yL 2 (fiv.take 1) (fiv.take 2)):Nat):Int)=1))=true:=yqg
 rw[bT]
 refine st (yE (v:=.bool true) rfl rfl (st (mV (.bool true) (sty rfl rfl (mV (Ix x 0) (sty rfl rfl (cL rT (ZI (l:=([]:List Ev)) (vl:=(Iz)) (RdS.nil _ _) (zS hKN Q) em WH Wa yqg yqg yqg) ?_)))))))
 rintro _ w925 ⟨rfl,en⟩
 refine sty rfl rfl (zQ (k:=.i64) (a:=(((([]:List Ev).length-yL 2 ([]:List Ev) (fiv.take 1)):Nat):Int)) (b:=0) rfl rfl ?_)
 have bU:(decide ((((([]:List Ev).length-yL 2 ([]:List Ev) (fiv.take 1)):Nat):Int)=0))=true:=yqg
 rw[bU]
 refine st (yE (v:=.bool true) rfl rfl (st (mV (.bool true) (sty rfl rfl (mV (Ix x 0) (sty rfl rfl (cL Tryz.call16 (WX en) ?_)))))))
 rintro v928 fo ⟨_,rfl,bp⟩
 have bq:=bp.r1
 have hr931s:_*120≤_:=bq.2
 refine sty rfl rfl (zF (n:=(zq dC ([]:List Ev)).length) Tryz.underlying42 rfl bq.1 (sty rfl rfl (zQ (k:=.i64) (a:=(((zq dC ([]:List Ev)).length:Nat):Int)) (b:=0) rfl rfl ?_)))
 have bV:(decide ((((zq dC ([]:List Ev)).length:Nat):Int)=0))=true:=yqg
 rw[bV]
 refine st (yE (v:=.bool true) rfl rfl (st (aS (.bool true) (zb (zp (zU Tryz.results6 (show _=(.bool true:Value)from rfl) ?_))))))
 have eo:=eQ _ _ bp
 have er:Sep G W Rs fo:=eo.sel 8 [] (xW _ _) rfl rfl
 refine⟨rfl,er⟩
section
variable {U:List Ev}{every k q:Nat}
end
end
section
open Go.Proofs Go.RowKit
end
section
open Go.RowKit
structure TypS where
 v:Value
 deriving Inhabited
structure TypS.Ok (e:TypS):Prop where
 one:e.v.oneCell'=true
def TypS.cells (e:TypS):List Value:=[e.v]
instance:Rep TypS where
 k:=1
 rd _ _ cs x:=cs=x.cells∧x.Ok
 bytes:=24
 bpos:=by decide
 kpos:=by decide
 len h:=by rw[h.1];rfl
 one h:=by rw[h.1];exact yo ⟨h.2.one,trivial⟩
 mono h _:=h
instance:Flat TypS:=⟨fun h=>h⟩
def FldRows (Ti:TypeId):List TypS→List Typ→List HP
 |s::sh,c::l=>RowE (α:=Fld) own Ti s.v c.fields::FldRows Ti sh l
 |_,_=>[]
theorem FldRows.get {Ti:TypeId}: ∀{sh:List TypS} {l:List Typ} {i:Nat},i<sh.length→i<l.length→(FldRows Ti sh l)[i]? =some (RowE (α:=Fld) own Ti (sh.getD i default).v (l.getD i default).fields)
 |_::_,_::_,0,_,_=>rfl
 |_::_,_::_,i+1,h1,h2=>by
  have:=FldRows.get (Ti:=Ti) (i:=i) (by simpa using h1) (by simpa using h2)
  simpa[FldRows]using this
 |[],_,i,h,_=>absurd h (Nat.not_lt_zero i)
 |_::_,[],i,_,h=>absurd h (Nat.not_lt_zero i)
theorem FldRows.set {Ti:TypeId}: ∀{sh:List TypS} {l:List Typ} (i:Nat) (c:Typ),FldRows Ti sh (l.set i c)=if i<sh.length∧i<l.length then(FldRows Ti sh l).set i (RowE (α:=Fld) own Ti (sh.getD i default).v c.fields)else FldRows Ti sh l
 |[],[],_,_=>by simp[FldRows]
 |_::_,_::_,0,_=>by simp[FldRows]
 |_::sh,_::l,i+1,c=>by
  simp only[List.set_cons_succ,FldRows]
  rw[FldRows.set i c]
  by_cases h:i<sh.length∧i<l.length
  ·rw[if_pos h,if_pos (by simpa using h)];simp
  ·rw[if_neg h,if_neg (by simpa using h)]
 |[],_::_,i,_=>by cases i<;>simp[FldRows]
 |_::_,[],_,_=>by simp[FldRows]
theorem FldRows.snoc {Ti:TypeId}: ∀{sh:List TypS} {l:List Typ} (s:TypS) (c:Typ),sh.length=l.length→FldRows Ti (sh++[s]) (l++[c])=FldRows Ti sh l++[RowE (α:=Fld) own Ti s.v c.fields]
 |[],[],_,_,_=>rfl
 |_::sh,_::l,s,c,h=>by simp only[List.cons_append,FldRows];rw[FldRows.snoc s c (by simpa using h)]
 |[],_::_,_,_,h=>by simp at h
 |_::_,[],_,_,h=>by simp at h
section
variable {G:Nat→Prop}{W w:World}{As:List HP}{T Ti:TypeId}{v:Value}{sh:List TypS}{l:List Typ}
def TypW (v:Value)(T Ti:TypeId)(l:List Typ):HP:=Ex1 fun sh:List TypS=>Wu (sh.length=l.length) (Star [RowE (α:=TypS) own T v sh,Star (FldRows Ti sh l)])
theorem TypW.open (h:Sep G W (TypW v T Ti l::As) w): ∃sh:List TypS,sh.length=l.length∧Sep G W (RowE (α:=TypS) own T v sh::Star (FldRows Ti sh l)::As) w:=by
 obtain⟨sh,h1⟩:=h.openEx
 obtain⟨h2,h3⟩:=h1.openAnd
 exact⟨sh,h2,h3.openStar⟩
theorem TypW.mk (h:Sep G W (RowE (α:=TypS) own T v sh::Star (FldRows Ti sh l)::As) w)(hn:sh.length=l.length):Sep G W (TypW v T Ti l::As) w:=
 Sep.closeEx (A:=fun sh:List TypS=>Wu (sh.length=l.length) (Star [RowE (α:=TypS) own T v sh,Star (FldRows Ti sh l)])) sh (Sep.closeAnd hn (Sep.closeStar (Bs:=[RowE (α:=TypS) own T v sh,Star (FldRows Ti sh l)]) h))
theorem TypW.rowP {f:Nat→Prop}(h:(TypW v T Ti l).p w f):(RowE (α:=Typ) own T v l).p w f:=by
 obtain⟨sh,hlen,hA⟩:=h
 obtain⟨fs,q1,q2⟩:=hA
 obtain⟨⟨css,hE,hown,hrow,hsm⟩,hf0⟩:=q1 0 _ rfl
 obtain⟨hSt,hf1⟩:=q1 1 _ rfl
 have q2':=q2 0 1 (by simp) (by simp) (by simp)
 have hcl:=hE.length
 refine⟨css,EP.of_at (by omega) (fun i h1 h2=>?_),by rw[←hlen];exact hown,fun b hb=>(hf0 b (hrow b hb)).1,by rw[←hlen];exact hsm⟩
 have hs:i<sh.length:=by omega
 have hcs:css[i]=sh[i].cells:=(EP.at2 hE i h1 hs).1
 have hr:(RowE (α:=Fld) own Ti (sh.getD i default).v (l.getD i default).fields).p w (fs 1):=Star.at_ hSt (FldRows.get hs h2)
 have hsoft:=RowE.soft hr
 rw[zI _ hs,zI _ h2]at hsoft
 refine⟨sh[i].v,?_,hsoft.mono (fun b hb hlt=>⟨rfl,⟨(hf1 b hb.1).1,fun e=>q2' b (hrow b e) hb.1⟩,hb.2⟩),⟨⟩⟩
 rw[hcs];rfl
theorem TypW.row (h:Sep G W (TypW v T Ti l::As) w):Sep G W (RowE (α:=Typ) own T v l::As) w:=h.impl (i:=0) rfl (fun _=>TypW.rowP)
theorem Sep.typSl (h:Sep G W As w){i:Nat}(hi:As[i]? =some (TypW v T Ti l)):IsSl v l.length:=by
 obtain⟨f,h1,_⟩:=h.get hi
 exact RowE.isSl (TypW.rowP h1)
theorem TypW.snoc {vf:Value}{c:Typ}(hlen:sh.length=l.length)(h:Sep G W (RowE (α:=TypS) own T v (sh++[⟨vf⟩])::Star (FldRows Ti sh l)::RowE (α:=Fld) own Ti vf c.fields::As) w):Sep G W (TypW v T Ti (l++[c])::As) w:=by
 have h1:Sep G W (RowE (α:=Fld) own Ti vf c.fields::Star (FldRows Ti sh l)::RowE (α:=TypS) own T v (sh++[⟨vf⟩])::As) w:=h.sel 3 [2,1,0] (Nat.le_add_left _ _) rfl rfl
 have h2:=h1.snocStar
 rw[←FldRows.snoc ⟨vf⟩ c hlen]at h2
 exact TypW.mk (h2.sel 2 [1,0] (Nat.le_add_left _ _) rfl rfl) (by rw[List.length_append,List.length_append,hlen];rfl)
theorem TypW.nil (h:Sep G W As w):Sep G W (TypW (.slice none 0 0) T Ti []::As) w:=TypW.mk (sh:=[]) (h.nilStar.rowNil own T) rfl
end
end
section
open Go.Proofs Go.RowKit
theorem Qq {f:Fld}{df0:Value}(hdf0:RdS W G df0 f.moves)(of:f.Ok)(hS0:Sep G W Rs w):Ret Tryz.prog 61 [.agg (f.cells df0).toArray] w (fun r w'=> ∃(v:Value),r=(.agg (f.cells v).toArray:Value)∧Sep G W ((RowE (α:=Mv) own 90 v f.moves)::Rs) w'):=by
 have hdf0s:_*32≤_:=hdf0.small
 refine zk Tryz.func61 rfl rfl ?_
 refine za (R0 fun _=>st (zW rfl ?_))
 intro w3 b2 H
 refine st (zB uR ?_)
 intro w7 x I
 refine zb (za (R0 fun _=>st (aS Iz (zb (za (za (R0 fun _=>st (aS (Iv 0) (zb (zu ?_))))))))))
 have J:Sep _ _ ((RowE (α:=Mv) own 90 Iz [])::_) _:=((hS0.new H).new I).rowNil own 90
 refine yd (fun mq σ K=> ∃k vo ρ,mq=f.moves.length-k∧σ=yg ρ [(1,Ix b2 0),(2,Ix x 0),(4,Iw k),(3,vo)]∧(k≤f.moves.length)∧Sep G W ((RowE own 90 vo (f.moves.take k))::(Blk x #[Iv 0,Iv 0,.bool false,(Iz)] 87)::(Blk b2 (f.cells df0).toArray 87)::Rs) K) ⟨0,(Iz),_,rfl,sSf,yc _,J⟩ ?_
 rintro m11 σ12 w10 ⟨k,vo,ρl1,rfl,rfl,hkk,d⟩
 have y:=d.r0
 have hr14s:_*32≤_:=y.2
 refine za (za (R0 fun _=>st (mV (Iw k) (st (yS rfl (st (lD df0 rY rfl (zd (d.b2) rfl) (st (zF kY rfl hdf0.sl (st (zL rfl rfl (zb ?_))))))))))))
 cases e:decide (((k:Nat):Int)<((f.moves.length:Nat):Int))
 have e:=fD e
 have hkn:k=f.moves.length:=by omega
 rw[hkn,List.take_of_length_le (Nat.le_refl f.moves.length)]at d
 have g:=d.r0
 have hr16s:_*32≤_:=g.2
 refine ze rfl (ye (zT (za (R0 fun _=>st (mV vo (st (yS rfl (stn (ym (v:=vo) Tryz.sizeOf85 rfl rfl (d.b2) g.1.one rfl rfl ?_)))))))))
 intro w17 z
 have ok19:Fld.Ok f:=⟨(show InR (f.kind)from of.kind),(show InR (f.policy)from of.policy)⟩
 have h:=d.pt2 z
 refine zb (za (R0 fun _=>st (zi lY oT rfl rfl (zo (h.b2)) (stn (zw (v:=.agg (f.cells vo).toArray) oT rfl rfl (h.b1) (yo ⟨rfl,rfl,rfl,g.1.one,zl⟩) yqc rfl ?_)))))
 intro w21 A
 have l:=h.pt1 A
 refine zb (zp (ZY Tryz.results61 lY oT rfl rfl (zo (l.b1)) ?_))
 refine⟨vo,rfl,(l.s3_a)⟩
 have e:=tD e
 refine zf rfl (zr (za (zu (R0 fun _=>st (mV vo (st (yS rfl (st (lD df0 rY rfl (zd (d.b2) rfl) (st (mV (Iw k) ?_)))))))))))
 have B:k<f.moves.length:=bo
 refine st (zg (k:=4) kY mY rfl hdf0.sl rfl B ?_)
 have m:k<f.moves.length:=bo
 obtain⟨q,o⟩:=hdf0.mvD m
 have s:=d.cells q (hdf0.foot (ne_of_lt m))
 refine st (zi Tryz.isAgg90 mY rfl rfl s (st (zD (c:=((f.moves.gd k).cells).toArray) kY mY Tryz.zeroValue90 dc rfl kr ?_)))
 intro w31 b30 C
 have p:=d.new C
 have t:=p.b0
 refine st (yq (src:=own) (bytes:=32) (x1:=(f.moves.gd k)) ((p.s4_bcd).emp1) zbL rfl rfl t (fun _ _ _=>(show _ from⟨rfl,o⟩)) yqb rfl ?_)
 intro u w33 j
 have D:=j.r0
 have hr39s:_*32≤_:=D.2
 refine st (aS u (zb (R0 fun _=>st (mV (Iw k) ?_))))
 have E:InR ((k+1:Nat):Int):=bo
 refine st (zR (r:=((k+1:Nat):Int)) rfl rfl (by rw[show(((k:Nat):Int)+1:Int)=((k+1:Nat):Int)from bo];exact zz E) (st (aS (Iw (k+1)) (zb ?_))))
 have F:(f.moves.take (k+1))=(f.moves.take k)++[(f.moves.gd k)]:=(List.take_getD om)
 rw[←F]at j
 exact⟨_,by omega,k+1,u,_,rfl,sSf,by omega,j⟩
theorem Wm {d:Dcl}{dd0:Value}(hdd0:RdS W G dd0 d.types){dd1:Value}(hdd1:RdS W G dd1 d.projs)(od:d.Ok)(hS0:Sep G W Rs w):Ret Tryz.prog 39 [.agg (d.cells dd0 dd1).toArray] w (fun r w'=> ∃(v1:Value) (v2:Value),r=(.agg (d.cells v1 v2).toArray:Value)∧Sep G W ((TypW v1 83 87 d.types)::(RowE (α:=Prj) own 73 v2 d.projs)::Rs) w'):=by
 have hdd0s:_*24≤_:=hdd0.small
 have hdd1s:_*40≤_:=hdd1.small
 refine zk (args:=[.agg (d.cells dd0 dd1).toArray]) Tryz.func39 rfl rfl ?_
 refine za (R0 fun _=>st (zW (v:=.agg (d.cells dd0 dd1).toArray) rfl ?_))
 intro w3 b2 cu
 refine st (zB tR ?_)
 intro w7 E cv
 refine zb (za (R0 fun _=>st (zB tR ?_)))
 intro w11 u cw
 refine zb (za (za (R0 fun _=>st (aS (Iv 0) (zb (zu ?_))))))
 have cg:Sep _ _ ((TypW Iz 83 87 [])::_) _:=TypW.nil (T:=83) (Ti:=87) (((hS0.new cu).new cv).new cw)
 refine yd (fun mq σ s=> ∃(k:Nat) (vo:Value) (ρ:Env),mq=d.types.length-k∧σ=yg ρ [(1,Ix b2 0),(2,Ix E 0),(3,Ix u 0),(4,Iw k)]∧(k≤d.types.length)∧Sep G W ((TypW vo 83 87 (d.types.take k))::(Blk u #[vo,(Iz)] 25)::(Blk E #[(Iz),(Iz)] 25)::(Blk b2 (d.cells dd0 dd1).toArray 25)::Rs) s) ⟨0,(Iz),_,rfl,sSf,yc _,cg⟩ ?_
 rintro m15 σ16 w14 ⟨k,vo,ρl1,rfl,rfl,hkk,M⟩
 refine za (za (R0 fun _=>st (mV (Iw k) (st (yD rfl (st (lD dd0 mR rfl (zd (M.b3) rfl) (st (zF (n:=d.types.length) sT rfl hdd0.sl (st (zL (k:=.i64) (a:=((k:Nat):Int)) (b:=((d.types.length:Nat):Int)) rfl rfl (zb ?_))))))))))))
 cases N:decide (((k:Nat):Int)<((d.types.length:Nat):Int))
 have N:=fD N
 have hkn:k=d.types.length:=by omega
 rw[hkn,List.take_of_length_le (Nat.le_refl d.types.length)]at M
 refine ze rfl (ye (zT (za (za (R0 fun _=>st (aS (Iv 0) (zb (zu ?_))))))))
 have ch:Sep _ _ ((RowE (α:=Prj) own 73 Iz ([]:List Prj))::_) _:=M.rowNil own 73
 refine yd (fun mq σ s=> ∃(k:Nat) (vp:Value) (ρ:Env),mq=d.projs.length-k∧σ=yg ρ [(1,Ix b2 0),(2,Ix E 0),(3,Ix u 0),(7,Iw k)]∧(k≤d.projs.length)∧Sep G W ((RowE (α:=Prj) own 73 vp (d.projs.take k))::(TypW vo 83 87 d.types)::(Blk u #[vo,vp] 25)::(Blk E #[(Iz),(Iz)] 25)::(Blk b2 (d.cells dd0 dd1).toArray 25)::Rs) s) ⟨0,(Iz),_,rfl,sSf,yc _,ch⟩ ?_
 rintro m21 σ22 w20 ⟨k,vp,ρl2,rfl,rfl,hkk,y⟩
 have ci:=y.r0
 have hr24s:_*40≤_:=ci.2
 refine za (za (R0 fun _=>st (mV (Iw k) (st (xO rfl (st (lD dd1 nR rfl (zd (y.b4) rfl) (st (zF (n:=d.projs.length) kR rfl hdd1.sl (st (zL (k:=.i64) (a:=((k:Nat):Int)) (b:=((d.projs.length:Nat):Int)) rfl rfl (zb ?_))))))))))))
 cases O:decide (((k:Nat):Int)<((d.projs.length:Nat):Int))
 have O:=fD O
 have hkn:k=d.projs.length:=by omega
 rw[hkn,List.take_of_length_le (Nat.le_refl d.projs.length)]at y
 have aM:=y.r0
 have hr26s:_*40≤_:=aM.2
 refine ze rfl (ye (zT (za (R0 fun _=>st (zi (k:=2) wR tT rfl rfl (zo (y.b2)) (stn (zw (v:=.agg (d.cells vo vp).toArray) (c':=(d.cells vo vp).toArray) tT rfl rfl (y.b3) (yo ⟨(y.typSl (i:=1) rfl).one,aM.1.one,zl⟩) yqc rfl ?_)))))))
 intro cx cj
 have aN:=y.pt3 cj
 refine zb (zp (ZY (b:=E) Tryz.results39 wR tT rfl rfl (zo (aN.b3)) ?_))
 have ck:Sep G W ((TypW vo 83 87 d.types)::(RowE (α:=Prj) own 73 vp d.projs)::Rs) cx:=aN.sel 5 [1,0] (xW _ _) rfl rfl
 refine⟨vo,vp,rfl,ck⟩
 have O:=tD O
 refine zf rfl (zr (za (zu ?_)))
 refine WD4 ((fun TT L C aO=>WF [fun vals s=>Sep G W (L::C::aO::TT) s,fun vals s=> ∃(x:Nat),(vals 7=((Iy x 1 1):Value))∧Sep G W ((Blk x ((d.projs.gd k).cells).toArray 73)::L::C::aO::TT) s,fun vals s=> ∃(x:Nat) (h:Value),(vals 7=((Iy x 1 1):Value))∧(vals 8=(h:Value))∧Sep G W ((RowE (α:=Prj) own 73 h ((d.projs.take k)++[(d.projs.gd k)]))::C::aO::TT) s,fun vals s=> ∃(x:Nat) (h:Value),(vals 7=((Iy x 1 1):Value))∧(vals 8=(h:Value))∧Sep G W ((RowE (α:=Prj) own 73 h ((d.projs.take k)++[(d.projs.gd k)]))::C::(Blk u (d.cells vo h).toArray 25)::TT) s]) ((Blk E #[(Iz),(Iz)] 25)::(Blk b2 (d.cells dd0 dd1).toArray 25)::Rs) (RowE (α:=Prj) own 73 vp (d.projs.take k)) (TypW vo 83 87 d.types) (Blk u #[vo,vp] 25)) (AF [Vl 0 (Ix u 1),Vl 1 vp,Vl 2 (Ix b2 1),Vl 3 dd1,Vl 4 (Iw k),Vl 5 (Ix (sb dd1) (so dd1+k*5)),Vl 6 (.agg ((d.projs.gd k).cells).toArray),fun _=>True,fun _=>True,Vl 9 (Ix u 1),fun _=>True]) [[],[0],[],[2],[],[2,3,4],[2,3,4,5],[2,3,4,5,6],(rg 8),(rg 9),(rg 10)] [7,8,10] [(0,1),(0,1),(0,0),(0,0),(0,0),(0,0),(0,0),(0,0),(1,1),(2,2),(2,2)] y ⟨fun _ _ _ _ _ _ _=>obl rfl (xO rfl dR),?_,fun _ _ _ _ _ _ _=>obl rfl (xO rfl dR),ob1 0 fun _ _ (bc:Sep _ _ _ _) bd=>obl rfl (lD dd1 nR (bd 2 dc) (zd (bc.b4) rfl) dR),fun _ _ _ _ _ _ _=>obl rfl (mV (Iw k) dR),?_,?_,?_,?_,fun _ _ _ _ _ _ _=>obl rfl (xO rfl dR),?_,zl⟩ ?_
 refine fun P _ _ cl cm af ag=>?_
 have hkk:=xE cl cm
 rcases hkk with rfl|rfl
 have be:Sep _ _ _ _:=af
 exact obl rfl (lD vp nR (ag 0 dc) (zd (be.b2) rfl) dR)
 obtain⟨x,D,bf⟩:=af
 exact obl rfl (lD vp nR (ag 0 dc) (zd (bf.b3) rfl) dR)
 refine ob1 0 fun _ _ _ ah=>(obl rfl ?_)
 have bg:k<d.projs.length:=bo
 exact zg (k:=5) (i:=k) kR lR (ah 3 dc) hdd1.sl (ah 4 dc) bg dR
 refine ob1 0 fun _ _ (bh:Sep _ _ _ _) bi=>(obl rfl ?_)
 have ai:k<d.projs.length:=bo
 obtain⟨aP,hoke190⟩:=hdd1.prjD ai
 have aQ:=bh.cells aP (hdd1.foot (ne_of_lt ai))
 exact zi (k:=5) Tryz.isAgg73 lR rfl (bi 5 dc) aQ dR
 refine ob1 0 fun _ _ (cn:Sep _ _ _ _) co=>(obl rfl ((zD (k:=5) (parts':=[(0,.agg ((d.projs.gd k).cells).toArray)]) (c:=((d.projs.gd k).cells).toArray) kR lR oY dc (xU ⟨rfl,(co 6 dc),zl⟩) kr ?_)))
 intro w96 x cp
 exact fun A H t=>⟨(exiA x (zA H (cn.new cp))),zl⟩
 refine ob1 1 fun _ _ bj bk=>?_
 obtain⟨x,D,aj⟩:=bj
 refine obl rfl ?_
 have aR:=aj.b0
 have ak:=(aj.s6_bcdef).emp1
 have al:k<d.projs.length:=bo
 obtain⟨aT,aI⟩:=hdd1.prjD al
 have hcw115:=ak.cells aT (hdd1.foot (ne_of_lt al))
 refine(yq (src:=own) (bytes:=40) (x1:=(d.projs.gd k)) ak el23 (bk 1 (by decide)) D aR (fun _ _ _=>(show _ from⟨rfl,aI⟩)) yqb rfl ?_)
 intro h w107 am
 have bl:=am.r0
 have hr116s:_*40≤_:=bl.2
 exact fun A H t=>⟨(exiA x (exiA h (zA ((t 7 dc).trans D) (zA H am)))),zl⟩
 refine ob1 2 fun _ _ bm bn=>?_
 obtain⟨x,h,D,Q,R⟩:=bm
 refine obl rfl ?_
 have an:=R.r0
 have hr134s:_*40≤_:=an.2
 refine(ym (v:=h) (c':=[vo,h]) Tryz.sizeOf23 (bn 9 dc) Q (R.b2) an.1.one rfl rfl ?_)
 intro w132 bp
 exact fun A H t=>⟨(exiA x (exiA h (zA ((t 7 dc).trans D) (zA ((t 8 dc).trans Q) (R.pt2 bp))))),zl⟩
 intro vals w199 bq hA201
 obtain⟨x,h,D,Q,ao⟩:=bq
 refine yi (kv:=[(1,Ix b2 0),(2,Ix E 0),(3,Ix u 0),(7,Iw k),(48,Iw k),(49,Ix b2 1),(50,dd1),(51,Iw d.projs.length),(52,.bool true)]) sEv (fun ρw199=>(zb (R0 fun _=>st (mV (Iw k) ?_))))
 have br:InR ((k+1:Nat):Int):=bo
 refine st (zR (r:=((k+1:Nat):Int)) (k:=.i64) (a:=((k:Nat):Int)) (b:=1) rfl rfl (by rw[show(((k:Nat):Int)+1:Int)=((k+1:Nat):Int)from bo];exact zz br) (st (aS (Iw (k+1)) (zb ?_))))
 have bs:(d.projs.take (k+1))=(d.projs.take k)++[(d.projs.gd k)]:=(List.take_getD om)
 rw[←bs]at ao
 exact⟨_,by omega,k+1,h,_,rfl,sSf,by omega,ao⟩
 have N:=tD N
 refine zf rfl (zr (za (zu (za (R0 fun _=>?_)))))
 have ok205:Typ.Ok (⟨[]⟩:Typ):=⟨⟩
 refine st (zX (parts':=[]) (v:=.agg ((⟨[]⟩:Typ).cells Iz).toArray) rfl (by simp[Instr.build,Instr.fill,go_sem,Zc]) (st (zB vR ?_)))
 intro w208 z bt
 have ap:=M.new bt
 refine stn (zw (v:=.agg ((⟨[]⟩:Typ).cells Iz).toArray) (c':=((⟨[]⟩:Typ).cells Iz).toArray) qT rfl rfl (ap.b0) (yo ⟨rfl,zl⟩) yqc rfl ?_)
 intro w210 bu
 refine zb (za (za (R0 fun _=>st (aS (Iv 0) (zb (zu ?_))))))
 have bv:Sep _ _ ((RowE (α:=Fld) own 87 Iz ([]:List Fld))::_) _:=(ap.pt0 bu).rowNil own 87
 refine yd (fun mq σ s=> ∃(q:Nat) (vq:Value) (ρ:Env),mq=((d.types.gd k).fields).length-q∧σ=yg ρ [(1,Ix b2 0),(2,Ix E 0),(3,Ix u 0),(4,Iw k),(5,Ix z 0),(6,Iw q)]∧(q≤((d.types.gd k).fields).length)∧Sep G W ((RowE (α:=Fld) own 87 vq (((d.types.gd k).fields).take q))::(Blk z #[vq] 83)::(TypW vo 83 87 (d.types.take k))::(Blk u #[vo,(Iz)] 25)::(Blk E #[(Iz),(Iz)] 25)::(Blk b2 (d.cells dd0 dd1).toArray 25)::Rs) s) ⟨0,(Iz),_,rfl,sSf,yc _,bv⟩ ?_
 rintro m215 σ216 w214 ⟨q,vq,ρl3,rfl,rfl,hkq,o⟩
 have bw:=o.r0
 have hr218s:_*48≤_:=bw.2
 refine za (za (R0 fun _=>st (mV (Iw q) (st (yD rfl (st (lD dd0 mR rfl (zd (o.b5) rfl) (st (mV (Iw k) ?_)))))))))
 have bx:k<d.types.length:=bo
 refine st (zg (k:=1) (i:=k) sT qT rfl hdd0.sl rfl bx (st (yT rfl ?_)))
 have S:k<d.types.length:=bo
 obtain⟨ab,g,hoke220⟩:=hdd0.typD S
 have hsm222:((d.types.gd k).fields).length*48≤140737488355328:=g.small
 have aU:=o.cells ab (hdd0.foot (ne_of_lt S))
 refine st (lD (zP W (sb dd0) (so dd0+k*1+0)) uT rfl (aU.get (j:=0) rfl) (st (zF (n:=((d.types.gd k).fields).length) wT rfl g.sl (st (zL (k:=.i64) (a:=((q:Nat):Int)) (b:=((((d.types.gd k).fields).length:Nat):Int)) rfl rfl (zb ?_))))))
 cases F:decide (((q:Nat):Int)<((((d.types.gd k).fields).length:Nat):Int))
 have F:=fD F
 have hkn:q=((d.types.gd k).fields).length:=by omega
 rw[hkn,List.take_of_length_le (Nat.le_refl ((d.types.getD k default).fields).length)]at o
 have aq:=o.r0
 have hr225s:_*48≤_:=aq.2
 refine ze rfl (ye (zT (R0 fun _=>st (yD rfl (st (lD vo mR rfl (zd (o.b3) rfl) ?_))))))
 have ok226:Typ.Ok (d.types.gd k):=⟨⟩
 refine st (zi (k:=1) Tryz.isAgg83 qT rfl rfl (zo (o.b1)) (st (zD (k:=1) (parts':=[(0,.agg ((d.types.gd k).cells vq).toArray)]) (c:=((d.types.gd k).cells vq).toArray) sT qT vR dc rfl kr ?_)))
 intro cq cr bz
 obtain⟨ar,ac,bA⟩:=TypW.open ((o.new bz).mv3)
 have I:Sep G W ((RowE (α:=TypS) own 83 vo ar)::(Star (FldRows 87 ar (d.types.take k)))::(Blk cr ((d.types.gd k).cells vq).toArray 83)::(RowE (α:=Fld) own 87 vq ((d.types.gd k).fields))::(Blk z #[vq] 83)::(Blk u #[vo,(Iz)] 25)::(Blk E #[(Iz),(Iz)] 25)::(Blk b2 (d.cells dd0 dd1).toArray 25)::Rs) cq:=bA
 have bB:=I.r0
 have hr235s:_*24≤_:=bB.2
 have aJ:=ac
 rw[List.length_take]at aJ
 have aV:=I.b2
 refine st (yq (src:=own) (bytes:=24) (x1:=(⟨vq⟩:TypS)) ((I.s8_abdefgh).emp1) zdr rfl rfl aV (fun _ _ _=>(show _ from⟨rfl,⟨aq.1.one⟩⟩)) yqb rfl ?_)
 intro U w236 au
 have bC:=au.r0
 have hr242s:_*24≤_:=bC.2
 have V:Sep _ _ ((TypW U 83 87 ((d.types.take k)++[(d.types.gd k)]))::_) _:=TypW.snoc (c:=(d.types.gd k)) ac au
 refine st (yD rfl (stn (ym (v:=U) (c':=[U,(Iz)]) Tryz.sizeOf22 rfl rfl (V.b2) (V.typSl (i:=0) rfl).one rfl rfl ?_)))
 intro w244 bD
 refine zb (R0 fun _=>st (mV (Iw k) ?_))
 have bE:InR ((k+1:Nat):Int):=bo
 refine st (zR (r:=((k+1:Nat):Int)) (k:=.i64) (a:=((k:Nat):Int)) (b:=1) rfl rfl (by rw[show(((k:Nat):Int)+1:Int)=((k+1:Nat):Int)from bo];exact zz bE) (st (aS (Iw (k+1)) (zb ?_))))
 have av:=(V.pt2 bD).s5_acde
 have bF:d.types.take (k+1)=((d.types.take k)++[(d.types.gd k)]):=(List.take_getD om)
 rw[←bF]at av
 exact⟨_,by omega,k+1,U,_,rfl,sSf,by omega,av⟩
 have F:=tD F
 refine zf rfl (zr (za (zu ?_)))
 refine WD4 ((fun TT L C=>WF [fun vals s=>Sep G W (L::C::TT) s,fun vals s=> ∃(e:Value),(vals 11=(.agg ((((d.types.gd k).fields).gd q).cells e).toArray:Value))∧Sep G W ((RowE (α:=Mv) own 90 e ((((d.types.gd k).fields).gd q).moves))::L::C::TT) s,fun vals s=> ∃(e:Value) (l:Nat),(vals 11=(.agg ((((d.types.gd k).fields).gd q).cells e).toArray:Value))∧(vals 12=((Iy l 1 1):Value))∧Sep G W ((Blk l ((((d.types.gd k).fields).gd q).cells e).toArray 87)::(RowE (α:=Mv) own 90 e ((((d.types.gd k).fields).gd q).moves))::L::C::TT) s,fun vals s=> ∃(e:Value) (l:Nat) (m:Value),(vals 11=(.agg ((((d.types.gd k).fields).gd q).cells e).toArray:Value))∧(vals 12=((Iy l 1 1):Value))∧(vals 13=(m:Value))∧Sep G W ((RowE (α:=Fld) own 87 m ((((d.types.gd k).fields).take q)++[(((d.types.gd k).fields).gd q)]))::C::TT) s,fun vals s=> ∃(e:Value) (l:Nat) (m:Value),(vals 11=(.agg ((((d.types.gd k).fields).gd q).cells e).toArray:Value))∧(vals 12=((Iy l 1 1):Value))∧(vals 13=(m:Value))∧Sep G W ((RowE (α:=Fld) own 87 m ((((d.types.gd k).fields).take q)++[(((d.types.gd k).fields).gd q)]))::(Blk z #[m] 83)::TT) s]) ((TypW vo 83 87 (d.types.take k))::(Blk u #[vo,(Iz)] 25)::(Blk E #[(Iz),(Iz)] 25)::(Blk b2 (d.cells dd0 dd1).toArray 25)::Rs) (RowE (α:=Fld) own 87 vq (((d.types.gd k).fields).take q)) (Blk z #[vq] 83)) (AF [Vl 0 (Ix z 0),Vl 1 vq,Vl 2 (Ix b2 0),Vl 3 dd0,Vl 4 (Iw k),Vl 5 (Ix (sb dd0) (so dd0+k*1)),Vl 6 (Ix (sb dd0) (so dd0+k*1)),Vl 7 ((zP W (sb dd0) (so dd0+k*1+0))),Vl 8 (Iw q),Vl 9 (Ix (sb (zP W (sb dd0) (so dd0+k*1+0))) (so (zP W (sb dd0) (so dd0+k*1+0))+q*4)),Vl 10 (.agg ((((d.types.gd k).fields).gd q).cells (zP W (sb (zP W (sb dd0) (so dd0+k*1+0))) (so (zP W (sb dd0) (so dd0+k*1+0))+q*4+3))).toArray),fun _=>True,fun _=>True,fun _=>True,Vl 14 (Ix z 0),fun _=>True]) [[],[0],[],[2],[],[2,3,4],[2,3,4,5],[2,3,4,5,6],[],[2,3,4,5,6,7,8],[2,3,4,5,6,7,8,9],[2,3,4,5,6,7,8,9,10],[2,3,4,5,6,7,8,9,10,11],(rg 13),(rg 14),(rg 15)] [11,12,13,15] [(0,2),(0,2),(0,0),(0,0),(0,0),(0,0),(0,0),(0,0),(0,0),(0,0),(0,0),(0,0),(1,1),(2,2),(3,3),(3,3)] o ⟨fun _ _ _ _ _ _ _=>obl rfl (yT rfl dR),?_,fun _ _ _ _ _ _ _=>obl rfl (yD rfl dR),ob1 0 fun _ _ (bG:Sep _ _ _ _) bH=>obl rfl (lD dd0 mR (bH 2 dc) (zd (bG.b5) rfl) dR),fun _ _ _ _ _ _ _=>obl rfl (mV (Iw k) dR),?_,fun _ _ _ _ _ _ bI=>obl rfl (yT (bI 5 dc) dR),?_,fun _ _ _ _ _ _ _=>obl rfl (mV (Iw q) dR),?_,?_,?_,?_,?_,fun _ _ _ _ _ _ _=>obl rfl (yT rfl dR),?_,zl⟩ ?_
 refine fun J _ _ cs ct X Y=>?_
 have hkk:=Kx cs ct
 rcases hkk with rfl|rfl|rfl
 have bJ:Sep _ _ _ _:=X
 exact obl rfl (lD vq uT (Y 0 dc) (zd (bJ.b1) rfl) dR)
 obtain⟨e,p,bK⟩:=X
 exact obl rfl (lD vq uT (Y 0 dc) (zd (bK.b2) rfl) dR)
 obtain⟨e,l,p,B,bL⟩:=X
 exact obl rfl (lD vq uT (Y 0 dc) (zd (bL.b3) rfl) dR)
 refine ob1 0 fun _ _ _ aw=>(obl rfl ?_)
 have bM:k<d.types.length:=bo
 exact zg (k:=1) (i:=k) sT qT (aw 3 dc) hdd0.sl (aw 4 dc) bM dR
 refine ob1 0 fun _ _ (bN:Sep _ _ _ _) bO=>(obl rfl ?_)
 have aW:=bN.cells ab (hdd0.foot (ne_of_lt S))
 exact lD (zP W (sb dd0) (so dd0+k*1+0)) uT (bO 6 dc) (aW.get (j:=0) rfl) dR
 refine ob1 0 fun _ _ _ ax=>(obl rfl ?_)
 have bP:q<((d.types.gd k).fields).length:=bo
 exact zg (k:=4) (i:=q) wT oT (ax 7 dc) g.sl (ax 8 dc) bP dR
 refine ob1 0 fun _ _ (bQ:Sep _ _ _ _) bR=>(obl rfl ?_)
 have ay:q<((d.types.gd k).fields).length:=bo
 obtain⟨aX,ad,hoke494⟩:=g.fldD ay
 have hsm496:((((d.types.gd k).fields).gd q).moves).length*32≤140737488355328:=ad.small
 have aY:=bQ.cells aX (g.foot (ne_of_lt ay))
 exact zi (k:=4) lY oT rfl (bR 9 dc) aY dR
 refine ob1 0 fun vals _ (az:Sep _ _ _ _) bS=>(obl rfl ?_)
 have aA:q<((d.types.gd k).fields).length:=bo
 obtain⟨aZ,K,aK⟩:=g.fldD aA
 have hsm349:((((d.types.gd k).fields).gd q).moves).length*32≤140737488355328:=K.small
 have hcw350:=az.cells aZ (g.foot (ne_of_lt aA))
 refine(zV (f:=61) (vals:=[.agg ((((d.types.gd k).fields).gd q).cells (zP W (sb (zP W (sb dd0) (so dd0+k*1+0))) (so (zP W (sb dd0) (so dd0+k*1+0))+q*4+3))).toArray]) (cap:=[]) rfl (yM ⟨(bS 10 dc),zl⟩) Tryz.call61 (Qq (f:=(((d.types.gd k).fields).gd q)) K aK az) ?_)
 rintro _ w352 ⟨e,rfl,aB⟩
 have bT:=aB.r0
 have hr354s:_*32≤_:=bT.2
 exact fun A H t=>⟨(exiA e (zA H aB)),zl⟩
 refine ob1 1 fun _ _ bU _=>?_
 obtain⟨e,p,bV⟩:=bU
 refine obl rfl ((zD (k:=4) (parts':=[(0,.agg ((((d.types.gd k).fields).gd q).cells e).toArray)]) (c:=((((d.types.gd k).fields).gd q).cells e).toArray) wT oT uR dc (xU ⟨rfl,p,zl⟩) kr ?_))
 intro w365 l bW
 exact fun A H t=>⟨(exiA e (exiA l (zA ((t 11 dc).trans p) (zA H (bV.new bW))))),zl⟩
 refine ob1 2 fun _ _ bX bY=>?_
 obtain⟨e,l,p,B,aC⟩:=bX
 refine obl rfl ?_
 have ba:=aC.b0
 have aD:=aC.s8_cbdefgh
 have aE:q<((d.types.gd k).fields).length:=bo
 obtain⟨bb,ae,aL⟩:=g.fldD aE
 have hsm383:((((d.types.gd k).fields).gd q).moves).length*32≤140737488355328:=ae.small
 have hcw384:=aD.cells bb (g.foot (ne_of_lt aE))
 refine(yq (src:=own) (bytes:=48) (x1:=(((d.types.gd k).fields).gd q)) aD el81 (bY 1 (by decide)) B ba (fun _ _ hN=>⟨_,rfl,RowE.soft hN,aL⟩) yqb rfl ?_)
 intro m w376 aF
 have bZ:=aF.r0
 have hr385s:_*48≤_:=bZ.2
 exact fun A H t=>⟨(exiA e (exiA l (exiA m (zA ((t 11 dc).trans p) (zA ((t 12 dc).trans B) (zA H aF)))))),zl⟩
 refine ob1 3 fun _ _ ca cb=>?_
 obtain⟨e,l,m,p,B,Z,aa⟩:=ca
 refine obl rfl ?_
 have aG:=aa.r0
 have hr403s:_*48≤_:=aG.2
 refine(ym (v:=m) (c':=[m]) Tryz.sizeOf81 (cb 14 dc) Z (aa.b1) aG.1.one rfl rfl ?_)
 intro w401 cc
 exact fun A H t=>⟨(exiA e (exiA l (exiA m (zA ((t 11 dc).trans p) (zA ((t 12 dc).trans B) (zA ((t 13 dc).trans Z) (aa.pt1 cc))))))),zl⟩
 intro vals w504 cd hA506
 obtain⟨e,l,m,p,B,Z,aH⟩:=cd
 refine yi (kv:=[(1,Ix b2 0),(2,Ix E 0),(3,Ix u 0),(4,Iw k),(5,Ix z 0),(6,Iw q),(16,Iw q),(17,Ix b2 0),(18,dd0),(19,Iw k),(20,Ix (sb dd0) (so dd0+k*1)),(21,Ix (sb dd0) (so dd0+k*1)),(22,(zP W (sb dd0) (so dd0+k*1+0))),(23,Iw (((d.types.gd k).fields).length)),(24,.bool true)]) sEv (fun ρw504=>(zb (R0 fun _=>st (mV (Iw q) ?_))))
 have ce:InR ((q+1:Nat):Int):=bo
 refine st (zR (r:=((q+1:Nat):Int)) (k:=.i64) (a:=((q:Nat):Int)) (b:=1) rfl rfl (by rw[show(((q:Nat):Int)+1:Int)=((q+1:Nat):Int)from bo];exact zz ce) (st (aS (Iw (q+1)) (zb ?_))))
 have cf:(((d.types.gd k).fields).take (q+1))=(((d.types.gd k).fields).take q)++[(((d.types.gd k).fields).gd q)]:=(List.take_getD om)
 rw[←cf]at aH
 exact⟨_,by omega,q+1,m,_,rfl,sSf,by omega,aH⟩
end
section
open Go.RowKit
def MildV (a b:Value):Prop:=b=a∨ ∃m n:Int,a=.int .i64 m∧b=.int .i64 n∧InR n
def ML (w0:World)(f0:Nat→Prop)(X:Nat→Nat→Prop):HP:=
 ⟨fun w f=> ∀b,f0 b→f b∧Soft w b∧ ∀o v,w0.cell? ⟨b,o,none⟩=some v→ ∃v',w.cell? ⟨b,o,none⟩=some v'∧(X b o∨MildV v v'),by
  intro w w' f f' h hf b hb
  obtain⟨h1,h2,h3⟩:=h b hb
  have hlt:b<w.heap.size:=by obtain⟨c,T,hc⟩:=h2;exact xx hc
  have e:=hf b h1 hlt
  refine⟨e.2,h2.keep e.1,fun o v hv=>?_⟩
  rw[Yi e.1];exact h3 o v hv⟩
def noX:Nat→Nat→Prop:=fun _ _=>False
theorem IsSl.num {v:Value}{n:Nat}(h:IsSl v n)(m:Int):v≠ .int .i64 m:=by obtain⟨a,cap,rfl,_⟩:=h;intro e;cases e
section
variable {α:Type}[Rep α]{G:Nat→Prop}{W w w0:World}{As:List HP}{T:TypeId}{v:Value}{l:List α}{f0:Nat→Prop}{X:Nat→Nat→Prop}
theorem Sep.toML (h:Sep G W (RowE own T v l::As) w): ∃f0,RdS w f0 v l∧Sep G W (ML w f0 noX::As) w:=by
 obtain⟨f,hA,hl,hT⟩:=h.take (i:=0) rfl
 exact⟨fun b=>f b∧Soft w b,RowE.soft hA,hT w _ f (Chg.refl _ _) (fun b hb=>⟨hb.1,hb.2,fun o v hv=>⟨v,hv,.inr (.inl rfl)⟩⟩) (fun _ h=>.inl h)⟩
theorem Sep.mlHead {i b o j:Nat}{cs:List Value}{u:Value}(h:Sep G W As w)(hi:As[i]? =some (ML w0 f0 X))(hb:f0 b)(hc:CellsAt w0 b o cs)(hj:cs[j]? =some u)(hX: ¬X b (o+j))(hn: ∀m,u≠ .int .i64 m):w.cell? ⟨b,o+j,none⟩=some u:=by
 obtain⟨f,hA,_⟩:=h.get hi
 obtain⟨_,_,h3⟩:=hA b hb
 obtain⟨v',h4,h5⟩:=h3 _ _ (hc.get hj)
 rcases h5 with h5|h5|⟨m,n,h5,_⟩
 ·exact absurd h5 hX
 ·rw[h4,h5]
 ·exact absurd h5 (hn m)
end
theorem Uy {w:World}{b o:Nat}{c:Array Value}{T:TypeId}(h:w.heap[b]? =some (.cells c T)):w.cell? ⟨b,o,none⟩=c[o]? :=by
 unfold World.cell?;simp[h]
theorem JJ {c:Array Value}{o:Nat}{us:List Value}(h:o+us.length≤c.size)(p:Nat):(Wp c o us)[p]? =if o≤p∧p<o+us.length then us[p-o]? else c[p]? :=by
 unfold Wp
 simp only[List.getElem?_toArray]
 have hl:(c.toList.take o).length=o:=by simp;omega
 by_cases h1:p<o
 ·rw[if_neg (by omega),List.append_assoc,List.getElem?_append_left (by rw[hl];exact h1),List.getElem?_take,if_pos h1];simp
 ·by_cases h2:p<o+us.length
  ·rw[if_pos ⟨by omega,h2⟩,List.getElem?_append_left (by rw[List.length_append,hl];exact h2),List.getElem?_append_right (by rw[hl];omega),hl]
  ·rw[if_neg (by omega),List.getElem?_append_right (by rw[List.length_append,hl];omega),List.length_append,hl,List.getElem?_drop,show o+us.length+(p-(o+us.length))=p by omega];simp
section
variable {P:Program}{d:Option Tmp}{ty:TypeId}{pos:String}{af:Array Edge}{gd:Option (Nat×Bool)}{σ:Env}{w w0:World}{K:Value→World→Prop}{G:Nat→Prop}{W:World}{As:List HP}{f0:Nat→Prop}{X X':Nat→Nat→Prop}
theorem Xh {t:TypeId}{b o:Nat}{x y:Operand}{u:Value}{us cs:List Value}(h:Sep G W (ML w0 f0 X::As) w)(hS: ∀w,(sizeOf t).run P w=.ok us.length w)(hx:ev σ x=.pointer (some ⟨b,o,none⟩))(hb:f0 b)
 (hy:ev σ y=u) (hu:u.cells.toList=us) (h1: ∀u∈us,u.oneCell'=true) (hc:CellsAt w0 b o cs) (hl:cs.length=us.length) (hpos:0<us.length)
 (hm: ∀(j:Nat) v v',cs[j]? =some v→us[j]? =some v'→X' b (o+j)∨MildV v v') (hXX: ∀b o,X b o→X' b o) (hK: ∀w',Sep G W (ML w0 f0 X'::As) w'→K undef w'):opV P ⟨d,.store t x y,ty,pos,af,gd⟩ σ w K:=by
 obtain⟨f,hA,hfl⟩:=h.get (i:=0) rfl
 obtain⟨hfb,⟨c,T,hbk⟩,h3⟩:=hA b hb
 have hfit:o+us.length≤c.size:=by
  obtain⟨v',h4,_⟩:=h3 _ _ (hc (us.length-1) (by omega))
  rw[Uy hbk]at h4
  obtain⟨h5,_⟩:=Array.getElem?_eq_some_iff.1 h4
  omega
 refine zw (v:=u) (c:=c) (T:=T) (by intro w;rw[hS,←hu];simp) hx hy hbk (by rw[hu];exact h1) (by rw[hu];exact hfit) rfl (fun w1 hp=>hK w1 ?_)
 refine h.upd (i:=0) (B:=ML w0 f0 X') rfl (fun f hA hl9=>?_)
 refine⟨hp.chg.weak (fun i _ hi=>by subst hi;exact(hA _ hb).1),f,fun b' hb'=>?_,fun _ hb=>.inl hb⟩
 obtain⟨h5,h6,h7⟩:=hA b' hb'
 by_cases e:b'=b
 ·subst e
  refine⟨h5,⟨_,_,hp.at_⟩,fun p v hv=>?_⟩
  obtain⟨v',h8,h9⟩:=h7 p v hv
  rw[Uy hbk]at h8
  rw[Uy hp.at_,hu,JJ hfit]
  by_cases hr:o≤p∧p<o+us.length
  ·rw[if_pos hr]
   have hlt:p-o<us.length:=by omega
   refine⟨us[p-o],List.getElem?_eq_getElem hlt,?_⟩
   have h10:=hc (p-o) (by omega)
   rw[show o+(p-o)=p by omega,hv]at h10
   have h11:=hm (p-o) v us[p-o] (by rw[List.getElem?_eq_getElem (by omega)];exact h10.symm) (List.getElem?_eq_getElem hlt)
   rw[show o+(p-o)=p by omega]at h11
   exact h11
  ·rw[if_neg hr]
   exact⟨v',h8,h9.imp (hXX _ _) id⟩
 ·have e2:=hp.chg.block b' (by obtain⟨c,T,hc⟩:=h6;exact xx hc) e
  refine⟨h5,h6.keep e2,fun p v hv=>?_⟩
  obtain⟨v',h8,h9⟩:=h7 p v hv
  exact⟨v',by rw[Yi e2];exact h8,h9.imp (hXX _ _) id⟩
end
def MildAll:List Value→List Value→Prop
 |a::xs,b::ys=>MildV a b∧MildAll xs ys
 |_,_=>True
theorem MildAll.at_: ∀{xs ys:List Value},MildAll xs ys→ ∀(j:Nat) v v',xs[j]? =some v→ys[j]? =some v'→MildV v v'
 |_::_,_::_,h,0,_,_,h1,h2=>by
  simp only[List.getElem?_cons_zero,Option.some.injEq]at h1 h2
  subst h1;subst h2;exact h.1
 |_::_,_::_,h,j+1,_,_,h1,h2=>MildAll.at_ h.2 j _ _ (by simpa using h1) (by simpa using h2)
 |[],_,_,j,_,_,h1,_=>by simp at h1
 |_::_,[],_,j,_,_,_,h2=>by simp at h2
theorem MildV.num {m n:Int}(h:InR n):MildV (.int .i64 m) (.int .i64 n):=.inr ⟨m,n,rfl,rfl,h⟩
end
section
open Go.Proofs Go.RowKit
theorem QL {i:Int}(hi:InR i)(hS0:Sep G W Rs w):Ret Tryz.prog 52 [.int .i64 (i)] w (fun r w'=> ∃(m:Int),r=(.int .i64 (m):Value)∧(InR m)∧Sep G W Rs w'):=by
 refine zk (args:=[Iv i]) Tryz.func52 rfl rfl ?_
 refine za (R0 fun _=>st (aS (Iv 0) (zb (za (R0 fun _=>st (mV (Iv i) (st (Ul (r:=IntKind.i64.wrap (13*i)) (k:=.i64) (a:=13) (b:=i) rfl rfl rfl (st (zR (r:=IntKind.i64.wrap (7001+(IntKind.i64.wrap (13*i)))) (k:=.i64) (a:=7001) (b:=IntKind.i64.wrap (13*i)) rfl rfl rfl (st (aS (Iv (IntKind.i64.wrap (7001+(IntKind.i64.wrap (13*i))))) (zb (zp (zU Tryz.results52 (show _=(Iv (IntKind.i64.wrap (7001+(IntKind.i64.wrap (13*i)))):Value)from rfl) ?_)))))))))))))))
 refine⟨IntKind.i64.wrap (7001+(IntKind.i64.wrap (13*i))),rfl,?_,hS0⟩
 exact YF _
theorem Wl {w0:World}{f0:Nat→Prop}{X:Nat→Nat→Prop}{vl:Value}{l:List Int}(hl9:RdS w0 f0 vl l)(hS0:Sep G W ((ML w0 f0 X)::Rs) w):Ret Tryz.prog 23 [vl] w (fun r w'=>r=(.tuple #[]:Value)∧Sep G W ((ML w0 f0 X)::Rs) w'):=by
 have hl9s:_*8≤_:=hl9.small
 refine zk (args:=[vl]) Tryz.func23 rfl rfl ?_
 refine za (R0 fun _=>st (aS (Iv 0) (zb (zu (yd (fun mq σ t=> ∃(k:Nat) (ρ:Env),mq=l.length-k∧σ=yg ρ [(0,vl),(2,Iw k)]∧(k≤l.length)∧Sep G W ((ML w0 f0 X)::Rs) t) ⟨0,_,rfl,sSf,yc _,hS0⟩ ?_)))))
 rintro m2 σ3 w1 ⟨k,ρl1,rfl,rfl,hkk,f⟩
 refine za (za (R0 fun _=>st (mV (Iw k) (st (mV vl (st (zF (n:=l.length) qR rfl hl9.sl (st (zL (k:=.i64) (a:=((k:Nat):Int)) (b:=((l.length:Nat):Int)) rfl rfl (zb ?_))))))))))
 cases c:decide (((k:Nat):Int)<((l.length:Nat):Int))
 have c:=fD c
 refine ze rfl (ye (zT (YY Tryz.results23 ?_)))
 refine⟨rfl,f⟩
 have c:=tD c
 refine zf rfl (zr (za (zu (R0 fun _=>st (mV vl (st (mV (Iw k) (st (mV (Iw k) ?_)))))))))
 have g:InR ((k+7:Nat):Int):=bo
 refine st (zR (r:=((k+7:Nat):Int)) (k:=.i64) (a:=((k:Nat):Int)) (b:=7) rfl rfl (by rw[show(((k:Nat):Int)+7:Int)=((k+7:Nat):Int)from bo];exact zz g) (st (cL Tryz.call52 (QL (i:=((k+7:Nat):Int)) g f) ?_)))
 rintro _ w9 ⟨j,rfl,hr8,m⟩
 have p:k<l.length:=bo
 refine st (zg (k:=1) (i:=k) qR rR rfl hl9.sl rfl p ?_)
 have d:k<l.length:=bo
 obtain⟨e,_⟩:=hl9.int d
 refine stn (Xh (b:=sb vl) (o:=so vl+k*1) (u:=Iv j) (us:=[Iv j]) (X':=X) m rR rfl (hl9.foot (ne_of_lt d)) rfl rfl (yo ⟨rfl,zl⟩) e rfl (Nat.zero_lt_succ _) (fun v x y z A=>.inr (MildAll.at_ (show MildAll [Iv (l[k])] [Iv j]from⟨MildV.num om,zl⟩) v x y z A)) (fun _ _ h=>h) ?_)
 intro w12 q
 refine zb (R0 fun _=>st (mV (Iw k) ?_))
 have s:InR ((k+1:Nat):Int):=bo
 refine st (zR (r:=((k+1:Nat):Int)) (k:=.i64) (a:=((k:Nat):Int)) (b:=1) rfl rfl (by rw[show(((k:Nat):Int)+1:Int)=((k+1:Nat):Int)from bo];exact zz s) (st (aS (Iw (k+1)) (zb ?_))))
 exact⟨_,by omega,k+1,_,rfl,sSf,by omega,q⟩
def rJ (d:Dcl)(e:Ev)(x:Ent):Bool:=on3 (e.typ,e.agg,e.field) x&&xj ((Yg d e.typ).fields.getD e.field.toNat default) x.ev e
theorem Yq {p:Ent→Bool}{q:Ev→Bool}: ∀(T:List Ent),((T.filter p).map (·.ev)).find? q=(T.find? (fun x=>p x&&q x.ev)).map (·.ev)
 |[]=>rfl
 |x::T=>by
  have ih:=Yq (p:=p) (q:=q) T
  rw[List.filter_cons,List.find?_cons]
  cases hp:p x with
  |false=>simp[ih]
  |true=>
   simp only[if_true,List.map_cons,List.find?_cons,Bool.true_and]
   cases hq:q x.ev with
   |true=>rfl
   |false=>exact ih
theorem Qc {r:Ent→Bool}: ∀{T:List Ent} {j:Nat},j<T.length→r (T.getD j default)=true→(∀j',j'<j→r (T.getD j' default)=false)→T.find? r=some (T.getD j default)
 |[],j,hj,_,_=>absurd hj (Nat.not_lt_zero j)
 |x::T,0,_,h1,_=>by have h1:r x=true:=h1;rw[List.find?_cons,h1];rfl
 |x::T,j+1,hj,h1,h0=>by
  have hx:r x=false:=h0 0 (Nat.succ_pos _)
  rw[List.find?_cons,hx]
  exact Qc (by simpa using hj) h1 (fun i hi=>h0 (i+1) (by omega))
theorem zbj {r:Ent→Bool}{T:List Ent}(h: ∀j,j<T.length→r (T.getD j default)=false):T.find? r=none:=by
 rw[List.find?_eq_none]
 intro x hx
 obtain⟨i,hi,rfl⟩:=List.getElem_of_mem hx
 have:=h i hi
 rw[zI _ hi]at this
 rw[this];decide
theorem KO {d:Dcl}{l:List Ev}: ∀{i:Nat},i<l.length→(zq d l).getD i default=ya d ((zq d l).take i) (l.getD i default):=by
 induction l using Zy with
 |h0=>intro i hi;exact absurd hi (Nat.not_lt_zero i)
 |h1 l e ih=>
  intro i hi
  rw[xC]
  have hl:=xp d l
  rw[List.length_append,List.length_singleton]at hi
  rcases Nat.lt_or_ge i l.length with h|h
  ·rw[List.getD_eq_getElem?_getD,List.getElem?_append_left (by omega),←List.getD_eq_getElem?_getD,ih h,List.take_append_of_le_length (by omega)]
   congr 1
   rw[List.getD_eq_getElem?_getD,List.getD_eq_getElem?_getD,List.getElem?_append_left h]
  ·have e1:i=l.length:=by omega
   subst e1
   rw[List.getD_eq_getElem?_getD,List.getElem?_append_right (by omega),hl,Nat.sub_self,List.take_append_of_le_length (by omega),List.take_of_length_le (by omega)]
   show ya d (zq d l) e=_
   congr 1
   rw[List.getD_eq_getElem?_getD,List.getElem?_append_right (Nat.le_refl _),Nat.sub_self];rfl
theorem zbw {d:Dcl}{l:List Ev}{i:Nat}(h:i<l.length):((zq d l).getD i default).ev=l.getD i default:=by rw[KO h];rfl
theorem JB (d:Dcl)(l:List Ev)(n:Nat):zq d (l.take n)=(zq d l).take n:=by
 induction l using Zy with
 |h0=>rw[List.take_nil,show zq d []=[]from rfl,List.take_nil]
 |h1 l e ih=>
  rcases Nat.lt_or_ge l.length n with h|h
  ·rw[List.take_of_length_le (by rw[List.length_append,List.length_singleton];omega),List.take_of_length_le (by rw[xp,List.length_append,List.length_singleton];omega)]
  ·rw[List.take_append_of_le_length h,ih,xC,List.take_append_of_le_length (by rw[xp];exact h)]
theorem zbH {d:Dcl}{ty ag:Int}(l:List Ev)(h: ¬yu (ty,ag) (zq d l)=0):0≤ty∧ty<d.types.length:=by
 induction l using Zy with
 |h0=>exact absurd rfl h
 |h1 l e ih=>
  rw[xC,ZC]at h
  split at h
  ·rename_i hx
   unfold onL at hx
   simp only[Bool.and_eq_true,Bool.not_eq_true',decide_eq_true_eq]at hx
   obtain⟨hv,ht,ha⟩:=hx
   obtain⟨hf,hm⟩:=XY (d:=d) (L:=zq d l) (e:=e) hv
   obtain⟨f1,f2,_⟩:=XI hf
   have ht':e.typ=ty:=ht
   subst ht'
   exact⟨f1,f2⟩
  ·exact ih h
theorem onL_raw {a b:Int}{x:Ent}:onL (a,b) x=(((!x.void)&&decide (x.ev.typ=a))&&decide (x.ev.agg=b)):=by
 unfold onL;cases x.void<;>simp[Bool.and_comm,Bool.decide_and]
theorem ver_t {k:Int×Int}{L:List Ent}{j:Nat}(hj:j<L.length)(h:onL k (L.getD j default)=true):yu k (L.take (j+1))=yu k (L.take j)+1:=by
 have e:L.take (j+1)=L.take j++[L.getD j default]:=by rw[List.take_add_one,List.getElem?_eq_getElem hj,List.getD_eq_getElem?_getD,List.getElem?_eq_getElem hj];rfl
 rw[e,ZC,if_pos h]
theorem ver_f {k:Int×Int}{L:List Ent}{j:Nat}(hj:j<L.length)(h:onL k (L.getD j default)=false):yu k (L.take (j+1))=yu k (L.take j):=by
 have e:L.take (j+1)=L.take j++[L.getD j default]:=by rw[List.take_add_one,List.getElem?_eq_getElem hj,List.getD_eq_getElem?_getD,List.getElem?_eq_getElem hj];rfl
 rw[e,ZC,h];rfl
end
end Go.Proofs.YtpdolkiohjdodaaGreatDoor
