import Derived.Test.YtpdolkiohjdodaaGreatDoorM9
set_option maxRecDepth 8000
set_option maxHeartbeats 4000000
set_option linter.unusedSimpArgs false
set_option linter.unusedVariables false
set_option linter.unusedSectionVars false
set_option linter.deprecated false
open Go.Proofs.Tryz renaming underlying26→kT,sizeOf55→lT,call13→mT,isAgg3→nT,call8→oT,isAgg55→pT,underlying67→qT,sizeOf25→rT,sizeOf70→sT,isAgg25→tT,call6→uT,zeroValue55→vT,call9→wT,underlying32→kR,call31→lR,call16→mR,results27→nR,call20→oR,zeroValue48→pR,sizeOf48→qR,results30→rR,isAgg70→sR,underlying23→tR,zeroValue70→uR,call30→vR,underlying42→wR,call5→kY,call7→lY,underlying27→mY,results26→nY,sizeOf38→oY,isAgg48→pY
namespace Go.Proofs.YtpdolkiohjdodaaGreatDoor
variable {G:Nat→Prop}{W w:World}{Rs:List HP}
section
open Go.Proofs Go.RowKit
theorem Qz {vl:Value}{l:List Ev}(hl:RdS W G vl l){t:Trn}(ot:t.Ok)(hS0:Sep G W Rs w)(hl9:l.length≤1000):Ret Tryz.prog 11 [vl,.agg (t.cells).toArray] w (fun r w'=> ∃(v:Value) (x:List Ev),r=(v:Value)∧(x.length≤l.length)∧(∀y∈x,y∈l)∧Sep G W ((RowE (α:=Ev) (shr G W) 55 v x)::Rs) w'):=by
 have hls:_*96≤_:=hl.small
 refine zn (args:=[vl,.agg (t.cells).toArray]) Tryz.func11 rfl rfl ?_
 refine za (R0 fun _=>st (zX (v:=.agg (t.cells).toArray) rfl ?_))
 intro w3 b2 aX
 have ap:=hS0.new aX
 refine st (aS Iz (zb (za (R0 fun _=>st (aS Iz (zb (za (R0 fun _=>st (zdD rfl ?_)))))))))
 refine st (lD (Iv (t.first)) nT rfl (zd (ap.b0) rfl) (st (mV vl (st (zC (n:=l.length) kT rfl hl.sl ?_)))))
 have aY:InR ((l.length+1:Nat):Int):=bo
 refine st (zO (r:=((l.length+1:Nat):Int)) (k:=.i64) (a:=((l.length:Nat):Int)) (b:=1) rfl rfl (by rw[show(((l.length:Nat):Int)+1:Int)=((l.length+1:Nat):Int)from bo];exact zw aY) ?_)
 refine st (cL oT (Yl (x:=t.first) (n:=l.length+1) ot.first yqf ap) ?_)
 rintro _ w8 ⟨q6,rfl,hq7,aq⟩
 refine st (aS (Iw q6) (zb (za (R0 fun _=>st (zdr rfl (st (lD (Iv (t.most)) nT rfl (zd (aq.b0) rfl) (st (mV vl (st (zC (n:=l.length) kT rfl hl.sl ?_)))))))))))
 have ar:InR ((l.length+1:Nat):Int):=bo
 refine st (zO (r:=((l.length+1:Nat):Int)) (k:=.i64) (a:=((l.length:Nat):Int)) (b:=1) rfl rfl (by rw[show(((l.length:Nat):Int)+1:Int)=((l.length+1:Nat):Int)from bo];exact zw ar) ?_)
 refine st (cL oT (Yl (x:=t.most) (n:=l.length+1) ot.most yqf aq) ?_)
 rintro _ w13 ⟨z,rfl,hq12,P⟩
 refine st (aS (Iw z) (zb (za (R0 fun _=>st (zde rfl (st (lD (Iv (t.skip)) nT rfl (zd (P.b0) rfl) ?_)))))))
 refine st (cL oT (Yl (x:=t.skip) (n:=9) ot.skip yqf P) ?_)
 rintro _ w17 ⟨f,rfl,hq16,au⟩
 have av:InR ((1+f:Nat):Int):=bo
 refine st (zO (r:=((1+f:Nat):Int)) (k:=.i64) (a:=1) (b:=((f:Nat):Int)) rfl rfl (by rw[show(1+((f:Nat):Int):Int)=((1+f:Nat):Int)from bo];exact zw av) (st (aS (Iw (1+f)) (zb (za (za (zL (by kernel_rfl) (fun _=>(st (mV (Iw q6) (st (aS (Iw q6) (zb (zt ?_))))))))))))))
 have aw:Sep _ _ ((RowE (α:=Ev) (shr G W) 55 Iz ([]:List Ev))::_) _:=au.rowNil (shr G W) 55
 refine zZ (fun mq σ wq=> ∃(k:Nat) (vo:Value) (g:List Ev) (ρ:Env),mq=l.length-k∧σ=yf ρ [(0,vl),(3,Ix b2 0),(4,(Iz)),(7,Iw z),(8,Iw (1+f)),(5,vo),(9,Iw k)]∧(k≤l.length∧g.length≤k)∧(∀x∈g,x∈l)∧Sep G W ((RowE (α:=Ev) (shr G W) 55 vo g)::(Blk b2 (t.cells).toArray 38)::Rs) wq) ⟨q6,(Iz),[],_,rfl,sSf,⟨by omega,zY _⟩,(fun x h=>absurd h List.not_mem_nil),aw⟩ ?_
 rintro m22 σ23 w21 ⟨k,vo,g,ρl1,rfl,rfl,hkk,H,A⟩
 have Q:=A.r0
 have hr25s:_*96≤_:=Q.2
 refine za (za (zF kr (st (mV (Iw k) (st (mV vl (st (zC (n:=l.length) kT rfl hl.sl (st (zK (k:=.i64) (a:=((k:Nat):Int)) (b:=((l.length:Nat):Int)) rfl rfl (st (mV (.bool (decide (((k:Nat):Int)<((l.length:Nat):Int)))) (stc (V:=vo) rfl rfl (fun ay=>?_) ?_)))))))))))))
 have hl27:=tD ay
 exact mV vo rflB
 refine stc (V:=Iw g.length) rfl rfl (fun R=>?_) ?_
 have hl29:=tD R
 exact zC (n:=g.length) kT (ifpC R) Q.1 rflB
 refine stc (V:=Iw z) rfl rfl (fun az=>?_) ?_
 have hl31:=tD az
 exact mV (Iw z) rflB
 refine stc (V:=.bool (decide (((g.length:Nat):Int)<((z:Nat):Int)))) rfl rfl (fun I=>?_) ?_
 have hl33:=tD I
 exact zK (k:=.i64) (a:=((g.length:Nat):Int)) (b:=((z:Nat):Int)) (ifpC I) (ifpC I) rflB
 refine st (zx (b:=decide (((k:Nat):Int)<((l.length:Nat):Int))) (b':=decide (((g.length:Nat):Int)<((z:Nat):Int))) rfl (fun hbp=>(ifpC hbp)) (zb ?_))
 cases J:(decide (((k:Nat):Int)<((l.length:Nat):Int)))&&(decide (((g.length:Nat):Int)<((z:Nat):Int)))
 have hc34r:=J
 try simp only[zi]at J
 refine ze rfl (ya (zR (za (za (R0 fun _=>st (aS (Iv 0) (zb (zt (zZ (fun mq σ wq=> ∃(e:Nat) (d:List Ev) (ρ:Env),mq=d.length-e∧σ=yf ρ [(0,vl),(3,Ix b2 0),(4,(Iz)),(5,vo),(10,Iw e)]∧(d.length≤l.length)∧(∀x∈d,x∈l)∧Sep G W ((RowE (α:=Ev) (shr G W) 55 vo d)::(Blk b2 (t.cells).toArray 38)::Rs) wq) ⟨0,g,_,rfl,sSf,by omega,H,A⟩ ?_)))))))))
 rintro m36 σ37 w35 ⟨e,d,ρl2,rfl,rfl,aA,E,B⟩
 have q:=B.r0
 have hr39s:_*96≤_:=q.2
 refine za (za (zF kr (st (zda rfl (st (lD (.bool (t.back)) Tryz.isAgg4 rfl (zd (B.b1) rfl) (st (mV (.bool (t.back)) (stc (V:=Iw e) rfl rfl (fun hb40=>?_) ?_)))))))))
 exact mV (Iw e) rflB
 refine stc (V:=vo) rfl rfl (fun hb42=>?_) ?_
 exact mV vo rflB
 refine stc (V:=Iw d.length) rfl rfl (fun aB=>?_) ?_
 exact zC (n:=d.length) kT (ifpC aB) q.1 rflB
 refine stc (V:=Iw (d.length/2)) rfl rfl (fun aC=>?_) ?_
 exact Kj (r:=((d.length/2:Nat):Int)) (ifpC aC) rfl (by omega) (by rw[show Int.tdiv (((d.length:Nat):Int)) (2)=((d.length/2:Nat):Int)from(Int.ofNat_tdiv _ _).symm];exact zw (by omega)) rflB
 refine stc (V:=.bool (decide (((e:Nat):Int)<((d.length/2:Nat):Int)))) rfl rfl (fun S=>?_) ?_
 exact zK (k:=.i64) (a:=((e:Nat):Int)) (b:=((d.length/2:Nat):Int)) (ifpC S) (ifpC S) rflB
 refine st (zx (b:=t.back) (b':=decide (((e:Nat):Int)<((d.length/2:Nat):Int))) rfl (fun hbp=>(ifpC hbp)) (zb ?_))
 cases K:t.back&&(decide (((e:Nat):Int)<((d.length/2:Nat):Int)))
 have hc50r:=K
 try simp only[zi]at K
 refine ze rfl (ya (zR (za (R0 fun _=>st (mV vo (st (aS vo (zb (zq (zU Tryz.results11 (show _=(vo:Value)from rfl) ?_))))))))))
 refine⟨vo,d,rfl,?_,?_,(B.s2_a)⟩
 exact aA
 exact E
 try simp only[zi]at K
 refine zg rfl (zp (za (zt (za (R0 fun _=>st (mV vo (st (zC (n:=d.length) kT rfl q.1 ?_))))))))
 have aD:InR ((d.length-1:Nat):Int):=bo
 refine st (xK (r:=((d.length-1:Nat):Int)) (k:=.i64) (a:=((d.length:Nat):Int)) (b:=1) rfl rfl (by rw[show(((d.length:Nat):Int)-1:Int)=((d.length-1:Nat):Int)from bo];exact zw aD) (st (mV (Iw e) ?_)))
 have aE:InR (((d.length-1)-e:Nat):Int):=bo
 refine st (xK (r:=(((d.length-1)-e:Nat):Int)) (k:=.i64) (a:=((d.length-1:Nat):Int)) (b:=((e:Nat):Int)) rfl rfl (by rw[show(((d.length-1:Nat):Int)-((e:Nat):Int):Int)=(((d.length-1)-e:Nat):Int)from bo];exact zw aE) (st (aS (Iw ((d.length-1)-e)) (zb (za (zL (by kernel_rfl) (fun _=>(st (mV vo (st (mV (Iw e) ?_)))))))))))
 have aF:e<d.length:=bo
 refine st (zf (k:=10) (i:=e) kT lT rfl q.1 rfl aF ?_)
 have aG:e<d.length:=bo
 obtain⟨_,_,aj,m,rfl,s,T⟩:=B.rowAtD (i:=0) (j:=e) rfl aG
 refine st (zh (k:=10) pT lT rfl rfl aj (st (zG vT ?_)))
 intro w59 b58 aH
 have U:=B.new aH
 refine stn (zy (v:=.agg ((d.getD e default).cells m).toArray) (c':=((d.getD e default).cells m).toArray) lT rfl rfl (U.b0) (yo ⟨rfl,rfl,rfl,s.sl.one,rfl,rfl,rfl,rfl,rfl,rfl,zl⟩) yqc rfl ?_)
 intro w61 aI
 have X:=U.pt0 aI
 refine zb (za (R0 fun _=>st (mV vo (st (mV (Iw e) (st (mV vo (st (mV (Iw ((d.length-1)-e)) ?_)))))))))
 have aJ:(d.length-1)-e<d.length:=bo
 refine st (zf (k:=10) (i:=(d.length-1)-e) kT lT rfl q.1 rfl aJ ?_)
 have aK:(d.length-1)-e<d.length:=bo
 obtain⟨_,_,ak,p,rfl,C,Y⟩:=X.rowAtD (i:=1) (j:=(d.length-1)-e) rfl aK
 refine st (zh (k:=10) pT lT rfl rfl ak ?_)
 have aL:e<d.length:=bo
 refine st (zf (k:=10) (i:=e) kT lT rfl q.1 rfl aL ?_)
 refine stn (yJ (α:=Ev) (j:=e) (o:=0) (u:=.agg ((d.getD ((d.length-1)-e) default).cells p).toArray) (us:=(d.getD ((d.length-1)-e) default).cells p) (x1:=(d.getD ((d.length-1)-e) default)) ((X.mv1).emp1) lT bo rfl rfl rfl (yQ rfl) (yo ⟨rfl,rfl,rfl,C.sl.one,rfl,rfl,rfl,rfl,rfl,rfl,zl⟩) (fun _ _ F hel _=>(by have Z:=Src.len _ hel;have e0:F.take 0++((d.getD ((d.length-1)-e) default).cells p)++F.drop (0+((d.getD ((d.length-1)-e) default).cells p).length)=((d.getD ((d.length-1)-e) default).cells p):=(by rw[List.drop_eq_nil_of_le (by rw[Z];exact yQ rfl)];simp);rw[e0];exact(show _ from⟨_,rfl,C,Y⟩))) ?_)
 intro w68 L
 have aa:=L.r0
 have hr72s:_*96≤_:=aa.2
 refine zb (R0 fun _=>st (mV vo (st (mV (Iw ((d.length-1)-e)) (st (zh (k:=10) pT lT rfl rfl (zo (L.b1)) ?_))))))
 have aN:(d.length-1)-e<(d.set e (d.getD ((d.length-1)-e) default)).length:=bo
 refine st (zf (k:=10) (i:=(d.length-1)-e) kT lT rfl aa.1 rfl aN ?_)
 refine stn (yJ (α:=Ev) (j:=(d.length-1)-e) (o:=0) (u:=.agg ((d.getD e default).cells m).toArray) (us:=(d.getD e default).cells m) (x1:=(d.getD e default)) (L.emp1) lT bo rfl rfl rfl (yQ rfl) (yo ⟨rfl,rfl,rfl,s.sl.one,rfl,rfl,rfl,rfl,rfl,rfl,zl⟩) (fun _ _ F hel _=>(by have Z:=Src.len _ hel;have e0:F.take 0++((d.getD e default).cells m)++F.drop (0+((d.getD e default).cells m).length)=((d.getD e default).cells m):=(by rw[List.drop_eq_nil_of_le (by rw[Z];exact yQ rfl)];simp);rw[e0];exact(show _ from⟨_,rfl,s,T⟩))) ?_)
 intro w74 ab
 have aO:=ab.r0
 have hr77s:_*96≤_:=aO.2
 refine zb (R0 fun _=>st (mV (Iw e) ?_))
 have aP:InR ((e+1:Nat):Int):=bo
 refine st (zO (r:=((e+1:Nat):Int)) (k:=.i64) (a:=((e:Nat):Int)) (b:=1) rfl rfl (by rw[show(((e:Nat):Int)+1:Int)=((e+1:Nat):Int)from bo];exact zw aP) (st (aS (Iw (e+1)) (zb ?_))))
 exact⟨_,by simp only[List.length_set];omega,e+1,((d.set e (d.getD ((d.length-1)-e) default)).set ((d.length-1)-e) (d.getD e default)),_,rfl,sSf,by simp only[List.length_set];omega,(KI (KI E (E _ (UI (by omega)))) (E _ (UI (by omega)))),(ab.s3_ac)⟩
 try simp only[zi]at J
 refine zg rfl (zp (za (zt (za (zF kr (st (mV (Iw (1+f)) (st (zK (k:=.i64) (a:=((1+f:Nat):Int)) (b:=3) rfl rfl (st (mV (.bool (decide (((1+f:Nat):Int)<3))) (stc (V:=Iw k) rfl rfl (fun aQ=>?_) ?_))))))))))))
 have hl81:=fD aQ
 exact mV (Iw k) rflB
 refine stc (V:=Iw (1+f)) rfl rfl (fun aR=>?_) ?_
 have hl83:=fD aR
 exact mV (Iw (1+f)) rflB
 refine stc (V:=Iw (k%(1+f))) rfl rfl (fun M=>?_) ?_
 have hl85:=fD M
 have aT:(0:Int)<((1+f:Nat):Int):=by omega
 have h086m:k%(1+f)<(1+f):=Nat.mod_lt _ om
 exact zaK (r:=((k%(1+f):Nat):Int)) (ifpC M) (ifpC M) aT (Int.ofNat_tmod _ _).symm rflB
 refine stc (V:=.bool (!decide (((k%(1+f):Nat):Int)=1))) rfl rfl (fun ac=>?_) ?_
 have hl88:=fD ac
 exact yy (k:=.i64) (a:=((k%(1+f):Nat):Int)) (b:=1) (ifpC ac) rfl rflB
 refine st (zI (b:=decide (((1+f:Nat):Int)<3)) (b':= !decide (((k%(1+f):Nat):Int)=1)) rfl (fun hbp=>(ifpC hbp)) (zb ?_))
 cases N:(decide (((1+f:Nat):Int)<3))||(!decide (((k%(1+f):Nat):Int)=1))
 have hc89r:=N
 try simp only[zi]at N
 refine ze rfl (zp (R0 fun _=>st (mV (Iw k) ?_)))
 have aU:InR ((k+1:Nat):Int):=bo
 refine st (zO (r:=((k+1:Nat):Int)) (k:=.i64) (a:=((k:Nat):Int)) (b:=1) rfl rfl (by rw[show(((k:Nat):Int)+1:Int)=((k+1:Nat):Int)from bo];exact zw aU) (st (aS (Iw (k+1)) (zb ?_))))
 exact⟨_,by omega,k+1,vo,g,_,rfl,sSf,⟨by omega,by omega⟩,H,A⟩
 try simp only[zi]at N
 refine zg rfl (R0 fun _=>st (mV vo (st (mV vl (st (mV (Iw k) ?_))))))
 have aV:k<l.length:=bo
 refine st (zf (k:=10) (i:=k) kT lT rfl hl.sl rfl aV ?_)
 have ad:k<l.length:=bo
 obtain⟨al,D,ae⟩:=hl.evD ad
 have hsm94:((l.getD k default).deps).length*8≤140737488355328:=D.small
 have am:=A.cells al (hl.foot (ne_of_lt ad))
 refine st (zh (k:=10) pT lT rfl rfl am (st (zH (k:=10) (parts':=[(0,.agg ((l.getD k default).cells (zT W (sb vl) (so vl+k*10+3))).toArray)]) (c:=((l.getD k default).cells (zT W (sb vl) (so vl+k*10+3))).toArray) kT lT vT dc rfl kr ?_)))
 intro w98 b97 aW
 have af:=A.new aW
 have ag:=af.b0
 refine st (yq (src:=(shr G W)) (bytes:=96) (x1:=(l.getD k default)) ((af.s3_bc).emp1) Us rfl rfl ag (fun _ _ _=>(show _ from⟨_,rfl,D,ae⟩)) yqb rfl ?_)
 intro ah w100 O
 have an:=O.r0
 have hr106s:_*96≤_:=an.2
 refine st (aS ah (zb (R0 fun _=>st (mV (Iw k) ?_))))
 have ao:InR ((k+1:Nat):Int):=bo
 refine st (zO (r:=((k+1:Nat):Int)) (k:=.i64) (a:=((k:Nat):Int)) (b:=1) rfl rfl (by rw[show(((k:Nat):Int)+1:Int)=((k+1:Nat):Int)from bo];exact zw ao) (st (aS (Iw (k+1)) (zb ?_))))
 exact⟨_,by omega,k+1,ah,(g++[(l.getD k default)]),_,rfl,sSf,⟨by omega,by rw[List.length_append,List.length_singleton];omega⟩,(JU H (UI (by omega))),O⟩
theorem zcV {P:Program}{d:Option Tmp}{ty:TypeId}{pos:String}{af:Array Edge}{g:Option (Nat×Bool)}{σ:Env}{w:World}{K:Value→World→Prop}{x y:Operand}{t t2:TypeId}{k yk:IntKind}{a b r:Int}(hx:ev σ x=.int k a)(hy:ev σ y=.int yk b)(h0:0≤b)(h1:b≤k.bits)(hr:k.wrap (a*2^b.toNat)=r)(h:K (.int k r) w):opV P ⟨d,.binOp .shl t x y t2,ty,pos,af,g⟩ σ w K:=
 yp (v:=.int k r) (w':=w) (by subst hr;simp[execOp,hx,hy,eqGuard,binOp,shift_shl k yk a b h0 h1,go_sem]) h
def dC:Dcl:=⟨[⟨[⟨1,1,false,[]⟩]⟩],[⟨0,0,1,0,2⟩]⟩
def fiv:List Ev:=[⟨0,1,1,[0],0,0,0,1,1,0⟩,⟨0,2,2,[1],0,0,0,1,2,0⟩,⟨0,3,3,[2],0,0,0,1,4,0⟩,⟨0,4,4,[3],0,0,0,1,8,0⟩,⟨0,5,5,[4],0,0,0,1,16,0⟩]
theorem XA {P:Nat→Prop}(h0:P 0)(h1:P 1)(h2:P 2)(h3:P 3)(h4:P 4){k:Nat}(h:k<5):P k:=by
 match k,h with
 |0,_=>exact h0
 |1,_=>exact h1
 |2,_=>exact h2
 |3,_=>exact h3
 |4,_=>exact h4
theorem zcH {k:Nat}(h:k<5):InR ((2^k:Nat):Int):=XA (P:=fun k=>InR ((2^k:Nat):Int)) (by decide) (by decide) (by decide) (by decide) (by decide) h
theorem zcM {k:Nat}(h:k<5):IntKind.i64.wrap (1*2^((k:Nat):Int).toNat)=((2^k:Nat):Int):=XA (P:=fun k=>IntKind.i64.wrap (1*2^((k:Nat):Int).toNat)=((2^k:Nat):Int)) rfl rfl rfl rfl rfl h
theorem VS {k:Nat}(h:k<5)(d:Value):(fiv.getD k default).cells d=[.int .i64 0,.int .i64 ((k+1:Nat):Int),.int .i64 ((k+1:Nat):Int),d,.int .i64 0,.int .i64 0,.int .i64 0,.int .i64 1,.int .i64 ((2^k:Nat):Int),.int .i64 0]:=XA (P:=fun k=>(fiv.getD k default).cells d=[.int .i64 0,.int .i64 ((k+1:Nat):Int),.int .i64 ((k+1:Nat):Int),d,.int .i64 0,.int .i64 0,.int .i64 0,.int .i64 1,.int .i64 ((2^k:Nat):Int),.int .i64 0]) rfl rfl rfl rfl rfl h
theorem zdC {k:Nat}(h:k<5):(fiv.getD k default).Ok:=XA (P:=fun k=>(fiv.getD k default).Ok) (by constructor<;>decide) (by constructor<;>decide) (by constructor<;>decide) (by constructor<;>decide) (by constructor<;>decide) h
theorem zbo {k:Nat}(h:k<5):[((k:Nat):Int)]=(fiv.getD k default).deps:=XA (P:=fun k=>[((k:Nat):Int)]=(fiv.getD k default).deps) rfl rfl rfl rfl rfl h
instance (a b:Ev):Decidable (Zq a b):=inferInstanceAs (Decidable (_∧_))
instance (l m:List Ev):Decidable (UZ l m):=inferInstanceAs (Decidable (∀a∈l,∀b∈m,Zq a b→a=b))
theorem WQ:DclOk dC:=by
 have one: ∀{P:Nat→Prop},P 0→ ∀i,i<1→P i:=fun{P} h i hi=>(show i=0 by omega)▸h
 refine⟨Nat.le_refl 1,(by show 1≤8;decide),one (P:=fun i=>TypOk (dC.types.getD i default)) ?_⟩
 refine⟨Nat.le_refl 1,(by show 1≤8;decide),?_,?_,?_,?_⟩
 ·intro i hi;obtain rfl:i=0:=by have:i<1:=hi;omega
  exact⟨(by decide:(1:Int)≤1),(by decide:(1:Int)≤4)⟩
 ·intro i hi h;obtain rfl:i=0:=by have:i<1:=hi;omega
  cases h
 ·intro i hi;obtain rfl:i=0:=by have:i<1:=hi;omega
  exact⟨fun h=>absurd h (by show ¬(1:Int)=4;decide),Nat.zero_le _⟩
 ·intro i hi j hj;obtain rfl:i=0:=by have:i<1:=hi;omega
  exact absurd hj (Nat.not_lt_zero j)
theorem Wj:Xq dC:=⟨by decide,fun i hi=>(show i=0 by have:i<1:=hi;omega)▸⟨by decide,⟨by decide,by decide⟩,by decide,by decide⟩⟩
theorem zbt (hS0:Sep G W Rs w):Ret Tryz.prog 24 [] w (fun r w'=> ∃(v:Value),r=(v:Value)∧Sep G W ((RowE (α:=Ev) own 55 v fiv)::Rs) w'):=by
 refine zn (args:=[]) Tryz.func24 rfl rfl ?_
 refine za (R0 fun _=>st (aS Iz (zb (za (R0 fun _=>st (aS Iz (zb (za (za (R0 fun _=>st (aS (Iv 0) (zb (zt ?_)))))))))))))
 have z:Sep G W ((RowE (α:=Ev) own 55 Iz ([]:List Ev))::Rs) w:=hS0.rowNil own 55
 refine zZ (fun mq σ F=> ∃(k:Nat) (vo:Value) (ρ:Env),mq=5-k∧σ=yf ρ [(0,(Iz)),(2,Iw k),(1,vo)]∧(k≤5)∧Sep G W ((RowE (α:=Ev) own 55 vo (fiv.take k))::Rs) F) ⟨0,(Iz),_,rfl,sSf,zY _,z⟩ ?_
 rintro m3 σ4 w2 ⟨k,vo,ρl1,rfl,rfl,hkk,h⟩
 have A:=h.r0
 have hr6s:_*96≤_:=A.2
 refine za (za (R0 fun _=>st (mV (Iw k) (st (zK (k:=.i64) (a:=((k:Nat):Int)) (b:=5) rfl rfl (zb ?_))))))
 cases g:decide (((k:Nat):Int)<5)
 have g:=fD g
 have B:k=5:=by omega
 subst B
 refine ze rfl (ya (zR (za (R0 fun _=>st (mV vo (st (aS vo (zb (zq (zU Tryz.results24 (show _=(vo:Value)from rfl) ?_))))))))))
 refine⟨vo,rfl,h⟩
 have g:=tD g
 refine zg rfl (zp (za (zt (R0 fun _=>st (mV vo (st (mV (Iw k) ?_)))))))
 have C:InR ((k+1:Nat):Int):=bo
 refine st (zO (r:=((k+1:Nat):Int)) (k:=.i64) (a:=((k:Nat):Int)) (b:=1) rfl rfl (by rw[show(((k:Nat):Int)+1:Int)=((k+1:Nat):Int)from bo];exact zw C) ?_)
 refine st (zV (parts':=[(1,Iw (k+1))]) (v:=.agg #[Iv 0,Iw (k+1)]) rfl (by first|(rw[VS (by omega)];simp[Instr.build,Instr.fill,go_sem])|simp[Instr.build,Instr.fill,go_sem]) (st (mV (Iw k) ?_)))
 have D:InR ((k+1:Nat):Int):=bo
 refine st (zO (r:=((k+1:Nat):Int)) (k:=.i64) (a:=((k:Nat):Int)) (b:=1) rfl rfl (by rw[show(((k:Nat):Int)+1:Int)=((k+1:Nat):Int)from bo];exact zw D) (st (mV (Iw k) (st (zH (k:=1) (parts':=[(0,Iw k)]) (c:=#[Iw k]) Tryz.underlying53 Tryz.sizeOf3 Tryz.zeroValue3 (by decide) rfl (by kernel_rfl) ?_)))))
 intro E d o
 refine st (mV (Iw k) (st (KA (k:=.i64) (k2:=.u64) (a:=((k:Nat):Int)) (r:=((k:Nat):Int)) (by rw[Tryz.underlying3];rfl) Tryz.underlying108 rfl (Qj ⟨by omega,by omega⟩) ?_)))
 have hpw14:=zcH (k:=k) om
 refine st (zcV (k:=.i64) (yk:=.u64) (a:=1) (b:=((k:Nat):Int)) (r:=((2^k:Nat):Int)) rfl rfl om (show((k:Nat):Int)≤64 by omega) (zcM om) ?_)
 refine st (zV (parts':=[(0,.agg #[Iv 0,Iw (k+1)]),(1,Iw (k+1)),(2,(Iy d 1 1)),(6,Iv 1),(7,Iv (((2^k:Nat):Int)))]) (v:=.agg ((fiv.getD k default).cells (Iy d 1 1)).toArray) rfl (by first|(rw[VS (by omega)];simp[Instr.build,Instr.fill,go_sem])|simp[Instr.build,Instr.fill,go_sem]) ?_)
 have e:Sep _ _ ((RowE (α:=Int) own 3 (Iy d 1 1) [((k:Nat):Int)])::_) _:=Sep.blkRow (src:=own) (l:=[((k:Nat):Int)]) (css:=[[Iw k]]) (h.new o) rfl ⟨fun _ _=>⟨rfl,(by omega)⟩,zl⟩ yqa (show 1≤maxLen by decide)
 have p:=e.r0
 have hr16s:_*8≤_:=p.2
 have q:=zbo (k:=k) om
 rw[q]at e
 have i:Sep G W ((RowE (α:=Int) own 3 (Iy d 1 1) ((fiv.getD k default).deps))::(RowE (α:=Ev) own 55 vo (fiv.take k))::Rs) E:=e
 have s:=i.r0
 have hr18s:_*8≤_:=s.2
 refine st (zH (k:=10) (parts':=[(0,.agg ((fiv.getD k default).cells (Iy d 1 1)).toArray)]) (c:=((fiv.getD k default).cells (Iy d 1 1)).toArray) kT lT vT dc rfl kr ?_)
 intro w21 b20 t
 have j:=i.new t
 have m:=j.b0
 refine st (yq (src:=own) (bytes:=96) (x1:=(fiv.getD k default)) (j.s3_cb) Us rfl rfl m (fun _ _ H=>⟨_,rfl,RowE.soft H,(zdC (by omega))⟩) yqb rfl ?_)
 intro n w23 f
 have u:=f.r0
 have hr28s:_*96≤_:=u.2
 refine st (aS n (zb (R0 fun _=>st (mV (Iw k) ?_))))
 have x:InR ((k+1:Nat):Int):=bo
 refine st (zO (r:=((k+1:Nat):Int)) (k:=.i64) (a:=((k:Nat):Int)) (b:=1) rfl rfl (by rw[show(((k:Nat):Int)+1:Int)=((k+1:Nat):Int)from bo];exact zw x) (st (aS (Iw (k+1)) (zb ?_))))
 have y:(fiv.take (k+1))=(fiv.take k)++[(fiv.getD k default)]:=(List.take_getD (show k<5 by omega))
 rw[←y]at f
 exact⟨_,by omega,k+1,n,_,rfl,sSf,by omega,f⟩
theorem yqg {p:Prop}(h:p:=by decide+kernel):p:=h
theorem zcI {x y:Operand}{a0 a1 a2 b0 b1 b2:Int}: ∀w,(do eqGuard .neq 70 x y (.agg #[.int .i64 a0,.int .i64 a1,.int .i64 a2]) (.agg #[.int .i64 b0,.int .i64 b1,.int .i64 b2]);binOp .neq 70 (.agg #[.int .i64 a0,.int .i64 a1,.int .i64 a2]) (.agg #[.int .i64 b0,.int .i64 b1,.int .i64 b2]):Sem Value).run Tryz.prog w=.ok (.bool (!decide (a0=b0∧a1=b1∧a2=b2))) w:=by
 intro w
 have h: ∀w,(Op.equal 70 (.agg #[.int .i64 a0,.int .i64 a1,.int .i64 a2]) (.agg #[.int .i64 b0,.int .i64 b1,.int .i64 b2])).run Tryz.prog w=.ok (decide (a0=b0∧a1=b1∧a2=b2)) w:=by
  intro w
  rw[show decide (a0=b0∧a1=b1∧a2=b2)=(a0== b0&&a1== b1&&a2== b2) by by_cases h1:a0=b0<;>by_cases h2:a1=b1<;>by_cases h3:a2=b2<;>simp[h1,h2,h3]];unfold Op.equal Op.maxDepth;simp[go_sem];by_cases h1:a0=b0<;>by_cases h2:a1=b1<;>by_cases h3:a2=b2<;>simp[h1,h2,h3]
 simp[eqGuard,binOp,h,go_sem]
theorem Xy {va:Value}{a:List Row}(ha:RdS W G va a){vb:Value}{b:List Row}(hb:RdS W G vb b)(hS0:Sep G W Rs w):Ret Tryz.prog 30 [va,vb] w (fun r w'=>r=(.bool (decide (a=b)):Value)∧Sep G W Rs w'):=by
 have has:_*24≤_:=ha.small
 have hbs:_*24≤_:=hb.small
 refine zn (args:=[va,vb]) Tryz.func30 rfl rfl ?_
 refine za (R0 fun _=>st (aS (.bool false) (zb (za (za (R0 fun _=>st (mV va (st (zC (n:=a.length) qT rfl ha.sl (st (mV vb (st (zC (n:=b.length) qT rfl hb.sl (st (yy (k:=.i64) (a:=((a.length:Nat):Int)) (b:=((b.length:Nat):Int)) rfl rfl (zb ?_))))))))))))))))
 cases g: !decide (((a.length:Nat):Int)=((b.length:Nat):Int))
 have g:=zQ g
 refine ze rfl (zp (za (za (R0 fun _=>st (aS (Iv 0) (zb (zt (zZ (fun mq σ J=> ∃(k:Nat) (ρ:Env),mq=a.length-k∧σ=yf ρ [(0,va),(1,vb),(5,Iw k)]∧(k≤a.length)∧(∀i,i<k→a.getD i default=b.getD i default)∧Sep G W Rs J) ⟨0,_,rfl,sSf,zY _,(fun i h=>absurd h (yO i)),hS0⟩ ?_))))))))
 rintro m3 σ4 w2 ⟨k,ρl1,rfl,rfl,hkk,hm,I⟩
 refine za (za (R0 fun _=>st (mV (Iw k) (st (mV va (st (zC (n:=a.length) qT rfl ha.sl (st (zK (k:=.i64) (a:=((k:Nat):Int)) (b:=((a.length:Nat):Int)) rfl rfl (zb ?_))))))))))
 cases m:decide (((k:Nat):Int)<((a.length:Nat):Int))
 have m:=fD m
 refine ze rfl (ya (zR (za (R0 fun _=>st (aS (.bool true) (zb (zq (zU rR (show _=(.bool true:Value)from rfl) ?_))))))))
 refine⟨?_,I⟩
 rw[decide_eq_true (XC (by omega) (fun i hi=>hm i (by omega)))]
 have m:=tD m
 refine zg rfl (zp (za (zt (za ?_))))
 refine WD4 (WF [fun vals J=>Sep G W Rs J]) (AF [Vl 0 va,Vl 1 (Iw k),Vl 2 (Ix (sb va) (so va+k*3)),Vl 3 (.agg ((a.getD k default).cells).toArray),Vl 4 vb,Vl 5 (Iw k),Vl 6 (Ix (sb vb) (so vb+k*3)),Vl 7 (.agg ((b.getD k default).cells).toArray),Vl 8 (.bool (!decide ((a.getD k default).group=(b.getD k default).group∧(a.getD k default).value=(b.getD k default).value∧(a.getD k default).count=(b.getD k default).count)))]) [[],[],[0,1],[0,1,2],[],[],[4,5],[4,5,6],(rg 8)] [] [(0,0),(0,0),(0,0),(0,0),(0,0),(0,0),(0,0),(0,0),(0,0)] I ⟨fun _ _ _ _ _ _ _=>obl rfl (mV va dR),fun _ _ _ _ _ _ _=>obl rfl (mV (Iw k) dR),?_,?_,fun _ _ _ _ _ _ _=>obl rfl (mV vb dR),fun _ _ _ _ _ _ _=>obl rfl (mV (Iw k) dR),?_,?_,ob1 0 fun _ _ _ o=>obl rfl (XO (e:=decide ((a.getD k default).group=(b.getD k default).group∧(a.getD k default).value=(b.getD k default).value∧(a.getD k default).count=(b.getD k default).count)) (xs:=#[Iv ((a.getD k default).group),Iv ((a.getD k default).value),Iv ((a.getD k default).count)]) (ys:=#[Iv ((b.getD k default).group),Iv ((b.getD k default).value),Iv ((b.getD k default).count)]) zcI (o 3 dc) (o 7 dc) dR),zl⟩ ?_
 refine ob1 0 fun _ _ _ u=>(obl rfl ?_)
 have y:k<a.length:=bo
 exact zf (k:=3) (i:=k) qT sT (u 0 dc) ha.sl (u 1 dc) y dR
 refine ob1 0 fun _ _ (z:Sep _ _ _ _) A=>(obl rfl ?_)
 have d:k<a.length:=bo
 obtain⟨j,s⟩:=ha.row d
 rw[←zJ default d]at j s
 have v:=z.cells j (ha.foot (ne_of_lt d))
 exact zh (k:=3) sR sT rfl (A 2 dc) v dR
 refine ob1 0 fun _ _ _ p=>(obl rfl ?_)
 have B:k<b.length:=bo
 exact zf (k:=3) (i:=k) qT sT (p 4 dc) hb.sl (p 5 dc) B dR
 refine ob1 0 fun _ _ (C:Sep _ _ _ _) D=>(obl rfl ?_)
 have f:k<b.length:=bo
 obtain⟨l,t⟩:=hb.row f
 rw[←zJ default f]at l t
 have x:=C.cells l (hb.foot (ne_of_lt f))
 exact zh (k:=3) sR sT rfl (D 6 dc) x dR
 intro vals w157 E F
 have q:Sep _ _ _ _:=E
 have K:=F 8 dc
 refine yg (kv:=[(0,va),(1,vb),(5,Iw k),(11,Iw k),(12,va),(13,Iw a.length),(14,.bool true),(25,.bool (!decide ((a.getD k default).group=(b.getD k default).group∧(a.getD k default).value=(b.getD k default).value∧(a.getD k default).count=(b.getD k default).count)))]) ⟨rfl,rfl,rfl,rfl,rfl,rfl,rfl,(by exact K),zl⟩ (fun ρw157=>(zb ?_))
 cases c: !decide ((a.getD k default).group=(b.getD k default).group∧(a.getD k default).value=(b.getD k default).value∧(a.getD k default).count=(b.getD k default).count)
 have c:=zQ c
 refine ze rfl (zp (R0 fun _=>st (mV (Iw k) ?_)))
 have H:InR ((k+1:Nat):Int):=bo
 refine st (zO (r:=((k+1:Nat):Int)) (k:=.i64) (a:=((k:Nat):Int)) (b:=1) rfl rfl (by rw[show(((k:Nat):Int)+1:Int)=((k+1:Nat):Int)from bo];exact zw H) (st (aS (Iw (k+1)) (zb ?_))))
 exact⟨_,by omega,k+1,_,rfl,sSf,by omega,(xf hm (Row.eq_iff.2 c)),q⟩
 have c:=yn c
 refine zg rfl (za (R0 fun _=>st (aS (.bool false) (zb (zq (zU rR (show _=(.bool false:Value)from rfl) ?_))))))
 refine⟨?_,q⟩
 rw[decide_eq_false (fun e=>by subst e;first|omega|(simp at c))]
 have g:=yn g
 refine zg rfl (za (R0 fun _=>st (aS (.bool false) (zb (zq (zU rR (show _=(.bool false:Value)from rfl) ?_))))))
 refine⟨?_,hS0⟩
 rw[decide_eq_false (fun e=>by subst e;first|omega|(simp at g))]
theorem YT (hS0:Sep G W Rs w):Ret Tryz.prog 25 [] w (fun r w'=> ∃(bt:Nat) (bf:Nat) (bp:Nat),r=(.agg #[(.slice (some ⟨bt,0,none⟩) 1 1),(.slice (some ⟨bp,0,none⟩) 1 1)]:Value)∧Sep G W ((Blk bt #[(.slice (some ⟨bf,0,none⟩) 1 1)] 83)::(Blk bf #[.int .i64 (1),.int .i64 (1),.bool false,.slice none 0 0] 87)::(Blk bp #[.int .i64 (0),.int .i64 (0),.int .i64 (1),.int .i64 (0),.int .i64 (2)] 73)::Rs) w'):=by
 refine zn (args:=[]) Tryz.func25 rfl rfl ?_
 refine za (R0 fun _=>st (zG Tryz.zeroValue25 ?_))
 intro w3 b2 j
 refine zb (za (zL (by kernel_rfl) (fun _=>(st (zV (parts':=[(0,Iv 1),(1,Iv 1)]) (v:=.agg #[Iv 1,Iv 1,.bool false,(Iz)]) rfl (by simp+zetaDelta [Instr.build,Instr.fill,go_sem,xA]) (st (zH (k:=4) (parts':=[(0,.agg #[Iv 1,Iv 1,.bool false,(Iz)])]) (c:=#[Iv 1,Iv 1,.bool false,(Iz)]) Tryz.underlying81 Tryz.sizeOf87 Tryz.zeroValue87 (by decide) rfl (by kernel_rfl) ?_)))))))
 intro w7 e l
 refine st (zV (parts':=[(0,(Iy e 1 1))]) (v:=.agg #[(Iy e 1 1)]) rfl (by simp+zetaDelta [Instr.build,Instr.fill,go_sem,xA]) (st (zH (k:=1) (parts':=[(0,.agg #[(Iy e 1 1)])]) (c:=#[(Iy e 1 1)]) Tryz.underlying22 Tryz.sizeOf83 Tryz.zeroValue83 (by decide) rfl (by kernel_rfl) ?_)))
 intro w11 a m
 refine st (zV (parts':=[(2,Iv 1),(4,Iv 2)]) (v:=.agg #[Iv 0,Iv 0,Iv 1,Iv 0,Iv 2]) rfl (by simp+zetaDelta [Instr.build,Instr.fill,go_sem,xA]) (st (zH (k:=5) (parts':=[(0,.agg #[Iv 0,Iv 0,Iv 1,Iv 0,Iv 2])]) (c:=#[Iv 0,Iv 0,Iv 1,Iv 0,Iv 2]) tR Tryz.sizeOf73 Tryz.zeroValue73 (by decide) rfl (by kernel_rfl) ?_)))
 intro w15 d h
 have f:=(((hS0.new j).new l).new m).new h
 refine st (zV (parts':=[(0,(Iy a 1 1)),(1,(Iy d 1 1))]) (v:=.agg #[(Iy a 1 1),(Iy d 1 1)]) rfl (by simp+zetaDelta [Instr.build,Instr.fill,go_sem,xA]) (stn (zy (v:=.agg #[(Iy a 1 1),(Iy d 1 1)]) (c':=#[(Iy a 1 1),(Iy d 1 1)]) rT rfl rfl (f.b3) (yo ⟨rfl,rfl,zl⟩) yqc rfl ?_)))
 intro w17 i
 have g:=f.pt3 i
 refine zb (zq (Yd (b:=b2) Tryz.results25 tT rT rfl rfl (zo (g.b3)) ?_))
 refine⟨a,e,d,rfl,(g.s4_bca)⟩
set_option maxHeartbeats 8000000 in
set_option maxRecDepth 20000 in
theorem xQ (hKN:RdS W G (.slice (some ⟨0,0,none⟩) 6 6) kindsL)(hS0:Sep G W Rs w):Ret Tryz.prog 6 [] w (fun r w'=>r=(.bool true:Value)∧Sep G W Rs w'):=by
 have hKNs:_*8≤_:=hKN.small
 refine zn (args:=[]) Tryz.func6 rfl rfl ?_
 refine za (R0 fun _=>st (aS (.bool false) (zb (za (R0 fun _=>st (cL Tryz.call25 (YT hS0) ?_))))))
 rintro _ w4 ⟨es,aD,aE,rfl,fp⟩
 have et:Sep _ _ ((RowE (α:=Fld) (shr G W) 87 (Iy aD 1 1) [(⟨1,1,false,[]⟩:Fld)])::_) _:=Sep.blkRow (src:=(shr G W)) (l:=[(⟨1,1,false,[]⟩:Fld)]) (css:=[(⟨1,1,false,[]⟩:Fld).cells (Iz)]) (fp.mv1) rfl ⟨fun _ _=>⟨_,rfl,(RdS.nil _ _),(show Fld.Ok (⟨1,1,false,[]⟩:Fld)from⟨by decide,by decide⟩)⟩,zl⟩ yqa (show 1≤maxLen by decide)
 have fq:=et.r0
 have hr8s:_*48≤_:=fq.2
 obtain⟨G9,ew,bv,ex,ey⟩:=et.lend
 have aF:=RowE.rdB ew bv
 have hrd15s:_*48≤_:=aF.small
 have bw:Sep _ _ ((RowE (α:=Typ) (shr G9 w4) 83 (Iy es 1 1) [(⟨[(⟨1,1,false,[]⟩:Fld)]⟩:Typ)])::_) _:=Sep.blkRow (src:=(shr G9 w4)) (l:=[(⟨[(⟨1,1,false,[]⟩:Fld)]⟩:Typ)]) (css:=[(⟨[(⟨1,1,false,[]⟩:Fld)]⟩:Typ).cells (Iy aD 1 1)]) ex rfl ⟨fun _ _=>⟨_,rfl,aF,(show Typ.Ok (⟨[(⟨1,1,false,[]⟩:Fld)]⟩:Typ)from⟨⟩)⟩,zl⟩ yqa (show 1≤maxLen by decide)
 have ez:=bw.r0
 have hr17s:_*24≤_:=ez.2
 obtain⟨fs,eA,bx,eB,eC⟩:=bw.lend
 have aG:=RowE.rdB eA bx
 have hrd24s:_*24≤_:=aG.small
 have bz:Sep fs w4 ((RowE (α:=Prj) own 73 (Iy aE 1 1) [(⟨0,0,1,0,2⟩:Prj)])::Rs) w4:=Sep.blkRow (src:=own) (l:=[(⟨0,0,1,0,2⟩:Prj)]) (css:=[(⟨0,0,1,0,2⟩:Prj).cells]) eB rfl ⟨fun _ _=>⟨rfl,(show Prj.Ok (⟨0,0,1,0,2⟩:Prj)from⟨by decide,by decide,by decide,by decide,by decide⟩)⟩,zl⟩ yqa (show 1≤maxLen by decide)
 have eD:=bz.r0
 have hr26s:_*40≤_:=eD.2
 obtain⟨G27,eE,bA,eF,eG⟩:=bz.lend
 have aH:=RowE.rd eE
 have hrd33s:_*40≤_:=aH.small
 refine st (cL wT (YD (d:=dC) (every:=2) (zv aG bA) aH (⟨⟩:Dcl.Ok dC) dc (zv (zv (zv hKN bv) bx) bA) eF WQ) ?_)
 rintro _ ft ⟨x,eH,rfl,hev36,eI⟩
 have eJ:=eG _ _ eI
 have eK:=eC _ _ eJ
 have eL:=ey _ _ eK
 refine st (aS (Ix x 0) (zb (za ?_)))
 obtain rfl:eH=2:=by omega
 have eM:Sep G W ((RowE (α:=Fld) (shr G W) 87 (Iy aD 1 1) [(⟨1,1,false,[]⟩:Fld)])::(RowE (α:=Prj) own 73 (Iy aE 1 1) [(⟨0,0,1,0,2⟩:Prj)])::(BaseO x dC 2 ([]:List Ev))::Rs) ft:=(eL.s4_acd)
 refine R0 fun _=>st (cL Tryz.call24 (zbt eM) ?_)
 rintro e t ⟨_,rfl,bB⟩
 let fv:=zT t (sb e) (so e+4*10+3)
 let fu:=zT t (sb e) (so e+2*10+3)
 let fr:=zT t (sb e) (so e+1*10+3)
 let bW:=zT t (sb e) (so e+0*10+3)
 have eN:=bB.r0
 have hr47s:_*96≤_:=eN.2
 refine st (aS e (zb (za (za ?_))))
 have hf5:fiv.length=5:=rfl
 obtain⟨E,eO,Q,eP,eQ⟩:=bB.lend
 have m:=RowE.rd eO
 have hrd54s:_*96≤_:=m.small
 refine WD6 ((fun N O eu X=>WF [fun vals I=>Sep E t (N::O::(BaseO x dC 2 ([]:List Ev))::Rs) I,fun vals I=>(vals 6=(Iw ((fiv.take 3).length-yv 2 (fiv.take 3) ([]:List Ev)):Value))∧Sep E t ((BaseO x dC 2 (fiv.take 3))::N::O::Rs) I,fun _ _=>True,fun vals I=>(vals 6=(Iw ((fiv.take 3).length-yv 2 (fiv.take 3) ([]:List Ev)):Value))∧(vals 13=(Iw ((fiv.take 4).length-yv 2 (fiv.take 4) (fiv.take 3)):Value))∧Sep E t (eu::N::O::Rs) I,fun _ _=>True,fun _ _=>True,fun _ _=>True,fun vals I=> ∃(h:Nat),(vals 6=(Iw ((fiv.take 3).length-yv 2 (fiv.take 3) ([]:List Ev)):Value))∧(vals 13=(Iw ((fiv.take 4).length-yv 2 (fiv.take 4) (fiv.take 3)):Value))∧(vals 30=((Iy h 4 4):Value))∧Sep E t ((Blk h #[Iv ((fiv.getD 0 default).origin),Iv ((fiv.getD 0 default).seq),Iv ((fiv.getD 0 default).lam),bW,Iv ((fiv.getD 0 default).typ),Iv ((fiv.getD 0 default).agg),Iv ((fiv.getD 0 default).field),Iv ((fiv.getD 0 default).op),Iv ((fiv.getD 0 default).arg),Iv ((fiv.getD 0 default).key),Iv ((fiv.getD 1 default).origin),Iv ((fiv.getD 1 default).seq),Iv ((fiv.getD 1 default).lam),fr,Iv ((fiv.getD 1 default).typ),Iv ((fiv.getD 1 default).agg),Iv ((fiv.getD 1 default).field),Iv ((fiv.getD 1 default).op),Iv ((fiv.getD 1 default).arg),Iv ((fiv.getD 1 default).key),Iv ((fiv.getD 2 default).origin),Iv ((fiv.getD 2 default).seq),Iv ((fiv.getD 2 default).lam),fu,Iv ((fiv.getD 2 default).typ),Iv ((fiv.getD 2 default).agg),Iv ((fiv.getD 2 default).field),Iv ((fiv.getD 2 default).op),Iv ((fiv.getD 2 default).arg),Iv ((fiv.getD 2 default).key),Iv ((fiv.getD 4 default).origin),Iv ((fiv.getD 4 default).seq),Iv ((fiv.getD 4 default).lam),fv,Iv ((fiv.getD 4 default).typ),Iv ((fiv.getD 4 default).agg),Iv ((fiv.getD 4 default).field),Iv ((fiv.getD 4 default).op),Iv ((fiv.getD 4 default).arg),Iv ((fiv.getD 4 default).key)] 55)::eu::N::O::Rs) I,fun _ _=>True,fun _ _=>True,fun _ _=>True,fun _ _=>True,fun _ _=>True,fun _ _=>True,fun _ _=>True,fun vals I=> ∃(h:Nat),(vals 6=(Iw ((fiv.take 3).length-yv 2 (fiv.take 3) ([]:List Ev)):Value))∧(vals 13=(Iw ((fiv.take 4).length-yv 2 (fiv.take 4) (fiv.take 3)):Value))∧(vals 30=((Iy h 4 4):Value))∧(vals 31=(Iw ([(fiv.getD 0 default),(fiv.getD 1 default),(fiv.getD 2 default),(fiv.getD 4 default)].length-yv 2 [(fiv.getD 0 default),(fiv.getD 1 default),(fiv.getD 2 default),(fiv.getD 4 default)] (fiv.take 4)):Value))∧Sep E t ((RowE (α:=Ev) (shr E t) 55 (Iy h 4 4) [(fiv.getD 0 default),(fiv.getD 1 default),(fiv.getD 2 default),(fiv.getD 4 default)])::X::N::O::Rs) I,fun _ _=>True,fun _ _=>True,fun _ _=>True,fun _ _=>True,fun _ _=>True,fun _ _=>True,fun _ _=>True,fun _ _=>True,fun _ _=>True,fun _ _=>True,fun _ _=>True,fun _ _=>True,fun _ _=>True,fun _ _=>True,fun _ _=>True,fun vals I=> ∃(h:Nat) (y:Value),(vals 6=(Iw ((fiv.take 3).length-yv 2 (fiv.take 3) ([]:List Ev)):Value))∧(vals 13=(Iw ((fiv.take 4).length-yv 2 (fiv.take 4) (fiv.take 3)):Value))∧(vals 30=((Iy h 4 4):Value))∧(vals 31=(Iw ([(fiv.getD 0 default),(fiv.getD 1 default),(fiv.getD 2 default),(fiv.getD 4 default)].length-yv 2 [(fiv.getD 0 default),(fiv.getD 1 default),(fiv.getD 2 default),(fiv.getD 4 default)] (fiv.take 4)):Value))∧(vals 36=(y:Value))∧Sep E t (X::(RowE (α:=Row) own 70 y (yR dC [(fiv.getD 0 default),(fiv.getD 1 default),(fiv.getD 2 default),(fiv.getD 4 default)] 0))::(RowE (α:=Ev) (shr E t) 55 (Iy h 4 4) [(fiv.getD 0 default),(fiv.getD 1 default),(fiv.getD 2 default),(fiv.getD 4 default)])::N::O::Rs) I,fun _ _=>True,fun _ _=>True,fun _ _=>True,fun _ _=>True,fun _ _=>True,fun _ _=>True,fun _ _=>True,fun _ _=>True,fun _ _=>True,fun _ _=>True,fun _ _=>True,fun _ _=>True,fun _ _=>True,fun _ _=>True,fun _ _=>True,fun vals I=> ∃(h:Nat) (u:Nat),(vals 6=(Iw ((fiv.take 3).length-yv 2 (fiv.take 3) ([]:List Ev)):Value))∧(vals 13=(Iw ((fiv.take 4).length-yv 2 (fiv.take 4) (fiv.take 3)):Value))∧(vals 30=((Iy h 4 4):Value))∧(vals 31=(Iw ([(fiv.getD 0 default),(fiv.getD 1 default),(fiv.getD 2 default),(fiv.getD 4 default)].length-yv 2 [(fiv.getD 0 default),(fiv.getD 1 default),(fiv.getD 2 default),(fiv.getD 4 default)] (fiv.take 4)):Value))∧(vals 38=((Iy u 1 1):Value))∧Sep E t ((Blk u ((⟨0,23,4⟩:Row).cells).toArray 70)::(RowE (α:=Ev) (shr E t) 55 (Iy h 4 4) [(fiv.getD 0 default),(fiv.getD 1 default),(fiv.getD 2 default),(fiv.getD 4 default)])::X::N::O::Rs) I,fun _ _=>True,fun _ _=>True,fun _ _=>True,fun _ _=>True,fun _ _=>True,fun _ _=>True,fun _ _=>True,fun _ _=>True,fun _ _=>True,fun _ _=>True,fun _ _=>True,fun _ _=>True,fun _ _=>True,fun _ _=>True,fun _ _=>True,fun vals I=> ∃(h:Nat) (y:Value) (u:Nat),(vals 6=(Iw ((fiv.take 3).length-yv 2 (fiv.take 3) ([]:List Ev)):Value))∧(vals 13=(Iw ((fiv.take 4).length-yv 2 (fiv.take 4) (fiv.take 3)):Value))∧(vals 30=((Iy h 4 4):Value))∧(vals 31=(Iw ([(fiv.getD 0 default),(fiv.getD 1 default),(fiv.getD 2 default),(fiv.getD 4 default)].length-yv 2 [(fiv.getD 0 default),(fiv.getD 1 default),(fiv.getD 2 default),(fiv.getD 4 default)] (fiv.take 4)):Value))∧(vals 36=(y:Value))∧(vals 38=((Iy u 1 1):Value))∧Sep E t ((Blk u ((⟨0,23,4⟩:Row).cells).toArray 70)::X::(RowE (α:=Row) own 70 y (yR dC [(fiv.getD 0 default),(fiv.getD 1 default),(fiv.getD 2 default),(fiv.getD 4 default)] 0))::(RowE (α:=Ev) (shr E t) 55 (Iy h 4 4) [(fiv.getD 0 default),(fiv.getD 1 default),(fiv.getD 2 default),(fiv.getD 4 default)])::N::O::Rs) I,fun _ _=>True,fun _ _=>True,fun _ _=>True,fun _ _=>True,fun _ _=>True,fun _ _=>True,fun _ _=>True,fun _ _=>True,fun _ _=>True,fun _ _=>True,fun _ _=>True,fun _ _=>True,fun _ _=>True,fun _ _=>True,fun _ _=>True,fun _ _=>True,fun _ _=>True,fun _ _=>True,fun _ _=>True,fun _ _=>True,fun _ _=>True,fun _ _=>True,fun _ _=>True,fun _ _=>True,fun _ _=>True,fun _ _=>True,fun _ _=>True,fun _ _=>True,fun _ _=>True,fun _ _=>True,fun _ _=>True,fun _ _=>True,fun _ _=>True,fun _ _=>True,fun _ _=>True,fun _ _=>True,fun _ _=>True,fun _ _=>True,fun _ _=>True,fun _ _=>True,fun _ _=>True,fun _ _=>True,fun _ _=>True,fun _ _=>True,fun _ _=>True,fun _ _=>True,fun _ _=>True,fun _ _=>True,fun _ _=>True,fun _ _=>True,fun _ _=>True,fun _ _=>True,fun _ _=>True,fun _ _=>True,fun _ _=>True,fun _ _=>True,fun _ _=>True,fun _ _=>True,fun _ _=>True,fun _ _=>True,fun _ _=>True,fun _ _=>True,fun _ _=>True,fun vals I=> ∃(h:Nat) (y:Value) (u:Nat),(vals 6=(Iw ((fiv.take 3).length-yv 2 (fiv.take 3) ([]:List Ev)):Value))∧(vals 13=(Iw ((fiv.take 4).length-yv 2 (fiv.take 4) (fiv.take 3)):Value))∧(vals 30=((Iy h 4 4):Value))∧(vals 31=(Iw ([(fiv.getD 0 default),(fiv.getD 1 default),(fiv.getD 2 default),(fiv.getD 4 default)].length-yv 2 [(fiv.getD 0 default),(fiv.getD 1 default),(fiv.getD 2 default),(fiv.getD 4 default)] (fiv.take 4)):Value))∧(vals 36=(y:Value))∧(vals 38=((Iy u 1 1):Value))∧(vals 39=(.bool (decide ((yR dC [(fiv.getD 0 default),(fiv.getD 1 default),(fiv.getD 2 default),(fiv.getD 4 default)] 0)=[(⟨0,23,4⟩:Row)])):Value))∧Sep E t ((RowE (α:=Row) own 70 y (yR dC [(fiv.getD 0 default),(fiv.getD 1 default),(fiv.getD 2 default),(fiv.getD 4 default)] 0))::(RowE (α:=Row) own 70 (Iy u 1 1) [(⟨0,23,4⟩:Row)])::X::(RowE (α:=Ev) (shr E t) 55 (Iy h 4 4) [(fiv.getD 0 default),(fiv.getD 1 default),(fiv.getD 2 default),(fiv.getD 4 default)])::N::O::Rs) I]) (RowE (α:=Fld) (shr G W) 87 (Iy aD 1 1) [(⟨1,1,false,[]⟩:Fld)]) (RowE (α:=Prj) own 73 (Iy aE 1 1) [(⟨0,0,1,0,2⟩:Prj)]) (BaseO x dC 2 (fiv.take 4)) (BaseO x dC 2 [(fiv.getD 0 default),(fiv.getD 1 default),(fiv.getD 2 default),(fiv.getD 4 default)])) (AF [Vl 0 (Ix x 0),Vl 1 (.bool false),Vl 2 (.bool false),Vl 3 (Ix x 0),Vl 4 e,Vl 5 ((xU 10 e 0 3)),fun _=>True,Vl 7 (.bool false),Vl 8 (.bool false),Vl 9 (.bool false),Vl 10 (Ix x 0),Vl 11 e,Vl 12 ((xU 10 e 0 4)),fun _=>True,Vl 14 (.bool false),Vl 15 (.bool false),Vl 16 (.bool false),Vl 17 (Ix x 0),Vl 18 e,Vl 19 (Ix (sb e) (so e+0*10)),Vl 20 (.agg ((fiv.getD 0 default).cells bW).toArray),Vl 21 e,Vl 22 (Ix (sb e) (so e+1*10)),Vl 23 (.agg ((fiv.getD 1 default).cells fr).toArray),Vl 24 e,Vl 25 (Ix (sb e) (so e+2*10)),Vl 26 (.agg ((fiv.getD 2 default).cells fu).toArray),Vl 27 e,Vl 28 (Ix (sb e) (so e+4*10)),Vl 29 (.agg ((fiv.getD 4 default).cells fv).toArray),fun _=>True,fun _=>True,Vl 32 (.bool false),Vl 33 (.bool false),Vl 34 (.bool false),Vl 35 (Ix x 0),fun _=>True,Vl 37 (.agg ((⟨0,23,4⟩:Row).cells).toArray),fun _=>True,fun _=>True,Vl 40 (.bool false),Vl 41 (.bool false)]) [[],[0],[0,1],[0,1,2],[0,1,2],[0,1,2,4],(rg 6),(rg 7),(rg 8),(rg 9),(rg 10),(rg 10),[0,1,2,3,4,5,6,7,8,9,11],(rg 13),(rg 14),(rg 15),(rg 16),(rg 17),(rg 17),[0,1,2,3,4,5,6,7,8,9,10,11,12,13,14,15,16,18],[0,1,2,3,4,5,6,7,8,9,10,11,12,13,14,15,16,18,19],(rg 17),[0,1,2,3,4,5,6,7,8,9,10,11,12,13,14,15,16,21],[0,1,2,3,4,5,6,7,8,9,10,11,12,13,14,15,16,21,22],(rg 17),[0,1,2,3,4,5,6,7,8,9,10,11,12,13,14,15,16,24],[0,1,2,3,4,5,6,7,8,9,10,11,12,13,14,15,16,24,25],(rg 17),[0,1,2,3,4,5,6,7,8,9,10,11,12,13,14,15,16,27],[0,1,2,3,4,5,6,7,8,9,10,11,12,13,14,15,16,27,28],[0,1,2,3,4,5,6,7,8,9,10,11,12,13,14,15,16,18,19,20,21,22,23,24,25,26,27,28,29],(rg 31),(rg 32),(rg 33),(rg 34),(rg 35),(rg 36),(rg 35),[0,1,2,3,4,5,6,7,8,9,10,11,12,13,14,15,16,17,18,19,20,21,22,23,24,25,26,27,28,29,30,31,32,33,34,37],(rg 39),(rg 40),(rg 41)] [6,13,30,31,36,38,39] [[0],[0],[0],[0],[0],[0],[0],[1],[1],[1],[1],[1],[1],[1],[3],[3],[3],[3,7],[3],[3],[3],[3],[3],[3],[3],[3],[3],[3],[3],[3],[3],[7],[15],[15],[15],[15,47],[15,47],[15,31],[15,31],[63],[127],[127]] eP ⟨fun _ _ _ _ _ _=>obl rfl (mV (Ix x 0) dR),?_,fun _ _ _ _ _ bX=>obl rfl (zP (v:=.bool false) (bX 1 dc) dR),?_,?_,?_,?_,?_,fun _ _ _ _ _ aI=>obl rfl (yt (v:=.bool false) (aI 2 dc) (aI 7 dc) dR),fun _ _ _ _ _ bY=>obl rfl (zP (v:=.bool false) (bY 8 dc) dR),?_,?_,?_,?_,?_,fun _ _ _ _ _ aJ=>obl rfl (yt (v:=.bool false) (aJ 9 dc) (aJ 14 dc) dR),fun _ _ _ _ _ bZ=>obl rfl (zP (v:=.bool false) (bZ 15 dc) dR),?_,?_,?_,?_,?_,?_,?_,?_,?_,?_,?_,?_,?_,?_,?_,?_,fun _ _ _ _ _ aK=>obl rfl (yt (v:=.bool false) (aK 16 dc) (aK 32 dc) dR),fun _ _ _ _ _ ca=>obl rfl (zP (v:=.bool false) (ca 33 dc) dR),?_,?_,?_,?_,?_,?_,fun _ _ _ _ _ aL=>obl rfl (yt (v:=.bool false) (aL 34 dc) (aL 40 dc) dR),zl⟩ ?_
 intro eR vals w486 cb cc cd
 have Y:eR∈[0]:=cb
 simp only[yA]at Y
 subst Y
 have hS490:Sep _ _ _ _:=cc
 exact obl rfl (ZX (b:=x) (o:=0) kR (cd 0 dc) dR)
 intro k498 vals w499 hk502 hW501 ce
 refine zN rfl rfl (ce 2 dc) (fun _=>?_) yqd
 exact mV (Ix x 0) dR
 intro k504 vals w505 hk508 hW507 cf
 refine zN rfl rfl (cf 2 dc) (fun _=>?_) yqd
 exact mV e dR
 intro eS vals w511 cg ch aM
 have Z:eS∈[0]:=cg
 simp only[yA]at Z
 subst Z
 have hS515:Sep _ _ _ _:=ch
 refine zN rfl rfl (aM 2 dc) (fun _=>?_) yqd
 exact Zf (j:=3) (k:=10) (n:=fiv.length) kT lT (aM 4 dc) m.sl rfl bo dR
 intro eT vals w519 ci cj J
 have aa:eT∈[0]:=ci
 simp only[yA]at aa
 subst aa
 have ck:Sep _ _ _ _:=cj
 have e525:=J 3 dc
 have e526:=J 5 dc
 refine zN rfl rfl (J 2 dc) (fun _=>?_) yqd
 have e527:=J 2 dc
 have bC:=RdS.sub_hi (j:=3) m (by first|omega|(simp only[List.length_drop,List.length_take];omega))
 have h530s:_*96≤_:=bC.small
 refine(zW (f:=13) (vals:=[Ix x 0,(xU 10 e 0 3)]) (cap:=[]) rfl (yM ⟨(J 3 dc),(J 5 dc),zl⟩) mT (xu (l:=fiv.take 3) (vl:=(xU 10 e 0 3)) bC (zv hKN Q) (ck.mv2) WQ Wj yqg yqg yqg) ?_)
 rintro _ w532 ⟨rfl,cl⟩
 exact fun B D s=>⟨(zA D cl),zl⟩
 intro eU vals w535 cm cn co
 have ab:eU∈[1]:=cm
 simp only[yA]at ab
 subst ab
 obtain⟨g,hS539⟩:=cn
 refine zN rfl rfl (co 2 dc) (fun _=>?_) yqd
 have cp:(!decide (((((fiv.take 3).length-yv 2 (fiv.take 3) ([]:List Ev)):Nat):Int)=3))=false:=by decide+kernel
 exact yy (k:=.i64) (a:=((((fiv.take 3).length-yv 2 (fiv.take 3) ([]:List Ev)):Nat):Int)) (b:=3) g rfl (fun B D _=>⟨rfl,D.trans (congrArg Value.bool cp)⟩)
 intro k555 vals w556 hk559 hW558 cq
 refine zN rfl rfl (cq 9 dc) (fun _=>?_) yqd
 exact mV (Ix x 0) dR
 intro k561 vals w562 hk565 hW564 cr
 refine zN rfl rfl (cr 9 dc) (fun _=>?_) yqd
 exact mV e dR
 intro eV vals w568 cs ct aN
 have ac:eV∈[1]:=cs
 simp only[yA]at ac
 subst ac
 obtain⟨g,hS572⟩:=ct
 refine zN rfl rfl (aN 9 dc) (fun _=>?_) yqd
 exact Zf (j:=4) (k:=10) (n:=fiv.length) kT lT (aN 11 dc) m.sl rfl bo dR
 intro eW vals w576 cu cv K
 have ad:eW∈[1]:=cu
 simp only[yA]at ad
 subst ad
 obtain⟨g,cw⟩:=cv
 have e582:=K 10 dc
 have e583:=K 12 dc
 refine zN rfl rfl (K 9 dc) (fun _=>?_) yqd
 have e584:=K 9 dc
 have bD:=RdS.sub_hi (j:=4) m (by first|omega|(simp only[List.length_drop,List.length_take];omega))
 have h587s:_*96≤_:=bD.small
 refine(zW (f:=13) (vals:=[Ix x 0,(xU 10 e 0 4)]) (cap:=[]) rfl (yM ⟨(K 10 dc),(K 12 dc),zl⟩) mT (xu (l:=fiv.take 4) (vl:=(xU 10 e 0 4)) bD (zv hKN Q) cw WQ Wj yqg yqg yqg) ?_)
 rintro _ w588 ⟨rfl,cx⟩
 exact fun B D s=>⟨(zA ((s 6 dc).trans g) (zA D cx)),zl⟩
 intro eX vals w591 cy cz cA
 have ae:eX∈[3]:=cy
 simp only[yA]at ae
 subst ae
 obtain⟨g,p,hS595⟩:=cz
 refine zN rfl rfl (cA 9 dc) (fun _=>?_) yqd
 have cB:(!decide (((((fiv.take 4).length-yv 2 (fiv.take 4) (fiv.take 3)):Nat):Int)=1))=false:=by decide+kernel
 exact yy (k:=.i64) (a:=((((fiv.take 4).length-yv 2 (fiv.take 4) (fiv.take 3)):Nat):Int)) (b:=1) p rfl (fun B D _=>⟨rfl,D.trans (congrArg Value.bool cB)⟩)
 intro k611 vals w612 hk615 hW614 cC
 refine zN rfl rfl (cC 16 dc) (fun _=>?_) yqd
 exact mV (Ix x 0) dR
 intro k617 vals w618 hk621 hW620 cD
 refine zN rfl rfl (cD 16 dc) (fun _=>?_) yqd
 exact mV e dR
 intro eY vals w624 cE cF aO
 have af:eY∈[3]:=cE
 simp only[yA]at af
 subst af
 obtain⟨g,p,hS628⟩:=cF
 refine zN rfl rfl (aO 16 dc) (fun _=>?_) yqd
 have cG:0<fiv.length:=bo
 exact zf (k:=10) (i:=0) kT lT (aO 18 dc) m.sl rfl cG dR
 intro eZ vals w633 cH cI aP
 have ag:eZ∈[3]:=cH
 simp only[yA]at ag
 subst ag
 obtain⟨g,p,cJ⟩:=cI
 refine zN rfl rfl (aP 16 dc) (fun _=>?_) yqd
 have aQ:0<fiv.length:=bo
 obtain⟨bE,az,hoke640⟩:=m.evD aQ
 have hsm642:((fiv.getD 0 default).deps).length*8≤140737488355328:=az.small
 have bF:=cJ.cells bE (m.foot (ne_of_lt aQ))
 exact zh (k:=10) pT lT rfl (aP 19 dc) bF dR
 intro k644 vals w645 hk648 hW647 cK
 refine zN rfl rfl (cK 16 dc) (fun _=>?_) yqd
 exact mV e dR
 intro fa vals w651 cM cN aR
 have ah:fa∈[3]:=cM
 simp only[yA]at ah
 subst ah
 obtain⟨g,p,hS655⟩:=cN
 refine zN rfl rfl (aR 16 dc) (fun _=>?_) yqd
 have cO:1<fiv.length:=bo
 exact zf (k:=10) (i:=1) kT lT (aR 21 dc) m.sl rfl cO dR
 intro fb vals w660 cP cQ aT
 have ai:fb∈[3]:=cP
 simp only[yA]at ai
 subst ai
 obtain⟨g,p,cR⟩:=cQ
 refine zN rfl rfl (aT 16 dc) (fun _=>?_) yqd
 have aU:1<fiv.length:=bo
 obtain⟨bG,aA,hoke667⟩:=m.evD aU
 have hsm669:((fiv.getD 1 default).deps).length*8≤140737488355328:=aA.small
 have bH:=cR.cells bG (m.foot (ne_of_lt aU))
 exact zh (k:=10) pT lT rfl (aT 22 dc) bH dR
 intro k671 vals w672 hk675 hW674 cS
 refine zN rfl rfl (cS 16 dc) (fun _=>?_) yqd
 exact mV e dR
 intro fc vals w678 cT cU aV
 have aj:fc∈[3]:=cT
 simp only[yA]at aj
 subst aj
 obtain⟨g,p,hS682⟩:=cU
 refine zN rfl rfl (aV 16 dc) (fun _=>?_) yqd
 have cV:2<fiv.length:=bo
 exact zf (k:=10) (i:=2) kT lT (aV 24 dc) m.sl rfl cV dR
 intro fd vals w687 cW cX aW
 have ak:fd∈[3]:=cW
 simp only[yA]at ak
 subst ak
 obtain⟨g,p,cY⟩:=cX
 refine zN rfl rfl (aW 16 dc) (fun _=>?_) yqd
 have aX:2<fiv.length:=bo
 obtain⟨bI,aB,hoke694⟩:=m.evD aX
 have hsm696:((fiv.getD 2 default).deps).length*8≤140737488355328:=aB.small
 have bJ:=cY.cells bI (m.foot (ne_of_lt aX))
 exact zh (k:=10) pT lT rfl (aW 25 dc) bJ dR
 intro k698 vals w699 hk702 hW701 cZ
 refine zN rfl rfl (cZ 16 dc) (fun _=>?_) yqd
 exact mV e dR
 intro fe vals w705 da db aY
 have al:fe∈[3]:=da
 simp only[yA]at al
 subst al
 obtain⟨g,p,hS709⟩:=db
 refine zN rfl rfl (aY 16 dc) (fun _=>?_) yqd
 have dd:4<fiv.length:=bo
 exact zf (k:=10) (i:=4) kT lT (aY 27 dc) m.sl rfl dd dR
 intro ff vals w714 de df aZ
 have am:ff∈[3]:=de
 simp only[yA]at am
 subst am
 obtain⟨g,p,dg⟩:=df
 refine zN rfl rfl (aZ 16 dc) (fun _=>?_) yqd
 have ba:4<fiv.length:=bo
 obtain⟨bK,aC,hoke721⟩:=m.evD ba
 have hsm723:((fiv.getD 4 default).deps).length*8≤140737488355328:=aC.small
 have bL:=dg.cells bK (m.foot (ne_of_lt ba))
 exact zh (k:=10) pT lT rfl (aZ 28 dc) bL dR
 intro fg vals w726 dh di C
 have an:fg∈[3]:=dh
 simp only[yA]at an
 subst an
 obtain⟨g,p,dj⟩:=di
 have e732:=C 20 dc
 have e733:=C 23 dc
 have e734:=C 26 dc
 have e735:=C 29 dc
 refine zN rfl rfl (C 16 dc) (fun _=>?_) yqd
 have e736:=C 16 dc
 refine(zH (k:=10) (parts':=[(0,.agg ((fiv.getD 0 default).cells bW).toArray),(1,.agg ((fiv.getD 1 default).cells fr).toArray),(2,.agg ((fiv.getD 2 default).cells fu).toArray),(3,.agg ((fiv.getD 4 default).cells fv).toArray)]) (c:=#[Iv ((fiv.getD 0 default).origin),Iv ((fiv.getD 0 default).seq),Iv ((fiv.getD 0 default).lam),bW,Iv ((fiv.getD 0 default).typ),Iv ((fiv.getD 0 default).agg),Iv ((fiv.getD 0 default).field),Iv ((fiv.getD 0 default).op),Iv ((fiv.getD 0 default).arg),Iv ((fiv.getD 0 default).key),Iv ((fiv.getD 1 default).origin),Iv ((fiv.getD 1 default).seq),Iv ((fiv.getD 1 default).lam),fr,Iv ((fiv.getD 1 default).typ),Iv ((fiv.getD 1 default).agg),Iv ((fiv.getD 1 default).field),Iv ((fiv.getD 1 default).op),Iv ((fiv.getD 1 default).arg),Iv ((fiv.getD 1 default).key),Iv ((fiv.getD 2 default).origin),Iv ((fiv.getD 2 default).seq),Iv ((fiv.getD 2 default).lam),fu,Iv ((fiv.getD 2 default).typ),Iv ((fiv.getD 2 default).agg),Iv ((fiv.getD 2 default).field),Iv ((fiv.getD 2 default).op),Iv ((fiv.getD 2 default).arg),Iv ((fiv.getD 2 default).key),Iv ((fiv.getD 4 default).origin),Iv ((fiv.getD 4 default).seq),Iv ((fiv.getD 4 default).lam),fv,Iv ((fiv.getD 4 default).typ),Iv ((fiv.getD 4 default).agg),Iv ((fiv.getD 4 default).field),Iv ((fiv.getD 4 default).op),Iv ((fiv.getD 4 default).arg),Iv ((fiv.getD 4 default).key)]) kT lT vT dc (Za ⟨rfl,(C 20 dc),rfl,(C 23 dc),rfl,(C 26 dc),rfl,(C 29 dc),zl⟩) kr ?_)
 intro w743 h dk
 exact fun B D s=>⟨(exiA h (zA ((s 6 dc).trans g) (zA ((s 13 dc).trans p) (zA D (dj.new dk))))),zl⟩
 intro fh vals w746 dl dm R
 have ao:fh∈[7]:=dl
 simp only[yA]at ao
 subst ao
 obtain⟨h,g,p,z,P⟩:=dm
 have e752:=R 17 dc
 refine zN rfl rfl (R 16 dc) (fun _=>?_) yqd
 have e753:=R 16 dc
 have bb:0<fiv.length:=bo
 obtain⟨bM,S,br⟩:=m.evD bb
 have hsm757:((fiv.getD 0 default).deps).length*8≤140737488355328:=S.small
 have hcw758:=P.cells bM (m.foot (ne_of_lt bb))
 have bc:1<fiv.length:=bo
 obtain⟨bN,T,bs⟩:=m.evD bc
 have hsm761:((fiv.getD 1 default).deps).length*8≤140737488355328:=T.small
 have hcw762:=P.cells bN (m.foot (ne_of_lt bc))
 have bd:2<fiv.length:=bo
 obtain⟨bO,U,bt⟩:=m.evD bd
 have hsm765:((fiv.getD 2 default).deps).length*8≤140737488355328:=U.small
 have hcw766:=P.cells bO (m.foot (ne_of_lt bd))
 have be:4<fiv.length:=bo
 obtain⟨bP,V,bu⟩:=m.evD be
 have hsm769:((fiv.getD 4 default).deps).length*8≤140737488355328:=V.small
 have hcw770:=P.cells bP (m.foot (ne_of_lt be))
 have bf:Sep _ _ ((RowE (α:=Ev) (shr E t) 55 (Iy h 4 4) [(fiv.getD 0 default),(fiv.getD 1 default),(fiv.getD 2 default),(fiv.getD 4 default)])::_) _:=Sep.blkRow (src:=(shr E t)) (l:=[(fiv.getD 0 default),(fiv.getD 1 default),(fiv.getD 2 default),(fiv.getD 4 default)]) (css:=[(fiv.getD 0 default).cells (zT t (sb e) (so e+0*10+3)),(fiv.getD 1 default).cells (zT t (sb e) (so e+1*10+3)),(fiv.getD 2 default).cells (zT t (sb e) (so e+2*10+3)),(fiv.getD 4 default).cells (zT t (sb e) (so e+4*10+3))]) P rfl ⟨fun _ _=>⟨_,rfl,S,br⟩,fun _ _=>⟨_,rfl,T,bs⟩,fun _ _=>⟨_,rfl,U,bt⟩,fun _ _=>⟨_,rfl,V,bu⟩,zl⟩ yqa (show 4≤maxLen by decide)
 have dp:=bf.r0
 have hr772s:_*96≤_:=dp.2
 obtain⟨G773,dq,bg,dr,ds⟩:=bf.lend
 have ap:=RowE.rdB dq bg
 have hrd779s:_*96≤_:=ap.small
 refine(zW (f:=13) (vals:=[Ix x 0,(Iy h 4 4)]) (cap:=[]) rfl (yM ⟨(R 17 dc),z,zl⟩) mT (xu (l:=[(fiv.getD 0 default),(fiv.getD 1 default),(fiv.getD 2 default),(fiv.getD 4 default)]) (vl:=(Iy h 4 4)) ap (zv (zv hKN Q) bg) dr WQ Wj yqg yqg yqg) ?_)
 rintro _ w780 ⟨rfl,dt⟩
 have du:=ds _ _ dt
 exact fun B D s=>⟨(exiA h (zA ((s 6 dc).trans g) (zA ((s 13 dc).trans p) (zA ((s 30 dc).trans z) (zA D du))))),zl⟩
 intro fi vals w784 dv dw dx
 have aq:fi∈[15]:=dv
 simp only[yA]at aq
 subst aq
 obtain⟨h,g,p,z,A,hS788⟩:=dw
 refine zN rfl rfl (dx 16 dc) (fun _=>?_) yqd
 have dy:(!decide (((([(fiv.getD 0 default),(fiv.getD 1 default),(fiv.getD 2 default),(fiv.getD 4 default)].length-yv 2 [(fiv.getD 0 default),(fiv.getD 1 default),(fiv.getD 2 default),(fiv.getD 4 default)] (fiv.take 4)):Nat):Int)=2))=false:=by decide+kernel
 exact yy (k:=.i64) (a:=((([(fiv.getD 0 default),(fiv.getD 1 default),(fiv.getD 2 default),(fiv.getD 4 default)].length-yv 2 [(fiv.getD 0 default),(fiv.getD 1 default),(fiv.getD 2 default),(fiv.getD 4 default)] (fiv.take 4)):Nat):Int)) (b:=2) A rfl (fun B D _=>⟨rfl,D.trans (congrArg Value.bool dy)⟩)
 intro k804 vals w805 hk808 hW807 dz
 refine zN rfl rfl (dz 34 dc) (fun _=>?_) yqd
 exact mV (Ix x 0) dR
 intro fj vals w811 dB bh F
 have ar:fj∈[15,47]:=dB
 simp only[yA]at ar
 rcases ar with rfl|rfl
 obtain⟨h,g,p,z,A,dD⟩:=bh
 have e817:=F 35 dc
 refine zN rfl rfl (F 34 dc) (fun _=>?_) yqd
 have e818:=F 34 dc
 refine(zW (f:=31) (vals:=[Ix x 0,Iv 0]) (cap:=[]) rfl (yM ⟨(F 35 dc),rfl,zl⟩) lR (XQ (q:=0) dc (dD.mv1) yqg) ?_)
 rintro y w822 ⟨_,rfl,bi⟩
 have dE:=bi.r1
 have hr824s:_*24≤_:=dE.2
 exact fun B D s=>⟨(exiA h (exiA y (zA ((s 6 dc).trans g) (zA ((s 13 dc).trans p) (zA ((s 30 dc).trans z) (zA ((s 31 dc).trans A) (zA D bi))))))),zl⟩
 obtain⟨h,u,g,p,z,A,L,dF⟩:=bh
 have e827:=F 35 dc
 refine zN rfl rfl (F 34 dc) (fun _=>?_) yqd
 have e828:=F 34 dc
 refine(zW (f:=31) (vals:=[Ix x 0,Iv 0]) (cap:=[]) rfl (yM ⟨(F 35 dc),rfl,zl⟩) lR (XQ (q:=0) dc (dF.mv2) yqg) ?_)
 rintro y w832 ⟨_,rfl,bj⟩
 have dG:=bj.r1
 have hr834s:_*24≤_:=dG.2
 exact fun B D s=>⟨(exiA h (exiA y (exiA u (zA ((s 6 dc).trans g) (zA ((s 13 dc).trans p) (zA ((s 30 dc).trans z) (zA ((s 31 dc).trans A) (zA D (zA ((s 38 dc).trans L) (bj.mv2)))))))))),zl⟩
 intro k836 vals w837 hk840 hW839 dH
 refine zN rfl rfl (dH 34 dc) (fun _=>?_) yqd
 have ok842:Row.Ok (⟨0,23,4⟩:Row):=⟨(show InR (0)from dc),(show InR (23)from dc),(show InR (4)from dc)⟩
 exact zV (parts':=[(1,Iv 23),(2,Iv 4)]) (v:=.agg ((⟨0,23,4⟩:Row).cells).toArray) rfl (by simp+zetaDelta [Instr.build,Instr.fill,go_sem,xA]) dR
 intro fk vals w844 dI bk H
 have au:fk∈[15,31]:=dI
 simp only[yA]at au
 rcases au with rfl|rfl
 obtain⟨h,g,p,z,A,dJ⟩:=bk
 have e850:=H 37 dc
 refine zN rfl rfl (H 34 dc) (fun _=>?_) yqd
 have e851:=H 34 dc
 refine(zH (k:=3) (parts':=[(0,.agg ((⟨0,23,4⟩:Row).cells).toArray)]) (c:=((⟨0,23,4⟩:Row).cells).toArray) qT sT uR dc (Za ⟨rfl,(H 37 dc),zl⟩) kr ?_)
 intro w855 u dK
 exact fun B D s=>⟨(exiA h (exiA u (zA ((s 6 dc).trans g) (zA ((s 13 dc).trans p) (zA ((s 30 dc).trans z) (zA ((s 31 dc).trans A) (zA D (dJ.new dK)))))))),zl⟩
 obtain⟨h,y,g,p,z,A,M,dL⟩:=bk
 have e859:=H 37 dc
 refine zN rfl rfl (H 34 dc) (fun _=>?_) yqd
 have e860:=H 34 dc
 refine(zH (k:=3) (parts':=[(0,.agg ((⟨0,23,4⟩:Row).cells).toArray)]) (c:=((⟨0,23,4⟩:Row).cells).toArray) qT sT uR dc (Za ⟨rfl,(H 37 dc),zl⟩) kr ?_)
 intro w864 u dM
 exact fun B D s=>⟨(exiA h (exiA y (exiA u (zA ((s 6 dc).trans g) (zA ((s 13 dc).trans p) (zA ((s 30 dc).trans z) (zA ((s 31 dc).trans A) (zA ((s 36 dc).trans M) (zA D (dL.new dM)))))))))),zl⟩
 intro fl vals w867 dN dO bl
 have av:fl∈[63]:=dN
 simp only[yA]at av
 subst av
 obtain⟨h,y,u,g,p,z,A,M,L,dP⟩:=dO
 refine zN rfl rfl (bl 34 dc) (fun _=>?_) yqd
 have e873:=bl 34 dc
 obtain⟨G875,dQ,hB878,dS,dU⟩:=(dP.mv2).lend
 have aw:=RowE.rd dQ
 have hrd881s:_*24≤_:=aw.small
 have dV:Row.Ok (⟨0,23,4⟩:Row):=⟨(show InR (0)from dc),(show InR (23)from dc),(show InR (4)from dc)⟩
 have bm:Sep _ _ ((RowE (α:=Row) own 70 (Iy u 1 1) [(⟨0,23,4⟩:Row)])::_) _:=Sep.blkRow (src:=own) (l:=[(⟨0,23,4⟩:Row)]) (css:=[(⟨0,23,4⟩:Row).cells]) dS rfl ⟨fun _ _=>⟨rfl,dV⟩,zl⟩ yqa (show 1≤maxLen by decide)
 have dW:=bm.r0
 have hr884s:_*24≤_:=dW.2
 obtain⟨G885,dX,dY,dZ,ea⟩:=bm.lend
 have ax:=RowE.rd dX
 have hrd891s:_*24≤_:=ax.small
 refine(zW (f:=30) (vals:=[y,(Iy u 1 1)]) (cap:=[]) rfl (yM ⟨M,L,zl⟩) vR (Xy (a:=(yR dC [(fiv.getD 0 default),(fiv.getD 1 default),(fiv.getD 2 default),(fiv.getD 4 default)] 0)) (va:=y) (b:=[(⟨0,23,4⟩:Row)]) (vb:=(Iy u 1 1)) (zv aw dY) ax dZ) ?_)
 rintro _ w892 ⟨rfl,eb⟩
 have ec:=ea _ _ eb
 have ed:=dU _ _ ec
 exact fun B D s=>⟨(exiA h (exiA y (exiA u (zA ((s 6 dc).trans g) (zA ((s 13 dc).trans p) (zA ((s 30 dc).trans z) (zA ((s 31 dc).trans A) (zA ((s 36 dc).trans M) (zA ((s 38 dc).trans L) (zA D ed)))))))))),zl⟩
 intro fm vals w897 ee ef eg
 have ay:fm∈[127]:=ee
 simp only[yA]at ay
 subst ay
 obtain⟨h,y,u,g,p,z,A,M,L,bn,hS901⟩:=ef
 refine zN rfl rfl (eg 34 dc) (fun _=>?_) yqd
 have eh:(!(decide ((yR dC [(fiv.getD 0 default),(fiv.getD 1 default),(fiv.getD 2 default),(fiv.getD 4 default)] 0)=[(⟨0,23,4⟩:Row)])))=false:=by decide+kernel
 exact yD (a:=decide ((yR dC [(fiv.getD 0 default),(fiv.getD 1 default),(fiv.getD 2 default),(fiv.getD 4 default)] 0)=[(⟨0,23,4⟩:Row)])) bn (fun B D _=>⟨rfl,D.trans (congrArg Value.bool eh)⟩)
 intro vals w911 ei ej
 obtain⟨h,y,u,g,p,z,A,M,L,bn,ek⟩:=ei
 have fn:=ej 41 dc
 refine yg (kv:=[(0,.bool false),(3,.agg #[(Iy es 1 1),(Iy aE 1 1)]),(4,Ix x 0),(1,Ix x 0),(5,e),(2,e),(47,.bool false)]) ⟨rfl,rfl,rfl,rfl,rfl,rfl,(by exact fn),zl⟩ (fun ρw911=>(zb (ze rfl (zp (za (zF kr (st (mV (Ix x 0) (st (mV e ?_))))))))))
 refine st (Zf (j:=2) (k:=10) (n:=fiv.length) kT lT rfl m.sl rfl bo ?_)
 have bQ:=RdS.sub_hi (j:=2) m (by first|omega|(simp only[List.length_drop,List.length_take];omega))
 have h916s:_*96≤_:=bQ.small
 refine st (cL mT (xu (l:=fiv.take 2) (vl:=(xU 10 e 0 2)) bQ (zv hKN Q) (ek.mv2) WQ Wj yqg yqg yqg) ?_)
 rintro _ w918 ⟨rfl,el⟩
 refine st (zS (k:=.i64) (a:=((((fiv.take 2).length-yv 2 (fiv.take 2) [(fiv.getD 0 default),(fiv.getD 1 default),(fiv.getD 2 default),(fiv.getD 4 default)]):Nat):Int)) (b:=0) rfl rfl ?_)
 have bR:(decide (((((fiv.take 2).length-yv 2 (fiv.take 2) [(fiv.getD 0 default),(fiv.getD 1 default),(fiv.getD 2 default),(fiv.getD 4 default)]):Nat):Int)=0))=true:=yqg
 rw[bR]
 refine st (mV (.bool true) (sty rfl rfl (mV (Ix x 0) (sty rfl rfl (mV e ?_)))))
 refine sty rfl rfl (Zf (j:=1) (k:=10) (n:=fiv.length) kT lT rfl m.sl rfl bo ?_)
 have bS:=RdS.sub_hi (j:=1) m (by first|omega|(simp only[List.length_drop,List.length_take];omega))
 have h921s:_*96≤_:=bS.small
 refine sty rfl rfl (cL mT (xu (l:=fiv.take 1) (vl:=(xU 10 e 0 1)) bS (zv hKN Q) el WQ Wj yqg yqg yqg) ?_)
 rintro _ w922 ⟨rfl,em⟩
 refine sty rfl rfl (zS (k:=.i64) (a:=((((fiv.take 1).length-yv 2 (fiv.take 1) (fiv.take 2)):Nat):Int)) (b:=1) rfl rfl ?_)
 have bT:(decide (((((fiv.take 1).length-yv 2 (fiv.take 1) (fiv.take 2)):Nat):Int)=1))=true:=yqg
 rw[bT]
 refine st (yC (v:=.bool true) rfl rfl (st (mV (.bool true) (sty rfl rfl (mV (Ix x 0) (sty rfl rfl (cL mT (xu (l:=([]:List Ev)) (vl:=(Iz)) (RdS.nil _ _) (zv hKN Q) em WQ Wj yqg yqg yqg) ?_)))))))
 rintro _ w925 ⟨rfl,en⟩
 refine sty rfl rfl (zS (k:=.i64) (a:=(((([]:List Ev).length-yv 2 ([]:List Ev) (fiv.take 1)):Nat):Int)) (b:=0) rfl rfl ?_)
 have bU:(decide ((((([]:List Ev).length-yv 2 ([]:List Ev) (fiv.take 1)):Nat):Int)=0))=true:=yqg
 rw[bU]
 refine st (yC (v:=.bool true) rfl rfl (st (mV (.bool true) (sty rfl rfl (mV (Ix x 0) (sty rfl rfl (cL mR (ZL en) ?_)))))))
 rintro v928 fo ⟨_,rfl,bp⟩
 have bq:=bp.r1
 have hr931s:_*120≤_:=bq.2
 refine sty rfl rfl (zC (n:=(zk dC ([]:List Ev)).length) wR rfl bq.1 (sty rfl rfl (zS (k:=.i64) (a:=(((zk dC ([]:List Ev)).length:Nat):Int)) (b:=0) rfl rfl ?_)))
 have bV:(decide ((((zk dC ([]:List Ev)).length:Nat):Int)=0))=true:=yqg
 rw[bV]
 refine st (yC (v:=.bool true) rfl rfl (st (aS (.bool true) (zb (zq (zU Tryz.results6 (show _=(.bool true:Value)from rfl) ?_))))))
 have eo:=eQ _ _ bp
 have er:Sep G W Rs fo:=eo.sel 8 [] (xq _ _) rfl rfl
 refine⟨rfl,er⟩
section
variable {U:List Ev}{every k q:Nat}
theorem UM (a:Ev):Zq a a:=⟨rfl,rfl⟩
theorem Qk {l:List Ev}:yv every l []=0:=by
 have h:=(Qs (l:=l) (m:=[])).2
 have h0:Zo l []=0:=Nat.le_zero.1 h
 unfold yv
 rw[h0];exact if_neg (Nat.lt_irrefl 0)
theorem Jo (hk:k≤U.length):Zo U (U.take k)=k:=by
 have hl:(U.take k).length=k:=by rw[List.length_take];omega
 refine Yc hk (by omega) (fun i hi=>?_) (fun _ h=>by omega)
 rw[zJ _ (show i<U.length by omega),zJ _ (show i<(U.take k).length by omega),List.getElem_take]
 exact UM _
theorem VX (hk:k≤U.length):yv every U (U.take k)=k:=by
 have hl:(U.take k).length=k:=by rw[List.length_take];omega
 unfold yv
 rw[Jo hk,if_neg (by omega)]
theorem JM:yv every U U=U.length:=by
 have h:=VX (every:=every) (Nat.le_refl U.length)
 rw[List.take_length]at h
 exact h
def yz (U:List Ev)(q:Nat):List Ev:=U.take q++U.drop (q+1)
theorem Va (hq:q<U.length):(yz U q).length=U.length-1:=by unfold yz;rw[List.length_append,List.length_take,List.length_drop];omega
theorem Jd {i:Nat}(hq:q<U.length)(hi:i<q):(yz U q).getD i default=U.getD i default:=by
 unfold yz
 rw[List.getD_eq_getElem?_getD,List.getElem?_append_left (by rw[List.length_take];omega),List.getElem?_take_of_lt hi,←List.getD_eq_getElem?_getD]
theorem KH (hq:q<U.length):(yz U q).getD q default=U.getD (q+1) default:=by
 unfold yz
 have h:(U.take q).length=q:=by rw[List.length_take];omega
 rw[List.getD_eq_getElem?_getD,List.getElem?_append_right (by omega),h,Nat.sub_self,List.getElem?_drop,Nat.add_zero,←List.getD_eq_getElem?_getD]
theorem Jq (hu:Uniq U)(hq:q<U.length):Zo (yz U q) U=q:=by
 have hl:=Va hq
 refine Yc (by omega) (by omega) (fun i hi=>by rw[Jd hq hi];exact UM _) (fun h1 h2 h3=>?_)
 rw[KH hq]at h3
 have:=hu (q+1) q (by omega) hq h3
 omega
theorem Uf (hu:Uniq U)(hq:q<U.length):Zo U (yz U q)=q:=by
 have hl:=Va hq
 refine Yc (by omega) (by omega) (fun i hi=>by rw[Jd hq hi];exact UM _) (fun h1 h2 h3=>?_)
 rw[KH hq]at h3
 have:=hu q (q+1) hq (by omega) h3
 omega
theorem xZ: ∀x∈yz U q,x∈U:=fun x hx=>(List.mem_append.1 hx).elim List.mem_of_mem_take List.mem_of_mem_drop
theorem zcn {e:Nat}(he:1≤e):q/e*e≤q∧q<q/e*e+e:=⟨Nat.div_mul_le_self ..,by have:=Nat.lt_div_mul_add (a:=q) (b:=e) (by omega);omega⟩
end
set_option maxHeartbeats 8000000 in
theorem Vf {d:Dcl}{dd0:Value}(hdd0:RdS W G dd0 d.types){dd1:Value}(hdd1:RdS W G dd1 d.projs)(od:d.Ok){n:Int}(hn:InR n){every:Int}(hevery:InR every){vl:Value}{l:List Ev}(hl:RdS W G vl l){ka:Int}(hka:InR ka){ko:Int}(hko:InR ko)(hKN:RdS W G (.slice (some ⟨0,0,none⟩) 6 6) kindsL)(hS0:Sep G W Rs w):Ret Tryz.prog 27 [.agg (d.cells dd0 dd1).toArray,.int .i64 (n),.int .i64 (every),vl,.int .i64 (ka),.int .i64 (ko)] w (fun r w'=>r=(.bool true:Value)∧Sep G W Rs w'):=by
 have hdd0s:_*24≤_:=hdd0.small
 have hdd1s:_*40≤_:=hdd1.small
 have hls:_*96≤_:=hl.small
 have hKNs:_*8≤_:=hKN.small
 refine zn (args:=[.agg (d.cells dd0 dd1).toArray,Iv n,Iv every,vl,Iv ka,Iv ko]) Tryz.func27 rfl rfl ?_
 refine za (R0 fun _=>st (zX (v:=.agg (d.cells dd0 dd1).toArray) rfl ?_))
 intro w3 b2 ca
 let aa:=Blk b2 (d.cells dd0 dd1).toArray 25
 have bt:=hS0.new ca
 refine st (aS (.bool false) (zb (za (za (R0 fun _=>st (zh (k:=2) tT rT rfl rfl (zo (bt.b0)) (st (cL kY (Uy (d:=d) hdd0 hdd1 od bt) ?_))))))))
 rintro _ w7 ⟨b5,rfl,cb,bu⟩
 refine st (yD (a:=b5) rfl (zb ?_))
 cases ah: !b5
 have hc9r:=ah
 try simp only[zi]at ah
 have J:=cb (by simpa using ah)
 refine ze rfl (zp (za (R0 fun _=>st (mV (Iv n) ?_))))
 refine st (cL oT (Yl (x:=n) (n:=64) hn yqf bu) ?_)
 rintro _ w12 ⟨O,rfl,hq11,bz⟩
 have ap:InR ((1+O:Nat):Int):=bo
 refine st (zO (r:=((1+O:Nat):Int)) (k:=.i64) (a:=1) (b:=((O:Nat):Int)) rfl rfl (by rw[show(1+((O:Nat):Int):Int)=((1+O:Nat):Int)from bo];exact zw ap) (st (mV vl (st (cL lY (UL (n:=((1+O:Nat):Int)) (l:=l) (vl:=vl) ap hl bz) ?_)))))
 rintro t w19 ⟨_,f,rfl,ho4017,p,aq⟩
 have ar:=aq.r0
 have hr21s:_*96≤_:=ar.2
 refine st (aS t (zb (za (R0 fun _=>st (mV (Iv every) ?_)))))
 refine st (cL oT (Yl (x:=every) (n:=50) hevery yqf aq) ?_)
 rintro _ w24 ⟨m,rfl,hq23,au⟩
 have av:InR ((1+m:Nat):Int):=bo
 refine st (zO (r:=((1+m:Nat):Int)) (k:=.i64) (a:=1) (b:=((m:Nat):Int)) rfl rfl (by rw[show(1+((m:Nat):Int):Int)=((1+m:Nat):Int)from bo];exact zw av) (st (aS (Iw (1+m)) (zb (za (zL (by kernel_rfl) (fun _=>(st (zh (k:=2) tT rT rfl rfl (zo (au.b1)) (st (mV (Iw (1+m)) (st (cL wT (YD (d:=d) (every:=((1+m:Nat):Int)) hdd0 hdd1 od av hKN au (J.1)) ?_)))))))))))))
 rintro _ cc ⟨B,bA,rfl,hev29,bB⟩
 refine st (aS (Ix B 0) (zb (za (za ?_))))
 obtain rfl:bA=1+m:=by omega
 have bC:Sep G W ((BaseO B d (1+m) ([]:List Ev))::(RowE (α:=Ev) (shr G W) 55 t f)::aa::Rs) cc:=bB
 refine R0 fun _=>st (mV (Ix B 0) (st (ZX (b:=B) (o:=0) kR rfl (zb (ze rfl (zp (za (R0 fun _=>st (mV (Iv ka) (st (mV t (st (zC (n:=f.length) kT rfl ar.1 ?_)))))))))))))
 have bD:InR ((f.length+1:Nat):Int):=bo
 refine st (zO (r:=((f.length+1:Nat):Int)) (k:=.i64) (a:=((f.length:Nat):Int)) (b:=1) rfl rfl (by rw[show(((f.length:Nat):Int)+1:Int)=((f.length+1:Nat):Int)from bo];exact zw bD) ?_)
 refine st (cL oT (Yl (x:=ka) (n:=f.length+1) hka yqf bC) ?_)
 rintro _ E ⟨s,rfl,hq35,bE⟩
 refine st (aS (Iw s) (zb (za (za ?_))))
 obtain⟨F,bF,I,bG,af⟩:=(bE.mv1).lend
 have u:=RowE.rdB bF I
 have hrd45s:_*96≤_:=u.small
 have bH:s≤f.length:=by omega
 have hA9:=Qk (every:=(1+m)) (l:=f.take s)
 have hAl9:(f.take s).length=s:=by rw[List.length_take];omega
 have hB9:=VX (every:=(1+m)) bH
 have hC9:=JM (U:=f) (every:=(1+m))
 refine zF kr (st (mV (Ix B 0) (st (mV t (st (mV (Iw s) ?_))))))
 refine st (Zf (j:=s) (k:=10) (n:=f.length) kT lT rfl u.sl rfl bo ?_)
 have bv:=RdS.sub_hi (j:=s) u (by first|omega|(simp only[List.length_drop,List.length_take];omega))
 have h46s:_*96≤_:=bv.small
 refine st (cL mT (xu (l:=f.take s) (vl:=(xU 10 t 0 s)) bv (zv hKN I) bG (J.1) (J.2) ((by first|exact p.one (fun _ h=>List.mem_of_mem_take h) (fun _ h=>absurd h List.not_mem_nil)|exact p.one (fun _ h=>h) (fun _ h=>List.mem_of_mem_take h)|exact p.one (fun _ h=>h) (fun _ h=>h)|exact p.one xZ (fun _ h=>h)|exact p.one (fun _ h=>h) xZ)) ((by first|omega|(simp only[List.length_take,List.length_nil];omega))) ((by first|omega|(simp only[List.length_take,List.length_nil];omega)))) ?_)
 rintro _ w47 ⟨rfl,bI⟩
 refine st (mV (Iw s) (st (yy (k:=.i64) (a:=((((f.take s).length-yv (1+m) (f.take s) ([]:List Ev)):Nat):Int)) (b:=((s:Nat):Int)) rfl rfl ?_)))
 have aF:(!decide (((((f.take s).length-yv (1+m) (f.take s) ([]:List Ev)):Nat):Int)=((s:Nat):Int)))=false:=(by simp only[Bool.not_eq_false',decide_eq_true_eq,decide_eq_false_iff_not];omega)
 rw[aF]
 refine st (mV (.bool false) (sty rfl rfl (mV (Ix B 0) (sty rfl rfl (mV t ?_)))))
 refine sty rfl rfl (cL mT (xu (l:=f) (vl:=t) u (zv hKN I) bI (J.1) (J.2) ((by first|exact p.one (fun _ h=>List.mem_of_mem_take h) (fun _ h=>absurd h List.not_mem_nil)|exact p.one (fun _ h=>h) (fun _ h=>List.mem_of_mem_take h)|exact p.one (fun _ h=>h) (fun _ h=>h)|exact p.one xZ (fun _ h=>h)|exact p.one (fun _ h=>h) xZ)) ((by first|omega|(simp only[List.length_take,List.length_nil];omega))) ((by first|omega|(simp only[List.length_take,List.length_nil];omega)))) ?_)
 rintro _ w50 ⟨rfl,bJ⟩
 refine sty rfl rfl (mV t (sty rfl rfl (zC (n:=f.length) kT rfl u.sl (sty rfl rfl (mV (Iw s) ?_)))))
 have bK:InR ((f.length-s:Nat):Int):=bo
 refine sty rfl rfl (xK (r:=((f.length-s:Nat):Int)) (k:=.i64) (a:=((f.length:Nat):Int)) (b:=((s:Nat):Int)) rfl rfl (by rw[show(((f.length:Nat):Int)-((s:Nat):Int):Int)=((f.length-s:Nat):Int)from bo];exact zw bK) (sty rfl rfl (yy (k:=.i64) (a:=(((f.length-yv (1+m) f (f.take s)):Nat):Int)) (b:=((f.length-s:Nat):Int)) rfl rfl ?_)))
 have aG:(!decide ((((f.length-yv (1+m) f (f.take s)):Nat):Int)=((f.length-s:Nat):Int)))=false:=(by simp only[Bool.not_eq_false',decide_eq_true_eq,decide_eq_false_iff_not];omega)
 rw[aG]
 refine st (yt (v:=.bool false) rfl rfl (st (mV (.bool false) (sty rfl rfl (mV (Ix B 0) (sty rfl rfl (mV t ?_)))))))
 refine sty rfl rfl (cL mT (xu (l:=f) (vl:=t) u (zv hKN I) bJ (J.1) (J.2) ((by first|exact p.one (fun _ h=>List.mem_of_mem_take h) (fun _ h=>absurd h List.not_mem_nil)|exact p.one (fun _ h=>h) (fun _ h=>List.mem_of_mem_take h)|exact p.one (fun _ h=>h) (fun _ h=>h)|exact p.one xZ (fun _ h=>h)|exact p.one (fun _ h=>h) xZ)) ((by first|omega|(simp only[List.length_take,List.length_nil];omega))) ((by first|omega|(simp only[List.length_take,List.length_nil];omega)))) ?_)
 rintro _ w54 ⟨rfl,aw⟩
 refine sty rfl rfl (yy (k:=.i64) (a:=(((f.length-yv (1+m) f f):Nat):Int)) (b:=0) rfl rfl ?_)
 have aH:(!decide ((((f.length-yv (1+m) f f):Nat):Int)=0))=false:=(by simp only[Bool.not_eq_false',decide_eq_true_eq,decide_eq_false_iff_not];omega)
 rw[aH]
 refine st (yt (v:=.bool false) rfl rfl (zb (ze rfl (zp (za (za (R0 fun _=>st (mV t (st (zC (n:=f.length) kT rfl u.sl (st (zS (k:=.i64) (a:=((f.length:Nat):Int)) (b:=0) rfl rfl (zb ?_)))))))))))))
 cases T:decide (((f.length:Nat):Int)=0)
 have hc57r:=T
 have T:=fD T
 refine ze rfl (zp (za (R0 fun _=>st (mV (Iv ko) (st (mV t (st (zC (n:=f.length) kT rfl u.sl ?_))))))))
 refine st (cL oT (Yl (x:=ko) (n:=f.length) hko yqf aw) ?_)
 rintro _ w60 ⟨g,rfl,hq59,bL⟩
 refine st (aS (Iw g) (zb (za ?_)))
 refine WD4 ((fun TT ai=>WF [fun vals wq=>Sep F E (ai::TT) wq,fun vals wq=> ∃(A:Nat),(vals 0=((Iy A 0 0):Value))∧Sep F E ((Blk A #[] 55)::ai::TT) wq,fun vals wq=> ∃(A:Nat) (C:Value),(vals 0=((Iy A 0 0):Value))∧(vals 4=(C:Value))∧Sep F E ((RowE (α:=Ev) (shr F E) 55 C (f.take g))::ai::TT) wq,fun vals wq=> ∃(A:Nat) (C:Value) (y:Value),(vals 0=((Iy A 0 0):Value))∧(vals 4=(C:Value))∧(vals 9=(y:Value))∧Sep F E ((RowE (α:=Ev) (shr F E) 55 y (f.take g++f.drop (g+1)))::ai::TT) wq]) (aa::Rs) (BaseO B d (1+m) f)) (AF [fun _=>True,Vl 1 t,Vl 2 (Iw g),Vl 3 ((xU 10 t 0 g)),fun _=>True,Vl 5 t,Vl 6 (Iw g),Vl 7 (Iw (g+1)),Vl 8 ((xU 10 t (g+1) f.length)),fun _=>True,fun vals=> ∀(y:Value),vals 9=(y:Value)→vals 10=(y:Value)]) [[],[],[],[1,2],(rg 4),[],[],[6],[5,6,7],(rg 9),(rg 10)] [0,4,9] [(0,0),(0,1),(0,1),(0,1),(1,1),(0,2),(0,2),(0,2),(0,2),(2,2),(3,3)] bL ⟨?_,fun _ _ _ _ _ _ _=>obl rfl (mV t dR),fun _ _ _ _ _ _ _=>obl rfl (mV (Iw g) dR),?_,?_,fun _ _ _ _ _ _ _=>obl rfl (mV t dR),fun _ _ _ _ _ _ _=>obl rfl (mV (Iw g) dR),?_,?_,?_,?_,zl⟩ ?_ (hlocA:=xi ⟨dT,dA,dA,dA,dT,dA,dA,dA,dA,dT,fun vals P hv h=>fun y aj=>(hv 10 (.inl rfl)).trans (h y ((hv 9 (.inr dc)).symm.trans aj)),zl⟩)
 refine ob1 0 fun _ _ (bM:Sep _ _ _ _) _=>(obl rfl ((zH (k:=10) (parts':=[]) (c:=#[]) kT lT vT dc rfl kr ?_)))
 intro w71 A bN
 exact fun P hv V=>⟨(exiA A (zA hv (bM.new bN))),zl⟩
 refine fun ab _ _ bO bP ak Q=>?_
 have hkk:=xE bO bP
 rcases hkk with rfl|rfl
 have hS180:Sep _ _ _ _:=ak
 refine obl rfl ?_
 exact Zf (j:=g) (k:=10) (n:=f.length) kT lT (Q 1 dc) u.sl (Q 2 dc) bo dR
 obtain⟨A,D,hS183⟩:=ak
 refine obl rfl ?_
 exact Zf (j:=g) (k:=10) (n:=f.length) kT lT (Q 1 dc) u.sl (Q 2 dc) bo dR
 refine ob1 1 fun _ _ bQ bR=>?_
 obtain⟨A,D,aI⟩:=bQ
 refine obl rfl ?_
 have al:Sep _ _ ((RowE (α:=Ev) (shr F E) 55 (Iy A 0 0) ([]:List Ev))::_) _:=Sep.blkRow (src:=(shr F E)) (l:=([]:List Ev)) (css:=[]) aI rfl trivial yqa
 have aJ:=al.r0
 have hr107s:_*96≤_:=aJ.2
 have ax:=RdS.sub_hi (j:=g) u (by first|omega|(simp only[List.length_drop,List.length_take];omega))
 have h108s:_*96≤_:=ax.small
 refine(xO (src:=(shr F E)) (bytes:=96) al Us D (bR 3 (by decide)) ax yqb rfl (hq':=fun _ _ h _ _=>h) ?_)
 intro C bS R
 have R:Sep F E ((RowE (α:=Ev) (shr F E) 55 C (f.take g))::(BaseO B d (1+m) f)::aa::Rs) bS:=R
 have aK:=R.r0
 have hr109s:_*96≤_:=aK.2
 exact fun P hv V=>⟨(exiA A (exiA C (zA ((V 0 dc).trans D) (zA hv R)))),zl⟩
 refine fun X _ _ bT bU ac ad=>?_
 have hkk:=UT bT bU
 rcases hkk with rfl|rfl|rfl
 have hS204:Sep _ _ _ _:=ac
 refine obl rfl ?_
 have aL:InR ((g+1:Nat):Int):=bo
 exact zO (r:=((g+1:Nat):Int)) (k:=.i64) (a:=((g:Nat):Int)) (b:=1) (ad 6 (by decide)) rfl (by rw[show(((g:Nat):Int)+1:Int)=((g+1:Nat):Int)from bo];exact zw aL) dR
 obtain⟨A,D,hS207⟩:=ac
 refine obl rfl ?_
 have aM:InR ((g+1:Nat):Int):=bo
 exact zO (r:=((g+1:Nat):Int)) (k:=.i64) (a:=((g:Nat):Int)) (b:=1) (ad 6 (by decide)) rfl (by rw[show(((g:Nat):Int)+1:Int)=((g+1:Nat):Int)from bo];exact zw aM) dR
 obtain⟨A,C,D,K,hS210⟩:=ac
 refine obl rfl ?_
 have aN:InR ((g+1:Nat):Int):=bo
 exact zO (r:=((g+1:Nat):Int)) (k:=.i64) (a:=((g:Nat):Int)) (b:=1) (ad 6 (by decide)) rfl (by rw[show(((g:Nat):Int)+1:Int)=((g+1:Nat):Int)from bo];exact zw aN) dR
 refine fun Y _ _ bV bW ae L=>?_
 have hkk:=UT bV bW
 rcases hkk with rfl|rfl|rfl
 have hS219:Sep _ _ _ _:=ae
 refine obl rfl ?_
 exact Ym (i:=g+1) (k:=10) (n:=f.length) kT lT (L 5 dc) u.sl (L 7 dc) bo dR
 obtain⟨A,D,hS222⟩:=ae
 refine obl rfl ?_
 exact Ym (i:=g+1) (k:=10) (n:=f.length) kT lT (L 5 dc) u.sl (L 7 dc) bo dR
 obtain⟨A,C,D,K,hS225⟩:=ae
 refine obl rfl ?_
 exact Ym (i:=g+1) (k:=10) (n:=f.length) kT lT (L 5 dc) u.sl (L 7 dc) bo dR
 refine ob1 2 fun _ _ aO aP=>?_
 obtain⟨A,C,D,K,aQ⟩:=aO
 refine obl rfl ?_
 have ay:=RdS.sub_lo (i:=g+1) u (by first|omega|(simp only[List.length_drop,List.length_take];omega))
 have h152s:_*96≤_:=ay.small
 refine(xO (src:=(shr F E)) (bytes:=96) aQ Us K (aP 8 (by decide)) ay yqb rfl (hq':=fun _ _ h _ _=>h) ?_)
 intro y w149 am
 have aR:=am.r0
 have hr153s:_*96≤_:=aR.2
 exact fun P hv V=>⟨(exiA A (exiA C (exiA y (zA ((V 0 dc).trans D) (zA ((V 4 dc).trans K) (zA hv am)))))),zl⟩
 refine ob1 3 fun _ _ aT _=>?_
 obtain⟨A,C,y,D,K,S,hS234⟩:=aT
 refine obl rfl (zM (v:=y) S (fun P hv V=>⟨rfl,?_⟩))
 intro v150q aj
 rw[V 9 (by decide)]at aj;cases S.symm.trans aj
 exact hv
 intro vals bX aU aV
 obtain⟨A,C,y,D,K,S,aW⟩:=aU
 have bY:vals 10=(y:Value):=aV 10 dc y S
 refine yg (kv:=[(0,.agg (d.cells dd0 dd1).toArray),(1,Iv n),(2,Iw (1+m)),(3,t),(4,Iw s),(5,Iw g),(6,Ix b2 0),(12,.bool false),(17,.agg (d.cells dd0 dd1).toArray),(18,.bool b5),(19,.bool false),(21,Iv n),(22,Iw O),(23,Iw (1+O)),(24,vl),(25,t),(26,Iv every),(27,Iw m),(28,Iw (1+m)),(29,.agg (d.cells dd0 dd1).toArray),(30,Iw (1+m)),(31,Ix B 0),(13,Ix B 0),(32,Ix B 0),(33,.bool false),(34,Iv ka),(35,t),(36,Iw f.length),(37,Iw (f.length+1)),(38,Iw s),(39,Ix B 0),(40,t),(41,Iw s),(42,(xU 10 t 0 s)),(43,Iw ((f.take s).length-yv (1+m) (f.take s) ([]:List Ev))),(44,Iw s),(45,.bool false),(46,.bool false),(47,Ix B 0),(48,t),(49,Iw (f.length-yv (1+m) f (f.take s))),(50,t),(51,Iw f.length),(52,Iw s),(53,Iw (f.length-s)),(54,.bool false),(55,.bool false),(56,.bool false),(57,Ix B 0),(58,t),(59,Iw (f.length-yv (1+m) f f)),(60,.bool false),(61,.bool false),(62,t),(63,Iw f.length),(64,.bool false),(66,Iv ko),(67,t),(68,Iw f.length),(69,Iw g),(14,y)]) ⟨rfl,rfl,rfl,rfl,rfl,rfl,rfl,rfl,rfl,rfl,rfl,rfl,rfl,rfl,rfl,rfl,rfl,rfl,rfl,rfl,rfl,rfl,rfl,rfl,rfl,rfl,rfl,rfl,rfl,rfl,rfl,rfl,rfl,rfl,rfl,rfl,rfl,rfl,rfl,rfl,rfl,rfl,rfl,rfl,rfl,rfl,rfl,rfl,rfl,rfl,rfl,rfl,rfl,rfl,rfl,rfl,rfl,rfl,rfl,rfl,(by exact bY),zl⟩ (fun ρw235=>?_)
 refine zb (za ?_)
 have aX:Sep F E ((RowE (α:=Ev) (shr F E) 55 y (yz f g))::(BaseO B d (1+m) f)::aa::Rs) bX:=aW
 obtain⟨G241,aY,H,aZ,an⟩:=aX.lend
 have M:=RowE.rdB aY H
 have hrd247s:_*96≤_:=M.small
 have Z:g<f.length:=by omega
 have hll9:=Va Z
 have bZ:=zcn (q:=g) (e:=(1+m)) om
 obtain⟨m9,az⟩: ∃z,g/(1+m)*(1+m)=z:=⟨_,rfl⟩
 rw[az]at bZ
 have hD9:yv (1+m) (yz f g) f=m9:=by rw[Xa (Jq p Z) Z];exact az
 refine R0 fun _=>st (mV (Ix B 0) (st (mV y ?_)))
 refine st (cL mT (xu (l:=(yz f g)) (vl:=y) M (zv (zv hKN I) H) aZ (J.1) (J.2) ((by first|exact p.one (fun _ h=>List.mem_of_mem_take h) (fun _ h=>absurd h List.not_mem_nil)|exact p.one (fun _ h=>h) (fun _ h=>List.mem_of_mem_take h)|exact p.one (fun _ h=>h) (fun _ h=>h)|exact p.one xZ (fun _ h=>h)|exact p.one (fun _ h=>h) xZ)) ((by first|omega|(simp only[List.length_take,List.length_nil];omega))) ((by first|omega|(simp only[List.length_take,List.length_nil];omega)))) ?_)
 rintro _ w248 ⟨rfl,ba⟩
 refine st (aS (Iw ((yz f g).length-yv (1+m) (yz f g) f)) (zb (za (za (zF kr (st (mV (Iw ((yz f g).length-yv (1+m) (yz f g) f)) (st (mV y (st (zC (n:=(yz f g).length) kT rfl M.sl (st (mV (Iw g) ?_)))))))))))))
 have bb:InR ((((yz f g).length)-g:Nat):Int):=bo
 refine st (xK (r:=((((yz f g).length)-g:Nat):Int)) (k:=.i64) (a:=(((yz f g).length:Nat):Int)) (b:=((g:Nat):Int)) rfl rfl (by rw[show((((yz f g).length:Nat):Int)-((g:Nat):Int):Int)=((((yz f g).length)-g:Nat):Int)from bo];exact zw bb) (st (zK (k:=.i64) (a:=((((yz f g).length-yv (1+m) (yz f g) f):Nat):Int)) (b:=((((yz f g).length)-g:Nat):Int)) rfl rfl ?_)))
 have aA:(decide (((((yz f g).length-yv (1+m) (yz f g) f):Nat):Int)<((((yz f g).length)-g:Nat):Int)))=false:=(by simp only[Bool.not_eq_false',decide_eq_true_eq,decide_eq_false_iff_not];omega)
 rw[aA]
 refine st (mV (.bool false) (sty rfl rfl (mV (Iw ((yz f g).length-yv (1+m) (yz f g) f)) (sty rfl rfl (mV y (sty rfl rfl (zC (n:=(yz f g).length) kT rfl M.sl (sty rfl rfl (mV (Iw g) ?_)))))))))
 have bc:InR ((((yz f g).length)-g:Nat):Int):=bo
 refine sty rfl rfl (xK (r:=((((yz f g).length)-g:Nat):Int)) (k:=.i64) (a:=(((yz f g).length:Nat):Int)) (b:=((g:Nat):Int)) rfl rfl (by rw[show((((yz f g).length:Nat):Int)-((g:Nat):Int):Int)=((((yz f g).length)-g:Nat):Int)from bo];exact zw bc) (sty rfl rfl (mV (Iw (1+m)) ?_)))
 have bd:InR ((((yz f g).length)-g+(1+m):Nat):Int):=bo
 refine sty rfl rfl (zO (r:=((((yz f g).length)-g+(1+m):Nat):Int)) (k:=.i64) (a:=((((yz f g).length)-g:Nat):Int)) (b:=((1+m:Nat):Int)) rfl rfl (by rw[show(((((yz f g).length)-g:Nat):Int)+((1+m:Nat):Int):Int)=((((yz f g).length)-g+(1+m):Nat):Int)from bo];exact zw bd) ?_)
 have be:InR (((((yz f g).length)-g+(1+m))-1:Nat):Int):=bo
 refine sty rfl rfl (xK (r:=(((((yz f g).length)-g+(1+m))-1:Nat):Int)) (k:=.i64) (a:=((((yz f g).length)-g+(1+m):Nat):Int)) (b:=1) rfl rfl (by rw[show(((((yz f g).length)-g+(1+m):Nat):Int)-1:Int)=(((((yz f g).length)-g+(1+m))-1:Nat):Int)from bo];exact zw be) (sty rfl rfl (xh (k:=.i64) (a:=((((yz f g).length-yv (1+m) (yz f g) f):Nat):Int)) (b:=(((((yz f g).length)-g+(1+m))-1:Nat):Int)) rfl rfl ?_)))
 have aB:(decide ((((((yz f g).length)-g+(1+m))-1:Nat):Int)<((((yz f g).length-yv (1+m) (yz f g) f):Nat):Int)))=false:=(by simp only[Bool.not_eq_false',decide_eq_true_eq,decide_eq_false_iff_not];omega)
 rw[aB]
 refine st (yt (v:=.bool false) rfl rfl (zb (ze rfl (zp (za ?_)))))
 have cg: ¬g<(yz f g).length→yv (1+m) f (yz f g)=g:=fun h=>VB (Uf p Z) h
 have bw:g<(yz f g).length→yv (1+m) f (yz f g)=m9:=fun h=>(Xa (Uf p Z) h).trans az
 refine R0 fun _=>st (mV (Ix B 0) (st (mV t ?_)))
 refine st (cL mT (xu (l:=f) (vl:=t) (zv u H) (zv (zv hKN I) H) ba (J.1) (J.2) ((by first|exact p.one (fun _ h=>List.mem_of_mem_take h) (fun _ h=>absurd h List.not_mem_nil)|exact p.one (fun _ h=>h) (fun _ h=>List.mem_of_mem_take h)|exact p.one (fun _ h=>h) (fun _ h=>h)|exact p.one xZ (fun _ h=>h)|exact p.one (fun _ h=>h) xZ)) ((by first|omega|(simp only[List.length_take,List.length_nil];omega))) ((by first|omega|(simp only[List.length_take,List.length_nil];omega)))) ?_)
 rintro _ w256 ⟨rfl,ao⟩
 refine st (aS (Iw (f.length-yv (1+m) f (yz f g))) (zb (za (R0 fun _=>st (mV t (st (zC (n:=f.length) kT rfl (zv u H).sl (st (mV (Iw g) ?_)))))))))
 have bf:InR ((f.length-g:Nat):Int):=bo
 refine st (xK (r:=((f.length-g:Nat):Int)) (k:=.i64) (a:=((f.length:Nat):Int)) (b:=((g:Nat):Int)) rfl rfl (by rw[show(((f.length:Nat):Int)-((g:Nat):Int):Int)=((f.length-g:Nat):Int)from bo];exact zw bf) (st (aS (Iw (f.length-g)) (zb (za (za (zL (by kernel_rfl) (fun _=>(st (mV (Iw g) (st (mV t (st (zC (n:=f.length) kT rfl (zv u H).sl ?_))))))))))))))
 have bg:InR ((f.length-1:Nat):Int):=bo
 refine st (xK (r:=((f.length-1:Nat):Int)) (k:=.i64) (a:=((f.length:Nat):Int)) (b:=1) rfl rfl (by rw[show(((f.length:Nat):Int)-1:Int)=((f.length-1:Nat):Int)from bo];exact zw bg) (st (zS (k:=.i64) (a:=((g:Nat):Int)) (b:=((f.length-1:Nat):Int)) rfl rfl (zb ?_))))
 cases N:decide (((g:Nat):Int)=((f.length-1:Nat):Int))
 have hc260r:=N
 have N:=fD N
 refine ze rfl (zp (za (zF kr (st (mV (Iw (f.length-yv (1+m) f (yz f g))) (st (mV (Iw (f.length-g)) (st (xv (k:=.i64) (a:=(((f.length-yv (1+m) f (yz f g)):Nat):Int)) (b:=((f.length-g:Nat):Int)) rfl rfl ?_)))))))))
 have aC:(decide (((f.length-g:Nat):Int)≤(((f.length-yv (1+m) f (yz f g)):Nat):Int)))=true:=(by simp only[Bool.not_eq_false',decide_eq_true_eq,decide_eq_false_iff_not];have h9:=bw (by omega);omega)
 rw[aC]
 refine st (mV (.bool true) (sty rfl rfl (mV (Iw (f.length-yv (1+m) f (yz f g))) (sty rfl rfl (mV (Iw (f.length-g)) (sty rfl rfl (mV (Iw (1+m)) ?_)))))))
 have bh:InR ((f.length-g+(1+m):Nat):Int):=bo
 refine sty rfl rfl (zO (r:=((f.length-g+(1+m):Nat):Int)) (k:=.i64) (a:=((f.length-g:Nat):Int)) (b:=((1+m:Nat):Int)) rfl rfl (by rw[show(((f.length-g:Nat):Int)+((1+m:Nat):Int):Int)=((f.length-g+(1+m):Nat):Int)from bo];exact zw bh) ?_)
 have bi:InR (((f.length-g+(1+m))-1:Nat):Int):=bo
 refine sty rfl rfl (xK (r:=(((f.length-g+(1+m))-1:Nat):Int)) (k:=.i64) (a:=((f.length-g+(1+m):Nat):Int)) (b:=1) rfl rfl (by rw[show(((f.length-g+(1+m):Nat):Int)-1:Int)=(((f.length-g+(1+m))-1:Nat):Int)from bo];exact zw bi) (sty rfl rfl (Kv (k:=.i64) (a:=(((f.length-yv (1+m) f (yz f g)):Nat):Int)) (b:=(((f.length-g+(1+m))-1:Nat):Int)) rfl rfl ?_)))
 have aD:(decide ((((f.length-yv (1+m) f (yz f g)):Nat):Int)≤(((f.length-g+(1+m))-1:Nat):Int)))=true:=(by simp only[Bool.not_eq_false',decide_eq_true_eq,decide_eq_false_iff_not];have h9:=bw (by omega);omega)
 rw[aD]
 refine st (yC (v:=.bool true) rfl rfl (st (mV (.bool true) (sty rfl rfl (cL uT (xQ (zv (zv hKN I) H) ao) ?_)))))
 rintro _ w265 ⟨rfl,bj⟩
 refine st (yC (v:=.bool true) rfl rfl (st (aS (.bool true) (zb (zq (zU nR (show _=(.bool true:Value)from rfl) ?_))))))
 have bk:=an _ _ bj
 have bl:=af _ _ bk
 refine⟨rfl,(bl.s4_)⟩
 have N:=tD N
 refine zg rfl (za (zF kr (st (mV (Iw (f.length-yv (1+m) f (yz f g))) (st (zS (k:=.i64) (a:=(((f.length-yv (1+m) f (yz f g)):Nat):Int)) (b:=1) rfl rfl ?_))))))
 have aE:(decide ((((f.length-yv (1+m) f (yz f g)):Nat):Int)=1))=true:=(by simp only[Bool.not_eq_false',decide_eq_true_eq,decide_eq_false_iff_not];have h9:=cg (by omega);omega)
 rw[aE]
 refine st (mV (.bool true) (sty rfl rfl (cL uT (xQ (zv (zv hKN I) H) ao) ?_)))
 rintro _ w271 ⟨rfl,bm⟩
 refine st (yC (v:=.bool true) rfl rfl (st (aS (.bool true) (zb (zq (zU nR (show _=(.bool true:Value)from rfl) ?_))))))
 have bn:=an _ _ bm
 have bp:=af _ _ bn
 refine⟨rfl,(bp.s4_)⟩
 have T:=tD T
 refine zg rfl (za (R0 fun _=>st (cL uT (xQ (zv hKN I) aw) ?_)))
 rintro _ w276 ⟨rfl,bq⟩
 refine st (aS (.bool true) (zb (zq (zU nR (show _=(.bool true:Value)from rfl) ?_))))
 have br:=af _ _ bq
 refine⟨rfl,(br.s3_)⟩
 try simp only[zi]at ah
 refine zg rfl (za (R0 fun _=>st (cL uT (xQ hKN bu) ?_)))
 rintro _ w280 ⟨rfl,bs⟩
 refine st (aS (.bool true) (zb (zq (zU nR (show _=(.bool true:Value)from rfl) ?_))))
 refine⟨rfl,(bs.s1_)⟩
end
section
open Go.Proofs Go.RowKit
set_option maxHeartbeats 8000000 in
theorem US {d:Dcl}{dd0:Value}(hdd0:RdS W G dd0 d.types){dd1:Value}(hdd1:RdS W G dd1 d.projs)(od:d.Ok){n:Int}(hn:InR n){every:Int}(hevery:InR every){vl:Value}{l:List Ev}(hl:RdS W G vl l){vt:Value}{t:List Trn}(ht:RdS W G vt t)(hKN:RdS W G (.slice (some ⟨0,0,none⟩) 6 6) kindsL)(hS0:Sep G W Rs w):Ret Tryz.prog 26 [.agg (d.cells dd0 dd1).toArray,.int .i64 (n),.int .i64 (every),vl,vt] w (fun r w'=>r=(.bool true:Value)∧Sep G W Rs w'):=by
 have hdd0s:_*24≤_:=hdd0.small
 have hdd1s:_*40≤_:=hdd1.small
 have hls:_*96≤_:=hl.small
 have hts:_*32≤_:=ht.small
 have hKNs:_*8≤_:=hKN.small
 refine zn (args:=[.agg (d.cells dd0 dd1).toArray,Iv n,Iv every,vl,vt]) Tryz.func26 rfl rfl ?_
 refine za (R0 fun _=>st (zX (v:=.agg (d.cells dd0 dd1).toArray) rfl ?_))
 intro w3 b2 gG
 let gH:=Blk b2 (d.cells dd0 dd1).toArray 25
 have fm:=hS0.new gG
 refine st (aS (.bool false) (zb (za (za (R0 fun _=>st (zh (k:=2) tT rT rfl rfl (zo (fm.b0)) (st (cL kY (Uy (d:=d) hdd0 hdd1 od fm) ?_))))))))
 rintro _ w7 ⟨b5,rfl,gI,fn⟩
 refine st (yD (a:=b5) rfl (zb ?_))
 cases bs: !b5
 have hc9r:=bs
 try simp only[zi]at bs
 have ag:=gI (by simpa using bs)
 refine ze rfl (zp (za (R0 fun _=>st (mV (Iv n) ?_))))
 refine st (cL oT (Yl (x:=n) (n:=64) hn yqf fn) ?_)
 rintro _ w12 ⟨ah,rfl,hq11,fr⟩
 have cv:InR ((1+ah:Nat):Int):=bo
 refine st (zO (r:=((1+ah:Nat):Int)) (k:=.i64) (a:=1) (b:=((ah:Nat):Int)) rfl rfl (by rw[show(1+((ah:Nat):Int):Int)=((1+ah:Nat):Int)from bo];exact zw cv) (st (mV vl (st (cL lY (UL (n:=((1+ah:Nat):Int)) (l:=l) (vl:=vl) cv hl fr) ?_)))))
 rintro aa fo ⟨_,bt,rfl,ho4017,ab,cw⟩
 have fs:=cw.r0
 have hr21s:_*96≤_:=fs.2
 refine st (aS aa (zb (za ?_)))
 obtain⟨fp,ft,L,cx,fu⟩:=cw.lend
 have bu:=RowE.rdB ft L
 have hrd28s:_*96≤_:=bu.small
 refine R0 fun _=>st (zh (k:=2) tT rT rfl rfl (zo (cx.b0)) (st (mV (Iv every) (st (cL wT (YD (d:=d) (every:=every) (zv hdd0 L) (zv hdd1 L) od hevery (zv hKN L) cx (ag.1)) ?_)))))
 rintro _ w32 ⟨H,Q,rfl,hev31,fv⟩
 refine st (aS (Ix H 0) (zb (za (za (R0 fun _=>st (mV (Ix H 0) (st (ZX (b:=H) (o:=0) kR rfl (zb (ze rfl (zp (za (za (R0 fun _=>st (aS (Iv 0) (zb (zt (zZ (fun mq σ M=> ∃(k:Nat) (E9:List Ev) (ρ:Env),mq=t.length-k∧σ=yf ρ [(3,aa),(4,vt),(5,Ix b2 0),(10,.bool false),(11,Ix H 0),(12,Iw k)]∧(k≤t.length)∧(∀x∈E9,x∈bt)∧(E9.length≤40)∧Sep fp fo ((BaseO H d Q E9)::(Blk b2 (d.cells dd0 dd1).toArray 25)::Rs) M) ⟨0,[],_,rfl,sSf,zY _,(fun _ h=>absurd h List.not_mem_nil),zY _,fv⟩ ?_))))))))))))))))))
 rintro m35 σ36 w34 ⟨k,E9,ρl1,rfl,rfl,hkk,fq,hEl9,bc⟩
 refine za (za (zF kr (st (mV (Iw k) (st (mV vt (st (zC (n:=t.length) mY rfl (zv ht L).sl (st (zK (k:=.i64) (a:=((k:Nat):Int)) (b:=((t.length:Nat):Int)) rfl rfl (st (mV (.bool (decide (((k:Nat):Int)<((t.length:Nat):Int)))) (stc (V:=Iw k) rfl rfl (fun fw=>?_) ?_)))))))))))))
 have hl39:=tD fw
 exact mV (Iw k) rflB
 refine stc (V:=.bool (decide (((k:Nat):Int)<20))) rfl rfl (fun cy=>?_) ?_
 have hl41:=tD cy
 exact zK (k:=.i64) (a:=((k:Nat):Int)) (b:=20) (ifpC cy) rfl rflB
 refine st (zx (b:=decide (((k:Nat):Int)<((t.length:Nat):Int))) (b':=decide (((k:Nat):Int)<20)) rfl (fun hbp=>(ifpC hbp)) (zb ?_))
 cases bd:(decide (((k:Nat):Int)<((t.length:Nat):Int)))&&(decide (((k:Nat):Int)<20))
 have hc42r:=bd
 try simp only[zi]at bd
 refine ze rfl (ya (zR (za (R0 fun _=>st (cL uT (xQ (zv hKN L) bc) ?_)))))
 rintro _ w43 ⟨rfl,fx⟩
 refine st (aS (.bool true) (zb (zq (zU nY (show _=(.bool true:Value)from rfl) ?_))))
 have fy:=fu _ _ fx
 refine⟨rfl,(fy.s3_)⟩
 try simp only[zi]at bd
 refine zg rfl (zp (za (zt (za (R0 fun _=>st (mV aa (st (mV vt (st (mV (Iw k) ?_))))))))))
 have fz:k<t.length:=bo
 refine st (zf (k:=4) (i:=k) mY oY rfl (zv ht L).sl rfl fz ?_)
 have be:k<t.length:=bo
 obtain⟨bv,ay⟩:=(zv ht L).trn be
 rw[←zJ default be]at bv ay
 have df:=bc.cells bv ((zv ht L).foot (ne_of_lt be))
 refine st (zh (k:=4) Tryz.isAgg38 oY rfl rfl df (st (cL Tryz.call11 (Qz (l:=bt) (vl:=aa) (t:=(t.getD k default)) bu ay bc om) ?_)))
 rintro z O ⟨_,c,rfl,hxl53,X,cz⟩
 have fA:=cz.r0
 have hr57s:_*96≤_:=fA.2
 refine st (aS z (zb (za ?_)))
 obtain⟨P,fB,U,fC,fE⟩:=cz.lend
 have p:=RowE.rdB fB U
 have hrd64s:_*96≤_:=p.small
 refine R0 fun _=>st (mV (Ix H 0) (st (mV z ?_)))
 refine st (cL mT (xu (l:=c) (vl:=z) p (zv (zv hKN L) U) fC (ag.1) (ag.2) ((by first|exact ab.one X fq|exact ab.one X (fun _ h=>absurd h List.not_mem_nil))) ((by first|omega|(simp only[List.length_nil];omega))) ((by omega))) ?_)
 rintro _ w65 ⟨rfl,cA⟩
 refine zb (za (R0 fun _=>st (zh (k:=2) tT rT rfl rfl (zo (cA.b1)) (st (cL wT (YD (d:=d) (every:=1000) (zv (zv hdd0 L) U) (zv (zv hdd1 L) U) od dc (zv (zv hKN L) U) cA (ag.1)) ?_)))))
 rintro _ gJ ⟨K,fF,rfl,hev69,fG⟩
 refine st (aS (Ix K 0) (zb (za (za ?_))))
 obtain rfl:fF=1000:=by omega
 have fH:Sep P O ((BaseO K d 1000 ([]:List Ev))::(BaseO H d Q c)::gH::Rs) gJ:=fG
 have hA9:=Qk (every:=1000) (l:=c)
 have hrl9:=xc d c
 refine zF kr (st (mV (Ix K 0) (st (ZX (b:=K) (o:=0) kR rfl (st (mV (.bool false) (sty rfl rfl (mV (Ix K 0) (sty rfl rfl (mV z ?_))))))))))
 refine sty rfl rfl (cL mT (xu (l:=c) (vl:=z) p (zv (zv hKN L) U) fH (ag.1) (ag.2) ((by first|exact ab.one X fq|exact ab.one X (fun _ h=>absurd h List.not_mem_nil))) ((by first|omega|(simp only[List.length_nil];omega))) ((by omega))) ?_)
 rintro _ w73 ⟨rfl,fI⟩
 refine sty rfl rfl (mV z (sty rfl rfl (zC (n:=c.length) kT rfl p.sl (sty rfl rfl (yy (k:=.i64) (a:=(((c.length-yv 1000 c ([]:List Ev)):Nat):Int)) (b:=((c.length:Nat):Int)) rfl rfl ?_)))))
 have dg:(!decide ((((c.length-yv 1000 c ([]:List Ev)):Nat):Int)=((c.length:Nat):Int)))=false:=(by simp only[Bool.not_eq_false',decide_eq_true_eq];omega)
 rw[dg]
 refine st (yt (v:=.bool false) rfl rfl (st (mV (.bool false) (sty rfl rfl (mV (Ix H 0) (sty rfl rfl (cL mR (ZL (fI.mv1)) ?_)))))))
 rintro gK w78 ⟨_,rfl,cB⟩
 have fJ:=cB.r1
 have hr80s:_*120≤_:=fJ.2
 refine sty rfl rfl (mV (Ix K 0) (sty rfl rfl (cL mR (ZL (cB.mv2)) ?_)))
 rintro gL w83 ⟨_,rfl,cC⟩
 have fK:=cC.r1
 have hr85s:_*120≤_:=fK.2
 obtain⟨G87,fL,hB90,fM,fN⟩:=(cC.mv3).lend
 have bw:=RowE.rd fL
 have hrd93s:_*120≤_:=bw.small
 obtain⟨G95,fO,fP,fQ,dh⟩:=(fM.mv1).lend
 have az:=RowE.rd fO
 have hrd101s:_*120≤_:=az.small
 refine sty rfl rfl (cL Tryz.call17 (Xk (a:=(zk d c)) (va:=gK) (b:=(zk d c)) (vb:=gL) (zv bw fP) az fQ) ?_)
 rintro _ w102 ⟨rfl,di⟩
 have dj:=dh _ _ di
 have dk:=fN _ _ dj
 refine sty rfl rfl (yD (a:=decide ((zk d c)=(zk d c))) rfl ?_)
 have cD:(!(decide ((zk d c)=(zk d c))))=false:=(by simp)
 rw[cD]
 refine st (yt (v:=.bool false) rfl rfl (st (mV (.bool false) (sty rfl rfl (mV (Ix K 0) (sty rfl rfl (cL mR (ZL (dk.mv2)) ?_)))))))
 rintro v108 fR ⟨_,rfl,bx⟩
 have bz:=bx.r1
 have hr111s:_*120≤_:=bz.2
 refine sty rfl rfl (zC (n:=(zk d c).length) wR rfl bz.1 (sty rfl rfl (mV z (sty rfl rfl (zC (n:=c.length) kT rfl p.sl (sty rfl rfl (yy (k:=.i64) (a:=(((zk d c).length:Nat):Int)) (b:=((c.length:Nat):Int)) rfl rfl ?_)))))))
 have cE:(!decide ((((zk d c).length:Nat):Int)=((c.length:Nat):Int)))=false:=(by simp only[Bool.not_eq_false',decide_eq_true_eq];omega)
 rw[cE]
 refine st (yt (v:=.bool false) rfl rfl (zb (ze rfl (zp (za (za (R0 fun _=>st (aS (Iv 0) (zb (zt ?_))))))))))
 have dl:Sep P O ((BaseO H d Q c)::(BaseO K d 1000 c)::gH::Rs) fR:=bx.sel 6 [4,0,5] (xq _ _) rfl rfl
 refine zZ (fun mq σ M=> ∃(N:Nat) (ρ:Env),mq=d.projs.length-N∧σ=yf ρ [(3,aa),(4,vt),(5,Ix b2 0),(10,.bool false),(11,Ix H 0),(12,Iw k),(13,z),(14,Ix K 0),(15,Iw N)]∧(N≤d.projs.length)∧Sep P O ((BaseO H d Q c)::(BaseO K d 1000 c)::(Blk b2 (d.cells dd0 dd1).toArray 25)::Rs) M) ⟨0,_,rfl,sSf,zY _,dl⟩ ?_
 rintro m115 σ116 w114 ⟨N,ρl2,rfl,rfl,hkp9,am⟩
 refine za (za (R0 fun _=>st (mV (Iw N) (st (xJ rfl (st (lD dd1 Tryz.isAgg23 rfl (zd (am.b2) rfl) (st (zC (n:=d.projs.length) tR rfl (zv (zv hdd1 L) U).sl (st (zK (k:=.i64) (a:=((N:Nat):Int)) (b:=((d.projs.length:Nat):Int)) rfl rfl (zb ?_))))))))))))
 cases Y:decide (((N:Nat):Int)<((d.projs.length:Nat):Int))
 have hc118r:=Y
 have Y:=fD Y
 refine ze rfl (ya (zR (za (R0 fun _=>st (aS (Iv 0) (zb (zt (zZ (fun mq σ M=> ∃(e:Nat) (ρ:Env),mq=c.length-e∧σ=yf ρ [(3,aa),(4,vt),(5,Ix b2 0),(10,.bool false),(11,Ix H 0),(12,Iw k),(13,z),(14,Ix K 0),(16,Iw e)]∧(e≤c.length)∧Sep P O ((BaseO H d Q c)::(BaseO K d 1000 c)::(Blk b2 (d.cells dd0 dd1).toArray 25)::Rs) M) ⟨0,_,rfl,sSf,zY _,am⟩ ?_))))))))
 rintro m120 σ121 fS ⟨e,ρl3,rfl,rfl,hkj9,bA⟩
 let gM:=Ix (sb z) (so z+e*10)
 let de:=(((c.getD e default).typ),((c.getD e default).agg))
 refine za (za (R0 fun _=>st (mV (Iw e) (st (mV z (st (zC (n:=c.length) kT rfl p.sl (st (zK (k:=.i64) (a:=((e:Nat):Int)) (b:=((c.length:Nat):Int)) rfl rfl (zb ?_))))))))))
 cases Z:decide (((e:Nat):Int)<((c.length:Nat):Int))
 have hc123r:=Z
 have Z:=fD Z
 refine ze rfl (ya (zR (R0 fun _=>st (mV (Iw k) ?_))))
 have dm:InR ((k+1:Nat):Int):=bo
 refine st (zO (r:=((k+1:Nat):Int)) (k:=.i64) (a:=((k:Nat):Int)) (b:=1) rfl rfl (by rw[show(((k:Nat):Int)+1:Int)=((k+1:Nat):Int)from bo];exact zw dm) (st (aS (Iw (k+1)) (zb ?_))))
 have dp:=fE _ _ bA
 have dq:Sep fp fo ((BaseO H d Q c)::gH::Rs) fS:=dp.sel 4 [1,3] (xq _ _) rfl rfl
 exact⟨_,by omega,k+1,c,_,rfl,sSf,by omega,X,by omega,dq⟩
 have Z:=tD Z
 refine zg rfl (zp (za (zt (za ?_))))
 refine WD6 ((fun TT R=>WF [fun vals M=>Sep P O (R::TT) M,fun vals M=> ∃(g:Value),(vals 11=(.tuple #[.agg ((yr d de (zk d c)).cells g).toArray,.bool ((zj d (zk d c) de).isSome)]:Value))∧Sep P O (R::(RowE (α:=Cel) own 105 g (stL d de (zk d c)))::TT) M,fun vals M=> ∃(A:Nat),(vals 15=(Ix A 0:Value))∧Sep P O ((Blk A #[Iv 0,(Iz)] 48)::R::TT) M,fun vals M=> ∃(g:Value) (A:Nat),(vals 11=(.tuple #[.agg ((yr d de (zk d c)).cells g).toArray,.bool ((zj d (zk d c) de).isSome)]:Value))∧(vals 15=(Ix A 0:Value))∧Sep P O ((Blk A #[Iv 0,(Iz)] 48)::R::(RowE (α:=Cel) own 105 g (stL d de (zk d c)))::TT) M,fun _ _=>True,fun _ _=>True,fun _ _=>True,fun vals M=> ∃(g:Value) (A:Nat),(vals 11=(.tuple #[.agg ((yr d de (zk d c)).cells g).toArray,.bool ((zj d (zk d c) de).isSome)]:Value))∧(vals 15=(Ix A 0:Value))∧Sep P O ((Blk A ((yr d de (zk d c)).cells g).toArray 48)::R::(RowE (α:=Cel) own 105 g (stL d de (zk d c)))::TT) M]) ((BaseO K d 1000 c)::gH::Rs) (BaseO H d Q c)) (AF [Vl 0 (Ix H 0),Vl 1 z,Vl 2 (Iw e),Vl 3 gM,Vl 4 (Ix (sb z) (so z+e*10+4)),Vl 5 (Iv ((c.getD e default).typ)),Vl 6 z,Vl 7 (Iw e),Vl 8 gM,Vl 9 (Ix (sb z) (so z+e*10+5)),Vl 10 (Iv ((c.getD e default).agg)),fun _=>True,fun vals=> ∀(g:Value),vals 11=(.tuple #[.agg ((yr d de (zk d c)).cells g).toArray,.bool ((zj d (zk d c) de).isSome)]:Value)→vals 12=(.tuple #[.agg ((yr d de (zk d c)).cells g).toArray,.bool ((zj d (zk d c) de).isSome)]:Value),fun vals=> ∀(g:Value),vals 11=(.tuple #[.agg ((yr d de (zk d c)).cells g).toArray,.bool ((zj d (zk d c) de).isSome)]:Value)→vals 13=(.agg ((yr d de (zk d c)).cells g).toArray:Value),Vl 14 (.bool ((zj d (zk d c) de).isSome)),fun _=>True,fun _=>True,Vl 17 (.bool ((zj d (zk d c) de).isSome))]) [[],[],[],[1,2],[1,2,3],[1,2,3,4],[],[],[6,7],[6,7,8],[6,7,8,9],(rg 11),(rg 12),(rg 13),(rg 13),[],[0,1,2,3,4,5,6,7,8,9,10,11,12,13,15],(rg 17)] [11,15,16] [[0,2],[0,2],[0,2],[0,2],[0,2],[0,2],[0,2],[0,2],[0,2],[0,2],[0,2],[0,2],[1,3],[1,3],[1,3,7],[0,1],[3],[7]] bA ⟨fun _ _ _ _ _ _=>obl rfl (mV (Ix H 0) dR),fun _ _ _ _ _ _=>obl rfl (mV z dR),fun _ _ _ _ _ _=>obl rfl (mV (Iw e) dR),?_,fun _ _ _ _ _ dr=>obl rfl (xm (dr 3 dc) dR),?_,fun _ _ _ _ _ _=>obl rfl (mV z dR),fun _ _ _ _ _ _=>obl rfl (mV (Iw e) dR),?_,fun _ _ _ _ _ ds=>obl rfl (Zc (ds 8 dc) dR),?_,?_,?_,?_,?_,?_,?_,fun _ _ _ _ _ dt=>obl rfl (zM (v:=.bool ((zj d (zk d c) de).isSome)) (dt 14 dc) dR),zl⟩ ?_ (hlocA:=xi ⟨dA,dA,dA,dA,dA,dA,dA,dA,dA,dA,dA,dT,fun vals B F h=>fun g E=>(F 12 (.inl rfl)).trans (h g ((F 11 (.inr dc)).symm.trans E)),fun vals B F h=>fun g E=>(F 13 (.inl rfl)).trans (h g ((F 11 (.inr dc)).symm.trans E)),dA,dT,dT,dA,zl⟩)
 intro fT vals w291 du bB ac
 have aA:fT∈[0,2]:=du
 simp only[yA]at aA
 rcases aA with rfl|rfl
 have hS295:Sep _ _ _ _:=bB
 refine obl rfl ?_
 have dv:e<c.length:=bo
 exact zf (k:=10) (i:=e) kT lT (ac 1 dc) p.sl (ac 2 dc) dv dR
 obtain⟨A,I,hS299⟩:=bB
 refine obl rfl ?_
 have dw:e<c.length:=bo
 exact zf (k:=10) (i:=e) kT lT (ac 1 dc) p.sl (ac 2 dc) dw dR
 intro fU vals w310 dx bC bD
 have aB:fU∈[0,2]:=dx
 simp only[yA]at aB
 rcases aB with rfl|rfl
 have dy:Sep _ _ _ _:=bC
 refine obl rfl ?_
 have bE:e<c.length:=bo
 obtain⟨cF,bf,hoke316⟩:=p.evD bE
 have hsm318:((c.getD e default).deps).length*8≤140737488355328:=bf.small
 have cG:=dy.cells cF (p.foot (ne_of_lt bE))
 exact lD (Iv ((c.getD e default).typ)) nT (bD 4 dc) (cG.get (j:=4) rfl) dR
 obtain⟨A,I,dz⟩:=bC
 refine obl rfl ?_
 have bF:e<c.length:=bo
 obtain⟨cH,bg,hoke322⟩:=p.evD bF
 have hsm324:((c.getD e default).deps).length*8≤140737488355328:=bg.small
 have cI:=dz.cells cH (p.foot (ne_of_lt bF))
 exact lD (Iv ((c.getD e default).typ)) nT (bD 4 dc) (cI.get (j:=4) rfl) dR
 intro fV vals w337 dB bG ad
 have aC:fV∈[0,2]:=dB
 simp only[yA]at aC
 rcases aC with rfl|rfl
 have hS341:Sep _ _ _ _:=bG
 refine obl rfl ?_
 have dD:e<c.length:=bo
 exact zf (k:=10) (i:=e) kT lT (ad 6 dc) p.sl (ad 7 dc) dD dR
 obtain⟨A,I,hS345⟩:=bG
 refine obl rfl ?_
 have dE:e<c.length:=bo
 exact zf (k:=10) (i:=e) kT lT (ad 6 dc) p.sl (ad 7 dc) dE dR
 intro fW vals w356 dF bH bI
 have aD:fW∈[0,2]:=dF
 simp only[yA]at aD
 rcases aD with rfl|rfl
 have dG:Sep _ _ _ _:=bH
 refine obl rfl ?_
 have bJ:e<c.length:=bo
 obtain⟨cJ,bh,hoke362⟩:=p.evD bJ
 have hsm364:((c.getD e default).deps).length*8≤140737488355328:=bh.small
 have cK:=dG.cells cJ (p.foot (ne_of_lt bJ))
 exact lD (Iv ((c.getD e default).agg)) nT (bI 9 dc) (cK.get (j:=5) rfl) dR
 obtain⟨A,I,dH⟩:=bH
 refine obl rfl ?_
 have bK:e<c.length:=bo
 obtain⟨cM,bi,hoke368⟩:=p.evD bK
 have hsm370:((c.getD e default).deps).length*8≤140737488355328:=bi.small
 have cN:=dH.cells cM (p.foot (ne_of_lt bK))
 exact lD (Iv ((c.getD e default).agg)) nT (bI 9 dc) (cN.get (j:=5) rfl) dR
 intro fX vals w373 dI bL S
 have aE:fX∈[0,2]:=dI
 simp only[yA]at aE
 rcases aE with rfl|rfl
 have bM:Sep _ _ _ _:=bL
 refine obl rfl ?_
 have bN:e<c.length:=bo
 obtain⟨cO,bj,ai⟩:=p.evD bN
 have hsm383:((c.getD e default).deps).length*8≤140737488355328:=bj.small
 have hcw384:=bM.cells cO (p.foot (ne_of_lt bN))
 refine(zW (f:=20) (vals:=[Ix H 0,Iv ((c.getD e default).typ),Iv ((c.getD e default).agg)]) (cap:=[]) rfl (yM ⟨(S 0 dc),(S 5 dc),(S 10 dc),zl⟩) oR (Ya (ty:=(c.getD e default).typ) (no:=(c.getD e default).agg) ai.typ ai.agg bM) ?_)
 rintro _ w386 ⟨g,rfl,bO⟩
 have dJ:=bO.r1
 have hr388s:_*32≤_:=dJ.2
 exact fun B F D=>⟨(exiA g (zA F bO)),zl⟩
 obtain⟨A,I,bP⟩:=bL
 refine obl rfl ?_
 have bQ:e<c.length:=bo
 obtain⟨cP,bk,aj⟩:=p.evD bQ
 have hsm395:((c.getD e default).deps).length*8≤140737488355328:=bk.small
 have hcw396:=bP.cells cP (p.foot (ne_of_lt bQ))
 refine(zW (f:=20) (vals:=[Ix H 0,Iv ((c.getD e default).typ),Iv ((c.getD e default).agg)]) (cap:=[]) rfl (yM ⟨(S 0 dc),(S 5 dc),(S 10 dc),zl⟩) oR (Ya (ty:=(c.getD e default).typ) (no:=(c.getD e default).agg) aj.typ aj.agg (bP.mv1)) ?_)
 rintro _ w399 ⟨g,rfl,bR⟩
 have dK:=bR.r1
 have hr401s:_*32≤_:=dK.2
 exact fun B F D=>⟨(exiA g (exiA A (zA F (zA ((D 15 dc).trans I) (bR.mv2))))),zl⟩
 intro fY vals w404 dL bS hA405
 have aF:fY∈[1,3]:=dL
 simp only[yA]at aF
 rcases aF with rfl|rfl
 obtain⟨g,s,hS408⟩:=bS
 refine obl rfl (zP (v:=.tuple #[.agg ((yr d de (zk d c)).cells g).toArray,.bool ((zj d (zk d c) de).isSome)]) s (fun B F D=>⟨rfl,?_⟩))
 intro an E
 rw[D 11 (by decide)]at E;cases s.symm.trans E
 exact F
 obtain⟨g,A,s,I,hS409⟩:=bS
 refine obl rfl (zP (v:=.tuple #[.agg ((yr d de (zk d c)).cells g).toArray,.bool ((zj d (zk d c) de).isSome)]) s (fun B F D=>⟨rfl,?_⟩))
 intro an E
 rw[D 11 (by decide)]at E;cases s.symm.trans E
 exact F
 intro fZ vals w411 dM bT bU
 have aG:fZ∈[1,3]:=dM
 simp only[yA]at aG
 rcases aG with rfl|rfl
 obtain⟨g,s,hS415⟩:=bT
 let gN:=(yr d de (zk d c)).cells g
 have ga:vals 12=(.tuple #[.agg gN.toArray,.bool ((zj d (zk d c) de).isSome)]:Value):=bU 12 dc g s
 refine obl rfl (zz (vs:=[.agg gN.toArray,.bool ((zj d (zk d c) de).isSome)]) (i:=0) (v:=.agg gN.toArray) ga rfl (fun B F D=>⟨rfl,?_⟩))
 intro an E
 rw[D 11 (by decide)]at E;cases s.symm.trans E
 exact F
 obtain⟨g,A,s,I,hS417⟩:=bT
 let gO:=(yr d de (zk d c)).cells g
 have gc:vals 12=(.tuple #[.agg gO.toArray,.bool ((zj d (zk d c) de).isSome)]:Value):=bU 12 dc g s
 refine obl rfl (zz (vs:=[.agg gO.toArray,.bool ((zj d (zk d c) de).isSome)]) (i:=0) (v:=.agg gO.toArray) gc rfl (fun B F D=>⟨rfl,?_⟩))
 intro an E
 rw[D 11 (by decide)]at E;cases s.symm.trans E
 exact F
 intro gd vals w420 dN ao ap
 have aH:gd∈[1,3,7]:=dN
 simp only[yA]at aH
 rcases aH with rfl|rfl|rfl
 obtain⟨g,s,hS424⟩:=ao
 have ge:vals 12=(.tuple #[.agg ((yr d de (zk d c)).cells g).toArray,.bool ((zj d (zk d c) de).isSome)]:Value):=ap 12 dc g s
 exact obl rfl (zz (vs:=[.agg ((yr d de (zk d c)).cells g).toArray,.bool ((zj d (zk d c) de).isSome)]) (i:=1) (v:=.bool ((zj d (zk d c) de).isSome)) ge rfl dR)
 obtain⟨g,A,s,I,hS426⟩:=ao
 have gf:vals 12=(.tuple #[.agg ((yr d de (zk d c)).cells g).toArray,.bool ((zj d (zk d c) de).isSome)]:Value):=ap 12 dc g s
 exact obl rfl (zz (vs:=[.agg ((yr d de (zk d c)).cells g).toArray,.bool ((zj d (zk d c) de).isSome)]) (i:=1) (v:=.bool ((zj d (zk d c) de).isSome)) gf rfl dR)
 obtain⟨g,A,s,I,hS428⟩:=ao
 have gg:vals 12=(.tuple #[.agg ((yr d de (zk d c)).cells g).toArray,.bool ((zj d (zk d c) de).isSome)]:Value):=ap 12 dc g s
 exact obl rfl (zz (vs:=[.agg ((yr d de (zk d c)).cells g).toArray,.bool ((zj d (zk d c) de).isSome)]) (i:=1) (v:=.bool ((zj d (zk d c) de).isSome)) gg rfl dR)
 intro gh vals w431 dO bV hA432
 have aI:gh∈[0,1]:=dO
 simp only[yA]at aI
 rcases aI with rfl|rfl
 have dP:Sep _ _ _ _:=bV
 refine obl rfl ((zG pR ?_))
 intro w438 A dQ
 exact fun B F D=>⟨(exiA A (zA F (dP.new dQ))),zl⟩
 obtain⟨g,s,dS⟩:=bV
 refine obl rfl ((zG pR ?_))
 intro w443 A dU
 exact fun B F D=>⟨(exiA g (exiA A (zA ((D 11 dc).trans s) (zA F (dS.new dU))))),zl⟩
 intro gi vals w446 dV dW dX
 have aJ:gi∈[3]:=dV
 simp only[yA]at aJ
 subst aJ
 obtain⟨g,A,s,I,aq⟩:=dW
 let gP:=(yr d de (zk d c)).cells g
 refine obl rfl ?_
 have gj:vals 13=(.agg gP.toArray:Value):=dX 13 dc g s
 have bW:=aq.r2
 have hr454s:_*32≤_:=bW.2
 refine(zy (v:=.agg gP.toArray) (c':=gP.toArray) qR I gj (aq.b0) (yo ⟨rfl,bW.1.one,zl⟩) yqc rfl ?_)
 intro w452 dY
 exact fun B F D=>⟨(exiA g (exiA A (zA ((D 11 dc).trans s) (zA ((D 15 dc).trans I) (aq.pt0 dY))))),zl⟩
 intro vals w462 dZ ea
 obtain⟨g,A,s,I,eb⟩:=dZ
 have gk:=ea 17 dc
 refine yg (kv:=[(3,aa),(4,vt),(5,Ix b2 0),(10,.bool false),(11,Ix H 0),(12,Iw k),(13,z),(14,Ix K 0),(16,Iw e),(97,Iw e),(98,z),(99,Iw c.length),(100,.bool true),(17,Ix A 0),(18,.bool ((zj d (zk d c) de).isSome))]) ⟨rfl,rfl,rfl,rfl,rfl,rfl,rfl,rfl,rfl,rfl,rfl,rfl,rfl,(by exact I),(by exact gk),zl⟩ (fun ρw462=>(zb (za ?_)))
 refine WD6 ((fun TT R aK aL aM=>WF [fun vals M=>Sep P O (R::aK::aL::aM::TT) M,fun vals M=> ∃(m:Value),(vals 11=(.tuple #[.agg ((yr d de (zk d c)).cells m).toArray,.bool ((zj d (zk d c) de).isSome)]:Value))∧Sep P O (aM::(RowE (α:=Cel) own 105 m (stL d de (zk d c)))::R::aK::aL::TT) M,fun vals M=> ∃(C:Nat),(vals 15=(Ix C 0:Value))∧Sep P O ((Blk C #[Iv 0,(Iz)] 48)::R::aK::aL::aM::TT) M,fun vals M=> ∃(m:Value) (C:Nat),(vals 11=(.tuple #[.agg ((yr d de (zk d c)).cells m).toArray,.bool ((zj d (zk d c) de).isSome)]:Value))∧(vals 15=(Ix C 0:Value))∧Sep P O ((Blk C #[Iv 0,(Iz)] 48)::aM::(RowE (α:=Cel) own 105 m (stL d de (zk d c)))::R::aK::aL::TT) M,fun _ _=>True,fun _ _=>True,fun _ _=>True,fun vals M=> ∃(m:Value) (C:Nat),(vals 11=(.tuple #[.agg ((yr d de (zk d c)).cells m).toArray,.bool ((zj d (zk d c) de).isSome)]:Value))∧(vals 15=(Ix C 0:Value))∧Sep P O ((Blk C ((yr d de (zk d c)).cells m).toArray 48)::aM::(RowE (α:=Cel) own 105 m (stL d de (zk d c)))::R::aK::aL::TT) M]) (gH::Rs) (Blk A ((yr d de (zk d c)).cells g).toArray 48) (BaseO H d Q c) (RowE (α:=Cel) own 105 g (stL d de (zk d c))) (BaseO K d 1000 c)) (AF [Vl 0 (Ix K 0),Vl 1 z,Vl 2 (Iw e),Vl 3 gM,Vl 4 (Ix (sb z) (so z+e*10+4)),Vl 5 (Iv ((c.getD e default).typ)),Vl 6 z,Vl 7 (Iw e),Vl 8 gM,Vl 9 (Ix (sb z) (so z+e*10+5)),Vl 10 (Iv ((c.getD e default).agg)),fun _=>True,fun vals=> ∀(m:Value),vals 11=(.tuple #[.agg ((yr d de (zk d c)).cells m).toArray,.bool ((zj d (zk d c) de).isSome)]:Value)→vals 12=(.tuple #[.agg ((yr d de (zk d c)).cells m).toArray,.bool ((zj d (zk d c) de).isSome)]:Value),fun vals=> ∀(m:Value),vals 11=(.tuple #[.agg ((yr d de (zk d c)).cells m).toArray,.bool ((zj d (zk d c) de).isSome)]:Value)→vals 13=(.agg ((yr d de (zk d c)).cells m).toArray:Value),Vl 14 (.bool ((zj d (zk d c) de).isSome)),fun _=>True,fun _=>True,Vl 17 (.bool ((zj d (zk d c) de).isSome))]) [[],[],[],[1,2],[1,2,3],[1,2,3,4],[],[],[6,7],[6,7,8],[6,7,8,9],(rg 11),(rg 12),(rg 13),(rg 13),[],[0,1,2,3,4,5,6,7,8,9,10,11,12,13,15],(rg 17)] [11,15,16] [[0,2],[0,2],[0,2],[0,2],[0,2],[0,2],[0,2],[0,2],[0,2],[0,2],[0,2],[0,2],[1,3],[1,3],[1,3,7],[0,1],[3],[7]] eb ⟨fun _ _ _ _ _ _=>obl rfl (mV (Ix K 0) dR),fun _ _ _ _ _ _=>obl rfl (mV z dR),fun _ _ _ _ _ _=>obl rfl (mV (Iw e) dR),?_,fun _ _ _ _ _ ec=>obl rfl (xm (ec 3 dc) dR),?_,fun _ _ _ _ _ _=>obl rfl (mV z dR),fun _ _ _ _ _ _=>obl rfl (mV (Iw e) dR),?_,fun _ _ _ _ _ ed=>obl rfl (Zc (ed 8 dc) dR),?_,?_,?_,?_,?_,?_,?_,fun _ _ _ _ _ ee=>obl rfl (zM (v:=.bool ((zj d (zk d c) de).isSome)) (ee 14 dc) dR),zl⟩ ?_ (hlocA:=xi ⟨dA,dA,dA,dA,dA,dA,dA,dA,dA,dA,dA,dT,fun vals B F h=>fun m E=>(F 12 (.inl rfl)).trans (h m ((F 11 (.inr dc)).symm.trans E)),fun vals B F h=>fun m E=>(F 13 (.inl rfl)).trans (h m ((F 11 (.inr dc)).symm.trans E)),dA,dT,dT,dA,zl⟩)
 intro gl vals w632 ef bX ae
 have aN:gl∈[0,2]:=ef
 simp only[yA]at aN
 rcases aN with rfl|rfl
 have hS636:Sep _ _ _ _:=bX
 refine obl rfl ?_
 have eg:e<c.length:=bo
 exact zf (k:=10) (i:=e) kT lT (ae 1 dc) p.sl (ae 2 dc) eg dR
 obtain⟨C,J,hS640⟩:=bX
 refine obl rfl ?_
 have eh:e<c.length:=bo
 exact zf (k:=10) (i:=e) kT lT (ae 1 dc) p.sl (ae 2 dc) eh dR
 intro gm vals w651 ei bY bZ
 have aO:gm∈[0,2]:=ei
 simp only[yA]at aO
 rcases aO with rfl|rfl
 have ej:Sep _ _ _ _:=bY
 refine obl rfl ?_
 have ca:e<c.length:=bo
 obtain⟨cQ,bl,hoke657⟩:=p.evD ca
 have hsm659:((c.getD e default).deps).length*8≤140737488355328:=bl.small
 have cR:=ej.cells cQ (p.foot (ne_of_lt ca))
 exact lD (Iv ((c.getD e default).typ)) nT (bZ 4 dc) (cR.get (j:=4) rfl) dR
 obtain⟨C,J,ek⟩:=bY
 refine obl rfl ?_
 have cb:e<c.length:=bo
 obtain⟨cS,bm,hoke663⟩:=p.evD cb
 have hsm665:((c.getD e default).deps).length*8≤140737488355328:=bm.small
 have cT:=ek.cells cS (p.foot (ne_of_lt cb))
 exact lD (Iv ((c.getD e default).typ)) nT (bZ 4 dc) (cT.get (j:=4) rfl) dR
 intro gn vals w678 el cc af
 have aP:gn∈[0,2]:=el
 simp only[yA]at aP
 rcases aP with rfl|rfl
 have hS682:Sep _ _ _ _:=cc
 refine obl rfl ?_
 have em:e<c.length:=bo
 exact zf (k:=10) (i:=e) kT lT (af 6 dc) p.sl (af 7 dc) em dR
 obtain⟨C,J,hS686⟩:=cc
 refine obl rfl ?_
 have en:e<c.length:=bo
 exact zf (k:=10) (i:=e) kT lT (af 6 dc) p.sl (af 7 dc) en dR
 intro go vals w697 eo cd ce
 have aQ:go∈[0,2]:=eo
 simp only[yA]at aQ
 rcases aQ with rfl|rfl
 have er:Sep _ _ _ _:=cd
 refine obl rfl ?_
 have cf:e<c.length:=bo
 obtain⟨cU,bn,hoke703⟩:=p.evD cf
 have hsm705:((c.getD e default).deps).length*8≤140737488355328:=bn.small
 have cV:=er.cells cU (p.foot (ne_of_lt cf))
 exact lD (Iv ((c.getD e default).agg)) nT (ce 9 dc) (cV.get (j:=5) rfl) dR
 obtain⟨C,J,es⟩:=cd
 refine obl rfl ?_
 have cg:e<c.length:=bo
 obtain⟨cW,bp,hoke709⟩:=p.evD cg
 have hsm711:((c.getD e default).deps).length*8≤140737488355328:=bp.small
 have cX:=es.cells cW (p.foot (ne_of_lt cg))
 exact lD (Iv ((c.getD e default).agg)) nT (ce 9 dc) (cX.get (j:=5) rfl) dR
 intro gp vals w714 et ch T
 have aR:gp∈[0,2]:=et
 simp only[yA]at aR
 rcases aR with rfl|rfl
 have ci:Sep _ _ _ _:=ch
 refine obl rfl ?_
 have cj:e<c.length:=bo
 obtain⟨cY,bq,ak⟩:=p.evD cj
 have hsm724:((c.getD e default).deps).length*8≤140737488355328:=bq.small
 have hcw725:=ci.cells cY (p.foot (ne_of_lt cj))
 refine(zW (f:=20) (vals:=[Ix K 0,Iv ((c.getD e default).typ),Iv ((c.getD e default).agg)]) (cap:=[]) rfl (yM ⟨(T 0 dc),(T 5 dc),(T 10 dc),zl⟩) oR (Ya (ty:=(c.getD e default).typ) (no:=(c.getD e default).agg) ak.typ ak.agg (ci.mv3)) ?_)
 rintro _ w728 ⟨m,rfl,ck⟩
 have eu:=ck.r1
 have hr730s:_*32≤_:=eu.2
 exact fun B F D=>⟨(exiA m (zA F ck)),zl⟩
 obtain⟨C,J,cl⟩:=ch
 refine obl rfl ?_
 have cm:e<c.length:=bo
 obtain⟨cZ,br,al⟩:=p.evD cm
 have hsm737:((c.getD e default).deps).length*8≤140737488355328:=br.small
 have hcw738:=cl.cells cZ (p.foot (ne_of_lt cm))
 refine(zW (f:=20) (vals:=[Ix K 0,Iv ((c.getD e default).typ),Iv ((c.getD e default).agg)]) (cap:=[]) rfl (yM ⟨(T 0 dc),(T 5 dc),(T 10 dc),zl⟩) oR (Ya (ty:=(c.getD e default).typ) (no:=(c.getD e default).agg) al.typ al.agg (cl.mv4)) ?_)
 rintro _ w741 ⟨m,rfl,cn⟩
 have ew:=cn.r1
 have hr743s:_*32≤_:=ew.2
 exact fun B F D=>⟨(exiA m (exiA C (zA F (zA ((D 15 dc).trans J) (cn.mv2))))),zl⟩
 intro gq vals w746 ex co hA747
 have aT:gq∈[1,3]:=ex
 simp only[yA]at aT
 rcases aT with rfl|rfl
 obtain⟨m,u,hS750⟩:=co
 refine obl rfl (zP (v:=.tuple #[.agg ((yr d de (zk d c)).cells m).toArray,.bool ((zj d (zk d c) de).isSome)]) u (fun B F D=>⟨rfl,?_⟩))
 intro ar E
 rw[D 11 (by decide)]at E;cases u.symm.trans E
 exact F
 obtain⟨m,C,u,J,hS751⟩:=co
 refine obl rfl (zP (v:=.tuple #[.agg ((yr d de (zk d c)).cells m).toArray,.bool ((zj d (zk d c) de).isSome)]) u (fun B F D=>⟨rfl,?_⟩))
 intro ar E
 rw[D 11 (by decide)]at E;cases u.symm.trans E
 exact F
 intro gr vals w753 ey cp cq
 have aU:gr∈[1,3]:=ey
 simp only[yA]at aU
 rcases aU with rfl|rfl
 obtain⟨m,u,hS757⟩:=cp
 let gQ:=(yr d de (zk d c)).cells m
 have gs:vals 12=(.tuple #[.agg gQ.toArray,.bool ((zj d (zk d c) de).isSome)]:Value):=cq 12 dc m u
 refine obl rfl (zz (vs:=[.agg gQ.toArray,.bool ((zj d (zk d c) de).isSome)]) (i:=0) (v:=.agg gQ.toArray) gs rfl (fun B F D=>⟨rfl,?_⟩))
 intro ar E
 rw[D 11 (by decide)]at E;cases u.symm.trans E
 exact F
 obtain⟨m,C,u,J,hS759⟩:=cp
 let gR:=(yr d de (zk d c)).cells m
 have gt:vals 12=(.tuple #[.agg gR.toArray,.bool ((zj d (zk d c) de).isSome)]:Value):=cq 12 dc m u
 refine obl rfl (zz (vs:=[.agg gR.toArray,.bool ((zj d (zk d c) de).isSome)]) (i:=0) (v:=.agg gR.toArray) gt rfl (fun B F D=>⟨rfl,?_⟩))
 intro ar E
 rw[D 11 (by decide)]at E;cases u.symm.trans E
 exact F
 intro gu vals w762 ez au av
 have aV:gu∈[1,3,7]:=ez
 simp only[yA]at aV
 rcases aV with rfl|rfl|rfl
 obtain⟨m,u,hS766⟩:=au
 have gv:vals 12=(.tuple #[.agg ((yr d de (zk d c)).cells m).toArray,.bool ((zj d (zk d c) de).isSome)]:Value):=av 12 dc m u
 exact obl rfl (zz (vs:=[.agg ((yr d de (zk d c)).cells m).toArray,.bool ((zj d (zk d c) de).isSome)]) (i:=1) (v:=.bool ((zj d (zk d c) de).isSome)) gv rfl dR)
 obtain⟨m,C,u,J,hS768⟩:=au
 have gw:vals 12=(.tuple #[.agg ((yr d de (zk d c)).cells m).toArray,.bool ((zj d (zk d c) de).isSome)]:Value):=av 12 dc m u
 exact obl rfl (zz (vs:=[.agg ((yr d de (zk d c)).cells m).toArray,.bool ((zj d (zk d c) de).isSome)]) (i:=1) (v:=.bool ((zj d (zk d c) de).isSome)) gw rfl dR)
 obtain⟨m,C,u,J,hS770⟩:=au
 have gx:vals 12=(.tuple #[.agg ((yr d de (zk d c)).cells m).toArray,.bool ((zj d (zk d c) de).isSome)]:Value):=av 12 dc m u
 exact obl rfl (zz (vs:=[.agg ((yr d de (zk d c)).cells m).toArray,.bool ((zj d (zk d c) de).isSome)]) (i:=1) (v:=.bool ((zj d (zk d c) de).isSome)) gx rfl dR)
 intro gy vals w773 eA cr hA774
 have aW:gy∈[0,1]:=eA
 simp only[yA]at aW
 rcases aW with rfl|rfl
 have eB:Sep _ _ _ _:=cr
 refine obl rfl ((zG pR ?_))
 intro w780 C eC
 exact fun B F D=>⟨(exiA C (zA F (eB.new eC))),zl⟩
 obtain⟨m,u,eD⟩:=cr
 refine obl rfl ((zG pR ?_))
 intro w785 C eE
 exact fun B F D=>⟨(exiA m (exiA C (zA ((D 11 dc).trans u) (zA F (eD.new eE))))),zl⟩
 intro gz vals w788 eF eG eH
 have aX:gz∈[3]:=eF
 simp only[yA]at aX
 subst aX
 obtain⟨m,C,u,J,aw⟩:=eG
 let gS:=(yr d de (zk d c)).cells m
 refine obl rfl ?_
 have gA:vals 13=(.agg gS.toArray:Value):=eH 13 dc m u
 have cs:=aw.r2
 have hr796s:_*32≤_:=cs.2
 refine(zy (v:=.agg gS.toArray) (c':=gS.toArray) qR J gA (aw.b0) (yo ⟨rfl,cs.1.one,zl⟩) yqc rfl ?_)
 intro w794 eI
 exact fun B F D=>⟨(exiA m (exiA C (zA ((D 11 dc).trans u) (zA ((D 15 dc).trans J) (aw.pt0 eI))))),zl⟩
 intro vals w804 eJ eK
 obtain⟨m,C,u,J,ax⟩:=eJ
 have gB:=eK 17 dc
 refine yg (kv:=[(3,aa),(4,vt),(5,Ix b2 0),(10,.bool false),(11,Ix H 0),(12,Iw k),(13,z),(14,Ix K 0),(16,Iw e),(97,Iw e),(98,z),(99,Iw c.length),(100,.bool true),(17,Ix A 0),(18,.bool ((zj d (zk d c) de).isSome)),(19,Ix C 0),(20,.bool ((zj d (zk d c) de).isSome))]) ⟨rfl,rfl,rfl,rfl,rfl,rfl,rfl,rfl,rfl,rfl,rfl,rfl,rfl,rfl,rfl,(by exact J),(by exact gB),zl⟩ (fun ρw804=>(zb (za (zF kr (st (mV (.bool ((zj d (zk d c) de).isSome)) (st (mV (.bool ((zj d (zk d c) de).isSome)) ?_))))))))
 refine st (UD (a:=(zj d (zk d c) de).isSome) (b:=(zj d (zk d c) de).isSome) Tryz.underlying4 rfl rfl ?_)
 have da:(!(((zj d (zk d c) de).isSome)== ((zj d (zk d c) de).isSome)))=false:=(by simp)
 rw[da]
 refine st (mV (.bool false) (sty rfl rfl (zh (k:=2) pY qR rfl rfl (zo (ax.b3)) (sty rfl rfl (zh (k:=2) pY qR rfl rfl (zo (ax.b0)) ?_)))))
 obtain⟨G811,eL,hB814,eM,eN⟩:=(ax.mv5).lend
 have aY:=RowE.rd eL
 have hrd817s:_*32≤_:=aY.small
 obtain⟨G819,eO,eP,eQ,eR⟩:=(eM.mv2).lend
 have aZ:=RowE.rd eO
 have hrd825s:_*32≤_:=aZ.small
 refine sty rfl rfl (cL Tryz.call22 (Wp (x:=(yr d (((c.getD e default).typ),((c.getD e default).agg)) (zk d c))) (y:=(yr d (((c.getD e default).typ),((c.getD e default).agg)) (zk d c))) (zv aY eP) (Ur (by rw[xc];omega)) aZ (Ur (by rw[xc];omega)) eQ) ?_)
 rintro _ gC ⟨rfl,eS⟩
 have eT:=eR _ _ eS
 have eU:=eN _ _ eT
 refine sty rfl rfl (yD (a:=decide ((yr d de (zk d c))=(yr d de (zk d c)))) rfl ?_)
 have db:(!(decide ((yr d de (zk d c))=(yr d de (zk d c)))))=false:=(by simp)
 rw[db]
 refine st (yt (v:=.bool false) rfl rfl (zb (ze rfl (zp (R0 fun _=>st (mV (Iw e) ?_))))))
 have eV:InR ((e+1:Nat):Int):=bo
 refine st (zO (r:=((e+1:Nat):Int)) (k:=.i64) (a:=((e:Nat):Int)) (b:=1) rfl rfl (by rw[show(((e:Nat):Int)+1:Int)=((e+1:Nat):Int)from bo];exact zw eV) (st (aS (Iw (e+1)) (zb ?_))))
 have eW:Sep P O ((BaseO H d Q c)::(BaseO K d 1000 c)::gH::Rs) gC:=eU.sel 7 [5,3,6] (xq _ _) rfl rfl
 exact⟨_,by omega,e+1,_,rfl,sSf,by omega,eW⟩
 have Y:=tD Y
 refine zg rfl (zp (za (zt (za (R0 fun _=>st (mV (Ix H 0) (st (mV (Iw N) (st (cL lR (XQ (q:=((N:Nat):Int)) om am om) ?_))))))))))
 rintro gD w834 ⟨_,rfl,ct⟩
 have eX:=ct.r1
 have hr836s:_*24≤_:=eX.2
 refine st (mV (Ix K 0) (st (mV (Iw N) (st (cL lR (XQ (q:=((N:Nat):Int)) om (ct.mv2) om) ?_)))))
 rintro gE w839 ⟨_,rfl,cu⟩
 have eY:=cu.r1
 have hr841s:_*24≤_:=eY.2
 obtain⟨G843,eZ,hB846,fa,fb⟩:=(cu.mv3).lend
 have ba:=RowE.rd eZ
 have hrd849s:_*24≤_:=ba.small
 obtain⟨G851,fc,fd,fe,ff⟩:=(fa.mv1).lend
 have bb:=RowE.rd fc
 have hrd857s:_*24≤_:=bb.small
 refine st (cL vR (Xy (a:=(yR d c ((N:Nat):Int))) (va:=gD) (b:=(yR d c ((N:Nat):Int))) (vb:=gE) (zv ba fd) bb fe) ?_)
 rintro _ gF ⟨rfl,fg⟩
 have fh:=ff _ _ fg
 have fi:=fb _ _ fh
 refine st (yD (a:=decide ((yR d c ((N:Nat):Int))=(yR d c ((N:Nat):Int)))) rfl ?_)
 have dd:(!(decide ((yR d c ((N:Nat):Int))=(yR d c ((N:Nat):Int)))))=false:=(by simp)
 rw[dd]
 refine zb (ze rfl (zp (R0 fun _=>st (mV (Iw N) ?_))))
 have fj:InR ((N+1:Nat):Int):=bo
 refine st (zO (r:=((N+1:Nat):Int)) (k:=.i64) (a:=((N:Nat):Int)) (b:=1) rfl rfl (by rw[show(((N:Nat):Int)+1:Int)=((N+1:Nat):Int)from bo];exact zw fj) (st (aS (Iw (N+1)) (zb ?_))))
 have fk:Sep P O ((BaseO H d Q c)::(BaseO K d 1000 c)::gH::Rs) gF:=fi.sel 5 [3,2,4] (xq _ _) rfl rfl
 exact⟨_,by omega,N+1,_,rfl,sSf,by omega,fk⟩
 try simp only[zi]at bs
 refine zg rfl (za (R0 fun _=>st (cL uT (xQ hKN fn) ?_)))
 rintro _ w865 ⟨rfl,fl⟩
 refine st (aS (.bool true) (zb (zq (zU nY (show _=(.bool true:Value)from rfl) ?_))))
 refine⟨rfl,(fl.s1_)⟩
end
section
open Go.RowKit
structure TypS where
 v:Value
 deriving Inhabited
structure TypS.Ok (e:TypS):Prop where
 one:e.v.oneCell'=true
def TypS.cells (e:TypS):List Value:=[e.v]
instance:Rep TypS where
 k:=1
 rd _ _ cs x:=cs=x.cells∧x.Ok
 bytes:=24
 bpos:=by decide
 kpos:=by decide
 len h:=by rw[h.1];rfl
 one h:=by rw[h.1];exact yo ⟨h.2.one,trivial⟩
 mono h _:=h
instance:Flat TypS:=⟨fun h=>h⟩
def FldRows (Ti:TypeId):List TypS→List Typ→List HP
 |s::sh,c::l=>RowE (α:=Fld) own Ti s.v c.fields::FldRows Ti sh l
 |_,_=>[]
theorem FldRows.get {Ti:TypeId}: ∀{sh:List TypS} {l:List Typ} {i:Nat},i<sh.length→i<l.length→(FldRows Ti sh l)[i]? =some (RowE (α:=Fld) own Ti (sh.getD i default).v (l.getD i default).fields)
 |_::_,_::_,0,_,_=>rfl
 |_::_,_::_,i+1,h1,h2=>by
  have:=FldRows.get (Ti:=Ti) (i:=i) (by simpa using h1) (by simpa using h2)
  simpa[FldRows]using this
 |[],_,i,h,_=>absurd h (Nat.not_lt_zero i)
 |_::_,[],i,_,h=>absurd h (Nat.not_lt_zero i)
theorem FldRows.set {Ti:TypeId}: ∀{sh:List TypS} {l:List Typ} (i:Nat) (c:Typ),FldRows Ti sh (l.set i c)=if i<sh.length∧i<l.length then(FldRows Ti sh l).set i (RowE (α:=Fld) own Ti (sh.getD i default).v c.fields)else FldRows Ti sh l
 |[],[],_,_=>by simp[FldRows]
 |_::_,_::_,0,_=>by simp[FldRows]
 |_::sh,_::l,i+1,c=>by
  simp only[List.set_cons_succ,FldRows]
  rw[FldRows.set i c]
  by_cases h:i<sh.length∧i<l.length
  ·rw[if_pos h,if_pos (by simpa using h)];simp
  ·rw[if_neg h,if_neg (by simpa using h)]
 |[],_::_,i,_=>by cases i<;>simp[FldRows]
 |_::_,[],_,_=>by simp[FldRows]
theorem FldRows.snoc {Ti:TypeId}: ∀{sh:List TypS} {l:List Typ} (s:TypS) (c:Typ),sh.length=l.length→FldRows Ti (sh++[s]) (l++[c])=FldRows Ti sh l++[RowE (α:=Fld) own Ti s.v c.fields]
 |[],[],_,_,_=>rfl
 |_::sh,_::l,s,c,h=>by simp only[List.cons_append,FldRows];rw[FldRows.snoc s c (by simpa using h)]
 |[],_::_,_,_,h=>by simp at h
 |_::_,[],_,_,h=>by simp at h
section
variable {G:Nat→Prop}{W w:World}{As:List HP}{T Ti:TypeId}{v:Value}{sh:List TypS}{l:List Typ}
def TypW (v:Value)(T Ti:TypeId)(l:List Typ):HP:=Ex1 fun sh:List TypS=>WC (sh.length=l.length) (Star [RowE (α:=TypS) own T v sh,Star (FldRows Ti sh l)])
theorem TypW.open (h:Sep G W (TypW v T Ti l::As) w): ∃sh:List TypS,sh.length=l.length∧Sep G W (RowE (α:=TypS) own T v sh::Star (FldRows Ti sh l)::As) w:=by
 obtain⟨sh,h1⟩:=h.openEx
 obtain⟨h2,h3⟩:=h1.openAnd
 exact⟨sh,h2,h3.openStar⟩
theorem TypW.mk (h:Sep G W (RowE (α:=TypS) own T v sh::Star (FldRows Ti sh l)::As) w)(hn:sh.length=l.length):Sep G W (TypW v T Ti l::As) w:=
 Sep.closeEx (A:=fun sh:List TypS=>WC (sh.length=l.length) (Star [RowE (α:=TypS) own T v sh,Star (FldRows Ti sh l)])) sh (Sep.closeAnd hn (Sep.closeStar (Bs:=[RowE (α:=TypS) own T v sh,Star (FldRows Ti sh l)]) h))
theorem TypW.rowP {f:Nat→Prop}(h:(TypW v T Ti l).p w f):(RowE (α:=Typ) own T v l).p w f:=by
 obtain⟨sh,hlen,hA⟩:=h
 obtain⟨fs,q1,q2⟩:=hA
 obtain⟨⟨css,hE,hown,hrow,hsm⟩,hf0⟩:=q1 0 _ rfl
 obtain⟨hSt,hf1⟩:=q1 1 _ rfl
 have q2':=q2 0 1 (by simp) (by simp) (by simp)
 have hcl:=hE.length
 refine⟨css,EP.of_at (by omega) (fun i h1 h2=>?_),by rw[←hlen];exact hown,fun b hb=>(hf0 b (hrow b hb)).1,by rw[←hlen];exact hsm⟩
 have hs:i<sh.length:=by omega
 have hcs:css[i]=sh[i].cells:=(EP.at2 hE i h1 hs).1
 have hr:(RowE (α:=Fld) own Ti (sh.getD i default).v (l.getD i default).fields).p w (fs 1):=Star.at_ hSt (FldRows.get hs h2)
 have hsoft:=RowE.soft hr
 rw[zJ _ hs,zJ _ h2]at hsoft
 refine⟨sh[i].v,?_,hsoft.mono (fun b hb hlt=>⟨rfl,⟨(hf1 b hb.1).1,fun e=>q2' b (hrow b e) hb.1⟩,hb.2⟩),⟨⟩⟩
 rw[hcs];rfl
theorem TypW.row (h:Sep G W (TypW v T Ti l::As) w):Sep G W (RowE (α:=Typ) own T v l::As) w:=h.impl (i:=0) rfl (fun _=>TypW.rowP)
theorem Sep.typSl (h:Sep G W As w){i:Nat}(hi:As[i]? =some (TypW v T Ti l)):IsSl v l.length:=by
 obtain⟨f,h1,_⟩:=h.get hi
 exact RowE.isSl (TypW.rowP h1)
theorem TypW.snoc {vf:Value}{c:Typ}(hlen:sh.length=l.length)(h:Sep G W (RowE (α:=TypS) own T v (sh++[⟨vf⟩])::Star (FldRows Ti sh l)::RowE (α:=Fld) own Ti vf c.fields::As) w):Sep G W (TypW v T Ti (l++[c])::As) w:=by
 have h1:Sep G W (RowE (α:=Fld) own Ti vf c.fields::Star (FldRows Ti sh l)::RowE (α:=TypS) own T v (sh++[⟨vf⟩])::As) w:=h.sel 3 [2,1,0] (Nat.le_add_left _ _) rfl rfl
 have h2:=h1.snocStar
 rw[←FldRows.snoc ⟨vf⟩ c hlen]at h2
 exact TypW.mk (h2.sel 2 [1,0] (Nat.le_add_left _ _) rfl rfl) (by rw[List.length_append,List.length_append,hlen];rfl)
theorem TypW.nil (h:Sep G W As w):Sep G W (TypW (.slice none 0 0) T Ti []::As) w:=TypW.mk (sh:=[]) (h.nilStar.rowNil own T) rfl
end
end
end Go.Proofs.YtpdolkiohjdodaaGreatDoor
