import Derived.Test.YtbcdijeggfoabaaGreatDoorZ12
set_option maxRecDepth 8000
set_option maxHeartbeats 4000000
set_option linter.unusedSimpArgs false
set_option linter.unusedVariables false
set_option linter.unusedSectionVars false
set_option linter.deprecated false
open Go.Proofs.Tryz renaming sizeOf44→kT,isAgg3→lT,sizeOf25→mT,isAgg25→nT,sizeOf49→oT,isAgg44→pT,zeroValue44→qT,isAgg49→rT,call6→sT,underlying26→tT,call11→uT,sizeOf3→vT,zeroValue49→wT,call13→kR,call7→lR,sizeOf77→mR,results24→nR,sizeOf74→oR,results22→pR,call9→qR,underlying32→rR,underlying33→sR,call36→tR,zeroValue77→uR,underlying4→vR,call5→wR,call8→kY,isAgg22→lY,underlying22→mY,isAgg74→nY,isAgg41→oY,sizeOf41→pY
namespace Go.Proofs.YtbcdijeggfoabaaGreatDoor
variable {G:Nat→Prop}{W w:World}{Rs:List HP}
section
open Go.Proofs Go.RowKit
section
variable {d:Dcl}{n:Nat}{L:List Ev}{V:List Ent}{o start:Int}{c f r:Cmd}
def VB (a b:Cmd):Prop:=a.ctyp=b.ctyp∧a.cagg=b.cagg∧a.cfield=b.cfield∧a.cop=b.cop∧a.carg=b.carg∧a.ckey=b.ckey
theorem Uv (h:VB f c)(h1: -1≤f.expect)(h2: -1≤c.expect):xc d f=xc d c:=by
 obtain⟨e1,e2,e3,e4,e5,e6⟩:=h
 unfold xc
 rw[e1,e2,e3,e4,e5,e6,decide_eq_false (show ¬f.expect< -1 by omega),decide_eq_false (show ¬c.expect< -1 by omega)]
theorem zbz {v:List Int}{lam:Int}(h:VB f c):evE f o v lam=evE c o v lam:=by
 obtain⟨e1,e2,e3,e4,e5,e6⟩:=h
 unfold evE evY
 rw[e1,e2,e3,e4,e5,e6]
theorem QB (h:VB f c)(h1: -1≤f.expect)(h2: -1≤c.expect)(hx:xy f ((yn (c.ctyp,c.cagg) V:Nat):Int)=xy c ((yn (c.ctyp,c.cagg) V:Nat):Int)):exR d n L V o start f=exR d n L V o start c:=by
 have hc:=Uv (d:=d) h h1 h2
 have he: ∀v lam,evE f o v lam=evE c o v lam:=fun v lam=>zbz h
 obtain⟨e1,e2,e3,e4,e5,e6⟩:=h
 by_cases h3:xc d c=0
 ·cases hk:(yP L c.ckey).isSome with
  |true=>rw[YO h3 hk,YO (by rw[hc];exact h3) (by rw[e6];exact hk),e6]
  |false=>rw[QI h3 hk,QI (by rw[hc];exact h3) (by rw[e6];exact hk),e1,e2,e3,e4,e5,hx,he]
 ·rw[Xr h3,Xr (by rw[hc];exact h3),hc]
theorem XZ (h:f.expect= -1)(v:Int):xy f v=0:=by unfold xy;rw[if_pos (by simp[h])]
theorem Jz {v:Int}(h:f.expect=v):xy f v=0:=by unfold xy;rw[if_pos (by simp[h])]
theorem zaG {v:Int}(h:f.expect≠ -1)(h1:f.expect≠v):xy f v=11:=by unfold xy;rw[if_neg (by simp[h,h1])]
theorem zdl (hf:VB f c)(hr:VB r c)(ef:f.expect= -1)(er:r.expect=((yn (c.ctyp,c.cagg) V:Nat):Int))(hc:0≤c.expect)(ho:0≤o∧o<n)(ht:0≤zP L)(hL:L.length≤1000):
 exR d n L V o 0 r=exR d n L V o 0 f∧(c.expect=((yn (c.ctyp,c.cagg) V:Nat):Int)→exR d n L V o 0 c=exR d n L V o 0 f)∧
 (c.expect≠((yn (c.ctyp,c.cagg) V:Nat):Int)→(((exR d n L V o 0 f).2.2=0∧(exR d n L V o 0 f).2.1=true)∨(exR d n L V o 0 f).2.2=10∨(exR d n L V o 0 f).2.2=13→(exR d n L V o 0 c).2.2=11∧(exR d n L V o 0 c).2.1=false)∧
  (¬(((exR d n L V o 0 f).2.2=0∧(exR d n L V o 0 f).2.1=true)∨(exR d n L V o 0 f).2.2=10∨(exR d n L V o 0 f).2.2=13)→exR d n L V o 0 c=exR d n L V o 0 f)):=by
 have hrf:VB r f:=by obtain⟨a1,a2,a3,a4,a5,a6⟩:=hf;obtain⟨b1,b2,b3,b4,b5,b6⟩:=hr;exact⟨b1.trans a1.symm,b2.trans a2.symm,b3.trans a3.symm,b4.trans a4.symm,b5.trans a5.symm,b6.trans a6.symm⟩
 have hcf:VB c f:=by obtain⟨a1,a2,a3,a4,a5,a6⟩:=hf;exact⟨a1.symm,a2.symm,a3.symm,a4.symm,a5.symm,a6.symm⟩
 have ev:(yn (f.ctyp,f.cagg) V)=yn (c.ctyp,c.cagg) V:=by rw[hf.1,hf.2.1]
 refine⟨QB hrf (by omega) (by omega) (by rw[ev,Jz er,XZ ef]),fun h=>QB hcf (by omega) (by omega) (by rw[ev,Jz h,XZ ef]),fun h=>?_⟩
 have hch:=Uv (d:=d) hf (by omega) (by omega)
 have hxf:=XZ ef ((yn (f.ctyp,f.cagg) V:Nat):Int)
 by_cases h3:xc d c=0
 ·have h3f:xc d f=0:=hch.trans h3
  cases hk:(yP L c.ckey).isSome with
  |true=>
   have hkf:(yP L f.ckey).isSome=true:=by rw[hf.2.2.2.2.2];exact hk
   rw[YO h3f hkf,YO h3 hk,hf.2.2.2.2.2]
   exact⟨fun h9=>by rcases h9 with h9|h9|h9<;>simp at h9,fun _=>rfl⟩
  |false=>
   have hkf:(yP L f.ckey).isSome=false:=by rw[hf.2.2.2.2.2];exact hk
   have hoff:=zaG (f:=c) (v:=((yn (c.ctyp,c.cagg) V:Nat):Int)) (by omega) h
   have hC:=Vm (d:=d) (n:=n) (o:=o) (start:=0) h3 hk (by rw[hoff];decide)
   rw[hoff]at hC
   refine⟨fun _=>by rw[hC];exact⟨rfl,rfl⟩,fun h9=>absurd ?_ h9⟩
   by_cases hm:yN (xR d f.ctyp) (zM d (f.ctyp,f.cagg) V) f.cfield f.cop f.carg=0
   ·rw[VF h3f hkf hxf hm]
    have e0:=Ws (n:=n) (L:=L) (lam:=max (zP L) 0) ho (by omega) hL
    have hv:evN o (zw n L) (max (zP L) 0)=0∨evN o (zw n L) (max (zP L) 0)=13:=by rw[e0];split<;>simp
    rcases hv with hv|hv
    ·exact .inl ⟨hv,decide_eq_true hv⟩
    ·exact .inr (.inr hv)
   ·rw[Vb h3f hkf hxf hm]
    have:=mayL_two (t:=xR d f.ctyp) (cs:=zM d (f.ctyp,f.cagg) V) (f:=f.cfield) (op:=f.cop) (arg:=f.carg)
    exact .inr (.inl (by show yN _ _ _ _ _=10;omega))
 ·have h3f: ¬xc d f=0:=by rw[hch];exact h3
  rw[Xr h3f,Xr h3,hch]
  have:=Jt (d:=d) (c:=c)
  exact⟨fun h9=>by rcases h9 with h9|h9|h9;exact absurd h9.1 h3;exact absurd h9 this.1;exact absurd h9 this.2.1,fun _=>rfl⟩
end
set_option maxHeartbeats 8000000 in
theorem WJ {d:Dcl}{dd0:Value}(hdd0:RdS W G dd0 d.types){dd1:Value}(hdd1:RdS W G dd1 d.projs)(od:d.Ok){n:Int}(hn:InR n){vl:Value}{l:List Ev}(hl:RdS W G vl l){o:Int}(ho:InR o){c:Cmd}(oc:c.Ok)(hKN:RdS W G (.slice (some ⟨0,0,none⟩) 6 6) kindsL)(hS0:Sep G W Rs w):Ret Tryz.prog 24 [.agg (d.cells dd0 dd1).toArray,.int .i64 (n),vl,.int .i64 (o),.agg (c.cells).toArray] w (fun r w'=>r=(.bool true:Value)∧Sep G W Rs w'):=by
 have hdd0s:_*24≤_:=hdd0.small
 have hdd1s:_*40≤_:=hdd1.small
 have hls:_*96≤_:=hl.small
 have hKNs:_*8≤_:=hKN.small
 refine zm (args:=[.agg (d.cells dd0 dd1).toArray,Iv n,vl,Iv o,.agg (c.cells).toArray]) Tryz.func24 rfl rfl ?_
 refine za (R0 fun _=>st (zT (v:=.agg (d.cells dd0 dd1).toArray) rfl ?_))
 intro w3 b2 dL
 refine st (zT (v:=.agg (c.cells).toArray) rfl ?_)
 intro w7 b6 dM
 have db:=(hS0.new dL).new dM
 refine st (aS (.bool false) (zb (za (za (zy kr (st (ze (k:=2) nT mT rfl rfl (zi (db.b1)) (st (cL wR (Ww (d:=d) hdd0 hdd1 od db) ?_)))))))))
 rintro _ w11 ⟨b9,rfl,de,aq⟩
 refine st (yw (a:=b9) rfl (st (mV (.bool (!b9)) (stc (V:=Ix b6 5) rfl rfl (fun df=>?_) ?_))))
 have dg:=df
 try simp only[zh]at dg
 exact Zk rfl rflB
 refine stc (V:=Iv (c.expect)) rfl rfl (fun aR=>?_) ?_
 have dh:=aR
 try simp only[zh]at dh
 exact lD (Iv (c.expect)) lT (ifpC aR) (zd (aq.b0) rfl) rflB
 refine stc (V:=.bool (decide (c.expect<0))) rfl rfl (fun aT=>?_) ?_
 have di:=aT
 try simp only[zh]at di
 exact zI (k:=.i64) (a:=c.expect) (b:=0) (ifpC aT) rfl rflB
 refine st (zz (b:= !b9) (b':=decide (c.expect<0)) rfl (fun hbp=>(ifpC hbp)) (zb ?_))
 cases ar:(!b9)||(decide (c.expect<0))
 have bs:=ar
 try simp only[zh]at ar
 have aU:=bs
 rw[Bool.or_eq_false_iff]at aU
 have U:=de (by simpa using aU.1)
 have dj:0≤c.expect:=by have N:=fD aU.2;omega
 refine zf rfl (zp (za (R0 fun _=>st (mV (Iv n) ?_))))
 refine st (cL lR (YM (x:=n) (n:=64) hn yqe aq) ?_)
 rintro _ w22 ⟨j,rfl,hq21,dk⟩
 have dl:InR ((1+j:Nat):Int):=bo
 refine st (zU (r:=((1+j:Nat):Int)) (k:=.i64) (a:=1) (b:=((j:Nat):Int)) rfl rfl (by rw[show(1+((j:Nat):Int):Int)=((1+j:Nat):Int)from bo];exact zJ dl) (st (aS (Iw (1+j)) (zb (za (yy (by kernel_rfl) (fun _=>(st (mV (Iv o) (st (mV (Iw (1+j)) ?_)))))))))))
 refine st (cL lR (YM (x:=o) (n:=1+j) ho yqe dk) ?_)
 rintro _ w27 ⟨m,rfl,hq26,dm⟩
 refine st (aS (Iw m) (zb (za ?_)))
 refine WD4 ((fun TT aV=>WF [fun vals wq=>Sep G W (aV::TT) wq,fun vals wq=> ∃(y:Value) (s:List Ev),(vals 4=(y:Value))∧(s.length≤60)∧(∀i,i<s.length→We (s.getD i default) ((1+j:Nat):Int))∧Sep G W ((RowE (α:=Ev) (shr G W) 44 y s)::aV::TT) wq,fun vals wq=> ∃(y:Value) (s:List Ev) (q:Nat) (p:Nat),(vals 4=(y:Value))∧(vals 5=(.tuple #[Ix q 0,Ix p 0]:Value))∧(s.length≤60)∧(∀i,i<s.length→We (s.getD i default) ((1+j:Nat):Int))∧Sep G W ((RowE (α:=Ev) (shr G W) 44 y s)::(SetO q (1+j) (yX (1+j) s))::(ViewO p d (zq d (yX (1+j) s)) (zq d (yX (1+j) s)))::aV::TT) wq]) ((Blk b2 (d.cells dd0 dd1).toArray 25)::Rs) (Blk b6 (c.cells).toArray 49)) (AF [Vl 0 (.agg (d.cells dd0 dd1).toArray),Vl 1 (Iw (1+j)),Vl 2 (Iw (1+j)),Vl 3 vl,fun _=>True,fun _=>True,fun vals=> ∀(q:Nat) (p:Nat),vals 5=(.tuple #[Ix q 0,Ix p 0]:Value)→vals 6=(.tuple #[Ix q 0,Ix p 0]:Value),fun vals=> ∀(q:Nat) (p:Nat),vals 5=(.tuple #[Ix q 0,Ix p 0]:Value)→vals 7=(Ix q 0:Value),fun vals=> ∀(q:Nat) (p:Nat),vals 5=(.tuple #[Ix q 0,Ix p 0]:Value)→vals 8=(Ix p 0:Value),fun vals=> ∀(q:Nat) (p:Nat),vals 5=(.tuple #[Ix q 0,Ix p 0]:Value)→vals 9=(Ix q 0:Value),fun vals=> ∀(q:Nat) (p:Nat),vals 5=(.tuple #[Ix q 0,Ix p 0]:Value)→vals 10=(Ix p 0:Value)]) [[],[],[],[],[2,3],(rg 5),(rg 6),(rg 7),(rg 7),(rg 8),(rg 10)] [4,5] [(0,1),(0,1),(0,0),(0,0),(0,0),(1,1),(2,2),(2,2),(2,2),(2,2),(2,2)] dm ⟨?_,fun _ _ _ _ _ _ _=>obl rfl (mV (Iw (1+j)) dR),fun _ _ _ _ _ _ _=>obl rfl (mV (Iw (1+j)) dR),fun _ _ _ _ _ _ _=>obl rfl (mV vl dR),?_,?_,?_,?_,?_,?_,?_,zj⟩ ?_ (hlocA:=xd ⟨dA,dA,dA,dA,dT,dT,fun vals A C h=>fun q p t=>(C 6 (.inl rfl)).trans (h q p ((C 5 (.inr dc)).symm.trans t)),fun vals A C h=>fun q p t=>(C 7 (.inl rfl)).trans (h q p ((C 5 (.inr dc)).symm.trans t)),fun vals A C h=>fun q p t=>(C 8 (.inl rfl)).trans (h q p ((C 5 (.inr dc)).symm.trans t)),fun vals A C h=>fun q p t=>(C 9 (.inl rfl)).trans (h q p ((C 5 (.inr dc)).symm.trans t)),fun vals A C h=>fun q p t=>(C 10 (.inl rfl)).trans (h q p ((C 5 (.inr dc)).symm.trans t)),zj⟩)
 refine fun Z _ _ dp dq au _=>?_
 have hkk:=xz dp dq
 rcases hkk with rfl|rfl
 have bt:Sep _ _ _ _:=au
 exact obl rfl (ze (k:=2) nT mT rfl rfl (zi (bt.b1)) dR)
 obtain⟨y,s,F,B,D,bu⟩:=au
 exact obl rfl (ze (k:=2) nT mT rfl rfl (zi (bu.b2)) dR)
 refine ob1 0 fun vals _ (dr:Sep _ _ _ _) aX=>(obl rfl ((zO (f:=8) (vals:=[Iw (1+j),vl]) (cap:=[]) rfl (yK ⟨(aX 2 dc),(aX 3 dc),zj⟩) kY (XJ (n:=((1+j:Nat):Int)) (l:=l) (vl:=vl) om hl dr) ?_)))
 rintro y w67 ⟨_,s,rfl,B,D,aY⟩
 have ds:=aY.r0
 have hr69s:_*96≤_:=ds.2
 exact fun A C M=>⟨(exiA y (exiA s (zG C (zG B (zG D aY))))),zj⟩
 refine ob1 1 fun vals _ dt aZ=>?_
 obtain⟨y,s,F,B,D,du⟩:=dt
 refine obl rfl ?_
 obtain⟨G80,dv,aa,dw,dx⟩:=du.lend
 have av:=RowE.rdB dv aa
 have hrd86s:_*96≤_:=av.small
 refine(zO (f:=9) (vals:=[.agg (d.cells dd0 dd1).toArray,Iw (1+j),y]) (cap:=[]) rfl (yK ⟨(aZ 0 dc),(aZ 1 dc),F,zj⟩) qR (Xc (d:=d) (n:=1+j) (l:=s) (vl:=y) (zk hdd0 aa) (zk hdd1 aa) od yqe av (zk hKN aa) dw (U.1) om) ?_)
 rintro _ w89 ⟨q,p,rfl,dy⟩
 have dz:=dx _ _ dy
 exact fun A C M=>⟨(exiA y (exiA s (exiA q (exiA p (zG ((M 4 dc).trans F) (zG C (zG B (zG D dz)))))))),zj⟩
 refine ob1 2 fun _ _ bv _=>?_
 obtain⟨y,s,q,p,F,u,B,D,hS164⟩:=bv
 refine obl rfl (yg (v:=.tuple #[Ix q 0,Ix p 0]) u (fun A C M=>⟨rfl,?_⟩))
 intro Q R t
 rw[M 5 (by decide)]at t;cases u.symm.trans t
 exact C
 refine ob1 2 fun vals _ bw bx=>?_
 obtain⟨y,s,q,p,F,u,B,D,hS171⟩:=bw
 have dB:vals 6=(.tuple #[Ix q 0,Ix p 0]:Value):=bx 6 dc q p u
 refine obl rfl (zl (vs:=[Ix q 0,Ix p 0]) (i:=0) (v:=Ix q 0) dB rfl (fun A C M=>⟨rfl,?_⟩))
 intro Q R t
 rw[M 5 (by decide)]at t;cases u.symm.trans t
 exact C
 refine ob1 2 fun vals _ bz bA=>?_
 obtain⟨y,s,q,p,F,u,B,D,hS179⟩:=bz
 have dC:vals 6=(.tuple #[Ix q 0,Ix p 0]:Value):=bA 6 dc q p u
 refine obl rfl (zl (vs:=[Ix q 0,Ix p 0]) (i:=1) (v:=Ix p 0) dC rfl (fun A C M=>⟨rfl,?_⟩))
 intro Q R t
 rw[M 5 (by decide)]at t;cases u.symm.trans t
 exact C
 refine ob1 2 fun vals _ bB bC=>?_
 obtain⟨y,s,q,p,F,u,B,D,hS187⟩:=bB
 have dD:vals 7=(Ix q 0:Value):=bC 7 dc q p u
 refine obl rfl (ya (v:=Ix q 0) dD (fun A C M=>⟨rfl,?_⟩))
 intro Q R t
 rw[M 5 (by decide)]at t;cases u.symm.trans t
 exact C
 refine ob1 2 fun vals _ bD bE=>?_
 obtain⟨y,s,q,p,F,u,B,D,hS195⟩:=bD
 have dE:vals 8=(Ix p 0:Value):=bE 8 dc q p u
 refine obl rfl (ya (v:=Ix p 0) dE (fun A C M=>⟨rfl,?_⟩))
 intro Q R t
 rw[M 5 (by decide)]at t;cases u.symm.trans t
 exact C
 intro vals dG bF aw
 obtain⟨y,s,q,p,F,u,B,D,ax⟩:=bF
 have dH:vals 9=(Ix q 0:Value):=aw 9 dc q p u
 have dI:vals 10=(Ix p 0:Value):=aw 10 dc q p u
 refine yd (kv:=[(0,.agg (d.cells dd0 dd1).toArray),(1,Iw (1+j)),(2,vl),(3,Iw m),(4,.agg (c.cells).toArray),(5,Ix b2 0),(9,Ix b6 0),(10,.bool false),(26,.agg (d.cells dd0 dd1).toArray),(27,.bool b9),(28,.bool (!b9)),(29,.bool (!b9)),(33,.bool false),(35,Iv n),(36,Iw j),(37,Iw (1+j)),(38,Iv o),(39,Iw (1+j)),(40,Iw m),(11,Ix q 0),(12,Ix p 0)]) ⟨rfl,rfl,rfl,rfl,rfl,rfl,rfl,rfl,rfl,rfl,rfl,rfl,rfl,rfl,rfl,rfl,rfl,rfl,rfl,(by exact dH),(by exact dI),zj⟩ (fun ρw197=>(zb (za (za ?_))))
 obtain⟨g,ba⟩: ∃z,(yX (1+j) s)=z:=⟨_,rfl⟩
 have X:Good (1+j) g:=by rw[←ba];exact laidL_good
 have hLl9:g.length≤60:=by rw[←ba];exact Nat.le_trans Zm B
 rw[ba]at ax
 have ab:Sep G W ((RowE (α:=Ev) (shr G W) 44 y s)::(SetO q (1+j) g)::(ViewO p d (zq d g) (zq d g))::(Blk b6 (c.cells).toArray 49)::(Blk b2 (d.cells dd0 dd1).toArray 25)::Rs) dG:=ax
 have O: ∀e∈g,e.Ok:=(ab).setOks (i:=1) rfl X.ids
 have dJ:=XN O
 have hrl9:=xH d g
 refine zy kr (st (mV (Ix q 0) (st (xx (b:=q) (o:=0) rR rfl (st (mV (.bool false) (sty rfl rfl (mV (Ix p 0) (sty rfl rfl (xx (b:=p) (o:=0) sR rfl (st (yb (v:=.bool false) rfl rfl (zb (zf rfl (zp (za (R0 fun _=>st (ze (k:=7) rT oT rfl rfl (zi (ab.b3)) (st (zv wT ?_))))))))))))))))))))
 intro w206 b205 bG
 have ay:=ab.new bG
 refine stn (zr (v:=.agg (c.cells).toArray) (c':=(c.cells).toArray) oT rfl rfl (ay.b0) (zZ ⟨rfl,rfl,rfl,rfl,rfl,rfl,rfl,zj⟩) yqc rfl ?_)
 intro w208 bH
 have az:=ay.pt0 bH
 refine zb (za (R0 fun _=>st (Zk rfl (stn (yr (v:=Iv (-1)) (c:=[Iv (c.ctyp),Iv (c.cagg),Iv (c.cfield),Iv (c.cop),Iv (c.carg),Iv (c.expect),Iv (c.ckey)]) (c':=[Iv (c.ctyp),Iv (c.cagg),Iv (c.cfield),Iv (c.cop),Iv (c.carg),Iv (-1),Iv (c.ckey)]) vT rfl rfl (az.b0) rfl rfl rfl ?_)))))
 intro w211 bI
 have S:Cmd.Ok (⟨c.ctyp,c.cagg,c.cfield,c.cop,c.carg, -1,c.ckey⟩:Cmd):=⟨(show InR (c.ctyp)from oc.ctyp),(show InR (c.cagg)from oc.cagg),(show InR (c.cfield)from oc.cfield),(show InR (c.cop)from oc.cop),(show InR (c.carg)from oc.carg),(show InR (-1)from dc),(show InR (c.ckey)from oc.ckey)⟩
 have aA:=az.pt0 bI
 refine zb (za (R0 fun _=>st (ze (k:=7) rT oT rfl rfl (zi (aA.b4)) (st (zv wT ?_)))))
 intro w217 b216 bJ
 have aB:=aA.new bJ
 refine stn (zr (v:=.agg (c.cells).toArray) (c':=(c.cells).toArray) oT rfl rfl (aB.b0) (zZ ⟨rfl,rfl,rfl,rfl,rfl,rfl,rfl,zj⟩) yqc rfl ?_)
 intro w219 bK
 have ac:=aB.pt0 bK
 refine zb (za (R0 fun _=>st (mV (Ix p 0) (st (Zu rfl (st (lD (Iv (c.ctyp)) lT rfl (zd (ac.b5) rfl) (st (YB rfl (st (lD (Iv (c.cagg)) lT rfl (zd (ac.b5) rfl) (st (cL tR (Wt (ty:=c.ctyp) (no:=c.cagg) oc.ctyp oc.cagg (ac.mv4)) ?_)))))))))))))
 rintro _ w224 ⟨P,rfl,aC⟩
 let br:=(yR d (c.ctyp,c.cagg) (zq d g)).cells P
 have aD:=aC.r1
 have hr226s:_*32≤_:=aD.2
 refine st (mV (.tuple #[.agg br.toArray,.bool ((zt d (zq d g) (c.ctyp,c.cagg)).isSome)]) (st (zl (vs:=[.agg br.toArray,.bool ((zt d (zq d g) (c.ctyp,c.cagg)).isSome)]) (i:=0) (v:=.agg br.toArray) rfl rfl (st (zl (vs:=[.agg br.toArray,.bool ((zt d (zq d g) (c.ctyp,c.cagg)).isSome)]) (i:=1) (v:=.bool ((zt d (zq d g) (c.ctyp,c.cagg)).isSome)) rfl rfl (st (zv uR ?_)))))))
 intro w229 b228 bL
 have aE:=aC.new bL
 refine stn (zr (v:=.agg br.toArray) (c':=br.toArray) mR rfl rfl (aE.b0) (zZ ⟨rfl,aD.1.one,zj⟩) yqc rfl ?_)
 intro w231 bM
 have ad:=aE.pt0 bM
 refine st (aS (.bool ((zt d (zq d g) (c.ctyp,c.cagg)).isSome)) (zb (za (R0 fun _=>st (Zr rfl (st (lD (Iv ((yR d (c.ctyp,c.cagg) (zq d g)).ver)) lT rfl (zd (ad.b0) rfl) (st (Zk rfl (stn (yr (v:=Iv ((yR d (c.ctyp,c.cagg) (zq d g)).ver)) (c:=[Iv (c.ctyp),Iv (c.cagg),Iv (c.cfield),Iv (c.cop),Iv (c.carg),Iv (c.expect),Iv (c.ckey)]) (c':=[Iv (c.ctyp),Iv (c.cagg),Iv (c.cfield),Iv (c.cop),Iv (c.carg),Iv ((yR d (c.ctyp,c.cagg) (zq d g)).ver),Iv (c.ckey)]) vT rfl rfl (ad.b3) rfl rfl rfl ?_)))))))))))
 intro w234 bN
 have aF:Cmd.Ok (⟨c.ctyp,c.cagg,c.cfield,c.cop,c.carg,(yR d (c.ctyp,c.cagg) (zq d g)).ver,c.ckey⟩:Cmd):=⟨(show InR (c.ctyp)from oc.ctyp),(show InR (c.cagg)from oc.cagg),(show InR (c.cfield)from oc.cfield),(show InR (c.cop)from oc.cop),(show InR (c.carg)from oc.carg),(show InR ((yR d (c.ctyp,c.cagg) (zq d g)).ver)from(⟨(show InR ((yn (c.ctyp,c.cagg) (zq d g):Nat):Int)from by have N:=ZJ (c.ctyp,c.cagg) (zq d g);rw[xH]at N;omega)⟩:Sta.Ok (yR d (c.ctyp,c.cagg) (zq d g))).ver),(show InR (c.ckey)from oc.ckey)⟩
 have ae:=ad.pt3 bN
 refine zb (za ?_)
 have dK:=zdl (d:=d) (n:=(1+j)) (L:=g) (V:=zq d g) (o:=((m:Nat):Int)) (c:=c) (f:=(⟨c.ctyp,c.cagg,c.cfield,c.cop,c.carg, -1,c.ckey⟩:Cmd)) (r:=(⟨c.ctyp,c.cagg,c.cfield,c.cop,c.carg,(yR d (c.ctyp,c.cagg) (zq d g)).ver,c.ckey⟩:Cmd)) ⟨rfl,rfl,rfl,rfl,rfl,rfl⟩ ⟨rfl,rfl,rfl,rfl,rfl,rfl⟩ rfl rfl dj om dJ.1 om
 obtain⟨bb,dN,dd⟩:=dK
 refine R0 fun _=>st (ze (k:=2) nT mT rfl rfl (zi (ae.b8)) (st (mV (Ix q 0) (st (mV (Ix p 0) (st (mV (Iw m) (st (ze (k:=7) rT oT rfl rfl (zi (ae.b4)) ?_)))))))))
 obtain⟨G239,aG,af,bO,bP⟩:=(ae.mv6).lend
 obtain⟨vv245,m246,R247,hb248,bQ,hr250⟩:=SetO.sh aG
 have hsm251:(zw (1+j) g).length*8≤140737488355328:=bQ.small
 refine st (cL uT (xU (d:=d) (o:=((m:Nat):Int)) (start:=0) (c:=(⟨c.ctyp,c.cagg,c.cfield,c.cop,c.carg, -1,c.ckey⟩:Cmd)) (zk hdd0 af) (zk hdd1 af) od aG om dc S (zk hKN af) (bO.mv1) (U.1) ((Inv.run U.1 _)) om (X.ids) (X.srt) om om) ?_)
 rintro _ w254 ⟨H,rfl,bR⟩
 let ap:=((exR d (1+j) g (zq d g) ((m:Nat):Int) 0 (⟨c.ctyp,c.cagg,c.cfield,c.cop,c.carg, -1,c.ckey⟩:Cmd)).1.cells H)
 have bS:=bP _ _ bR
 refine st (mV (.tuple #[.agg ap.toArray,.bool ((exR d (1+j) g (zq d g) ((m:Nat):Int) 0 (⟨c.ctyp,c.cagg,c.cfield,c.cop,c.carg, -1,c.ckey⟩:Cmd)).2.1),Iv ((exR d (1+j) g (zq d g) ((m:Nat):Int) 0 (⟨c.ctyp,c.cagg,c.cfield,c.cop,c.carg, -1,c.ckey⟩:Cmd)).2.2)]) (st (zl (vs:=[.agg ap.toArray,.bool ((exR d (1+j) g (zq d g) ((m:Nat):Int) 0 (⟨c.ctyp,c.cagg,c.cfield,c.cop,c.carg, -1,c.ckey⟩:Cmd)).2.1),Iv ((exR d (1+j) g (zq d g) ((m:Nat):Int) 0 (⟨c.ctyp,c.cagg,c.cfield,c.cop,c.carg, -1,c.ckey⟩:Cmd)).2.2)]) (i:=0) (v:=.agg ap.toArray) rfl rfl ?_)))
 refine st (zl (vs:=[.agg ap.toArray,.bool ((exR d (1+j) g (zq d g) ((m:Nat):Int) 0 (⟨c.ctyp,c.cagg,c.cfield,c.cop,c.carg, -1,c.ckey⟩:Cmd)).2.1),Iv ((exR d (1+j) g (zq d g) ((m:Nat):Int) 0 (⟨c.ctyp,c.cagg,c.cfield,c.cop,c.carg, -1,c.ckey⟩:Cmd)).2.2)]) (i:=1) (v:=.bool ((exR d (1+j) g (zq d g) ((m:Nat):Int) 0 (⟨c.ctyp,c.cagg,c.cfield,c.cop,c.carg, -1,c.ckey⟩:Cmd)).2.1)) rfl rfl ?_)
 refine st (zl (vs:=[.agg ap.toArray,.bool ((exR d (1+j) g (zq d g) ((m:Nat):Int) 0 (⟨c.ctyp,c.cagg,c.cfield,c.cop,c.carg, -1,c.ckey⟩:Cmd)).2.1),Iv ((exR d (1+j) g (zq d g) ((m:Nat):Int) 0 (⟨c.ctyp,c.cagg,c.cfield,c.cop,c.carg, -1,c.ckey⟩:Cmd)).2.2)]) (i:=2) (v:=Iv ((exR d (1+j) g (zq d g) ((m:Nat):Int) 0 (⟨c.ctyp,c.cagg,c.cfield,c.cop,c.carg, -1,c.ckey⟩:Cmd)).2.2)) rfl rfl (st (zv qT ?_)))
 intro w259 b258 bT
 have ag:=bS.new bT
 refine stn (zr (v:=.agg ap.toArray) (c':=ap.toArray) kT rfl rfl (ag.b0) (zZ ⟨rfl,rfl,rfl,(ag.depSl (i:=3) rfl).one,rfl,rfl,rfl,rfl,rfl,rfl,zj⟩) yqc rfl ?_)
 intro w261 bU
 have ah:=ag.pt0 bU
 refine st (aS (.bool ((exR d (1+j) g (zq d g) ((m:Nat):Int) 0 (⟨c.ctyp,c.cagg,c.cfield,c.cop,c.carg, -1,c.ckey⟩:Cmd)).2.1)) (st (aS (Iv ((exR d (1+j) g (zq d g) ((m:Nat):Int) 0 (⟨c.ctyp,c.cagg,c.cfield,c.cop,c.carg, -1,c.ckey⟩:Cmd)).2.2)) (zb (za (R0 fun _=>st (ze (k:=2) nT mT rfl rfl (zi (ah.b10)) (st (mV (Ix q 0) (st (mV (Ix p 0) (st (mV (Iw m) (st (ze (k:=7) rT oT rfl rfl (zi (ah.b6)) ?_)))))))))))))))
 obtain⟨G265,aH,ai,bV,bW⟩:=(ah.mv1).lend
 obtain⟨vv271,m272,R273,hb274,bX,hr276⟩:=SetO.sh aH
 have hsm277:(zw (1+j) g).length*8≤140737488355328:=bX.small
 refine st (cL uT (xU (d:=d) (o:=((m:Nat):Int)) (start:=0) (c:=(⟨c.ctyp,c.cagg,c.cfield,c.cop,c.carg,(yR d (c.ctyp,c.cagg) (zq d g)).ver,c.ckey⟩:Cmd)) (zk hdd0 ai) (zk hdd1 ai) od aH om dc aF (zk hKN ai) (bV.mv1) (U.1) ((Inv.run U.1 _)) om (X.ids) (X.srt) om om) ?_)
 rintro _ w280 ⟨I,rfl,bY⟩
 let ao:=((exR d (1+j) g (zq d g) ((m:Nat):Int) 0 (⟨c.ctyp,c.cagg,c.cfield,c.cop,c.carg,(yR d (c.ctyp,c.cagg) (zq d g)).ver,c.ckey⟩:Cmd)).1.cells I)
 have bZ:=bW _ _ bY
 refine st (mV (.tuple #[.agg ao.toArray,.bool ((exR d (1+j) g (zq d g) ((m:Nat):Int) 0 (⟨c.ctyp,c.cagg,c.cfield,c.cop,c.carg,(yR d (c.ctyp,c.cagg) (zq d g)).ver,c.ckey⟩:Cmd)).2.1),Iv ((exR d (1+j) g (zq d g) ((m:Nat):Int) 0 (⟨c.ctyp,c.cagg,c.cfield,c.cop,c.carg,(yR d (c.ctyp,c.cagg) (zq d g)).ver,c.ckey⟩:Cmd)).2.2)]) ?_)
 refine st (zl (vs:=[.agg ao.toArray,.bool ((exR d (1+j) g (zq d g) ((m:Nat):Int) 0 (⟨c.ctyp,c.cagg,c.cfield,c.cop,c.carg,(yR d (c.ctyp,c.cagg) (zq d g)).ver,c.ckey⟩:Cmd)).2.1),Iv ((exR d (1+j) g (zq d g) ((m:Nat):Int) 0 (⟨c.ctyp,c.cagg,c.cfield,c.cop,c.carg,(yR d (c.ctyp,c.cagg) (zq d g)).ver,c.ckey⟩:Cmd)).2.2)]) (i:=0) (v:=.agg ao.toArray) rfl rfl ?_)
 refine st (zl (vs:=[.agg ao.toArray,.bool ((exR d (1+j) g (zq d g) ((m:Nat):Int) 0 (⟨c.ctyp,c.cagg,c.cfield,c.cop,c.carg,(yR d (c.ctyp,c.cagg) (zq d g)).ver,c.ckey⟩:Cmd)).2.1),Iv ((exR d (1+j) g (zq d g) ((m:Nat):Int) 0 (⟨c.ctyp,c.cagg,c.cfield,c.cop,c.carg,(yR d (c.ctyp,c.cagg) (zq d g)).ver,c.ckey⟩:Cmd)).2.2)]) (i:=1) (v:=.bool ((exR d (1+j) g (zq d g) ((m:Nat):Int) 0 (⟨c.ctyp,c.cagg,c.cfield,c.cop,c.carg,(yR d (c.ctyp,c.cagg) (zq d g)).ver,c.ckey⟩:Cmd)).2.1)) rfl rfl ?_)
 refine st (zl (vs:=[.agg ao.toArray,.bool ((exR d (1+j) g (zq d g) ((m:Nat):Int) 0 (⟨c.ctyp,c.cagg,c.cfield,c.cop,c.carg,(yR d (c.ctyp,c.cagg) (zq d g)).ver,c.ckey⟩:Cmd)).2.1),Iv ((exR d (1+j) g (zq d g) ((m:Nat):Int) 0 (⟨c.ctyp,c.cagg,c.cfield,c.cop,c.carg,(yR d (c.ctyp,c.cagg) (zq d g)).ver,c.ckey⟩:Cmd)).2.2)]) (i:=2) (v:=Iv ((exR d (1+j) g (zq d g) ((m:Nat):Int) 0 (⟨c.ctyp,c.cagg,c.cfield,c.cop,c.carg,(yR d (c.ctyp,c.cagg) (zq d g)).ver,c.ckey⟩:Cmd)).2.2)) rfl rfl (st (zv qT ?_)))
 intro w285 b284 ca
 have aj:=bZ.new ca
 refine stn (zr (v:=.agg ao.toArray) (c':=ao.toArray) kT rfl rfl (aj.b0) (zZ ⟨rfl,rfl,rfl,(aj.depSl (i:=3) rfl).one,rfl,rfl,rfl,rfl,rfl,rfl,zj⟩) yqc rfl ?_)
 intro w287 cb
 have ak:=aj.pt0 cb
 refine st (aS (.bool ((exR d (1+j) g (zq d g) ((m:Nat):Int) 0 (⟨c.ctyp,c.cagg,c.cfield,c.cop,c.carg,(yR d (c.ctyp,c.cagg) (zq d g)).ver,c.ckey⟩:Cmd)).2.1)) (st (aS (Iv ((exR d (1+j) g (zq d g) ((m:Nat):Int) 0 (⟨c.ctyp,c.cagg,c.cfield,c.cop,c.carg,(yR d (c.ctyp,c.cagg) (zq d g)).ver,c.ckey⟩:Cmd)).2.2)) (zb (za (za (zy kr (st (mV (.bool ((exR d (1+j) g (zq d g) ((m:Nat):Int) 0 (⟨c.ctyp,c.cagg,c.cfield,c.cop,c.carg, -1,c.ckey⟩:Cmd)).2.1)) (st (mV (.bool ((exR d (1+j) g (zq d g) ((m:Nat):Int) 0 (⟨c.ctyp,c.cagg,c.cfield,c.cop,c.carg,(yR d (c.ctyp,c.cagg) (zq d g)).ver,c.ckey⟩:Cmd)).2.1)) (st (UV (a:=(exR d (1+j) g (zq d g) ((m:Nat):Int) 0 (⟨c.ctyp,c.cagg,c.cfield,c.cop,c.carg, -1,c.ckey⟩:Cmd)).2.1) (b:=(exR d (1+j) g (zq d g) ((m:Nat):Int) 0 (⟨c.ctyp,c.cagg,c.cfield,c.cop,c.carg,(yR d (c.ctyp,c.cagg) (zq d g)).ver,c.ckey⟩:Cmd)).2.1) vR rfl rfl ?_)))))))))))))
 have bc:(!(((exR d (1+j) g (zq d g) ((m:Nat):Int) 0 (⟨c.ctyp,c.cagg,c.cfield,c.cop,c.carg, -1,c.ckey⟩:Cmd)).2.1)== ((exR d (1+j) g (zq d g) ((m:Nat):Int) 0 (⟨c.ctyp,c.cagg,c.cfield,c.cop,c.carg,(yR d (c.ctyp,c.cagg) (zq d g)).ver,c.ckey⟩:Cmd)).2.1)))=false:=(by rw[bb];simp)
 rw[bc]
 refine st (mV (.bool false) (sty rfl rfl (mV (Iv ((exR d (1+j) g (zq d g) ((m:Nat):Int) 0 (⟨c.ctyp,c.cagg,c.cfield,c.cop,c.carg, -1,c.ckey⟩:Cmd)).2.2)) (sty rfl rfl (mV (Iv ((exR d (1+j) g (zq d g) ((m:Nat):Int) 0 (⟨c.ctyp,c.cagg,c.cfield,c.cop,c.carg,(yR d (c.ctyp,c.cagg) (zq d g)).ver,c.ckey⟩:Cmd)).2.2)) (sty rfl rfl (yj (k:=.i64) (a:=(exR d (1+j) g (zq d g) ((m:Nat):Int) 0 (⟨c.ctyp,c.cagg,c.cfield,c.cop,c.carg, -1,c.ckey⟩:Cmd)).2.2) (b:=(exR d (1+j) g (zq d g) ((m:Nat):Int) 0 (⟨c.ctyp,c.cagg,c.cfield,c.cop,c.carg,(yR d (c.ctyp,c.cagg) (zq d g)).ver,c.ckey⟩:Cmd)).2.2) rfl rfl ?_)))))))
 have bd:(!decide (((exR d (1+j) g (zq d g) ((m:Nat):Int) 0 (⟨c.ctyp,c.cagg,c.cfield,c.cop,c.carg, -1,c.ckey⟩:Cmd)).2.2)=((exR d (1+j) g (zq d g) ((m:Nat):Int) 0 (⟨c.ctyp,c.cagg,c.cfield,c.cop,c.carg,(yR d (c.ctyp,c.cagg) (zq d g)).ver,c.ckey⟩:Cmd)).2.2)))=false:=(by rw[bb];simp)
 rw[bd]
 refine st (yb (v:=.bool false) rfl rfl (st (mV (.bool false) (sty rfl rfl (ze (k:=10) pT kT rfl rfl (zi (ak.b4)) (sty rfl rfl (ze (k:=10) pT kT rfl rfl (zi (ak.b0)) ?_)))))))
 obtain⟨G293,cc,hB296,cd,ce⟩:=(ak.mv5).lend
 have aI:=DepO.rd cc
 have hsm300:((exR d (1+j) g (zq d g) ((m:Nat):Int) 0 (⟨c.ctyp,c.cagg,c.cfield,c.cop,c.carg, -1,c.ckey⟩:Cmd)).1.deps).length*8≤140737488355328:=aI.small
 obtain⟨G302,cf,cg,ch,ci⟩:=(cd.mv3).lend
 have aJ:=DepO.rd cf
 have hsm309:((exR d (1+j) g (zq d g) ((m:Nat):Int) 0 (⟨c.ctyp,c.cagg,c.cfield,c.cop,c.carg,(yR d (c.ctyp,c.cagg) (zq d g)).ver,c.ckey⟩:Cmd)).1.deps).length*8≤140737488355328:=aJ.small
 refine sty rfl rfl (cL kR (xw (a:=(exR d (1+j) g (zq d g) ((m:Nat):Int) 0 (⟨c.ctyp,c.cagg,c.cfield,c.cop,c.carg, -1,c.ckey⟩:Cmd)).1) (b:=(exR d (1+j) g (zq d g) ((m:Nat):Int) 0 (⟨c.ctyp,c.cagg,c.cfield,c.cop,c.carg,(yR d (c.ctyp,c.cagg) (zq d g)).ver,c.ckey⟩:Cmd)).1) (zk aI cg) (ZT S om dc O om) aJ (ZT aF om dc O om) ch) ?_)
 rintro _ w310 ⟨rfl,cj⟩
 have ck:=ci _ _ cj
 have al:=ce _ _ ck
 have be:(decide (((exR d (1+j) g (zq d g) ((m:Nat):Int) 0 (⟨c.ctyp,c.cagg,c.cfield,c.cop,c.carg, -1,c.ckey⟩:Cmd)).1)=((exR d (1+j) g (zq d g) ((m:Nat):Int) 0 (⟨c.ctyp,c.cagg,c.cfield,c.cop,c.carg,(yR d (c.ctyp,c.cagg) (zq d g)).ver,c.ckey⟩:Cmd)).1)))=true:=(by rw[bb];exact decide_eq_true rfl)
 rw[be]
 refine sty rfl rfl (yw (a:=true) rfl (st (yb (v:=.bool false) rfl rfl (zb (zf rfl (zp (za (R0 fun _=>st (ze (k:=2) nT mT rfl rfl (zi (al.b12)) (st (mV (Ix q 0) (st (mV (Ix p 0) (st (mV (Iw m) (st (ze (k:=7) rT oT rfl rfl (zi (al.b11)) ?_)))))))))))))))))
 obtain⟨G316,aK,am,cl,cm⟩:=(al.mv3).lend
 obtain⟨vv322,m323,R324,hb325,cn,hr327⟩:=SetO.sh aK
 have hsm328:(zw (1+j) g).length*8≤140737488355328:=cn.small
 refine st (cL uT (xU (d:=d) (o:=((m:Nat):Int)) (start:=0) (c:=c) (zk hdd0 am) (zk hdd1 am) od aK om dc oc (zk hKN am) (cl.mv3) (U.1) ((Inv.run U.1 _)) om (X.ids) (X.srt) om om) ?_)
 rintro _ w331 ⟨J,rfl,co⟩
 let aW:=((exR d (1+j) g (zq d g) ((m:Nat):Int) 0 c).1.cells J)
 have cp:=cm _ _ co
 refine st (mV (.tuple #[.agg aW.toArray,.bool ((exR d (1+j) g (zq d g) ((m:Nat):Int) 0 c).2.1),Iv ((exR d (1+j) g (zq d g) ((m:Nat):Int) 0 c).2.2)]) (st (zl (vs:=[.agg aW.toArray,.bool ((exR d (1+j) g (zq d g) ((m:Nat):Int) 0 c).2.1),Iv ((exR d (1+j) g (zq d g) ((m:Nat):Int) 0 c).2.2)]) (i:=0) (v:=.agg aW.toArray) rfl rfl (st (zl (vs:=[.agg aW.toArray,.bool ((exR d (1+j) g (zq d g) ((m:Nat):Int) 0 c).2.1),Iv ((exR d (1+j) g (zq d g) ((m:Nat):Int) 0 c).2.2)]) (i:=1) (v:=.bool ((exR d (1+j) g (zq d g) ((m:Nat):Int) 0 c).2.1)) rfl rfl ?_)))))
 refine st (zl (vs:=[.agg aW.toArray,.bool ((exR d (1+j) g (zq d g) ((m:Nat):Int) 0 c).2.1),Iv ((exR d (1+j) g (zq d g) ((m:Nat):Int) 0 c).2.2)]) (i:=2) (v:=Iv ((exR d (1+j) g (zq d g) ((m:Nat):Int) 0 c).2.2)) rfl rfl (st (zv qT ?_)))
 intro w336 b335 cq
 have an:=cp.new cq
 refine stn (zr (v:=.agg aW.toArray) (c':=aW.toArray) kT rfl rfl (an.b0) (zZ ⟨rfl,rfl,rfl,(an.depSl (i:=3) rfl).one,rfl,rfl,rfl,rfl,rfl,rfl,zj⟩) yqc rfl ?_)
 intro w338 cr
 have E:=an.pt0 cr
 refine st (aS (.bool ((exR d (1+j) g (zq d g) ((m:Nat):Int) 0 c).2.1)) (st (aS (Iv ((exR d (1+j) g (zq d g) ((m:Nat):Int) 0 c).2.2)) (zb (za (za (R0 fun _=>st (Zk rfl (st (lD (Iv (c.expect)) lT rfl (zd (E.b13) rfl) (st (Zr rfl (st (lD (Iv ((yR d (c.ctyp,c.cagg) (zq d g)).ver)) lT rfl (zd (E.b8) rfl) (st (zR (k:=.i64) (a:=c.expect) (b:=(yR d (c.ctyp,c.cagg) (zq d g)).ver) rfl rfl (zb ?_)))))))))))))))))
 cases K:decide (c.expect=((yR d (c.ctyp,c.cagg) (zq d g)).ver))
 have hc341r:=K
 have K:=fD K
 have bf:=K
 refine zf rfl (zp (za (za (zy kr (st (mV (Iv ((exR d (1+j) g (zq d g) ((m:Nat):Int) 0 (⟨c.ctyp,c.cagg,c.cfield,c.cop,c.carg, -1,c.ckey⟩:Cmd)).2.2)) (st (zR (k:=.i64) (a:=(exR d (1+j) g (zq d g) ((m:Nat):Int) 0 (⟨c.ctyp,c.cagg,c.cfield,c.cop,c.carg, -1,c.ckey⟩:Cmd)).2.2) (b:=0) rfl rfl (st (mV (.bool (decide (((exR d (1+j) g (zq d g) ((m:Nat):Int) 0 (⟨c.ctyp,c.cagg,c.cfield,c.cop,c.carg, -1,c.ckey⟩:Cmd)).2.2)=0))) (stc (V:=.bool ((exR d (1+j) g (zq d g) ((m:Nat):Int) 0 (⟨c.ctyp,c.cagg,c.cfield,c.cop,c.carg, -1,c.ckey⟩:Cmd)).2.1)) rfl rfl (fun cs=>?_) ?_)))))))))))
 have hl343:=tD cs
 exact mV (.bool ((exR d (1+j) g (zq d g) ((m:Nat):Int) 0 (⟨c.ctyp,c.cagg,c.cfield,c.cop,c.carg, -1,c.ckey⟩:Cmd)).2.1)) rflB
 refine st (zF (b:=decide (((exR d (1+j) g (zq d g) ((m:Nat):Int) 0 (⟨c.ctyp,c.cagg,c.cfield,c.cop,c.carg, -1,c.ckey⟩:Cmd)).2.2)=0)) (b':=(exR d (1+j) g (zq d g) ((m:Nat):Int) 0 (⟨c.ctyp,c.cagg,c.cfield,c.cop,c.carg, -1,c.ckey⟩:Cmd)).2.1) rfl (fun hbp=>(ifpC hbp)) (st (mV (.bool ((decide (((exR d (1+j) g (zq d g) ((m:Nat):Int) 0 (⟨c.ctyp,c.cagg,c.cfield,c.cop,c.carg, -1,c.ckey⟩:Cmd)).2.2)=0))&&((exR d (1+j) g (zq d g) ((m:Nat):Int) 0 (⟨c.ctyp,c.cagg,c.cfield,c.cop,c.carg, -1,c.ckey⟩:Cmd)).2.1))) (stc (V:=Iv ((exR d (1+j) g (zq d g) ((m:Nat):Int) 0 (⟨c.ctyp,c.cagg,c.cfield,c.cop,c.carg, -1,c.ckey⟩:Cmd)).2.2)) rfl rfl (fun ct=>?_) ?_))))
 have cu:=ct
 try simp only[zh]at cu
 exact mV (Iv ((exR d (1+j) g (zq d g) ((m:Nat):Int) 0 (⟨c.ctyp,c.cagg,c.cfield,c.cop,c.carg, -1,c.ckey⟩:Cmd)).2.2)) rflB
 refine stc (V:=.bool (decide (((exR d (1+j) g (zq d g) ((m:Nat):Int) 0 (⟨c.ctyp,c.cagg,c.cfield,c.cop,c.carg, -1,c.ckey⟩:Cmd)).2.2)=10))) rfl rfl (fun aL=>?_) ?_
 have cv:=aL
 try simp only[zh]at cv
 exact zR (k:=.i64) (a:=(exR d (1+j) g (zq d g) ((m:Nat):Int) 0 (⟨c.ctyp,c.cagg,c.cfield,c.cop,c.carg, -1,c.ckey⟩:Cmd)).2.2) (b:=10) (ifpC aL) rfl rflB
 refine st (zz (b:=(decide (((exR d (1+j) g (zq d g) ((m:Nat):Int) 0 (⟨c.ctyp,c.cagg,c.cfield,c.cop,c.carg, -1,c.ckey⟩:Cmd)).2.2)=0))&&((exR d (1+j) g (zq d g) ((m:Nat):Int) 0 (⟨c.ctyp,c.cagg,c.cfield,c.cop,c.carg, -1,c.ckey⟩:Cmd)).2.1)) (b':=decide (((exR d (1+j) g (zq d g) ((m:Nat):Int) 0 (⟨c.ctyp,c.cagg,c.cfield,c.cop,c.carg, -1,c.ckey⟩:Cmd)).2.2)=10)) rfl (fun hbp=>(ifpC hbp)) (st (mV (.bool (((decide (((exR d (1+j) g (zq d g) ((m:Nat):Int) 0 (⟨c.ctyp,c.cagg,c.cfield,c.cop,c.carg, -1,c.ckey⟩:Cmd)).2.2)=0))&&((exR d (1+j) g (zq d g) ((m:Nat):Int) 0 (⟨c.ctyp,c.cagg,c.cfield,c.cop,c.carg, -1,c.ckey⟩:Cmd)).2.1))||(decide (((exR d (1+j) g (zq d g) ((m:Nat):Int) 0 (⟨c.ctyp,c.cagg,c.cfield,c.cop,c.carg, -1,c.ckey⟩:Cmd)).2.2)=10)))) (stc (V:=Iv ((exR d (1+j) g (zq d g) ((m:Nat):Int) 0 (⟨c.ctyp,c.cagg,c.cfield,c.cop,c.carg, -1,c.ckey⟩:Cmd)).2.2)) rfl rfl (fun cw=>?_) ?_))))
 have cx:=cw
 try simp only[zh]at cx
 exact mV (Iv ((exR d (1+j) g (zq d g) ((m:Nat):Int) 0 (⟨c.ctyp,c.cagg,c.cfield,c.cop,c.carg, -1,c.ckey⟩:Cmd)).2.2)) rflB
 refine stc (V:=.bool (decide (((exR d (1+j) g (zq d g) ((m:Nat):Int) 0 (⟨c.ctyp,c.cagg,c.cfield,c.cop,c.carg, -1,c.ckey⟩:Cmd)).2.2)=13))) rfl rfl (fun aM=>?_) ?_
 have cy:=aM
 try simp only[zh]at cy
 exact zR (k:=.i64) (a:=(exR d (1+j) g (zq d g) ((m:Nat):Int) 0 (⟨c.ctyp,c.cagg,c.cfield,c.cop,c.carg, -1,c.ckey⟩:Cmd)).2.2) (b:=13) (ifpC aM) rfl rflB
 refine st (zz (b:=((decide (((exR d (1+j) g (zq d g) ((m:Nat):Int) 0 (⟨c.ctyp,c.cagg,c.cfield,c.cop,c.carg, -1,c.ckey⟩:Cmd)).2.2)=0))&&((exR d (1+j) g (zq d g) ((m:Nat):Int) 0 (⟨c.ctyp,c.cagg,c.cfield,c.cop,c.carg, -1,c.ckey⟩:Cmd)).2.1))||(decide (((exR d (1+j) g (zq d g) ((m:Nat):Int) 0 (⟨c.ctyp,c.cagg,c.cfield,c.cop,c.carg, -1,c.ckey⟩:Cmd)).2.2)=10))) (b':=decide (((exR d (1+j) g (zq d g) ((m:Nat):Int) 0 (⟨c.ctyp,c.cagg,c.cfield,c.cop,c.carg, -1,c.ckey⟩:Cmd)).2.2)=13)) rfl (fun hbp=>(ifpC hbp)) (zb ?_))
 cases T:(((decide (((exR d (1+j) g (zq d g) ((m:Nat):Int) 0 (⟨c.ctyp,c.cagg,c.cfield,c.cop,c.carg, -1,c.ckey⟩:Cmd)).2.2)=0))&&((exR d (1+j) g (zq d g) ((m:Nat):Int) 0 (⟨c.ctyp,c.cagg,c.cfield,c.cop,c.carg, -1,c.ckey⟩:Cmd)).2.1))||(decide (((exR d (1+j) g (zq d g) ((m:Nat):Int) 0 (⟨c.ctyp,c.cagg,c.cfield,c.cop,c.carg, -1,c.ckey⟩:Cmd)).2.2)=10)))||(decide (((exR d (1+j) g (zq d g) ((m:Nat):Int) 0 (⟨c.ctyp,c.cagg,c.cfield,c.cop,c.carg, -1,c.ckey⟩:Cmd)).2.2)=13))
 have Y:=T
 try simp only[zh]at T
 have bg:=(dd bf).2 (by intro h8;have N:=Y;simp only[Bool.or_eq_false_iff,Bool.and_eq_false_iff,decide_eq_false_iff_not]at N;rcases h8 with h8|h8|h8;rcases N.1.1 with h7|h7;exact h7 h8.1;rw[h8.2]at h7;cases h7;exact N.1.2 h8;exact N.2 h8)
 refine zf rfl (zp (za (zy kr (st (mV (Iv ((exR d (1+j) g (zq d g) ((m:Nat):Int) 0 c).2.2)) (st (mV (Iv ((exR d (1+j) g (zq d g) ((m:Nat):Int) 0 (⟨c.ctyp,c.cagg,c.cfield,c.cop,c.carg, -1,c.ckey⟩:Cmd)).2.2)) (st (zR (k:=.i64) (a:=(exR d (1+j) g (zq d g) ((m:Nat):Int) 0 c).2.2) (b:=(exR d (1+j) g (zq d g) ((m:Nat):Int) 0 (⟨c.ctyp,c.cagg,c.cfield,c.cop,c.carg, -1,c.ckey⟩:Cmd)).2.2) rfl rfl ?_)))))))))
 have bh:(decide (((exR d (1+j) g (zq d g) ((m:Nat):Int) 0 c).2.2)=((exR d (1+j) g (zq d g) ((m:Nat):Int) 0 (⟨c.ctyp,c.cagg,c.cfield,c.cop,c.carg, -1,c.ckey⟩:Cmd)).2.2)))=true:=(by rw[bg];exact decide_eq_true rfl)
 rw[bh]
 refine st (mV (.bool true) (sty rfl rfl (mV (.bool ((exR d (1+j) g (zq d g) ((m:Nat):Int) 0 c).2.1)) (sty rfl rfl (mV (.bool ((exR d (1+j) g (zq d g) ((m:Nat):Int) 0 (⟨c.ctyp,c.cagg,c.cfield,c.cop,c.carg, -1,c.ckey⟩:Cmd)).2.1)) (sty rfl rfl (Qi (a:=(exR d (1+j) g (zq d g) ((m:Nat):Int) 0 c).2.1) (b:=(exR d (1+j) g (zq d g) ((m:Nat):Int) 0 (⟨c.ctyp,c.cagg,c.cfield,c.cop,c.carg, -1,c.ckey⟩:Cmd)).2.1) vR rfl rfl ?_)))))))
 have bi:(((exR d (1+j) g (zq d g) ((m:Nat):Int) 0 c).2.1)== ((exR d (1+j) g (zq d g) ((m:Nat):Int) 0 (⟨c.ctyp,c.cagg,c.cfield,c.cop,c.carg, -1,c.ckey⟩:Cmd)).2.1))=true:=(by rw[bg];simp)
 rw[bi]
 refine st (yc (v:=.bool true) rfl rfl (st (mV (.bool true) (sty rfl rfl (ze (k:=10) pT kT rfl rfl (zi (E.b0)) (sty rfl rfl (ze (k:=10) pT kT rfl rfl (zi (E.b7)) ?_)))))))
 obtain⟨G356,cC,hB359,cD,cE⟩:=(E.mv3).lend
 have aN:=DepO.rd cC
 have hsm363:((exR d (1+j) g (zq d g) ((m:Nat):Int) 0 c).1.deps).length*8≤140737488355328:=aN.small
 obtain⟨G365,cF,cG,cH,cI⟩:=(cD.mv3).lend
 have aO:=DepO.rd cF
 have hsm372:((exR d (1+j) g (zq d g) ((m:Nat):Int) 0 (⟨c.ctyp,c.cagg,c.cfield,c.cop,c.carg, -1,c.ckey⟩:Cmd)).1.deps).length*8≤140737488355328:=aO.small
 refine sty rfl rfl (cL kR (xw (a:=(exR d (1+j) g (zq d g) ((m:Nat):Int) 0 c).1) (b:=(exR d (1+j) g (zq d g) ((m:Nat):Int) 0 (⟨c.ctyp,c.cagg,c.cfield,c.cop,c.carg, -1,c.ckey⟩:Cmd)).1) (zk aN cG) (ZT oc om dc O om) aO (ZT S om dc O om) cH) ?_)
 rintro _ w373 ⟨rfl,cJ⟩
 have cK:=cI _ _ cJ
 have cM:=cE _ _ cK
 have bj:(decide (((exR d (1+j) g (zq d g) ((m:Nat):Int) 0 c).1)=((exR d (1+j) g (zq d g) ((m:Nat):Int) 0 (⟨c.ctyp,c.cagg,c.cfield,c.cop,c.carg, -1,c.ckey⟩:Cmd)).1)))=true:=(by rw[bg];exact decide_eq_true rfl)
 rw[bj]
 refine st (yc (v:=.bool true) rfl rfl (st (mV (.bool true) (sty rfl rfl (cL sT (xf hKN cM) ?_)))))
 rintro _ w378 ⟨rfl,cN⟩
 refine st (yc (v:=.bool true) rfl rfl (st (aS (.bool true) (zb (zo (zN nR (show _=(.bool true:Value)from rfl) ?_))))))
 refine⟨rfl,(cN.s15_)⟩
 have Y:=T
 try simp only[zh]at T
 obtain⟨dO,dP⟩:=(dd bf).1 (by have N:=Y;simp only[Bool.or_eq_true,Bool.and_eq_true,decide_eq_true_eq]at N;rcases N with(N|N)|N;exact .inl N;exact .inr (.inl N);exact .inr (.inr N))
 refine zg rfl (za (zy kr (st (mV (Iv ((exR d (1+j) g (zq d g) ((m:Nat):Int) 0 c).2.2)) (st (zR (k:=.i64) (a:=(exR d (1+j) g (zq d g) ((m:Nat):Int) 0 c).2.2) (b:=11) rfl rfl ?_))))))
 have bk:(decide (((exR d (1+j) g (zq d g) ((m:Nat):Int) 0 c).2.2)=11))=true:=decide_eq_true dO
 rw[bk]
 refine st (mV (.bool true) (sty rfl rfl (mV (.bool ((exR d (1+j) g (zq d g) ((m:Nat):Int) 0 c).2.1)) (sty rfl rfl (yw (a:=(exR d (1+j) g (zq d g) ((m:Nat):Int) 0 c).2.1) rfl ?_)))))
 have bl:(!((exR d (1+j) g (zq d g) ((m:Nat):Int) 0 c).2.1))=true:=(by rw[dP];rfl)
 rw[bl]
 refine st (yc (v:=.bool true) rfl rfl (st (mV (.bool true) (sty rfl rfl (cL sT (xf hKN E) ?_)))))
 rintro _ w383 ⟨rfl,cO⟩
 refine st (yc (v:=.bool true) rfl rfl (st (aS (.bool true) (zb (zo (zN nR (show _=(.bool true:Value)from rfl) ?_))))))
 refine⟨rfl,(cO.s15_)⟩
 have K:=tD K
 have bm:=dN K
 refine zg rfl (za (zy kr (st (mV (.bool ((exR d (1+j) g (zq d g) ((m:Nat):Int) 0 c).2.1)) (st (mV (.bool ((exR d (1+j) g (zq d g) ((m:Nat):Int) 0 (⟨c.ctyp,c.cagg,c.cfield,c.cop,c.carg, -1,c.ckey⟩:Cmd)).2.1)) (st (Qi (a:=(exR d (1+j) g (zq d g) ((m:Nat):Int) 0 c).2.1) (b:=(exR d (1+j) g (zq d g) ((m:Nat):Int) 0 (⟨c.ctyp,c.cagg,c.cfield,c.cop,c.carg, -1,c.ckey⟩:Cmd)).2.1) vR rfl rfl ?_))))))))
 have bn:(((exR d (1+j) g (zq d g) ((m:Nat):Int) 0 c).2.1)== ((exR d (1+j) g (zq d g) ((m:Nat):Int) 0 (⟨c.ctyp,c.cagg,c.cfield,c.cop,c.carg, -1,c.ckey⟩:Cmd)).2.1))=true:=(by rw[bm];simp)
 rw[bn]
 refine st (mV (.bool true) (sty rfl rfl (mV (Iv ((exR d (1+j) g (zq d g) ((m:Nat):Int) 0 c).2.2)) (sty rfl rfl (mV (Iv ((exR d (1+j) g (zq d g) ((m:Nat):Int) 0 (⟨c.ctyp,c.cagg,c.cfield,c.cop,c.carg, -1,c.ckey⟩:Cmd)).2.2)) (sty rfl rfl (zR (k:=.i64) (a:=(exR d (1+j) g (zq d g) ((m:Nat):Int) 0 c).2.2) (b:=(exR d (1+j) g (zq d g) ((m:Nat):Int) 0 (⟨c.ctyp,c.cagg,c.cfield,c.cop,c.carg, -1,c.ckey⟩:Cmd)).2.2) rfl rfl ?_)))))))
 have bp:(decide (((exR d (1+j) g (zq d g) ((m:Nat):Int) 0 c).2.2)=((exR d (1+j) g (zq d g) ((m:Nat):Int) 0 (⟨c.ctyp,c.cagg,c.cfield,c.cop,c.carg, -1,c.ckey⟩:Cmd)).2.2)))=true:=(by rw[bm];exact decide_eq_true rfl)
 rw[bp]
 refine st (yc (v:=.bool true) rfl rfl (st (mV (.bool true) (sty rfl rfl (ze (k:=10) pT kT rfl rfl (zi (E.b0)) (sty rfl rfl (ze (k:=10) pT kT rfl rfl (zi (E.b7)) ?_)))))))
 obtain⟨G389,cP,hB392,cQ,cR⟩:=(E.mv3).lend
 have aP:=DepO.rd cP
 have hsm396:((exR d (1+j) g (zq d g) ((m:Nat):Int) 0 c).1.deps).length*8≤140737488355328:=aP.small
 obtain⟨G398,cS,cT,cU,cV⟩:=(cQ.mv3).lend
 have aQ:=DepO.rd cS
 have hsm405:((exR d (1+j) g (zq d g) ((m:Nat):Int) 0 (⟨c.ctyp,c.cagg,c.cfield,c.cop,c.carg, -1,c.ckey⟩:Cmd)).1.deps).length*8≤140737488355328:=aQ.small
 refine sty rfl rfl (cL kR (xw (a:=(exR d (1+j) g (zq d g) ((m:Nat):Int) 0 c).1) (b:=(exR d (1+j) g (zq d g) ((m:Nat):Int) 0 (⟨c.ctyp,c.cagg,c.cfield,c.cop,c.carg, -1,c.ckey⟩:Cmd)).1) (zk aP cT) (ZT oc om dc O om) aQ (ZT S om dc O om) cU) ?_)
 rintro _ w406 ⟨rfl,cW⟩
 have cX:=cV _ _ cW
 have cY:=cR _ _ cX
 have bq:(decide (((exR d (1+j) g (zq d g) ((m:Nat):Int) 0 c).1)=((exR d (1+j) g (zq d g) ((m:Nat):Int) 0 (⟨c.ctyp,c.cagg,c.cfield,c.cop,c.carg, -1,c.ckey⟩:Cmd)).1)))=true:=(by rw[bm];exact decide_eq_true rfl)
 rw[bq]
 refine st (yc (v:=.bool true) rfl rfl (st (mV (.bool true) (sty rfl rfl (cL sT (xf hKN cY) ?_)))))
 rintro _ w411 ⟨rfl,cZ⟩
 refine st (yc (v:=.bool true) rfl rfl (st (aS (.bool true) (zb (zo (zN nR (show _=(.bool true:Value)from rfl) ?_))))))
 refine⟨rfl,(cZ.s15_)⟩
 try simp only[zh]at ar
 refine zg rfl (za (R0 fun _=>st (cL sT (xf hKN aq) ?_)))
 rintro _ w414 ⟨rfl,da⟩
 refine st (aS (.bool true) (zb (zo (zN nR (show _=(.bool true:Value)from rfl) ?_))))
 refine⟨rfl,(da.s2_)⟩
end
section
open Go.Proofs Go.RowKit
section
variable {d:Dcl}{n:Nat}{L:List Ev}{V:List Ent}{o start lam:Int}{c:Cmd}
theorem zaD (hm:(exR d n L V o start c).2.1=true):xc d c=0∧(yP L c.ckey).isSome=false∧xy c ((yn (c.ctyp,c.cagg) V:Nat):Int)=0∧yN (xR d c.ctyp) (zM d (c.ctyp,c.cagg) V) c.cfield c.cop c.carg=0∧evN o (zw n L) (max (zP L) start)=0∧exR d n L V o start c=(evY c o (zw n L) (max (zP L) start),true,0):=by
 by_cases h:xc d c=0
 ·cases hk:(yP L c.ckey).isSome with
  |true=>rw[YO h hk]at hm;cases hm
  |false=>
   by_cases hx:xy c ((yn (c.ctyp,c.cagg) V:Nat):Int)=0
   ·by_cases h2:yN (xR d c.ctyp) (zM d (c.ctyp,c.cagg) V) c.cfield c.cop c.carg=0
    ·have h3:=VF (n:=n) (o:=o) (start:=start) h hk hx h2
     rw[h3]at hm
     have h4:=of_decide_eq_true hm
     refine⟨h,rfl,hx,h2,h4,?_⟩
     rw[h3,h4]
     unfold evE
     rw[if_pos h4]
     rfl
    ·rw[Vb h hk hx h2]at hm;cases hm
   ·rw[Vm h hk hx]at hm;cases hm
 ·rw[Xr h]at hm;cases hm
theorem Kb {v:List Int}(h:evN o v lam=0):0≤o∧o<v.length∧0≤lam∧yz v o≠9223372036854775807∧lam≠9223372036854775807:=by
 unfold evN at h
 split at h
 ·cases h
 rename_i h1
 split at h
 ·cases h
 rename_i h2
 simp only[Bool.or_eq_true,decide_eq_true_eq,not_or]at h1 h2
 exact⟨by omega,by omega,by omega,h2.1,h2.2⟩
theorem zcv {i:Nat}(h:i<n):yz (zw n L) (i:Int)=((ZD L i:Nat):Int):=by
 unfold yz
 rw[xM,if_neg (by omega),Int.toNat_natCast,Xd h]
 omega
theorem Qg {v:List Int}:(evY c o v lam).deps.length=v.length:=by
 show(yv v []).length=_
 rw[Xh]
 exact Nat.max_eq_left (Nat.zero_le _)
theorem Vj {i:Nat}(h:i<n):(evY c o (zw n L) lam).deps.getD i 0=((ZD L i:Nat):Int):=by
 show(yv (zw n L) []).getD i 0=_
 rw[WV (by rw[xM];exact Nat.lt_of_lt_of_le h (Nat.le_max_left ..)),zcv h]
 have:yz [] ((i:Nat):Int)=0:=by unfold yz;rw[if_pos (.inr (by simp))]
 omega
theorem zbn (h:xc d c=0):0≤c.cagg∧0≤c.ckey∧ -1≤c.expect:=by
 unfold xc at h
 split at h
 ·cases h
 rename_i h1
 simp only[Bool.or_eq_true,decide_eq_true_eq,not_or]at h1
 omega
theorem zbJ (hd:DclOk d)(h:xc d c=0)(hN:evN o (zw n L) lam=0):yE (evY c o (zw n L) lam) n=0:=by
 obtain⟨p1,p2,_⟩:=zbn h
 obtain⟨f1,f2,f3⟩:=ZM (YW h)
 obtain⟨e1,e2,e3,e4,e5⟩:=Kb hN
 rw[xM]at e2
 have hg:0≤yz (zw n L) o:=(WL o).1
 have hneg:Yp (evY c o (zw n L) lam).deps=false:=by
  rw[negL_iff]
  intro i hi
  rw[Qg,xM]at hi
  rw[Vj hi]
  omega
 have hty:=hd.few
 have hfl:=(hd.typ c.ctyp.toNat (by omega)).few
 have hlo:=f3.lo
 have hhi:=f3.hi
 have hop:1≤c.cop∧c.cop≤5:=by rcases f3.kind with h|h|h|h<;>omega
 unfold yE
 rw[hneg,Qg,xM]
 have hq:(evY c o (zw n L) lam).deps.getD o.toNat 0=yz (zw n L) o:=by
  rw[Vj (show o.toNat<n by omega),←zcv (show o.toNat<n by omega),show((o.toNat:Nat):Int)=o by omega]
 rw[if_neg,if_neg,if_neg,if_neg]
 ·simp only[Bool.or_eq_true,decide_eq_true_eq,not_or]
  show(¬min c.ctyp c.cfield<0∧ ¬8≤c.ctyp)∧ ¬8≤c.cfield
  omega
 ·simp only[Bool.or_eq_true,decide_eq_true_eq,not_or]
  show ¬c.cop<1∧ ¬5<c.cop
  omega
 ·show ¬(!decide ((evY c o (zw n L) lam).deps.getD o.toNat 0=yz (zw n L) o+1-1))=true
  rw[hq,decide_eq_true (show yz (zw n L) o=yz (zw n L) o+1-1 by generalize yz (zw n L) o=z;omega)]
  decide
 ·simp only[Bool.or_eq_true,decide_eq_true_eq,not_or,Bool.not_eq_true',decide_eq_false_iff_not,Bool.false_eq_true,not_false_eq_true,not_true_eq_false,and_true,Decidable.not_not]
  show((¬o<0∧ ¬((n:Nat):Int)≤o)∧ ¬min (yz (zw n L) o+1) (lam+1)<1)∧ ¬min c.cagg c.ckey<0
  refine⟨⟨⟨by omega,by omega⟩,by omega⟩,by omega⟩
theorem Ja: ∀{L:List Ev} {x:Ev},x∈L→x.lam≤zP L
 |y::L,x,h=>by
  show _≤max (zP L) y.lam
  rcases List.mem_cons.1 h with rfl|h
  ·omega
  ·have:=Ja h;omega
theorem QZ {e:Ev}: ∀{L:List Ev},(∀x∈L,x.lam<e.lam)→xE e L=L++[e]
 |[],_=>rfl
 |y::L,h=>by
  have h1:=h y (List.mem_cons_self ..)
  show(if ltE e y=true then _ else _)=_
  rw[if_neg,QZ (fun x hx=>h x (List.mem_cons_of_mem _ hx)),List.cons_append]
  rw[UZ,Zi]
  omega
theorem Good.low (h:Good n L){x:Ev}(hx:x∈L){i:Nat}(hi:i<n):x.deps.getD i 0≤((ZD L i:Nat):Int):=by
 have hk:=h.knw x hx i hi
 rw[WI]at hk
 rcases hk with hk|⟨z,hz,_,_⟩
 ·omega
 ·obtain⟨h1,h2,h3⟩:=XD hz
  have:=h.seqle z h1
  rw[h2,h3]at this
  simpa using this
theorem zcN (hG:Good n L)(hd:DclOk d)(h:xc d c=0)(hN:evN o (zw n L) (max (zP L) start)=0):ZE n L (evY c o (zw n L) (max (zP L) start))=0:=by
 obtain⟨e1,e2,e3,e4,e5⟩:=Kb hN
 rw[xM]at e2
 obtain⟨q,rfl⟩: ∃q:Nat,o=q:=⟨o.toNat,by omega⟩
 have hq:q<n:=by omega
 have hv:=zcv (L:=L) hq
 refine Vu (zbJ hd h hN) ?_ ?_ fun i hi=>?_
 ·show(yp L ((q:Int),yz (zw n L) q+1)).isSome=false
  rw[hv]
  cases hb:(yp L ((q:Int),((ZD L q:Nat):Int)+1)).isSome with
  |false=>rfl
  |true=>
   obtain⟨x,_,hx,hid⟩:=UB hb
   have h1:x.origin=q:=congrArg Prod.fst hid
   have h2:x.seq=((ZD L q:Nat):Int)+1:=congrArg Prod.snd hid
   have:=hG.seqle x hx
   rw[h1]at this
   simp only[Int.toNat_natCast]at this
   omega
 ·show yz (zw n L) q+1=((ZD L ((q:Int)).toNat:Nat):Int)+1
  rw[hv]
  simp
 ·rw[WI,Vj hi]
  by_cases h0:((ZD L i:Nat):Int)=0
  ·exact .inl h0
  ·obtain⟨x,hx,hxm,hid⟩:=UB (hG.fill i ((ZD L i:Nat):Int) (by omega) (Int.le_refl _))
   refine .inr ⟨x,hx,?_,fun j hj=>?_⟩
   ·have:=Ja hxm
    show x.lam<max (zP L) start+1
    omega
   ·have hj':j<n:=by rw[hG.len x hxm]at hj;exact hj
    rw[Vj hj']
    exact hG.low hxm hj'
theorem zek {l:List Ev}: ∀x∈zq d l,x.ev∈l:=by
 induction l using Yr with
 |h0=>exact fun x hx=>absurd hx List.not_mem_nil
 |h1 l e ih=>
  intro x hx
  rw[xT]at hx
  rcases List.mem_append.1 hx with h|h
  ·exact List.mem_append_left _ (ih x h)
  ·rw[List.mem_singleton.1 h];exact List.mem_append_right _ (List.mem_singleton.2 rfl)
theorem zdh (hG:Good n L)(hV:V=zq d L)(h:xc d c=0)(hm:yN (xR d c.ctyp) (zM d (c.ctyp,c.cagg) V) c.cfield c.cop c.carg=0):ye d V (evY c o (zw n L) lam)=(false,0,0):=by
 have hf:xb d c.ctyp c.cfield c.cop c.carg=0:=YW h
 unfold ye
 rw[if_neg (fun h9=>h9 hf),List.find?_eq_none.2 fun x hx=>?_]
 ·exact if_neg (fun h9=>h9 hm)
 ·unfold yG at hx
  obtain⟨y,hy,rfl⟩:=List.mem_map.1 hx
  have hyL:y.ev∈L:=zek y (hV▸(List.mem_filter.1 hy).1)
  have ho:=hG.org hyL
  have hlt:y.ev.origin.toNat<n:=by have:=(Zq (hG.chk _ hyL)).1;omega
  have hb:ZR y.ev (evY c o (zw n L) lam)=true:=by
   unfold ZR
   rw[decide_eq_true_eq]
   have h1:=hG.seqle _ hyL
   unfold yz
   rw[Qg,xM,if_neg (by omega),Vj hlt]
   omega
  unfold xt xZ
  rw[hb]
  simp
theorem zcp {e:Ev}{key:Int}(hn:(yP L key).isSome=false)(h0:key≠0)(h1:e.key=key):yP (L++[e]) key=some e:=by
 unfold yP at hn⊢
 rw[List.find?_append,show L.find? (ZK key)=none from Option.not_isSome_iff_eq_none.1 (by rw[hn];decide)]
 have:ZK key e=true:=by unfold ZK;rw[decide_eq_false h0,decide_eq_true h1];rfl
 simp[this]
theorem zaS {e:Ev}(hG:Good n L)(hd:DclOk d)(hm:(exR d n L (zq d L) o start c).2.1=true)(he:(exR d n L (zq d L) o start c).1=e):(0≤c.ctyp∧c.ctyp<d.types.length∧Fits (d.types.getD c.ctyp.toNat default) c.cfield c.cop c.carg)∧xy c ((yn (c.ctyp,c.cagg) (zq d L):Nat):Int)=0∧ZE n L e=0∧addL n L e=L++[e]∧(yI d (zq d L) e).void=false∧start<e.lam∧e.origin=o∧
 yn (c.ctyp,c.cagg) (zq d (L++[e]))=yn (c.ctyp,c.cagg) (zq d L)+1∧zM d (c.ctyp,c.cagg) (zq d (L++[e]))=doL (xR d c.ctyp) (zM d (c.ctyp,c.cagg) (zq d L)) c.cfield c.cop c.carg∧Good n (L++[e])∧
 (¬c.ckey=0→exR d n (L++[e]) (zq d (L++[e])) o start c=(e,false,0)):=by
 obtain⟨h1,h2,h3,h4,h5,h6⟩:=zaD hm
 have hadd:=zcN (start:=start) hG hd h1 h5
 rw[h6]at he
 replace he:evY c o (zw n L) (max (zP L) start)=e:=he
 have hent:yI d (zq d L) e=⟨e,false,0,0⟩:=by
  unfold yI
  rw[←he,zdh hG rfl h1 h4]
 have hon:onL (c.ctyp,c.cagg) (⟨e,false,0,0⟩:Ent)=true:=by
  rw[←he]
  unfold onL
  show(!false&&decide (c.ctyp=c.ctyp∧c.cagg=c.cagg))=true
  simp
 rw[he]at hadd
 have hL:addL n L e=L++[e]:=by
  unfold addL
  rw[if_pos hadd]
  refine QZ fun x hx=>?_
  have:=Ja hx
  rw[←he]
  show x.lam<max (zP L) start+1
  omega
 refine⟨ZM (YW h1),h3,hadd,hL,by rw[hent],?_,by rw[←he];rfl,?_,?_,hL▸hG.addL,fun h7=>?_⟩
 ·rw[←he]
  show start<max (zP L) start+1
  omega
 ·rw[xT,hent,Zw,if_pos hon]
 ·rw[xT,hent,xX,if_pos hon,←he]
  rfl
 ·have hk:=zcp (e:=e) h2 h7 (by rw[←he];rfl)
  rw[YO h1 (by rw[hk];rfl),hk]
  rfl
theorem zcd (h: ¬((exR d n L V o start c).2.2=0∧(exR d n L V o start c).2.1=true)): ¬(exR d n L V o start c).2.2=0∨ ¬c.ckey=0∧(exR d n L V o start c).1.key=c.ckey:=by
 by_cases h1:xc d c=0
 ·cases hk:(yP L c.ckey).isSome with
  |true=>
   obtain⟨e,he⟩:=Option.isSome_iff_exists.1 hk
   have h2:=List.find?_some he
   rw[YO h1 hk,he]
   unfold ZK at h2
   simp only[Bool.and_eq_true,Bool.not_eq_true',decide_eq_false_iff_not,decide_eq_true_eq]at h2
   exact .inr h2
  |false=>
   by_cases hx:xy c ((yn (c.ctyp,c.cagg) V:Nat):Int)=0
   ·by_cases h2:yN (xR d c.ctyp) (zM d (c.ctyp,c.cagg) V) c.cfield c.cop c.carg=0
    ·rw[VF h1 hk hx h2]at h⊢
     exact .inl fun h9=>h ⟨h9,decide_eq_true h9⟩
    ·rw[Vb h1 hk hx h2];exact .inl h2
   ·rw[Vm h1 hk hx];exact .inl hx
 ·rw[Xr h1];exact .inl h1
theorem zbV {v:Int}(h:xy c v=0):(!decide (c.expect= -1)&& !decide (c.expect=v))=false:=by
 unfold xy at h
 split at h
 ·rename_i h1
  rw[Bool.or_eq_true]at h1
  rcases h1 with h1|h1<;>rw[h1]<;>simp
 ·cases h
end
end
section
open Go.Proofs Go.RowKit
set_option maxHeartbeats 8000000 in
theorem QT {d:Dcl}{dd0:Value}(hdd0:RdS W G dd0 d.types){dd1:Value}(hdd1:RdS W G dd1 d.projs)(od:d.Ok){n:Int}(hn:InR n){vl:Value}{l:List Ev}(hl:RdS W G vl l){o:Int}(ho:InR o){start:Int}(hstart:InR start){c:Cmd}(oc:c.Ok)(hKN:RdS W G (.slice (some ⟨0,0,none⟩) 6 6) kindsL)(hS0:Sep G W Rs w):Ret Tryz.prog 22 [.agg (d.cells dd0 dd1).toArray,.int .i64 (n),vl,.int .i64 (o),.int .i64 (start),.agg (c.cells).toArray] w (fun r w'=>r=(.bool true:Value)∧Sep G W Rs w'):=by
 have hdd0s:_*24≤_:=hdd0.small
 have hdd1s:_*40≤_:=hdd1.small
 have hls:_*96≤_:=hl.small
 have hKNs:_*8≤_:=hKN.small
 refine zm (args:=[.agg (d.cells dd0 dd1).toArray,Iv n,vl,Iv o,Iv start,.agg (c.cells).toArray]) Tryz.func22 rfl rfl ?_
 refine za (R0 fun _=>st (zT (v:=.agg (d.cells dd0 dd1).toArray) rfl ?_))
 intro w3 b2 gG
 let gM:=Blk b2 (d.cells dd0 dd1).toArray 25
 refine st (zT (v:=.agg (c.cells).toArray) rfl ?_)
 intro w7 K gH
 let gP:=Blk K (c.cells).toArray 49
 have ga:=(hS0.new gG).new gH
 refine st (aS (.bool false) (zb (za (za (R0 fun _=>st (ze (k:=2) nT mT rfl rfl (zi (ga.b1)) (st (cL wR (Ww (d:=d) hdd0 hdd1 od ga) ?_))))))))
 rintro _ w11 ⟨b9,rfl,gj,cu⟩
 refine st (yw (a:=b9) rfl (zb ?_))
 cases aB: !b9
 have hc13r:=aB
 try simp only[zh]at aB
 have Y:=gj (by simpa using aB)
 refine zf rfl (zp (za (R0 fun _=>st (mV (Iv n) ?_))))
 refine st (cL lR (YM (x:=n) (n:=64) hn yqe cu) ?_)
 rintro _ w16 ⟨m,rfl,hq15,gk⟩
 have cv:InR ((1+m:Nat):Int):=bo
 refine st (zU (r:=((1+m:Nat):Int)) (k:=.i64) (a:=1) (b:=((m:Nat):Int)) rfl rfl (by rw[show(1+((m:Nat):Int):Int)=((1+m:Nat):Int)from bo];exact zJ cv) (st (aS (Iw (1+m)) (zb (za (yy (by kernel_rfl) (fun _=>(st (mV (Iw (1+m)) (st (mV vl (st (cL kY (XJ (n:=((1+m:Nat):Int)) (l:=l) (vl:=vl) cv hl gk) ?_)))))))))))))
 rintro ad w23 ⟨_,X,rfl,en,hft22,cw⟩
 have gl:=cw.r0
 have hr25s:_*96≤_:=gl.2
 refine st (aS ad (zb (za (R0 fun _=>st (mV (Iv o) (st (mV (Iw (1+m)) ?_)))))))
 refine st (cL lR (YM (x:=o) (n:=1+m) ho yqe cw) ?_)
 rintro _ w28 ⟨p,rfl,hq27,cx⟩
 refine st (aS (Iw p) (zb (za (R0 fun _=>st (ze (k:=2) nT mT rfl rfl (zi (cx.b2)) (st (mV (Iw (1+m)) (st (mV ad ?_)))))))))
 obtain⟨G30,gm,aC,gn,go⟩:=cx.lend
 have bx:=RowE.rdB gm aC
 have hrd36s:_*96≤_:=bx.small
 refine st (cL qR (Xc (d:=d) (n:=1+m) (l:=X) (vl:=ad) (zk hdd0 aC) (zk hdd1 aC) od yqe bx (zk hKN aC) gn (Y.1) om) ?_)
 rintro _ gJ ⟨s,q,rfl,gp⟩
 have bl:=go _ _ gp
 refine st (mV (.tuple #[Ix s 0,Ix q 0]) (st (zl (vs:=[Ix s 0,Ix q 0]) (i:=0) (v:=Ix s 0) rfl rfl (st (zl (vs:=[Ix s 0,Ix q 0]) (i:=1) (v:=Ix q 0) rfl rfl (st (aS (Ix s 0) (st (aS (Ix q 0) (zb (za (za ?_))))))))))))
 obtain⟨g,cy⟩: ∃z,(yX (1+m) X)=z:=⟨_,rfl⟩
 let gS:=ViewO q d (zq d g) (zq d g)
 have aU:Good (1+m) g:=by rw[←cy];exact laidL_good
 have hLl9:g.length≤60:=by rw[←cy];exact Nat.le_trans Zm en
 try simp+zetaDelta only at bl
 rw[cy]at bl
 have aD:Sep G W ((RowE (α:=Ev) (shr G W) 44 ad X)::(SetO s (1+m) g)::gS::gP::gM::Rs) gJ:=bl
 have bm: ∀e∈g,e.Ok:=(aD).setOks (i:=1) rfl aU.ids
 have htp9:=XN bm
 have hrl9:=xH d g
 refine zy kr (st (mV (Ix s 0) (st (xx (b:=s) (o:=0) rR rfl (st (mV (.bool false) (sty rfl rfl (mV (Ix q 0) (sty rfl rfl (xx (b:=q) (o:=0) sR rfl (st (yb (v:=.bool false) rfl rfl (zb (zf rfl (zp (za (R0 fun _=>st (ze (k:=2) nT mT rfl rfl (zi (aD.b4)) (st (mV (Ix s 0) (st (mV (Ix q 0) (st (mV (Iw p) (st (mV (Iv start) (st (ze (k:=7) rT oT rfl rfl (zi (aD.b3)) ?_))))))))))))))))))))))))))))
 obtain⟨G44,cz,bn,gq,gr⟩:=(aD.mv1).lend
 obtain⟨vv50,m51,R52,hb53,gs,hr55⟩:=SetO.sh cz
 have hsm56:(zw (1+m) g).length*8≤140737488355328:=gs.small
 refine st (cL uT (xU (d:=d) (o:=((p:Nat):Int)) (start:=start) (c:=c) (zk hdd0 bn) (zk hdd1 bn) od cz om hstart oc (zk hKN bn) (gq.mv1) (Y.1) ((Inv.run Y.1 _)) om (aU.ids) (aU.srt) om om) ?_)
 rintro _ w59 ⟨u,rfl,gt⟩
 let gF:=((exR d (1+m) g (zq d g) ((p:Nat):Int) start c).1.cells u)
 have gu:=gr _ _ gt
 refine st (mV (.tuple #[.agg gF.toArray,.bool ((exR d (1+m) g (zq d g) ((p:Nat):Int) start c).2.1),Iv ((exR d (1+m) g (zq d g) ((p:Nat):Int) start c).2.2)]) (st (zl (vs:=[.agg gF.toArray,.bool ((exR d (1+m) g (zq d g) ((p:Nat):Int) start c).2.1),Iv ((exR d (1+m) g (zq d g) ((p:Nat):Int) start c).2.2)]) (i:=0) (v:=.agg gF.toArray) rfl rfl (st (zl (vs:=[.agg gF.toArray,.bool ((exR d (1+m) g (zq d g) ((p:Nat):Int) start c).2.1),Iv ((exR d (1+m) g (zq d g) ((p:Nat):Int) start c).2.2)]) (i:=1) (v:=.bool ((exR d (1+m) g (zq d g) ((p:Nat):Int) start c).2.1)) rfl rfl ?_)))))
 refine st (zl (vs:=[.agg gF.toArray,.bool ((exR d (1+m) g (zq d g) ((p:Nat):Int) start c).2.1),Iv ((exR d (1+m) g (zq d g) ((p:Nat):Int) start c).2.2)]) (i:=2) (v:=Iv ((exR d (1+m) g (zq d g) ((p:Nat):Int) start c).2.2)) rfl rfl (st (zv qT ?_)))
 intro w64 O gv
 have bp:=gu.new gv
 refine stn (zr (v:=.agg gF.toArray) (c':=gF.toArray) kT rfl rfl (bp.b0) (zZ ⟨rfl,rfl,rfl,(bp.depSl (i:=3) rfl).one,rfl,rfl,rfl,rfl,rfl,rfl,zj⟩) yqc rfl ?_)
 intro gK gw
 have bq:=bp.pt0 gw
 refine st (aS (.bool ((exR d (1+m) g (zq d g) ((p:Nat):Int) start c).2.1)) (st (aS (Iv ((exR d (1+m) g (zq d g) ((p:Nat):Int) start c).2.2)) (zb (za (za ?_))))))
 have ao:Ev.Ok (exR d (1+m) g (zq d g) ((p:Nat):Int) start c).1:=ZT oc om om bm om
 obtain⟨j,cC⟩: ∃z,(exR d (1+m) g (zq d g) ((p:Nat):Int) start c).1=z:=⟨_,rfl⟩
 let gR:=ViewO q d (zq d (g++[j])) (zq d (g++[j]))
 let gQ:=Blk O (j.cells u).toArray 44
 try simp+zetaDelta only at bq
 rw[cC]at bq ao
 have ae:Sep G W (gQ::(SetO s (1+m) g)::gS::(DepO u j.deps)::(RowE (α:=Ev) (shr G W) 44 ad X)::gP::gM::Rs) gK:=bq
 refine zy kr (st (mV (Iv ((exR d (1+m) g (zq d g) ((p:Nat):Int) start c).2.2)) (st (yj (k:=.i64) (a:=(exR d (1+m) g (zq d g) ((p:Nat):Int) start c).2.2) (b:=0) rfl rfl (st (mV (.bool (!decide (((exR d (1+m) g (zq d g) ((p:Nat):Int) start c).2.2)=0))) (stc (V:=.bool ((exR d (1+m) g (zq d g) ((p:Nat):Int) start c).2.1)) rfl rfl (fun gx=>?_) ?_)))))))
 have hl71:=zB gx
 exact mV (.bool ((exR d (1+m) g (zq d g) ((p:Nat):Int) start c).2.1)) rflB
 refine stc (V:=.bool (!((exR d (1+m) g (zq d g) ((p:Nat):Int) start c).2.1))) rfl rfl (fun cD=>?_) ?_
 have hl73:=zB cD
 exact yw (a:=(exR d (1+m) g (zq d g) ((p:Nat):Int) start c).2.1) (ifpC cD) rflB
 refine st (zz (b:= !decide (((exR d (1+m) g (zq d g) ((p:Nat):Int) start c).2.2)=0)) (b':= !((exR d (1+m) g (zq d g) ((p:Nat):Int) start c).2.1)) rfl (fun hbp=>(ifpC hbp)) (zb ?_))
 cases aE:(!decide (((exR d (1+m) g (zq d g) ((p:Nat):Int) start c).2.2)=0))||(!((exR d (1+m) g (zq d g) ((p:Nat):Int) start c).2.1))
 have aF:=aE
 try simp only[zh]at aE
 have hmz:(exR d (1+m) g (zq d g) ((p:Nat):Int) start c).2.2=0∧(exR d (1+m) g (zq d g) ((p:Nat):Int) start c).2.1=true:=by have Z:=aF;rw[Bool.or_eq_false_iff]at Z;exact⟨by simpa using Z.1,by simpa using Z.2⟩
 obtain⟨hfz,hxz,haz,hlz,hvz,hsz,hoz,hrz,hcz,bz,hkz⟩:=zaS aU Y.1 hmz.2 cC
 refine zf rfl (zp (za (R0 fun _=>st (mV (Ix q 0) (st (Zu rfl (st (lD (Iv (c.ctyp)) lT rfl (zd (ae.b5) rfl) (st (YB rfl (st (lD (Iv (c.cagg)) lT rfl (zd (ae.b5) rfl) (st (cL tR (Wt (ty:=c.ctyp) (no:=c.cagg) oc.ctyp oc.cagg (ae.mv2)) ?_))))))))))))))
 rintro _ w77 ⟨am,rfl,cE⟩
 let gO:=(yR d (c.ctyp,c.cagg) (zq d g)).cells am
 have cF:=cE.r1
 have hr79s:_*32≤_:=cF.2
 refine st (mV (.tuple #[.agg gO.toArray,.bool ((zt d (zq d g) (c.ctyp,c.cagg)).isSome)]) (st (zl (vs:=[.agg gO.toArray,.bool ((zt d (zq d g) (c.ctyp,c.cagg)).isSome)]) (i:=0) (v:=.agg gO.toArray) rfl rfl (st (zl (vs:=[.agg gO.toArray,.bool ((zt d (zq d g) (c.ctyp,c.cagg)).isSome)]) (i:=1) (v:=.bool ((zt d (zq d g) (c.ctyp,c.cagg)).isSome)) rfl rfl (st (zv uR ?_)))))))
 intro w82 R gy
 have cG:=cE.new gy
 refine stn (zr (v:=.agg gO.toArray) (c':=gO.toArray) mR rfl rfl (cG.b0) (zZ ⟨rfl,cF.1.one,zj⟩) yqc rfl ?_)
 intro w84 gz
 have af:=cG.pt0 gz
 refine st (aS (.bool ((zt d (zq d g) (c.ctyp,c.cagg)).isSome)) (zb (za (za (R0 fun _=>st (mV (.bool ((zt d (zq d g) (c.ctyp,c.cagg)).isSome)) (st (yw (a:=(zt d (zq d g) (c.ctyp,c.cagg)).isSome) rfl (zb (WC (fun σ wq=> ∃(F:Value) (ρ:Env),σ=yo ρ [(3,Iw p),(4,Iv start),(6,Ix b2 0),(11,Ix K 0),(12,.bool false),(13,Ix s 0),(14,Ix q 0),(15,Ix O 0),(18,Ix R 0),(19,.bool ((zt d (zq d g) (c.ctyp,c.cagg)).isSome))]∧Sep G W ((Blk R ((xq d (c.ctyp,c.cagg) (zq d g)).cells F).toArray 77)::gS::(RowE (α:=Cel) own 140 F (zM d (c.ctyp,c.cagg) (zq d g)))::gQ::(SetO s (1+m) g)::(DepO u j.deps)::(RowE (α:=Ev) (shr G W) 44 ad X)::gP::gM::Rs) wq) ?_ ?_))))))))))
 cases aH: !((zt d (zq d g) (c.ctyp,c.cagg)).isSome)
 try simp only[zh]at aH
 refine zf rfl (zp ?_)
 have br:(stL d (c.ctyp,c.cagg) (zq d g))=zM d (c.ctyp,c.cagg) (zq d g):=WB (by simpa using aH)
 try simp+zetaDelta only at af
 rw[br]at af
 exact⟨rfl,am,_,yZ ⟨(show _=(Iw p:Value)from rfl),(show _=(Iv start:Value)from rfl),(show _=(Ix b2 0:Value)from rfl),(show _=(Ix K 0:Value)from rfl),(show _=(.bool false:Value)from rfl),(show _=(Ix s 0:Value)from rfl),(show _=(Ix q 0:Value)from rfl),(show _=(Ix O 0:Value)from rfl),(show _=(Ix R 0:Value)from rfl),(show _=(.bool ((zt d (zq d g) (c.ctyp,c.cagg)).isSome):Value)from rfl),zj⟩,af⟩
 try simp only[zh]at aH
 refine zg rfl (R0 fun _=>st (yJ rfl (st (lD dd0 lY rfl (zd (af.b8) rfl) (st (Zu rfl (st (lD (Iv (c.ctyp)) lT rfl (zd (af.b7) rfl) ?_))))))))
 have hi88:c.ctyp.toNat<d.types.length:=bo
 refine st (zA (k:=1) (i:=c.ctyp) mY oR rfl hdd0.sl rfl ⟨by omega,by omega⟩ ?_)
 have cH:c.ctyp.toNat<d.types.length:=bo
 obtain⟨eo,ax,cI⟩:=hdd0.typD cH
 have hsm91:((d.types.getD c.ctyp.toNat default).fields).length*48≤140737488355328:=ax.small
 have er:=af.cells eo (hdd0.foot (ne_of_lt cH))
 refine st (ze (k:=1) nY oR rfl rfl er (st (cL Tryz.call37 (zbT (t:=(d.types.getD c.ctyp.toNat default)) ax cI af) ?_)))
 rintro cJ w94 ⟨_,rfl,bs⟩
 have cK:=bs.r0
 have hr96s:_*32≤_:=cK.2
 refine st (xu rfl (stn (yr (v:=cJ) (c:=[Iv ((yR d (c.ctyp,c.cagg) (zq d g)).ver),am]) (c':=[Iv ((yR d (c.ctyp,c.cagg) (zq d g)).ver),cJ]) Tryz.sizeOf75 rfl rfl (bs.b1) cK.1.one rfl rfl ?_)))
 intro w97 gA
 have ok99:Sta.Ok (⟨(yR d (c.ctyp,c.cagg) (zq d g)).ver,List.replicate (d.types.getD c.ctyp.toNat default).fields.length (⟨0,[]⟩:Cel)⟩:Sta):=⟨(show InR ((yR d (c.ctyp,c.cagg) (zq d g)).ver)from(⟨(show InR ((yn (c.ctyp,c.cagg) (zq d g):Nat):Int)from by have Z:=ZJ (c.ctyp,c.cagg) (zq d g);rw[xH]at Z;omega)⟩:Sta.Ok (yR d (c.ctyp,c.cagg) (zq d g))).ver)⟩
 have aI:=bs.pt1 gA
 refine zb ?_
 have br:(List.replicate (d.types.getD c.ctyp.toNat default).fields.length (⟨0,[]⟩:Cel))=zM d (c.ctyp,c.cagg) (zq d g):=(WH (d:=d) (k:=(c.ctyp,c.cagg)) (L:=(zq d g)) (XQ (by simpa using aH))).symm
 try simp+zetaDelta only at aI
 rw[br]at aI
 exact⟨rfl,cJ,_,yZ ⟨(show _=(Iw p:Value)from rfl),(show _=(Iv start:Value)from rfl),(show _=(Ix b2 0:Value)from rfl),(show _=(Ix K 0:Value)from rfl),(show _=(.bool false:Value)from rfl),(show _=(Ix s 0:Value)from rfl),(show _=(Ix q 0:Value)from rfl),(show _=(Ix O 0:Value)from rfl),(show _=(Ix R 0:Value)from rfl),(show _=(.bool ((zt d (zq d g) (c.ctyp,c.cagg)).isSome):Value)from rfl),zj⟩,((aI.s10_abcefghij).s9_bcadefghi)⟩
 rintro _ w103 ⟨F,ρj1,rfl,ah⟩
 let gI:=Blk R ((xq d (c.ctyp,c.cagg) (zq d g)).cells F).toArray 77
 refine za (za (zy kr (st (Zk rfl (st (lD (Iv (c.expect)) lT rfl (zd (ah.b7) rfl) (st (yj (k:=.i64) (a:=c.expect) (b:= -1) rfl rfl (st (mV (.bool (!decide (c.expect=(-1)))) (stc (V:=Ix K 5) rfl rfl (fun es=>?_) ?_)))))))))))
 have hl106:=zC es
 exact Zk rfl rflB
 refine stc (V:=Iv (c.expect)) rfl rfl (fun bA=>?_) ?_
 have hl108:=zC bA
 exact lD (Iv (c.expect)) lT (ifpC bA) (zd (ah.b7) rfl) rflB
 refine stc (V:=Ix R 0) rfl rfl (fun et=>?_) ?_
 have hl110:=zC et
 exact Zr rfl rflB
 refine stc (V:=Iv ((xq d (c.ctyp,c.cagg) (zq d g)).ver)) rfl rfl (fun bB=>?_) ?_
 have hl112:=zC bB
 exact lD (Iv ((xq d (c.ctyp,c.cagg) (zq d g)).ver)) lT (ifpC bB) (zd (ah.b0) rfl) rflB
 refine stc (V:=.bool (!decide (c.expect=((xq d (c.ctyp,c.cagg) (zq d g)).ver)))) rfl rfl (fun aJ=>?_) ?_
 have hl114:=zC aJ
 exact yj (k:=.i64) (a:=c.expect) (b:=(xq d (c.ctyp,c.cagg) (zq d g)).ver) (ifpC aJ) (ifpC aJ) rflB
 refine st (zF (b:= !decide (c.expect=(-1))) (b':= !decide (c.expect=((xq d (c.ctyp,c.cagg) (zq d g)).ver))) rfl (fun hbp=>(ifpC hbp)) ?_)
 have cM:((!decide (c.expect=(-1)))&&(!decide (c.expect=((xq d (c.ctyp,c.cagg) (zq d g)).ver))))=false:=(zbV hxz)
 rw[cM]
 refine st (mV (.bool false) (sty rfl rfl (mV (Ix s 0) (sty rfl rfl (ze (k:=10) pT kT rfl rfl (zi (ah.b3)) ?_)))))
 obtain⟨G117,eu,hB120,ew,ex⟩:=(ah.mv5).lend
 have bC:=DepO.rd eu
 have hsm124:j.deps.length*8≤140737488355328:=bC.small
 refine sty rfl rfl (cL Tryz.call29 (zbN (e:=j) bC ao (ew.mv4) om (aU.len)) ?_)
 rintro _ gB ⟨L1126,rfl,cN,ey⟩
 have aK:=ex _ _ ey
 refine sty rfl rfl (yj (k:=.i64) (a:=(ZE (1+m) g j)) (b:=0) rfl rfl ?_)
 have cO:(!decide ((ZE (1+m) g j)=0))=false:=(by rw[haz];rfl)
 rw[cO]
 refine st (yb (v:=.bool false) rfl rfl (zb (zf rfl (zp (za ?_)))))
 try simp+zetaDelta only at aK
 rw[cN,hlz]at aK
 have ez:Sep G W ((DepO u j.deps)::(SetO s (1+m) (g++[j]))::gI::gS::(RowE (α:=Cel) own 140 F (zM d (c.ctyp,c.cagg) (zq d g)))::gQ::(RowE (α:=Ev) (shr G W) 44 ad X)::gP::gM::Rs) gB:=aK
 have hLl10:(g++[j]).length=g.length+1:=by rw[List.length_append];rfl
 have eA: ∀e∈g++[j],e.Ok:=fun e he=>by rcases List.mem_append.1 he with Z|Z;exact bm e Z;rw[List.mem_singleton.1 Z];exact ao
 have htp10:=XN eA
 have hrl10:=xH d (g++[j])
 have cP:(zt d (zq d (g++[j])) (c.ctyp,c.cagg)).isSome=true:=by unfold zt;rw[hrz,ifnC (Nat.succ_ne_zero _)];rfl
 have gC:(xq d (c.ctyp,c.cagg) (zq d g)).ver=((yn (c.ctyp,c.cagg) (zq d g):Nat):Int):=rfl
 have hvl9:=ZJ (c.ctyp,c.cagg) (zq d g)
 have eB:(yR d (c.ctyp,c.cagg) (zq d (g++[j]))).ver=((yn (c.ctyp,c.cagg) (zq d (g++[j])):Nat):Int):=rfl
 have hvl10:=ZJ (c.ctyp,c.cagg) (zq d (g++[j]))
 refine R0 fun _=>st (mV (Ix s 0) ?_)
 obtain⟨G134,bD,hB137,eC,eD⟩:=(ez.mv1).lend
 obtain⟨vv140,m141,R142,hb143,eE,hr145⟩:=SetO.sh bD
 have hsm146:(zw (1+m) (g++[j])).length*8≤140737488355328:=eE.small
 refine st (cL Tryz.call16 (KY bD eC (bz.ids) (bz.srt) om) ?_)
 rintro E w148 ⟨_,rfl,bE⟩
 have eF:=bE.r0
 have hr150s:_*96≤_:=eF.2
 have bF:=eD _ _ bE
 refine st (aS E (zb (za (R0 fun _=>st (mV (Ix q 0) (st (ze (k:=10) pT kT rfl rfl (zi (bF.b6)) ?_)))))))
 obtain⟨G153,eG,eH,eI,eJ⟩:=(bF.mv2).lend
 have bG:=DepO.rd eG
 have hsm160:j.deps.length*8≤140737488355328:=bG.small
 refine st (cL Tryz.call60 (zdU (e:=j) bG ao (zk hKN eH) (eI.mv3) (Y.1) ((Inv.run Y.1 _)) om) ?_)
 rintro _ w163 ⟨H,rfl,bH⟩
 let gN:=(yI d (zq d g) j).cells H
 have bI:=bH.r1
 have hr165s:_*8≤_:=bI.2
 have eK:=eJ _ _ bH
 refine st (zv Tryz.zeroValue96 ?_)
 intro w169 aa eL
 let gT:=Blk aa gN.toArray 96
 have bJ:=eK.new eL
 refine stn (zr (v:=.agg gN.toArray) (c':=gN.toArray) Tryz.sizeOf96 rfl rfl (bJ.b0) (zZ ⟨rfl,rfl,rfl,bI.1.one,rfl,rfl,rfl,rfl,rfl,rfl,rfl,rfl,rfl,zj⟩) yqc rfl ?_)
 intro gD eM
 have aL:=bJ.pt0 eM
 refine zb (za ?_)
 try simp+zetaDelta only at aL
 rw[←xT]at aL
 have aM:Sep G W (gT::(DepO u j.deps)::gR::(RowE (α:=Int) own 3 H j.deps)::(SetO s (1+m) (g++[j]))::(RowE (α:=Ev) own 44 E (g++[j]))::gI::(RowE (α:=Cel) own 140 F (zM d (c.ctyp,c.cagg) (zq d g)))::gQ::(RowE (α:=Ev) (shr G W) 44 ad X)::gP::gM::Rs) gD:=aL
 refine R0 fun _=>st (mV (Ix q 0) (st (Zu rfl (st (lD (Iv (c.ctyp)) lT rfl (zd (aM.b10) rfl) (st (YB rfl (st (lD (Iv (c.cagg)) lT rfl (zd (aM.b10) rfl) (st (cL tR (Wt (ty:=c.ctyp) (no:=c.cagg) oc.ctyp oc.cagg (aM.mv2)) ?_)))))))))))
 rintro _ w177 ⟨D,rfl,bK⟩
 let aG:=(yR d (c.ctyp,c.cagg) (zq d (g++[j]))).cells D
 have bL:=bK.r1
 have hr179s:_*32≤_:=bL.2
 refine st (mV (.tuple #[.agg aG.toArray,.bool ((zt d (zq d (g++[j])) (c.ctyp,c.cagg)).isSome)]) (st (zl (vs:=[.agg aG.toArray,.bool ((zt d (zq d (g++[j])) (c.ctyp,c.cagg)).isSome)]) (i:=0) (v:=.agg aG.toArray) rfl rfl (st (zl (vs:=[.agg aG.toArray,.bool ((zt d (zq d (g++[j])) (c.ctyp,c.cagg)).isSome)]) (i:=1) (v:=.bool ((zt d (zq d (g++[j])) (c.ctyp,c.cagg)).isSome)) rfl rfl (st (zv uR ?_)))))))
 intro w182 ag eN
 have bM:=bK.new eN
 refine stn (zr (v:=.agg aG.toArray) (c':=aG.toArray) mR rfl rfl (bM.b0) (zZ ⟨rfl,bL.1.one,zj⟩) yqc rfl ?_)
 intro Q eO
 refine st (aS (.bool ((zt d (zq d (g++[j])) (c.ctyp,c.cagg)).isSome)) (zb (za (za ?_))))
 obtain⟨bt,eP,M,eQ,bN⟩:=((bM.pt0 eO).mv7).lend
 have P:=RowE.rd eP
 have hrd194s:_*96≤_:=P.small
 have eR:Sep bt Q ((RowE (α:=Ev) (shr bt Q) 44 ad X)::(Blk ag aG.toArray 77)::gR::(RowE (α:=Cel) own 140 D (stL d (c.ctyp,c.cagg) (zq d (g++[j]))))::gT::(DepO u j.deps)::(RowE (α:=Int) own 3 H j.deps)::(SetO s (1+m) (g++[j]))::gI::(RowE (α:=Cel) own 140 F (zM d (c.ctyp,c.cagg) (zq d g)))::gQ::gP::gM::Rs) Q:=(eQ.mv10).rebase (i:=0) rfl M
 obtain⟨G196,eS,B,eT,bO⟩:=eR.lend
 have cQ:=RowE.rdB eS B
 have hrd203s:_*96≤_:=cQ.small
 obtain⟨aN,eU,C,eV,bP⟩:=(eT.mv4).lend
 have bQ:=DepO.rd eU
 have hsm212:j.deps.length*8≤140737488355328:=bQ.small
 refine WD4 ((fun TT aV=>WF [fun vals wq=>Sep aN Q (aV::TT) wq,fun vals wq=>(vals 11=(.bool (decide (((g++[j]).getD (((((g++[j]).length:Nat):Int)-1).toNat) default)=j)):Value))∧Sep aN Q (aV::TT) wq]) (gR::(RowE (α:=Cel) own 140 D (stL d (c.ctyp,c.cagg) (zq d (g++[j]))))::gT::(RowE (α:=Int) own 3 H j.deps)::(SetO s (1+m) (g++[j]))::gI::(RowE (α:=Cel) own 140 F (zM d (c.ctyp,c.cagg) (zq d g)))::gQ::gP::gM::Rs) (Blk ag aG.toArray 77)) (AF [Vl 0 E,Vl 1 (Iw ((g++[j]).length)),Vl 2 (.bool false),Vl 3 (.bool false),Vl 4 E,Vl 5 E,Vl 6 (Iw ((g++[j]).length)),Vl 7 (Iv ((((g++[j]).length:Nat):Int)-1)),Vl 8 (Ix (sb E) (so E+(((((g++[j]).length:Nat):Int)-1).toNat)*10)),Vl 9 (.agg (((g++[j]).getD (((((g++[j]).length:Nat):Int)-1).toNat) default).cells (zV Q (sb E) (so E+(((((g++[j]).length:Nat):Int)-1).toNat)*10+3))).toArray),Vl 10 (.agg (j.cells u).toArray),fun _=>True,Vl 12 (.bool false),Vl 13 (.bool false),Vl 14 (.bool false),Vl 15 (Ix aa 10),Vl 16 (.bool false),Vl 17 (.bool false),Vl 18 (.bool false),Vl 19 (.bool ((zt d (zq d (g++[j])) (c.ctyp,c.cagg)).isSome)),Vl 20 (.bool false),Vl 21 (.bool false),Vl 22 (.bool false),Vl 23 (Ix ag 0),Vl 24 (Iv ((yR d (c.ctyp,c.cagg) (zq d (g++[j]))).ver)),Vl 25 (Ix R 0),Vl 26 (Iv ((xq d (c.ctyp,c.cagg) (zq d g)).ver)),Vl 27 (Iv (((xq d (c.ctyp,c.cagg) (zq d g)).ver)+1)),Vl 28 (.bool false),Vl 29 (.bool false),Vl 30 (.bool false),Vl 31 (Ix O 0),Vl 32 (Ix O 0),Vl 33 (Iv (j.origin)),Vl 34 (Iw p),Vl 35 (.bool false),Vl 36 (.bool false),Vl 37 (.bool false),Vl 38 (Ix O 2),Vl 39 (Iv (j.lam)),Vl 40 (Iv start),Vl 41 (.bool false),Vl 42 (.bool false)]) [[],[0],[0,1],[0,1,2],(rg 4),(rg 4),[0,1,2,3,5],[0,1,2,3,5,6],(rg 8),(rg 9),(rg 4),(rg 11),(rg 12),(rg 13),(rg 14),(rg 15),(rg 16),(rg 17),(rg 18),(rg 19),(rg 20),(rg 21),(rg 22),(rg 23),(rg 24),(rg 23),[0,1,2,3,4,5,6,7,8,9,10,11,12,13,14,15,16,17,18,19,20,21,22,25],[0,1,2,3,4,5,6,7,8,9,10,11,12,13,14,15,16,17,18,19,20,21,22,25,26],(rg 28),(rg 29),(rg 30),(rg 31),(rg 32),(rg 33),(rg 31),(rg 35),(rg 36),(rg 37),(rg 38),(rg 39),(rg 38),(rg 41),(rg 42)] [11] [(0,0),(0,0),(0,0),(0,0),(0,0),(0,0),(0,0),(0,0),(0,0),(0,0),(0,0),(0,0),(1,1),(1,1),(1,1),(1,1),(1,1),(1,1),(1,1),(1,1),(1,1),(1,1),(1,1),(1,1),(1,1),(1,1),(1,1),(1,1),(1,1),(1,1),(1,1),(1,1),(1,1),(1,1),(1,1),(1,1),(1,1),(1,1),(1,1),(1,1),(1,1),(1,1),(1,1)] eV ⟨fun _ _ _ _ _ _ _=>obl rfl (mV E dR),ob1 0 fun _ _ _ eW=>obl rfl (zS (n:=(g++[j]).length) tT (eW 0 dc) (zk (zk P B) C).sl dR),?_,fun _ _ _ _ _ _ eX=>obl rfl (yg (v:=.bool false) (eX 2 dc) dR),?_,?_,?_,?_,?_,?_,?_,?_,?_,fun _ _ _ _ _ _ bR=>obl rfl (yb (v:=.bool false) (bR 3 dc) (bR 12 dc) dR),fun _ _ _ _ _ _ eY=>obl rfl (yg (v:=.bool false) (eY 13 dc) dR),?_,?_,fun _ _ _ _ _ _ bS=>obl rfl (yb (v:=.bool false) (bS 14 dc) (bS 16 dc) dR),fun _ _ _ _ _ _ eZ=>obl rfl (yg (v:=.bool false) (eZ 17 dc) dR),?_,?_,fun _ _ _ _ _ _ bT=>obl rfl (yb (v:=.bool false) (bT 18 dc) (bT 20 dc) dR),fun _ _ _ _ _ _ fa=>obl rfl (yg (v:=.bool false) (fa 21 dc) dR),?_,?_,?_,?_,?_,?_,fun _ _ _ _ _ _ bU=>obl rfl (yb (v:=.bool false) (bU 22 dc) (bU 28 dc) dR),fun _ _ _ _ _ _ fb=>obl rfl (yg (v:=.bool false) (fb 29 dc) dR),?_,?_,?_,?_,?_,fun _ _ _ _ _ _ bV=>obl rfl (yb (v:=.bool false) (bV 30 dc) (bV 35 dc) dR),fun _ _ _ _ _ _ fc=>obl rfl (yg (v:=.bool false) (fc 36 dc) dR),?_,?_,?_,?_,fun _ _ _ _ _ _ bW=>obl rfl (yb (v:=.bool false) (bW 37 dc) (bW 41 dc) dR),zj⟩ ?_
 refine ob1 0 fun _ _ _ fd=>(obl rfl ?_)
 have fe:(decide ((((g++[j]).length:Nat):Int)=0))=false:=(decide_eq_false om)
 exact zR (k:=.i64) (a:=(((g++[j]).length:Nat):Int)) (b:=0) (fd 1 dc) rfl (fun N S _=>⟨rfl,S.trans (congrArg Value.bool fe)⟩)
 refine fun _ _ _ _ _ _ ff=>(yq rfl rfl (ff 3 dc) (fun _=>?_) yqd)
 exact mV E dR
 refine fun _ _ _ _ _ _ fg=>(yq rfl rfl (fg 3 dc) (fun _=>?_) yqd)
 exact mV E dR
 refine ob1 0 fun _ _ _ bX=>(yq rfl rfl (bX 3 dc) (fun _=>?_) yqd)
 exact zS (n:=(g++[j]).length) tT (bX 5 dc) (zk (zk P B) C).sl dR
 refine ob1 0 fun _ _ _ bY=>(yq rfl rfl (bY 3 dc) (fun _=>?_) yqd)
 have fh:InR ((((g++[j]).length:Nat):Int)-1):=by omega
 exact YK (r:=(((g++[j]).length:Nat):Int)-1) (k:=.i64) (a:=(((g++[j]).length:Nat):Int)) (b:=1) (bY 6 dc) rfl (zJ fh) dR
 refine ob1 0 fun _ _ _ aO=>(yq rfl rfl (aO 3 dc) (fun _=>?_) yqd)
 have hi652:((((g++[j]).length:Nat):Int)-1).toNat<(g++[j]).length:=bo
 exact zA (k:=10) (i:=(((g++[j]).length:Nat):Int)-1) tT kT (aO 4 dc) (zk (zk P B) C).sl (aO 7 dc) ⟨by omega,by omega⟩ dR
 refine ob1 0 fun _ _ (fi:Sep _ _ _ _) bZ=>(yq rfl rfl (bZ 3 dc) (fun _=>?_) yqd)
 have ca:((((g++[j]).length:Nat):Int)-1).toNat<(g++[j]).length:=bo
 obtain⟨cR,bu,hoke662⟩:=(zk (zk P B) C).evD ca
 have hsm664:(((g++[j]).getD (((((g++[j]).length:Nat):Int)-1).toNat) default).deps).length*8≤140737488355328:=bu.small
 have cS:=fi.cells cR ((zk (zk P B) C).foot (ne_of_lt ca))
 exact ze (k:=10) pT kT rfl (bZ 8 dc) cS dR
 refine ob1 0 fun _ _ (fj:Sep _ _ _ _) fk=>(yq rfl rfl (fk 3 dc) (fun _=>?_) yqd)
 exact ze (k:=10) pT kT rfl rfl (zi (fj.b8)) dR
 refine ob1 0 fun vals _ (cb:Sep _ _ _ _) aP=>(yq rfl rfl (aP 3 dc) (fun _=>?_) yqd)
 have cc:((((g++[j]).length:Nat):Int)-1).toNat<(g++[j]).length:=bo
 obtain⟨cT,ap,cm⟩:=(zk (zk P B) C).evD cc
 have hsm320:(((g++[j]).getD (((((g++[j]).length:Nat):Int)-1).toNat) default).deps).length*8≤140737488355328:=ap.small
 have hcw321:=cb.cells cT ((zk (zk P B) C).foot (ne_of_lt cc))
 refine(zO (f:=13) (vals:=[.agg (((g++[j]).getD (((((g++[j]).length:Nat):Int)-1).toNat) default).cells (zV Q (sb E) (so E+(((((g++[j]).length:Nat):Int)-1).toNat)*10+3))).toArray,.agg (j.cells u).toArray]) (cap:=[]) rfl (yK ⟨(aP 9 dc),(aP 10 dc),zj⟩) kR (xw (a:=((g++[j]).getD (((((g++[j]).length:Nat):Int)-1).toNat) default)) (b:=j) ap cm bQ ao cb) ?_)
 rintro _ w322 ⟨rfl,fl⟩
 exact fun N S cU=>⟨(zG S fl),zj⟩
 refine ob1 1 fun _ _ fm fn=>?_
 obtain⟨I,hS680⟩:=fm
 refine yq rfl rfl (fn 3 dc) (fun _=>?_) yqd
 have fo:(!(decide (((g++[j]).getD (((((g++[j]).length:Nat):Int)-1).toNat) default)=j)))=false:=(by simp)
 exact yw (a:=decide (((g++[j]).getD (((((g++[j]).length:Nat):Int)-1).toNat) default)=j)) I (fun N S _=>⟨rfl,S.trans (congrArg Value.bool fo)⟩)
 refine fun _ _ _ _ _ _ fp=>(yq rfl rfl (fp 14 dc) (fun _=>?_) yqd)
 exact WM rfl dR
 refine ob1 1 fun _ _ fq cd=>?_
 obtain⟨I,fr⟩:=fq
 refine yq rfl rfl (cd 14 dc) (fun _=>?_) yqd
 have fs:((yI d (zq d g) j).void)=false:=hvz
 exact lD (.bool ((yI d (zq d g) j).void)) Tryz.isAgg4 (cd 15 dc) (zd (fr.b3) rfl) (fun N S _=>⟨rfl,S.trans (congrArg Value.bool fs)⟩)
 refine fun _ _ _ _ _ _ ft=>(yq rfl rfl (ft 18 dc) (fun _=>?_) yqd)
 exact mV (.bool ((zt d (zq d (g++[j])) (c.ctyp,c.cagg)).isSome)) dR
 refine fun _ _ _ _ _ _ ce=>(yq rfl rfl (ce 18 dc) (fun _=>?_) yqd)
 have fu:(!((zt d (zq d (g++[j])) (c.ctyp,c.cagg)).isSome))=false:=(by rw[cP];rfl)
 exact yw (a:=(zt d (zq d (g++[j])) (c.ctyp,c.cagg)).isSome) (ce 19 dc) (fun N S _=>⟨rfl,S.trans (congrArg Value.bool fu)⟩)
 refine fun _ _ _ _ _ _ fv=>(yq rfl rfl (fv 22 dc) (fun _=>?_) yqd)
 exact Zr rfl dR
 refine ob1 1 fun _ _ fw cf=>?_
 obtain⟨I,fx⟩:=fw
 refine yq rfl rfl (cf 22 dc) (fun _=>?_) yqd
 exact lD (Iv ((yR d (c.ctyp,c.cagg) (zq d (g++[j]))).ver)) lT (cf 23 dc) (zd (fx.b0) rfl) dR
 refine fun _ _ _ _ _ _ fy=>(yq rfl rfl (fy 22 dc) (fun _=>?_) yqd)
 exact Zr rfl dR
 refine ob1 1 fun _ _ fz cg=>?_
 obtain⟨I,fA⟩:=fz
 refine yq rfl rfl (cg 22 dc) (fun _=>?_) yqd
 exact lD (Iv ((xq d (c.ctyp,c.cagg) (zq d g)).ver)) lT (cg 25 dc) (zd (fA.b6) rfl) dR
 refine ob1 1 fun _ _ fB ch=>?_
 obtain⟨I,hS799⟩:=fB
 refine yq rfl rfl (ch 22 dc) (fun _=>?_) yqd
 have fC:InR (((xq d (c.ctyp,c.cagg) (zq d g)).ver)+1):=by omega
 exact zU (r:=((xq d (c.ctyp,c.cagg) (zq d g)).ver)+1) (k:=.i64) (a:=(xq d (c.ctyp,c.cagg) (zq d g)).ver) (b:=1) (ch 26 dc) rfl (zJ fC) dR
 refine ob1 1 fun _ _ fE aQ=>?_
 obtain⟨I,hS809⟩:=fE
 refine yq rfl rfl (aQ 22 dc) (fun _=>?_) yqd
 have fF:(!decide (((yR d (c.ctyp,c.cagg) (zq d (g++[j]))).ver)=(((xq d (c.ctyp,c.cagg) (zq d g)).ver)+1)))=false:=(by rw[eB,gC,hrz];simp)
 exact yj (k:=.i64) (a:=(yR d (c.ctyp,c.cagg) (zq d (g++[j]))).ver) (b:=((xq d (c.ctyp,c.cagg) (zq d g)).ver)+1) (aQ 24 dc) (aQ 27 dc) (fun N S _=>⟨rfl,S.trans (congrArg Value.bool fF)⟩)
 refine fun _ _ _ _ _ _ fG=>(yq rfl rfl (fG 30 dc) (fun _=>?_) yqd)
 exact yA rfl dR
 refine fun _ _ _ _ _ _ ci=>(yq rfl rfl (ci 30 dc) (fun _=>?_) yqd)
 exact xm (ci 31 dc) dR
 refine ob1 1 fun _ _ fH cj=>?_
 obtain⟨I,fI⟩:=fH
 refine yq rfl rfl (cj 30 dc) (fun _=>?_) yqd
 exact lD (Iv (j.origin)) lT (cj 32 dc) (zd (fI.b8) rfl) dR
 refine fun _ _ _ _ _ _ fJ=>(yq rfl rfl (fJ 30 dc) (fun _=>?_) yqd)
 exact mV (Iw p) dR
 refine ob1 1 fun _ _ fK aR=>?_
 obtain⟨I,hS866⟩:=fK
 refine yq rfl rfl (aR 30 dc) (fun _=>?_) yqd
 have fL:(!decide (j.origin=((p:Nat):Int)))=false:=(by rw[hoz];simp)
 exact yj (k:=.i64) (a:=j.origin) (b:=((p:Nat):Int)) (aR 33 dc) (aR 34 dc) (fun N S _=>⟨rfl,S.trans (congrArg Value.bool fL)⟩)
 refine fun _ _ _ _ _ _ fM=>(yq rfl rfl (fM 37 dc) (fun _=>?_) yqd)
 exact xQ rfl dR
 refine ob1 1 fun _ _ fN ck=>?_
 obtain⟨I,fO⟩:=fN
 refine yq rfl rfl (ck 37 dc) (fun _=>?_) yqd
 exact lD (Iv (j.lam)) lT (ck 38 dc) (zd (fO.b8) rfl) dR
 refine fun _ _ _ _ _ _ fP=>(yq rfl rfl (fP 37 dc) (fun _=>?_) yqd)
 exact mV (Iv start) dR
 refine ob1 1 fun _ _ fQ aT=>?_
 obtain⟨I,hS915⟩:=fQ
 refine yq rfl rfl (aT 37 dc) (fun _=>?_) yqd
 have fR:(decide (j.lam≤start))=false:=decide_eq_false om
 exact zcj (k:=.i64) (a:=j.lam) (b:=start) (aT 39 dc) (aT 40 dc) (fun N S _=>⟨rfl,S.trans (congrArg Value.bool fR)⟩)
 intro vals w928 fS fT
 obtain⟨I,fU⟩:=fS
 have gE:=fT 42 dc
 refine yd (kv:=[(3,Iw p),(4,Iv start),(6,Ix b2 0),(11,Ix K 0),(12,.bool false),(13,Ix s 0),(14,Ix q 0),(15,Ix O 0),(18,Ix R 0),(19,.bool ((zt d (zq d g) (c.ctyp,c.cagg)).isSome)),(107,Ix K 5),(108,Iv (c.expect)),(109,.bool (!decide (c.expect=(-1)))),(110,.bool (!decide (c.expect=(-1)))),(116,.bool false),(117,.bool false),(118,Ix s 0),(119,.agg (j.cells u).toArray),(120,Iv ((ZE (1+m) g j))),(121,.bool false),(122,.bool false),(123,Ix s 0),(124,E),(20,E),(125,Ix q 0),(126,.agg (j.cells u).toArray),(127,.agg gN.toArray),(21,Ix aa 0),(129,Ix q 0),(130,Ix K 0),(131,Iv (c.ctyp)),(132,Ix K 1),(133,Iv (c.cagg)),(134,.tuple #[.agg aG.toArray,.bool ((zt d (zq d (g++[j])) (c.ctyp,c.cagg)).isSome)]),(128,.tuple #[.agg aG.toArray,.bool ((zt d (zq d (g++[j])) (c.ctyp,c.cagg)).isSome)]),(135,.agg aG.toArray),(136,.bool ((zt d (zq d (g++[j])) (c.ctyp,c.cagg)).isSome)),(22,Ix ag 0),(23,.bool ((zt d (zq d (g++[j])) (c.ctyp,c.cagg)).isSome)),(179,.bool false)]) ⟨rfl,rfl,rfl,rfl,rfl,rfl,rfl,rfl,rfl,rfl,rfl,rfl,rfl,rfl,rfl,rfl,rfl,rfl,rfl,rfl,rfl,rfl,rfl,rfl,rfl,rfl,rfl,rfl,rfl,rfl,rfl,rfl,rfl,rfl,rfl,rfl,rfl,rfl,rfl,(by exact gE),zj⟩ (fun ρw928=>?_)
 refine zb (zf rfl (zp (za ?_)))
 refine WD4 ((fun TT aV gc gd ge gf gg gh gi=>WF [fun vals wq=>Sep aN Q (aV::gc::gd::ge::gf::gg::gh::gi::TT) wq,fun vals wq=> ∃(A:Value),(vals 14=(A:Value))∧Sep aN Q (gi::(RowE (α:=Cel) own 140 A (doL (d.types.getD c.ctyp.toNat default) (zM d (c.ctyp,c.cagg) (zq d g)) c.cfield c.cop c.carg))::aV::gc::gd::ge::gf::gg::gh::TT) wq]) (gQ::gP::gM::Rs) (Blk ag aG.toArray 77) gR (RowE (α:=Cel) own 140 D (stL d (c.ctyp,c.cagg) (zq d (g++[j])))) gT (RowE (α:=Int) own 3 H j.deps) (SetO s (1+m) (g++[j])) gI (RowE (α:=Cel) own 140 F (zM d (c.ctyp,c.cagg) (zq d g)))) (AF [Vl 0 (Ix b2 0),Vl 1 dd0,Vl 2 (Ix K 0),Vl 3 (Iv (c.ctyp)),Vl 4 (Ix (sb dd0) (so dd0+c.ctyp.toNat*1)),Vl 5 (.agg ((d.types.getD c.ctyp.toNat default).cells (zV Q (sb dd0) (so dd0+c.ctyp.toNat*1+0))).toArray),Vl 6 (Ix R 1),Vl 7 F,Vl 8 (Ix K 2),Vl 9 (Iv (c.cfield)),Vl 10 (Ix K 3),Vl 11 (Iv (c.cop)),Vl 12 (Ix K 4),Vl 13 (Iv (c.carg)),fun _=>True,fun vals=> ∀(A:Value),vals 14=(A:Value)→vals 15=(A:Value)]) [[],[0],[],[2],(rg 4),(rg 5),[],[6],[],[8],[],[10],[],[12],(rg 14),(rg 15)] [14] [(0,0),(0,0),(0,0),(0,0),(0,0),(0,0),(0,0),(0,0),(0,0),(0,0),(0,0),(0,0),(0,0),(0,0),(0,0),(1,1)] fU ⟨fun _ _ _ _ _ _ _=>obl rfl (yJ rfl dR),ob1 0 fun _ _ (cV:Sep _ _ _ _) cW=>obl rfl (lD dd0 lY (cW 0 dc) (zd (cV.b10) rfl) dR),fun _ _ _ _ _ _ _=>obl rfl (Zu rfl dR),ob1 0 fun _ _ (cX:Sep _ _ _ _) cY=>obl rfl (lD (Iv (c.ctyp)) lT (cY 2 dc) (zd (cX.b9) rfl) dR),?_,?_,fun _ _ _ _ _ _ _=>obl rfl (xu rfl dR),ob1 0 fun _ _ (cZ:Sep _ _ _ _) da=>obl rfl (lD F Tryz.isAgg75 (da 6 dc) (zd (cZ.b6) rfl) dR),fun _ _ _ _ _ _ _=>obl rfl (Xu rfl dR),ob1 0 fun _ _ (db:Sep _ _ _ _) dd=>obl rfl (lD (Iv (c.cfield)) lT (dd 8 dc) (zd (db.b9) rfl) dR),fun _ _ _ _ _ _ _=>obl rfl (Xw rfl dR),ob1 0 fun _ _ (de:Sep _ _ _ _) df=>obl rfl (lD (Iv (c.cop)) lT (df 10 dc) (zd (de.b9) rfl) dR),fun _ _ _ _ _ _ _=>obl rfl (Yj rfl dR),ob1 0 fun _ _ (dg:Sep _ _ _ _) dh=>obl rfl (lD (Iv (c.carg)) lT (dh 12 dc) (zd (dg.b9) rfl) dR),?_,?_,zj⟩ ?_ (hlocA:=xd ⟨dA,dA,dA,dA,dA,dA,dA,dA,dA,dA,dA,dA,dA,dA,dT,fun vals N S h=>fun A cl=>(S 15 (.inl rfl)).trans (h A ((S 14 (.inr dc)).symm.trans cl)),zj⟩)
 refine ob1 0 fun _ _ _ aW=>(obl rfl ?_)
 have hi1113:c.ctyp.toNat<d.types.length:=bo
 exact zA (k:=1) (i:=c.ctyp) mY oR (aW 1 dc) (zk (zk (zk hdd0 M) B) C).sl (aW 3 dc) ⟨by omega,by omega⟩ dR
 refine ob1 0 fun _ _ (di:Sep _ _ _ _) dj=>(obl rfl ?_)
 have aX:c.ctyp.toNat<d.types.length:=bo
 obtain⟨cn,aY,hoke1122⟩:=(zk (zk (zk hdd0 M) B) C).typD aX
 have hsm1124:((d.types.getD c.ctyp.toNat default).fields).length*48≤140737488355328:=aY.small
 have co:=di.cells cn ((zk (zk (zk hdd0 M) B) C).foot (ne_of_lt aX))
 exact ze (k:=1) nY oR rfl (dj 4 dc) co dR
 refine ob1 0 fun vals _ (aZ:Sep _ _ _ _) ab=>(obl rfl ?_)
 have ba:c.ctyp.toNat<d.types.length:=bo
 obtain⟨cp,an,bv⟩:=(zk (zk (zk hdd0 M) B) C).typD ba
 have hsm1053:((d.types.getD c.ctyp.toNat default).fields).length*48≤140737488355328:=an.small
 have hcw1054:=aZ.cells cp ((zk (zk (zk hdd0 M) B) C).foot (ne_of_lt ba))
 obtain⟨G1056,dk,dl,dm,dp⟩:=(aZ.mv7).lend
 have ay:=RowE.rd dk
 have hrd1062s:_*32≤_:=ay.small
 refine(zO (f:=61) (vals:=[.agg ((d.types.getD c.ctyp.toNat default).cells (zV Q (sb dd0) (so dd0+c.ctyp.toNat*1+0))).toArray,F,Iv (c.cfield),Iv (c.cop),Iv (c.carg)]) (cap:=[]) rfl (yK ⟨(ab 5 dc),(ab 7 dc),(ab 9 dc),(ab 11 dc),(ab 13 dc),zj⟩) Tryz.call61 (D_Do (t:=(d.types.getD c.ctyp.toNat default)) (c:=(zM d (c.ctyp,c.cagg) (zq d g))) (vc:=F) (f:=c.cfield) (op:=c.cop) (arg:=c.carg) (zk an dl) bv ay oc.cfield oc.cop oc.carg dm ((hfz.2.2.ask (Y.1.typ _ om) ((Inv.run Y.1 _) c.ctyp c.cagg hfz.1 hfz.2.1))) ((fun _=>Ky ((Inv.run Y.1 _) c.ctyp c.cagg hfz.1 hfz.2.1) hfz.2.2.lo hfz.2.2.hi))) ?_)
 rintro A w1064 ⟨_,rfl,bb⟩
 have dq:=bb.r0
 have hr1066s:_*32≤_:=dq.2
 have dr:=dp _ _ bb
 exact fun N S cU=>⟨(exiA A (zG S dr)),zj⟩
 refine ob1 1 fun _ _ ds _=>?_
 obtain⟨A,ai,hS1188⟩:=ds
 refine obl rfl (ya (v:=A) ai (fun N S cU=>⟨rfl,?_⟩))
 intro v1063q cl
 rw[cU 14 (by decide)]at cl;cases ai.symm.trans cl
 exact S
 intro vals w1189 dt du
 obtain⟨A,ai,aj⟩:=dt
 have fV:vals 15=(A:Value):=du 15 dc A ai
 refine yd (kv:=[(3,Iw p),(4,Iv start),(6,Ix b2 0),(11,Ix K 0),(12,.bool false),(13,Ix s 0),(14,Ix q 0),(15,Ix O 0),(18,Ix R 0),(19,.bool ((zt d (zq d g) (c.ctyp,c.cagg)).isSome)),(107,Ix K 5),(108,Iv (c.expect)),(109,.bool (!decide (c.expect=(-1)))),(110,.bool (!decide (c.expect=(-1)))),(116,.bool false),(117,.bool false),(118,Ix s 0),(119,.agg (j.cells u).toArray),(120,Iv ((ZE (1+m) g j))),(121,.bool false),(122,.bool false),(123,Ix s 0),(124,E),(20,E),(125,Ix q 0),(126,.agg (j.cells u).toArray),(127,.agg gN.toArray),(21,Ix aa 0),(129,Ix q 0),(130,Ix K 0),(131,Iv (c.ctyp)),(132,Ix K 1),(133,Iv (c.cagg)),(134,.tuple #[.agg aG.toArray,.bool ((zt d (zq d (g++[j])) (c.ctyp,c.cagg)).isSome)]),(128,.tuple #[.agg aG.toArray,.bool ((zt d (zq d (g++[j])) (c.ctyp,c.cagg)).isSome)]),(135,.agg aG.toArray),(136,.bool ((zt d (zq d (g++[j])) (c.ctyp,c.cagg)).isSome)),(22,Ix ag 0),(23,.bool ((zt d (zq d (g++[j])) (c.ctyp,c.cagg)).isSome)),(179,.bool false),(24,A)]) ⟨rfl,rfl,rfl,rfl,rfl,rfl,rfl,rfl,rfl,rfl,rfl,rfl,rfl,rfl,rfl,rfl,rfl,rfl,rfl,rfl,rfl,rfl,rfl,rfl,rfl,rfl,rfl,rfl,rfl,rfl,rfl,rfl,rfl,rfl,rfl,rfl,rfl,rfl,rfl,rfl,(by exact fV),zj⟩ (fun ρw1189=>?_)
 refine zb (za (za (R0 fun _=>st (ze (k:=2) Tryz.isAgg77 mR rfl rfl (zi (aj.b2)) (st (Zr rfl (st (lD (Iv ((yR d (c.ctyp,c.cagg) (zq d (g++[j]))).ver)) lT rfl (zd (aj.b2) rfl) (st (mV A ?_))))))))))
 have dv:Sta.Ok (⟨(yR d (c.ctyp,c.cagg) (zq d (g++[j]))).ver,doL (d.types.getD c.ctyp.toNat default) (zM d (c.ctyp,c.cagg) (zq d g)) c.cfield c.cop c.carg⟩:Sta):=⟨(show InR ((yR d (c.ctyp,c.cagg) (zq d (g++[j]))).ver)from(⟨(show InR (yR d (c.ctyp,c.cagg) (zq d (g++[j]))).ver from by omega)⟩:Sta.Ok (yR d (c.ctyp,c.cagg) (zq d (g++[j])))).ver)⟩
 have bc:=aj.r1
 have hr1196s:_*32≤_:=bc.2
 refine st (zQ (parts':=[(0,Iv ((yR d (c.ctyp,c.cagg) (zq d (g++[j]))).ver)),(1,A)]) (v:=.agg ((⟨(yR d (c.ctyp,c.cagg) (zq d (g++[j]))).ver,doL (d.types.getD c.ctyp.toNat default) (zM d (c.ctyp,c.cagg) (zq d g)) c.cfield c.cop c.carg⟩:Sta).cells A).toArray) rfl (by obtain⟨_,_,dw,_⟩:=bc.1;rw[show A=Value.slice _ _ _ from dw];simp[Instr.build,Instr.fill,go_sem,Ev.cells,Sta.cells,ev0]) ?_)
 obtain⟨G1198,dx,hB1201,dy,dz⟩:=(aj.mv4).lend
 have az:=RowE.rd dx
 have hrd1204s:_*32≤_:=az.small
 obtain⟨G1206,dB,dC,dD,dE⟩:=(dy.mv1).lend
 have aA:=RowE.rd dB
 have hrd1212s:_*32≤_:=aA.small
 refine st (cL Tryz.call62 (QU (x:=(yR d (c.ctyp,c.cagg) (zq d (g++[j])))) (y:=(⟨(yR d (c.ctyp,c.cagg) (zq d (g++[j]))).ver,doL (d.types.getD c.ctyp.toNat default) (zM d (c.ctyp,c.cagg) (zq d g)) c.cfield c.cop c.carg⟩:Sta)) (zk az dC) (⟨(show InR (yR d (c.ctyp,c.cagg) (zq d (g++[j]))).ver from by omega)⟩:Sta.Ok (yR d (c.ctyp,c.cagg) (zq d (g++[j])))) aA dv dD) ?_)
 rintro _ w1213 ⟨rfl,dG⟩
 have dH:=dE _ _ dG
 have ac:=dz _ _ dH
 have cq:(decide ((yR d (c.ctyp,c.cagg) (zq d (g++[j])))=(⟨(yR d (c.ctyp,c.cagg) (zq d (g++[j]))).ver,doL (d.types.getD c.ctyp.toNat default) (zM d (c.ctyp,c.cagg) (zq d g)) c.cfield c.cop c.carg⟩:Sta)))=true:=(decide_eq_true (by show(⟨_,stL d _ _⟩:Sta)=_;rw[WB cP,hcz];rfl))
 rw[cq]
 refine st (yw (a:=true) rfl (zb (zf rfl (zp (za (za (R0 fun _=>st (Yd rfl (st (lD (Iv (c.ckey)) lT rfl (zd (ac.b10) rfl) (st (yj (k:=.i64) (a:=c.ckey) (b:=0) rfl rfl (zb ?_)))))))))))))
 cases T: !decide (c.ckey=0)
 have hc1218r:=T
 have T:=zB T
 refine zf rfl (zp (za (R0 fun _=>st (cL sT (xf (zk (zk (zk hKN M) B) C) ac) ?_))))
 rintro _ w1219 ⟨rfl,dI⟩
 refine st (aS (.bool true) (zb (zo (zN pR (show _=(.bool true:Value)from rfl) ?_))))
 have dJ:=bP _ _ dI
 have dK:=bO _ _ dJ
 have dL:=bN _ _ dK
 refine⟨rfl,(dL.s15_)⟩
 have T:=zC T
 have bw:=hkz T
 refine zg rfl (za (R0 fun _=>st (ze (k:=2) nT mT rfl rfl (zi (ac.b11)) (st (mV (Ix s 0) (st (mV (Ix q 0) (st (mV (Iw p) (st (mV (Iv start) (st (ze (k:=7) rT oT rfl rfl (zi (ac.b10)) ?_)))))))))))))
 obtain⟨G1226,bd,aq,dM,dN⟩:=(ac.mv7).lend
 obtain⟨vv1232,m1233,R1234,hb1235,dO,hr1237⟩:=SetO.sh bd
 have hsm1238:(zw (1+m) (g++[j])).length*8≤140737488355328:=dO.small
 refine st (cL uT (xU (d:=d) (o:=((p:Nat):Int)) (start:=start) (c:=c) (zk (zk (zk (zk hdd0 M) B) C) aq) (zk (zk (zk (zk hdd1 M) B) C) aq) od bd om om oc (zk (zk (zk (zk hKN M) B) C) aq) (dM.mv4) (Y.1) ((Inv.run Y.1 _)) om (bz.ids) (bz.srt) om om) ?_)
 rintro _ w1241 ⟨J,rfl,dP⟩
 let fD:=((exR d (1+m) (g++[j]) (zq d (g++[j])) ((p:Nat):Int) start c).1.cells J)
 have dQ:=dN _ _ dP
 refine st (mV (.tuple #[.agg fD.toArray,.bool ((exR d (1+m) (g++[j]) (zq d (g++[j])) ((p:Nat):Int) start c).2.1),Iv ((exR d (1+m) (g++[j]) (zq d (g++[j])) ((p:Nat):Int) start c).2.2)]) (st (zl (vs:=[.agg fD.toArray,.bool ((exR d (1+m) (g++[j]) (zq d (g++[j])) ((p:Nat):Int) start c).2.1),Iv ((exR d (1+m) (g++[j]) (zq d (g++[j])) ((p:Nat):Int) start c).2.2)]) (i:=0) (v:=.agg fD.toArray) rfl rfl ?_)))
 refine st (zl (vs:=[.agg fD.toArray,.bool ((exR d (1+m) (g++[j]) (zq d (g++[j])) ((p:Nat):Int) start c).2.1),Iv ((exR d (1+m) (g++[j]) (zq d (g++[j])) ((p:Nat):Int) start c).2.2)]) (i:=1) (v:=.bool ((exR d (1+m) (g++[j]) (zq d (g++[j])) ((p:Nat):Int) start c).2.1)) rfl rfl (st (zl (vs:=[.agg fD.toArray,.bool ((exR d (1+m) (g++[j]) (zq d (g++[j])) ((p:Nat):Int) start c).2.1),Iv ((exR d (1+m) (g++[j]) (zq d (g++[j])) ((p:Nat):Int) start c).2.2)]) (i:=2) (v:=Iv ((exR d (1+m) (g++[j]) (zq d (g++[j])) ((p:Nat):Int) start c).2.2)) rfl rfl (st (zv qT ?_)))))
 intro w1246 fW dS
 have ar:=dQ.new dS
 refine stn (zr (v:=.agg fD.toArray) (c':=fD.toArray) kT rfl rfl (ar.b0) (zZ ⟨rfl,rfl,rfl,(ar.depSl (i:=3) rfl).one,rfl,rfl,rfl,rfl,rfl,rfl,zj⟩) yqc rfl ?_)
 intro fX dU
 refine st (aS (.bool ((exR d (1+m) (g++[j]) (zq d (g++[j])) ((p:Nat):Int) start c).2.1)) (st (aS (Iv ((exR d (1+m) (g++[j]) (zq d (g++[j])) ((p:Nat):Int) start c).2.2)) (zb (za ?_)))))
 have dV:=bP _ _ (ar.pt0 dU)
 have dW:=bO _ _ dV
 have au:=bN _ _ dW
 have gL:(exR d (1+m) (g++[j]) (zq d (g++[j])) ((p:Nat):Int) start c).1=j:=by rw[bw]
 try simp+zetaDelta only at au
 rw[gL]at au
 have av:Sep G W ((RowE (α:=Ev) own 44 E (g++[j]))::(RowE (α:=Ev) (shr bt Q) 44 ad X)::(DepO u j.deps)::(Blk fW (j.cells J).toArray 44)::(SetO s (1+m) (g++[j]))::gR::(DepO J j.deps)::(RowE (α:=Cel) own 140 D (stL d (c.ctyp,c.cagg) (zq d (g++[j]))))::(RowE (α:=Cel) own 140 A (doL (d.types.getD c.ctyp.toNat default) (zM d (c.ctyp,c.cagg) (zq d g)) c.cfield c.cop c.carg))::(RowE (α:=Cel) own 140 F (zM d (c.ctyp,c.cagg) (zq d g)))::(Blk ag aG.toArray 77)::gT::(RowE (α:=Int) own 3 H j.deps)::gI::gQ::gP::gM::Rs) fX:=au
 refine zy (by kernel_rfl) (st (yg (v:=.bool false) (show _=(.bool false:Value)from((show _=(.bool ((exR d (1+m) (g++[j]) (zq d (g++[j])) ((p:Nat):Int) start c).2.1):Value)from rfl).trans (by rw[bw]))) (st (mV (.bool false) (sty rfl rfl (yg (v:=Iv 0) (show _=(Iv 0:Value)from((show _=(Iv ((exR d (1+m) (g++[j]) (zq d (g++[j])) ((p:Nat):Int) start c).2.2):Value)from rfl).trans (by rw[bw]))) ?_))))))
 have cr:(!decide (0=0))=false:=by rfl
 refine sty rfl rfl (ov_as (congrArg Value.bool cr) (fun K9 Z=>yj (k:=.i64) (a:=0) (b:=0) rfl rfl Z) (st (yb (v:=.bool false) rfl rfl (st (mV (.bool false) (sty rfl rfl (ze (k:=10) pT kT rfl rfl (zi (av.b3)) (sty rfl rfl (ze (k:=10) pT kT rfl rfl (zi (av.b14)) ?_)))))))))
 obtain⟨G1257,dX,hB1260,dY,dZ⟩:=(av.mv6).lend
 have be:=DepO.rd dX
 have hsm1264:j.deps.length*8≤140737488355328:=be.small
 obtain⟨G1266,ea,eb,ec,ed⟩:=(dY.mv2).lend
 have bf:=DepO.rd ea
 have hsm1273:j.deps.length*8≤140737488355328:=bf.small
 refine sty rfl rfl (cL kR (xw (a:=j) (b:=j) (zk be eb) ao bf ao ec) ?_)
 rintro _ w1274 ⟨rfl,ee⟩
 have ef:=ed _ _ ee
 have eg:=dZ _ _ ef
 have cs:(decide (j=j))=true:=(decide_eq_true rfl)
 rw[cs]
 refine sty rfl rfl (yw (a:=true) rfl (st (yb (v:=.bool false) rfl rfl (zb (zf rfl (zp (za (R0 fun _=>st (cL sT (xf hKN (eg.s17_abcefghijklmnopq)) ?_)))))))))
 rintro _ fY ⟨rfl,eh⟩
 refine st (aS (.bool true) (zb (zo (zN pR (show _=(.bool true:Value)from rfl) ?_))))
 have ei:Sep G W Rs fY:=eh.sel 16 [] (yL _ _) rfl rfl
 refine⟨rfl,ei⟩
 have aF:=aE
 try simp only[zh]at aE
 have hnz:=zcd (d:=d) (n:=(1+m)) (L:=g) (V:=zq d g) (o:=((p:Nat):Int)) (start:=start) (c:=c) (by rintro⟨h8,Z⟩;have h7:=aF;rw[h8,Z]at h7;cases h7)
 rw[cC]at hnz
 refine zg rfl (za (zy kr (st (mV (Iv ((exR d (1+m) g (zq d g) ((p:Nat):Int) start c).2.2)) (st (yj (k:=.i64) (a:=(exR d (1+m) g (zq d g) ((p:Nat):Int) start c).2.2) (b:=0) rfl rfl (st (mV (.bool (!decide (((exR d (1+m) g (zq d g) ((p:Nat):Int) start c).2.2)=0))) (stc (V:=Ix K 6) rfl rfl (fun ej=>?_) ?_)))))))))
 have hl1284:=zB ej
 exact Yd rfl rflB
 refine stc (V:=Iv (c.ckey)) rfl rfl (fun bg=>?_) ?_
 have hl1286:=zB bg
 exact lD (Iv (c.ckey)) lT (ifpC bg) (zd (ae.b5) rfl) rflB
 refine stc (V:=.bool (!decide (c.ckey=0))) rfl rfl (fun bh=>?_) ?_
 have hl1288:=zB bh
 exact yj (k:=.i64) (a:=c.ckey) (b:=0) (ifpC bh) rfl rflB
 refine stc (V:=.bool (!decide (c.ckey=0))) rfl rfl (fun bi=>?_) ?_
 have hl1290:=zB bi
 exact yg (v:=.bool (!decide (c.ckey=0))) (ifpC bi) rflB
 refine xn (V:=Ix O 9) rfl rfl (fun bj=>?_) ?_
 have hl1292:=zB bj.1
 have hl1293:=zC bj.2
 exact YV rfl rflB
 refine xn (V:=Iv (j.key)) rfl rfl (fun ak=>?_) ?_
 have hl1295:=zB ak.1
 have hl1296:=zC ak.2
 exact lD (Iv (j.key)) lT (ifpC ⟨ak.1,ak.2⟩) (zd (ae.b0) rfl) rflB
 refine xn (V:=Ix K 6) rfl rfl (fun bk=>?_) ?_
 have hl1298:=zB bk.1
 have hl1299:=zC bk.2
 exact Yd rfl rflB
 refine xn (V:=Iv (c.ckey)) rfl rfl (fun al=>?_) ?_
 have hl1301:=zB al.1
 have hl1302:=zC al.2
 exact lD (Iv (c.ckey)) lT (ifpC ⟨al.1,al.2⟩) (zd (ae.b5) rfl) rflB
 refine xn (V:=.bool (decide (j.key=c.ckey))) rfl rfl (fun U=>?_) ?_
 have hl1304:=zB U.1
 have hl1305:=zC U.2
 exact zR (k:=.i64) (a:=j.key) (b:=c.ckey) (ifpC ⟨U.1,U.2⟩) (ifpC ⟨U.1,U.2⟩) rflB
 refine stc (V:=.bool ((!decide (c.ckey=0))&&(decide (j.key=c.ckey)))) rfl rfl (fun aw=>?_) ?_
 have hl1307:=zB aw
 exact zF (b:= !decide (c.ckey=0)) (b':=decide (j.key=c.ckey)) (ifpC aw) (fun hbp=>(ifpC ⟨aw,hbp⟩)) rflB
 refine st (zz (b:= !decide (((exR d (1+m) g (zq d g) ((p:Nat):Int) start c).2.2)=0)) (b':=(!decide (c.ckey=0))&&(decide (j.key=c.ckey))) rfl (fun hbp=>(ifpC hbp)) ?_)
 have ct:((!decide (((exR d (1+m) g (zq d g) ((p:Nat):Int) start c).2.2)=0))||((!decide (c.ckey=0))&&(decide (j.key=c.ckey))))=true:=(by rcases hnz with Z|⟨h8,Z⟩;rw[decide_eq_false Z];rfl;rw[decide_eq_false h8,decide_eq_true Z];simp)
 rw[ct]
 refine st (mV (.bool true) (sty rfl rfl (cL sT (xf hKN ae) ?_)))
 rintro _ fZ ⟨rfl,ek⟩
 refine st (yc (v:=.bool true) rfl rfl (st (aS (.bool true) (zb (zo (zN pR (show _=(.bool true:Value)from rfl) ?_))))))
 have el:Sep G W Rs fZ:=ek.sel 7 [] (yL _ _) rfl rfl
 refine⟨rfl,el⟩
 try simp only[zh]at aB
 refine zg rfl (za (R0 fun _=>st (cL sT (xf hKN cu) ?_)))
 rintro _ w1312 ⟨rfl,em⟩
 refine st (aS (.bool true) (zb (zo (zN pR (show _=(.bool true:Value)from rfl) ?_))))
 refine⟨rfl,(em.s2_)⟩
def evF:Ev:=⟨0,1,1,[0,0],0,0,0,1,3,7⟩
theorem Vw:evF.Ok:=by constructor<;>decide
theorem laidF:yX 2 [evF]=[evF]:=by decide+kernel
set_option maxHeartbeats 8000000 in
set_option maxRecDepth 20000 in
theorem UR (hKN:RdS W G (.slice (some ⟨0,0,none⟩) 6 6) kindsL)(hS0:Sep G W Rs w):Ret Tryz.prog 4 [] w (fun r w'=>r=(.bool true:Value)∧Sep G W Rs w'):=by
 have hKNs:_*8≤_:=hKN.small
 refine zm (args:=[]) Tryz.func4 rfl rfl ?_
 refine za (R0 fun _=>st (aS (.bool false) (zb (za (R0 fun _=>st (cL Tryz.call21 (Zb hS0) ?_))))))
 rintro _ w3 ⟨F,cg,rfl,cT⟩
 have ch:Sep _ _ ((RowE (α:=Fld) (shr G W) 106 (Iy cg 1 1) [(⟨1,1,true,[]⟩:Fld)])::_) _:=Sep.blkRow (src:=(shr G W)) (l:=[(⟨1,1,true,[]⟩:Fld)]) (css:=[(⟨1,1,true,[]⟩:Fld).cells (Iz)]) (cT.mv1) rfl ⟨fun _ _=>⟨_,rfl,(RdS.nil _ _),(show Fld.Ok (⟨1,1,true,[]⟩:Fld)from⟨by decide,by decide⟩)⟩,zj⟩ yqa (show 1≤maxLen by decide)
 have cU:=ch.r0
 have hr7s:_*48≤_:=cU.2
 obtain⟨G8,cj,x,ck,cl⟩:=ch.lend
 have ah:=RowE.rdB cj x
 have hrd14s:_*48≤_:=ah.small
 have aE:Sep G8 w3 ((RowE (α:=Typ) (shr G8 w3) 74 (Iy F 1 1) [(⟨[(⟨1,1,true,[]⟩:Fld)]⟩:Typ)])::Rs) w3:=Sep.blkRow (src:=(shr G8 w3)) (l:=[(⟨[(⟨1,1,true,[]⟩:Fld)]⟩:Typ)]) (css:=[(⟨[(⟨1,1,true,[]⟩:Fld)]⟩:Typ).cells (Iy cg 1 1)]) ck rfl ⟨fun _ _=>⟨_,rfl,ah,(show Typ.Ok (⟨[(⟨1,1,true,[]⟩:Fld)]⟩:Typ)from⟨⟩)⟩,zj⟩ yqa (show 1≤maxLen by decide)
 have cn:=aE.r0
 have hr16s:_*24≤_:=cn.2
 obtain⟨cV,co,y,cp,cq⟩:=aE.lend
 have m:=RowE.rdB co y
 have hrd23s:_*24≤_:=m.small
 refine st (zv Tryz.zeroValue25 ?_)
 intro w26 Y cr
 have aF:=cp.new cr
 refine stn (zr (v:=.agg (dF.cells (Iy F 1 1) Iz).toArray) (c':=(dF.cells (Iy F 1 1) Iz).toArray) mT rfl rfl (aF.b0) (zZ ⟨m.sl.one,rfl,zj⟩) yqc rfl ?_)
 intro w28 ct
 refine zb (za (yy (by kernel_rfl) (fun _=>(st (zQ (parts':=[(1,Iv 1)]) (v:=.agg #[Iv 0,Iv 1]) rfl (by simp+zetaDelta [Instr.build,Instr.fill,go_sem,evF,Zd]) (st (zL (k:=1) (parts':=[(0,Iv 0),(1,Iv 0)]) (c:=#[Iv 0,Iv 0]) Tryz.underlying42 vT Tryz.zeroValue3 (by decide) rfl (by kernel_rfl) ?_)))))))
 intro t h cu
 let ci:=evF.cells (Iy h 2 2)
 have aG:Sep _ _ ((RowE (α:=Int) own 3 (Iy h 2 2) [0,0])::_) _:=Sep.blkRow (src:=own) (l:=[0,0]) (css:=[[Iv 0],[Iv 0]]) ((aF.pt0 ct).new cu) rfl ⟨fun _ _=>⟨rfl,(by decide)⟩,fun _ _=>⟨rfl,(by decide)⟩,zj⟩ yqa (show 2≤maxLen by decide)
 have cv:=aG.r0
 have hr36s:_*8≤_:=cv.2
 obtain⟨u,cw,p,cx,cy⟩:=aG.lend
 have A:=RowE.rd cw
 have hrd43s:_*8≤_:=A.small
 refine st (zQ (parts':=[(0,.agg #[Iv 0,Iv 1]),(1,Iv 1),(2,(Iy h 2 2)),(6,Iv 1),(7,Iv 3),(8,Iv 7)]) (v:=.agg ci.toArray) rfl (by simp+zetaDelta [Instr.build,Instr.fill,go_sem,evF,Zd]) (st (zv qT ?_)))
 intro w46 Z cz
 have aH:=cx.new cz
 refine stn (zr (v:=.agg ci.toArray) (c':=ci.toArray) kT rfl rfl (aH.b0) (zZ ⟨rfl,rfl,rfl,A.sl.one,rfl,rfl,rfl,rfl,rfl,rfl,zj⟩) yqc rfl ?_)
 intro w48 cC
 refine zb (za (R0 fun _=>?_))
 have ok51:Cmd.Ok (⟨0,0,0,1, -3,1,0⟩:Cmd):=⟨(show InR (0)from dc),(show InR (0)from dc),(show InR (0)from dc),(show InR (1)from dc),(show InR (-3)from dc),(show InR (1)from dc),(show InR (0)from dc)⟩
 refine st (zQ (parts':=[(3,Iv 1),(4,Iv (-3)),(5,Iv 1)]) (v:=.agg ((⟨0,0,0,1, -3,1,0⟩:Cmd).cells).toArray) rfl (by simp+zetaDelta [Instr.build,Instr.fill,go_sem,evF,Zd]) (st (zv wT ?_)))
 intro w54 aa cD
 have aI:=(aH.pt0 cC).new cD
 refine stn (zr (v:=.agg ((⟨0,0,0,1, -3,1,0⟩:Cmd).cells).toArray) (c':=((⟨0,0,0,1, -3,1,0⟩:Cmd).cells).toArray) oT rfl rfl (aI.b0) (zZ ⟨rfl,rfl,rfl,rfl,rfl,rfl,rfl,zj⟩) yqc rfl ?_)
 intro w56 cE
 refine zb (za (za (R0 fun _=>st (aS (Iv (-4)) (zb (zu (yf (fun mq σ wq=> ∃(f:Int) (ρ:Env),mq=(5-f).toNat∧σ=yo ρ [(1,Ix Y 0),(2,Ix Z 0),(3,Ix aa 0),(4,Iv f)]∧(-4≤f∧f≤5)∧Sep u t ((Blk aa ((⟨0,0,0,1, -3,1,0⟩:Cmd).cells).toArray 49)::(Blk Z (evF.cells (Iy h 2 2)).toArray 44)::(Blk Y (dF.cells (Iy F 1 1) Iz).toArray 25)::Rs) wq) ⟨(-4),_,rfl,sSf,by omega,(aI.pt0 cE)⟩ ?_)))))))
 rintro m60 σ61 w59 ⟨f,ρl1,rfl,rfl,ha9,H⟩
 refine za (za (R0 fun _=>st (mV (Iv f) (st (zI (k:=.i64) (a:=f) (b:=5) rfl rfl (zb ?_))))))
 cases I:decide (f<5)
 have I:=fD I
 refine zf rfl (yh (zX (za (R0 fun _=>st (ze (k:=2) nT mT rfl rfl (zi (H.b2)) (st (ze (k:=10) pT kT rfl rfl (zi (H.b1)) (st (zL (k:=10) (parts':=[(0,.agg ci.toArray)]) (c:=ci.toArray) tT kT qT dc rfl kr ?_)))))))))
 intro w66 aJ cG
 have aK:Sep _ _ ((RowE (α:=Ev) (shr u t) 44 (Iy aJ 1 1) [evF])::_) _:=Sep.blkRow (src:=(shr u t)) (l:=[evF]) (css:=[evF.cells (Iy h 2 2)]) (H.new cG) rfl ⟨fun _ _=>⟨_,rfl,A,Vw⟩,zj⟩ yqa (show 1≤maxLen by decide)
 have cH:=aK.r0
 have hr69s:_*96≤_:=cH.2
 obtain⟨G70,cI,ag,cJ,cK⟩:=aK.lend
 have ai:=RowE.rdB cI ag
 have hrd76s:_*96≤_:=ai.small
 refine st (cL qR (Xc (d:=dF) (n:=2) (l:=[evF]) (vl:=(Iy aJ 1 1)) (zk (zk m p) ag) (RdS.nil _ _) (⟨⟩:Dcl.Ok dF) yqe ai (zk (zk (zk (zk hKN x) y) p) ag) cJ YD dc) ?_)
 rintro _ cW ⟨q,s,rfl,cM⟩
 have cN:=cK _ _ cM
 refine st (mV (.tuple #[Ix q 0,Ix s 0]) (st (zl (vs:=[Ix q 0,Ix s 0]) (i:=0) (v:=Ix q 0) rfl rfl (st (zl (vs:=[Ix q 0,Ix s 0]) (i:=1) (v:=Ix s 0) rfl rfl (st (aS (Ix q 0) (st (aS (Ix s 0) (zb (za (za ?_))))))))))))
 have aL:=cy _ _ cN
 rw[laidF]at aL
 have aM:Sep cV w3 ((RowE (α:=Int) own 3 (Iy h 2 2) [0,0])::(RowE (α:=Ev) (shr u t) 44 (Iy aJ 1 1) [evF])::(SetO q 2 [evF])::(ViewO s dF (zq dF [evF]) (zq dF [evF]))::(Blk aa ((⟨0,0,0,1, -3,1,0⟩:Cmd).cells).toArray 49)::(Blk Z ci.toArray 44)::(Blk Y (dF.cells (Iy F 1 1) Iz).toArray 25)::Rs) cW:=aL
 refine zy kr (st (mV (Ix q 0) (st (xx (b:=q) (o:=0) rR rfl (st (mV (.bool false) (sty rfl rfl (mV (Ix s 0) (sty rfl rfl (xx (b:=s) (o:=0) sR rfl (st (yb (v:=.bool false) rfl rfl (zb (zf rfl (zp (za (R0 fun _=>st (ze (k:=2) nT mT rfl rfl (zi (aM.b6)) (st (mV (Ix q 0) (st (mV (Ix s 0) ?_))))))))))))))))))))))
 have cO:Cmd.Ok (⟨0,0,0,2,0, -1,0⟩:Cmd):=⟨(show InR (0)from dc),(show InR (0)from dc),(show InR (0)from dc),(show InR (2)from dc),(show InR (0)from dc),(show InR (-1)from dc),(show InR (0)from dc)⟩
 refine st (zQ (parts':=[(3,Iv 2),(5,Iv (-1))]) (v:=.agg ((⟨0,0,0,2,0, -1,0⟩:Cmd).cells).toArray) rfl (by simp+zetaDelta [Instr.build,Instr.fill,go_sem,evF,Zd]) ?_)
 obtain⟨G86,aN,aO,cP,cQ⟩:=(aM.mv2).lend
 obtain⟨vv92,m93,R94,hb95,cR,hr97⟩:=SetO.sh aN
 have hsm98:(zw 2 [evF]).length*8≤140737488355328:=cR.small
 refine st (cL uT (xU (d:=dF) (o:=0) (start:=0) (c:=(⟨0,0,0,2,0, -1,0⟩:Cmd)) (zk m aO) (RdS.nil _ _) (⟨⟩:Dcl.Ok dF) aN (by decide) (by decide) cO (zk (zk (zk hKN x) y) aO) (cP.mv2) YD ((Inv.run YD _)) ((by rw[xH];decide)) ((List.pairwise_singleton _ _)) ((List.pairwise_singleton _ _)) ((by decide)) ((by decide))) ?_)
 rintro _ w101 ⟨B,rfl,aZ⟩
 let aD:=((exR dF 2 [evF] (zq dF [evF]) 0 0 (⟨0,0,0,2,0, -1,0⟩:Cmd)).1.cells B)
 have ba:=cQ _ _ aZ
 refine st (mV (.tuple #[.agg aD.toArray,.bool ((exR dF 2 [evF] (zq dF [evF]) 0 0 (⟨0,0,0,2,0, -1,0⟩:Cmd)).2.1),Iv ((exR dF 2 [evF] (zq dF [evF]) 0 0 (⟨0,0,0,2,0, -1,0⟩:Cmd)).2.2)]) (st (zl (vs:=[.agg aD.toArray,.bool ((exR dF 2 [evF] (zq dF [evF]) 0 0 (⟨0,0,0,2,0, -1,0⟩:Cmd)).2.1),Iv ((exR dF 2 [evF] (zq dF [evF]) 0 0 (⟨0,0,0,2,0, -1,0⟩:Cmd)).2.2)]) (i:=0) (v:=.agg aD.toArray) rfl rfl (st (zl (vs:=[.agg aD.toArray,.bool ((exR dF 2 [evF] (zq dF [evF]) 0 0 (⟨0,0,0,2,0, -1,0⟩:Cmd)).2.1),Iv ((exR dF 2 [evF] (zq dF [evF]) 0 0 (⟨0,0,0,2,0, -1,0⟩:Cmd)).2.2)]) (i:=1) (v:=.bool ((exR dF 2 [evF] (zq dF [evF]) 0 0 (⟨0,0,0,2,0, -1,0⟩:Cmd)).2.1)) rfl rfl ?_)))))
 refine st (zl (vs:=[.agg aD.toArray,.bool ((exR dF 2 [evF] (zq dF [evF]) 0 0 (⟨0,0,0,2,0, -1,0⟩:Cmd)).2.1),Iv ((exR dF 2 [evF] (zq dF [evF]) 0 0 (⟨0,0,0,2,0, -1,0⟩:Cmd)).2.2)]) (i:=2) (v:=Iv ((exR dF 2 [evF] (zq dF [evF]) 0 0 (⟨0,0,0,2,0, -1,0⟩:Cmd)).2.2)) rfl rfl (st (zv qT ?_)))
 intro w107 b106 bb
 have J:=(ba.s8_abcdfgh).new bb
 refine stn (zr (v:=.agg aD.toArray) (c':=aD.toArray) kT rfl rfl (J.b0) (zZ ⟨rfl,rfl,rfl,(J.depSl (i:=3) rfl).one,rfl,rfl,rfl,rfl,rfl,rfl,zj⟩) yqc rfl ?_)
 intro w109 bc
 have aj:=J.pt0 bc
 refine st (aS (.bool ((exR dF 2 [evF] (zq dF [evF]) 0 0 (⟨0,0,0,2,0, -1,0⟩:Cmd)).2.1)) (st (aS (Iv ((exR dF 2 [evF] (zq dF [evF]) 0 0 (⟨0,0,0,2,0, -1,0⟩:Cmd)).2.2)) (zb (za (R0 fun _=>st (ze (k:=2) nT mT rfl rfl (zi (aj.b7)) (st (mV (Ix q 0) (st (mV (Ix s 0) ?_)))))))))))
 have bd:Cmd.Ok (⟨0,0,0,1, -9,5,7⟩:Cmd):=⟨(show InR (0)from dc),(show InR (0)from dc),(show InR (0)from dc),(show InR (1)from dc),(show InR (-9)from dc),(show InR (5)from dc),(show InR (7)from dc)⟩
 refine st (zQ (parts':=[(3,Iv 1),(4,Iv (-9)),(5,Iv 5),(6,Iv 7)]) (v:=.agg ((⟨0,0,0,1, -9,5,7⟩:Cmd).cells).toArray) rfl (by simp+zetaDelta [Instr.build,Instr.fill,go_sem,evF,Zd]) ?_)
 obtain⟨G114,ak,al,be,bf⟩:=(aj.mv1).lend
 obtain⟨vv120,m121,R122,hb123,bg,hr125⟩:=SetO.sh ak
 have hsm126:(zw 2 [evF]).length*8≤140737488355328:=bg.small
 refine st (cL uT (xU (d:=dF) (o:=0) (start:=0) (c:=(⟨0,0,0,1, -9,5,7⟩:Cmd)) (zk m al) (RdS.nil _ _) (⟨⟩:Dcl.Ok dF) ak (by decide) (by decide) bd (zk (zk (zk hKN x) y) al) (be.mv1) YD ((Inv.run YD _)) ((by rw[xH];decide)) ((List.pairwise_singleton _ _)) ((List.pairwise_singleton _ _)) ((by decide)) ((by decide))) ?_)
 rintro _ w129 ⟨C,rfl,bh⟩
 let bo:=((exR dF 2 [evF] (zq dF [evF]) 0 0 (⟨0,0,0,1, -9,5,7⟩:Cmd)).1.cells C)
 have bi:=bf _ _ bh
 refine st (mV (.tuple #[.agg bo.toArray,.bool ((exR dF 2 [evF] (zq dF [evF]) 0 0 (⟨0,0,0,1, -9,5,7⟩:Cmd)).2.1),Iv ((exR dF 2 [evF] (zq dF [evF]) 0 0 (⟨0,0,0,1, -9,5,7⟩:Cmd)).2.2)]) (st (zl (vs:=[.agg bo.toArray,.bool ((exR dF 2 [evF] (zq dF [evF]) 0 0 (⟨0,0,0,1, -9,5,7⟩:Cmd)).2.1),Iv ((exR dF 2 [evF] (zq dF [evF]) 0 0 (⟨0,0,0,1, -9,5,7⟩:Cmd)).2.2)]) (i:=0) (v:=.agg bo.toArray) rfl rfl (st (zl (vs:=[.agg bo.toArray,.bool ((exR dF 2 [evF] (zq dF [evF]) 0 0 (⟨0,0,0,1, -9,5,7⟩:Cmd)).2.1),Iv ((exR dF 2 [evF] (zq dF [evF]) 0 0 (⟨0,0,0,1, -9,5,7⟩:Cmd)).2.2)]) (i:=1) (v:=.bool ((exR dF 2 [evF] (zq dF [evF]) 0 0 (⟨0,0,0,1, -9,5,7⟩:Cmd)).2.1)) rfl rfl ?_)))))
 refine st (zl (vs:=[.agg bo.toArray,.bool ((exR dF 2 [evF] (zq dF [evF]) 0 0 (⟨0,0,0,1, -9,5,7⟩:Cmd)).2.1),Iv ((exR dF 2 [evF] (zq dF [evF]) 0 0 (⟨0,0,0,1, -9,5,7⟩:Cmd)).2.2)]) (i:=2) (v:=Iv ((exR dF 2 [evF] (zq dF [evF]) 0 0 (⟨0,0,0,1, -9,5,7⟩:Cmd)).2.2)) rfl rfl (st (zv qT ?_)))
 intro w134 b133 bj
 have K:=bi.new bj
 refine stn (zr (v:=.agg bo.toArray) (c':=bo.toArray) kT rfl rfl (K.b0) (zZ ⟨rfl,rfl,rfl,(K.depSl (i:=3) rfl).one,rfl,rfl,rfl,rfl,rfl,rfl,zj⟩) yqc rfl ?_)
 intro w136 bk
 have L:=K.pt0 bk
 refine st (aS (.bool ((exR dF 2 [evF] (zq dF [evF]) 0 0 (⟨0,0,0,1, -9,5,7⟩:Cmd)).2.1)) (st (aS (Iv ((exR dF 2 [evF] (zq dF [evF]) 0 0 (⟨0,0,0,1, -9,5,7⟩:Cmd)).2.2)) (zb (za (zy kr (st (mV (Iv ((exR dF 2 [evF] (zq dF [evF]) 0 0 (⟨0,0,0,2,0, -1,0⟩:Cmd)).2.2)) (st (zR (k:=.i64) (a:=(exR dF 2 [evF] (zq dF [evF]) 0 0 (⟨0,0,0,2,0, -1,0⟩:Cmd)).2.2) (b:=2) rfl rfl ?_))))))))))
 have aP:(decide (((exR dF 2 [evF] (zq dF [evF]) 0 0 (⟨0,0,0,2,0, -1,0⟩:Cmd)).2.2)=2))=true:=yqf
 rw[aP]
 refine st (mV (.bool true) (sty rfl rfl (mV (Iv ((exR dF 2 [evF] (zq dF [evF]) 0 0 (⟨0,0,0,1, -9,5,7⟩:Cmd)).2.2)) (sty rfl rfl (zR (k:=.i64) (a:=(exR dF 2 [evF] (zq dF [evF]) 0 0 (⟨0,0,0,1, -9,5,7⟩:Cmd)).2.2) (b:=0) rfl rfl ?_)))))
 have aQ:(decide (((exR dF 2 [evF] (zq dF [evF]) 0 0 (⟨0,0,0,1, -9,5,7⟩:Cmd)).2.2)=0))=true:=yqf
 rw[aQ]
 refine st (yc (v:=.bool true) rfl rfl (st (mV (.bool true) (sty rfl rfl (mV (.bool ((exR dF 2 [evF] (zq dF [evF]) 0 0 (⟨0,0,0,1, -9,5,7⟩:Cmd)).2.1)) (sty rfl rfl (yw (a:=(exR dF 2 [evF] (zq dF [evF]) 0 0 (⟨0,0,0,1, -9,5,7⟩:Cmd)).2.1) rfl ?_)))))))
 have aR:(!((exR dF 2 [evF] (zq dF [evF]) 0 0 (⟨0,0,0,1, -9,5,7⟩:Cmd)).2.1))=true:=yqf
 rw[aR]
 refine st (yc (v:=.bool true) rfl rfl (st (mV (.bool true) (sty rfl rfl (yA rfl (sty rfl rfl (ze (k:=2) (cs:=[Iv ((exR dF 2 [evF] (zq dF [evF]) 0 0 (⟨0,0,0,1, -9,5,7⟩:Cmd)).1.origin),Iv ((exR dF 2 [evF] (zq dF [evF]) 0 0 (⟨0,0,0,1, -9,5,7⟩:Cmd)).1.seq)]) oY pY rfl rfl (CellsAt.sub (zi (L.b0)) 0 (cs2:=[Iv ((exR dF 2 [evF] (zq dF [evF]) 0 0 (⟨0,0,0,1, -9,5,7⟩:Cmd)).1.origin),Iv ((exR dF 2 [evF] (zq dF [evF]) 0 0 (⟨0,0,0,1, -9,5,7⟩:Cmd)).1.seq)]) rfl) (sty rfl rfl (yA rfl (sty rfl rfl (ze (k:=2) (cs:=[Iv (evF.origin),Iv (evF.seq)]) oY pY rfl rfl (CellsAt.sub (zi (L.b8)) 0 (cs2:=[Iv (evF.origin),Iv (evF.seq)]) rfl) ?_)))))))))))
 refine sty rfl rfl (Yv (e:=decide ((exR dF 2 [evF] (zq dF [evF]) 0 0 (⟨0,0,0,1, -9,5,7⟩:Cmd)).1.origin=evF.origin∧(exR dF 2 [evF] (zq dF [evF]) 0 0 (⟨0,0,0,1, -9,5,7⟩:Cmd)).1.seq=evF.seq)) (xs:=#[Iv ((exR dF 2 [evF] (zq dF [evF]) 0 0 (⟨0,0,0,1, -9,5,7⟩:Cmd)).1.origin),Iv ((exR dF 2 [evF] (zq dF [evF]) 0 0 (⟨0,0,0,1, -9,5,7⟩:Cmd)).1.seq)]) (ys:=#[Iv (evF.origin),Iv (evF.seq)]) zcl rfl rfl ?_)
 have aT:(decide ((exR dF 2 [evF] (zq dF [evF]) 0 0 (⟨0,0,0,1, -9,5,7⟩:Cmd)).1.origin=evF.origin∧(exR dF 2 [evF] (zq dF [evF]) 0 0 (⟨0,0,0,1, -9,5,7⟩:Cmd)).1.seq=evF.seq))=true:=yqf
 rw[aT]
 refine st (yc (v:=.bool true) rfl rfl (st (mV (.bool true) (sty rfl rfl (cL sT (xf (zk (zk hKN x) y) L) ?_)))))
 rintro _ cS ⟨rfl,bl⟩
 refine st (yc (v:=.bool true) rfl rfl (st (aS (.bool true) (zb (zo (zN Tryz.results4 (show _=(.bool true:Value)from rfl) ?_))))))
 have bm:=cq _ _ bl
 have bn:=cl _ _ bm
 have bp:Sep G W Rs cS:=bn.sel 12 [] (yL _ _) rfl rfl
 refine⟨rfl,bp⟩
 have I:=tD I
 refine zg rfl (zp (za (zu (za (R0 fun _=>st (aS (Iv (-2)) (zb (zu (yf (fun mq σ wq=> ∃(j:Int) (ρ:Env),mq=(3-j).toNat∧σ=yo ρ [(1,Ix Y 0),(2,Ix Z 0),(3,Ix aa 0),(4,Iv f),(5,Iv j)]∧(-2≤j∧j≤3)∧Sep u t ((Blk aa ((⟨0,0,0,1, -3,1,0⟩:Cmd).cells).toArray 49)::(Blk Z (evF.cells (Iy h 2 2)).toArray 44)::(Blk Y (dF.cells (Iy F 1 1) Iz).toArray 25)::Rs) wq) ⟨(-2),_,rfl,sSf,by omega,H⟩ ?_)))))))))
 rintro m149 σ150 w148 ⟨j,ρl2,rfl,rfl,hx9,M⟩
 refine za (za (R0 fun _=>st (mV (Iv j) (st (zI (k:=.i64) (a:=j) (b:=3) rfl rfl (zb ?_))))))
 cases D:decide (j<3)
 have D:=fD D
 refine zf rfl (yh (zX (R0 fun _=>st (mV (Iv f) ?_))))
 have bq:InR (f+1):=om
 refine st (zU (r:=f+1) (k:=.i64) (a:=f) (b:=1) rfl rfl (by rw[show(f+1:Int)=f+1 from rfl];exact zJ bq) (st (aS (Iv (f+1)) (zb ?_))))
 exact⟨_,by omega,f+1,_,rfl,sSf,by omega,M⟩
 have D:=tD D
 refine zg rfl (zp (za (zu (za (R0 fun _=>st (ze (k:=7) rT oT rfl rfl (zi (M.b0)) (st (zv wT ?_))))))))
 intro w156 b155 br
 have am:=M.new br
 refine stn (zr (v:=.agg ((⟨0,0,0,1, -3,1,0⟩:Cmd).cells).toArray) (c':=((⟨0,0,0,1, -3,1,0⟩:Cmd).cells).toArray) oT rfl rfl (am.b0) (zZ ⟨rfl,rfl,rfl,rfl,rfl,rfl,rfl,zj⟩) yqc rfl ?_)
 intro w158 bs
 have an:=am.pt0 bs
 refine zb (za (R0 fun _=>st (mV (Iv f) (st (Yj rfl (stn (yr (v:=Iv f) (c:=[Iv 0,Iv 0,Iv 0,Iv 1,Iv (-3),Iv 1,Iv 0]) (c':=[Iv 0,Iv 0,Iv 0,Iv 1,Iv f,Iv 1,Iv 0]) vT rfl rfl (an.b0) rfl rfl rfl ?_)))))))
 intro w161 bt
 have ok163:Cmd.Ok (⟨0,0,0,1,f,1,0⟩:Cmd):=⟨(show InR (0)from dc),(show InR (0)from dc),(show InR (0)from dc),(show InR (1)from dc),(show InR (f)from om),(show InR (1)from dc),(show InR (0)from dc)⟩
 have ao:=an.pt0 bt
 refine zb (za (R0 fun _=>st (mV (Iv j) (st (Zk rfl (stn (yr (v:=Iv j) (c:=[Iv 0,Iv 0,Iv 0,Iv 1,Iv f,Iv 1,Iv 0]) (c':=[Iv 0,Iv 0,Iv 0,Iv 1,Iv f,Iv j,Iv 0]) vT rfl rfl (ao.b0) rfl rfl rfl ?_)))))))
 intro w165 bu
 have ok167:Cmd.Ok (⟨0,0,0,1,f,j,0⟩:Cmd):=⟨(show InR (0)from dc),(show InR (0)from dc),(show InR (0)from dc),(show InR (1)from dc),(show InR (f)from om),(show InR (j)from om),(show InR (0)from dc)⟩
 have ap:=ao.pt0 bu
 refine zb (za (R0 fun _=>st (mV (Iv f) ?_)))
 have bv:InR (f+4):=by omega
 refine st (zU (r:=f+4) (k:=.i64) (a:=f) (b:=4) rfl rfl (zJ bv) ?_)
 have N:(0:Int)<3:=by omega
 have bw:=Int.tmod_lt_of_pos (f+4) N;have bx:=Int.lt_tmod_of_pos (f+4) N
 obtain⟨g,aq⟩: ∃z,Int.tmod (f+4) 3=z:=⟨_,rfl⟩;rw[aq]at bw bx
 refine st (zbL (r:=g) rfl rfl N aq ?_)
 have ar:InR (g*7):=by omega
 refine st (zbj (r:=g*7) (k:=.i64) (a:=g) (b:=7) rfl rfl (zJ ar) (st (Yd rfl (stn (yr (v:=Iv (g*7)) (c:=[Iv 0,Iv 0,Iv 0,Iv 1,Iv f,Iv j,Iv 0]) (c':=[Iv 0,Iv 0,Iv 0,Iv 1,Iv f,Iv j,Iv (g*7)]) vT rfl rfl (ap.b0) rfl rfl rfl ?_)))))
 intro w176 bz
 have E:Cmd.Ok (⟨0,0,0,1,f,j,g*7⟩:Cmd):=⟨(show InR (0)from dc),(show InR (0)from dc),(show InR (0)from dc),(show InR (1)from dc),(show InR (f)from om),(show InR (j)from om),(show InR (g*7)from ar)⟩
 have O:=ap.pt0 bz
 refine zb (za (zy kr (st (ze (k:=2) nT mT rfl rfl (zi (O.b3)) (st (ze (k:=10) pT kT rfl rfl (zi (O.b2)) (st (zL (k:=10) (parts':=[(0,.agg ci.toArray)]) (c:=ci.toArray) tT kT qT dc rfl kr ?_))))))))
 intro w182 aU bA
 have au:=O.new bA
 refine st (ze (k:=7) rT oT rfl rfl (zi (au.b1)) (st (zL (k:=7) (parts':=[(0,.agg ((⟨0,0,0,1,f,j,g*7⟩:Cmd).cells).toArray)]) (c:=((⟨0,0,0,1,f,j,g*7⟩:Cmd).cells).toArray) Tryz.underlying27 oT wT dc rfl kr ?_)))
 intro w186 aV bB
 have av:Sep _ _ ((RowE (α:=Ev) (shr u t) 44 (Iy aU 1 1) [evF])::_) _:=Sep.blkRow (src:=(shr u t)) (l:=[evF]) (css:=[evF.cells (Iy h 2 2)]) ((au.new bB).mv1) rfl ⟨fun _ _=>⟨_,rfl,A,Vw⟩,zj⟩ yqa (show 1≤maxLen by decide)
 have bC:=av.r0
 have hr190s:_*96≤_:=bC.2
 obtain⟨G191,bD,P,bE,bF⟩:=av.lend
 have ab:=RowE.rdB bD P
 have hrd197s:_*96≤_:=ab.small
 have aw:Sep _ _ ((RowE (α:=Cmd) own 49 (Iy aV 1 1) [(⟨0,0,0,1,f,j,g*7⟩:Cmd)])::_) _:=Sep.blkRow (src:=own) (l:=[(⟨0,0,0,1,f,j,g*7⟩:Cmd)]) (css:=[(⟨0,0,0,1,f,j,g*7⟩:Cmd).cells]) bE rfl ⟨fun _ _=>⟨rfl,E⟩,zj⟩ yqa (show 1≤maxLen by decide)
 have bG:=aw.r0
 have hr199s:_*56≤_:=bG.2
 obtain⟨G200,bH,Q,bI,bJ⟩:=aw.lend
 have ac:=RowE.rd bH
 have hrd206s:_*56≤_:=ac.small
 refine st (cL Tryz.call3 (Vo (d:=dF) (n:=1) (l:=[evF]) (vl:=(Iy aU 1 1)) (o:=1) (start:=5) (cm:=[(⟨0,0,0,1,f,j,g*7⟩:Cmd)]) (vcm:=(Iy aV 1 1)) (zk (zk (zk m p) P) Q) (RdS.nil _ _) (⟨⟩:Dcl.Ok dF) dc (zk ab Q) dc dc ac (zk (zk (zk (zk (zk hKN x) y) p) P) Q) bI) ?_)
 rintro _ w207 ⟨rfl,bK⟩
 have bL:=bJ _ _ bK
 have R:=bF _ _ bL
 refine st (yw (a:=true) rfl (st (mV (.bool false) (sty rfl rfl (ze (k:=2) nT mT rfl rfl (zi (R.b5)) (sty rfl rfl (ze (k:=10) pT kT rfl rfl (zi (R.b4)) (sty rfl rfl (zL (k:=10) (parts':=[(0,.agg ci.toArray)]) (c:=ci.toArray) tT kT qT dc rfl kr ?_)))))))))
 intro w213 aW bM
 have ax:=R.new bM
 refine sty rfl rfl (ze (k:=7) rT oT rfl rfl (zi (ax.b3)) ?_)
 have ay:Sep _ _ ((RowE (α:=Ev) (shr u t) 44 (Iy aW 1 1) [evF])::_) _:=Sep.blkRow (src:=(shr u t)) (l:=[evF]) (css:=[evF.cells (Iy h 2 2)]) ax rfl ⟨fun _ _=>⟨_,rfl,A,Vw⟩,zj⟩ yqa (show 1≤maxLen by decide)
 have bN:=ay.r0
 have hr216s:_*96≤_:=bN.2
 obtain⟨G217,bO,S,bP,bQ⟩:=ay.lend
 have ad:=RowE.rdB bO S
 have hrd223s:_*96≤_:=ad.small
 refine sty rfl rfl (cL Tryz.call22 (QT (d:=dF) (n:=1) (l:=[evF]) (vl:=(Iy aW 1 1)) (o:=1) (start:=5) (c:=(⟨0,0,0,1,f,j,g*7⟩:Cmd)) (zk (zk m p) S) (RdS.nil _ _) (⟨⟩:Dcl.Ok dF) dc ad dc dc E (zk (zk (zk (zk hKN x) y) p) S) bP) ?_)
 rintro _ w224 ⟨rfl,bR⟩
 have T:=bQ _ _ bR
 refine sty rfl rfl (yw (a:=true) rfl (st (yb (v:=.bool false) rfl rfl (st (mV (.bool false) (sty rfl rfl (ze (k:=2) nT mT rfl rfl (zi (T.b6)) (sty rfl rfl (ze (k:=10) pT kT rfl rfl (zi (T.b5)) (sty rfl rfl (zL (k:=10) (parts':=[(0,.agg ci.toArray)]) (c:=ci.toArray) tT kT qT dc rfl kr ?_)))))))))))
 intro w229 aX bS
 have az:=T.new bS
 refine sty rfl rfl (ze (k:=7) rT oT rfl rfl (zi (az.b4)) ?_)
 have aA:Sep _ _ ((RowE (α:=Ev) (shr u t) 44 (Iy aX 1 1) [evF])::_) _:=Sep.blkRow (src:=(shr u t)) (l:=[evF]) (css:=[evF.cells (Iy h 2 2)]) az rfl ⟨fun _ _=>⟨_,rfl,A,Vw⟩,zj⟩ yqa (show 1≤maxLen by decide)
 have bT:=aA.r0
 have hr232s:_*96≤_:=bT.2
 obtain⟨G233,bU,U,bV,bW⟩:=aA.lend
 have ae:=RowE.rdB bU U
 have hrd239s:_*96≤_:=ae.small
 refine sty rfl rfl (cL Tryz.call23 (Vk (d:=dF) (n:=1) (l:=[evF]) (vl:=(Iy aX 1 1)) (o:=1) (c:=(⟨0,0,0,1,f,j,g*7⟩:Cmd)) (zk (zk m p) U) (RdS.nil _ _) (⟨⟩:Dcl.Ok dF) dc ae dc E (zk (zk (zk (zk hKN x) y) p) U) bV) ?_)
 rintro _ w240 ⟨rfl,bX⟩
 have V:=bW _ _ bX
 refine sty rfl rfl (yw (a:=true) rfl (st (yb (v:=.bool false) rfl rfl (st (mV (.bool false) (sty rfl rfl (ze (k:=2) nT mT rfl rfl (zi (V.b7)) (sty rfl rfl (ze (k:=10) pT kT rfl rfl (zi (V.b6)) (sty rfl rfl (zL (k:=10) (parts':=[(0,.agg ci.toArray)]) (c:=ci.toArray) tT kT qT dc rfl kr ?_)))))))))))
 intro w245 aY bY
 have aB:=V.new bY
 refine sty rfl rfl (ze (k:=7) rT oT rfl rfl (zi (aB.b5)) ?_)
 have aC:Sep _ _ ((RowE (α:=Ev) (shr u t) 44 (Iy aY 1 1) [evF])::_) _:=Sep.blkRow (src:=(shr u t)) (l:=[evF]) (css:=[evF.cells (Iy h 2 2)]) aB rfl ⟨fun _ _=>⟨_,rfl,A,Vw⟩,zj⟩ yqa (show 1≤maxLen by decide)
 have bZ:=aC.r0
 have hr248s:_*96≤_:=bZ.2
 obtain⟨G249,ca,X,cb,cc⟩:=aC.lend
 have af:=RowE.rdB ca X
 have hrd255s:_*96≤_:=af.small
 refine sty rfl rfl (cL Tryz.call24 (WJ (d:=dF) (n:=1) (l:=[evF]) (vl:=(Iy aY 1 1)) (o:=0) (c:=(⟨0,0,0,1,f,j,g*7⟩:Cmd)) (zk (zk m p) X) (RdS.nil _ _) (⟨⟩:Dcl.Ok dF) dc af dc E (zk (zk (zk (zk hKN x) y) p) X) cb) ?_)
 rintro _ w256 ⟨rfl,cd⟩
 have ce:=cc _ _ cd
 refine sty rfl rfl (yw (a:=true) rfl (st (yb (v:=.bool false) rfl rfl (zb (zf rfl (zp (R0 fun _=>st (mV (Iv j) ?_))))))))
 have cf:InR (j+1):=om
 refine st (zU (r:=j+1) (k:=.i64) (a:=j) (b:=1) rfl rfl (by rw[show(j+1:Int)=j+1 from rfl];exact zJ cf) (st (aS (Iv (j+1)) (zb ?_))))
 exact⟨_,by omega,j+1,_,rfl,sSf,by omega,(ce.s9_ghi)⟩
theorem UE {w:World}(hK:RdS w (WN w) (.slice (some ⟨0,0,none⟩) 6 6) kindsL):Ret Tryz.prog 4 [] w (fun r w'=>r=.bool true∧Ext w w'):=
 Ret.mono (UR hK (Sep.start w)) (fun r w' h=>⟨h.1,h.2.fin⟩)
end
end Go.Proofs.YtbcdijeggfoabaaGreatDoor
