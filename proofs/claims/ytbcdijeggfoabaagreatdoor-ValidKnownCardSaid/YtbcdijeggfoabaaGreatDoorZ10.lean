import Derived.Test.YtbcdijeggfoabaaGreatDoorZ9
set_option maxRecDepth 8000
set_option maxHeartbeats 4000000
set_option linter.unusedSimpArgs false
set_option linter.unusedVariables false
set_option linter.unusedSectionVars false
set_option linter.deprecated false
open Go.Proofs.Tryz renaming sizeOf140→kT,isAgg3→lT,underlying75→mT,underlying56→nT,sizeOf44→oT,sizeOf96→pT,isAgg140→qT,isAgg25→rT,sizeOf25→sT,underlying42→tT,sizeOf3→uT,results48→vT,isAgg42→wT,isAgg75→kR,isAgg44→lR,results84→mR,call6→nR,results23→oR,zeroValue44→pR,sizeOf106→qR,sizeOf143→rR,isAgg49→sR,sizeOf49→tR,call11→uR,isAgg72→vR,underlying72→wR,isAgg4→kY,sizeOf42→lY,results18→mY,results62→nY,call7→oY,call13→pY,results85→qY,zeroValue140→rY,isAgg104→sY,underlying104→tY,isAgg41→uY,sizeOf41→vY,isAgg96→wY,zeroValue96→kA
namespace Go.Proofs.YtbcdijeggfoabaaGreatDoor
variable {G:Nat→Prop}{W w:World}{Rs:List HP}
section
open Go.Proofs Go.RowKit
section
variable {d:Dcl}{n:Nat}{L:List Ev}{V:List Ent}{o start lam:Int}{c:Cmd}
theorem zaZ {ty f op arg:Int}:xb d ty f op arg≠10∧xb d ty f op arg≠13∧xb d ty f op arg≠11:=by unfold xb;repeat (first|decide|split)
theorem Jt:xc d c≠10∧xc d c≠13∧xc d c≠11:=by
 unfold xc
 split
 ·decide
 ·exact zaZ
theorem mayL_two {t:Typ}{cs:List Cel}{f op arg:Int}:yN t cs f op arg=0∨yN t cs f op arg=10:=by unfold yN;split<;>simp
theorem zcm {v:Int}:xy c v=0∨xy c v=11:=by unfold xy;split<;>simp
theorem Ws (ho:0≤o∧o<n)(hl:0≤lam)(hL:L.length≤1000):evN o (zw n L) lam=if lam=9223372036854775807 then 13 else 0:=by
 have h9:=WL (n:=n) (L:=L) o
 unfold evN
 rw[xM]
 have h1:((decide (o<0)||decide ((n:Int)≤o))||decide (lam<0))=false:=by
  rw[Bool.or_eq_false_iff,Bool.or_eq_false_iff,decide_eq_false_iff_not,decide_eq_false_iff_not,decide_eq_false_iff_not];omega
 have h2:decide (yz (zw n L) o=9223372036854775807)=false:=by rw[decide_eq_false_iff_not];omega
 rw[h1,h2]
 by_cases h3:lam=9223372036854775807<;>simp[h3]
theorem zei:(∃r:Ev×Bool×Int,r.2.1=false∧r.2.2≠13∧ ∀start,exR d n L V o start c=r)∨ ∀start,exR d n L V o start c=(evE c o (zw n L) (max (zP L) start),decide (evN o (zw n L) (max (zP L) start)=0),evN o (zw n L) (max (zP L) start)):=by
 by_cases h:xc d c=0
 ·cases hk:(yP L c.ckey).isSome with
  |true=>exact .inl ⟨((yP L c.ckey).getD default,false,0),rfl,(show(0:Int)≠13 by decide),fun _=>YO h hk⟩
  |false=>
   by_cases hx:xy c ((yn (c.ctyp,c.cagg) V:Nat):Int)=0
   ·by_cases hm:yN (xR d c.ctyp) (zM d (c.ctyp,c.cagg) V) c.cfield c.cop c.carg=0
    ·exact .inr fun _=>VF h hk hx hm
    ·refine .inl ⟨(ev0,false,yN (xR d c.ctyp) (zM d (c.ctyp,c.cagg) V) c.cfield c.cop c.carg),rfl,?_,fun _=>Vb h hk hx hm⟩
     have:=mayL_two (t:=xR d c.ctyp) (cs:=zM d (c.ctyp,c.cagg) V) (f:=c.cfield) (op:=c.cop) (arg:=c.carg)
     intro h9
     have h8:yN (xR d c.ctyp) (zM d (c.ctyp,c.cagg) V) c.cfield c.cop c.carg=13:=h9
     omega
   ·refine .inl ⟨(ev0,false,xy c ((yn (c.ctyp,c.cagg) V:Nat):Int)),rfl,?_,fun _=>Vm h hk hx⟩
    have:=zcm (c:=c) (v:=((yn (c.ctyp,c.cagg) V:Nat):Int))
    intro h9
    have h8:xy c ((yn (c.ctyp,c.cagg) V:Nat):Int)=13:=h9
    omega
 ·exact .inl ⟨(ev0,false,xc d c),rfl,Jt.2.1,fun _=>Xr h⟩
theorem zdC (ho:0≤o∧o<n)(ht:0≤zP L∧zP L≤9223372036854775807)(hL:L.length≤1000):
 (((exR d n L V o 0 c).2.2≠0∧(exR d n L V o 0 c).2.2≠13∨(exR d n L V o 0 c).2.2=0∧(exR d n L V o 0 c).2.1=false)→(exR d n L V o 9223372036854775807 c).2.2=(exR d n L V o 0 c).2.2∧(exR d n L V o 9223372036854775807 c).2.1=false)∧
 (¬((exR d n L V o 0 c).2.2≠0∧(exR d n L V o 0 c).2.2≠13)→ ¬((exR d n L V o 0 c).2.2=0∧(exR d n L V o 0 c).2.1=false)→exR d n L V o 9223372036854775807 c=(ev0,false,13)∧
  (zP L<9223372036854775807→(exR d n L V o 9223372036854775806 c).2.2=0∧(exR d n L V o 9223372036854775806 c).2.1=true∧(exR d n L V o 9223372036854775806 c).1.lam=9223372036854775807)∧
  (¬zP L<9223372036854775807→(exR d n L V o 9223372036854775806 c).2.2=13)):=by
 rcases zei (d:=d) (n:=n) (L:=L) (V:=V) (o:=o) (c:=c)with⟨r,h1,h2,h3⟩|h
 ·rw[h3,h3]
  refine⟨fun _=>⟨rfl,h1⟩,fun h4 h5=>?_⟩
  exfalso
  by_cases h6:r.2.2=0
  ·exact h5 ⟨h6,h1⟩
  ·exact h4 ⟨h6,h2⟩
 ·rw[h,h,h]
  have e0:=Ws (n:=n) (L:=L) (lam:=max (zP L) 0) ho (by omega) hL
  have e1:=Ws (n:=n) (L:=L) (lam:=max (zP L) 9223372036854775807) ho (by omega) hL
  have e2:=Ws (n:=n) (L:=L) (lam:=max (zP L) 9223372036854775806) ho (by omega) hL
  rw[if_pos (by omega)]at e1
  have hv:evN o (zw n L) (max (zP L) 0)=0∨evN o (zw n L) (max (zP L) 0)=13:=by rw[e0];split<;>simp
  refine⟨fun h4=>?_,fun _ _=>⟨?_,fun h6=>?_,fun h6=>?_⟩⟩
  ·exfalso
   dsimp only at h4
   rcases h4 with⟨h5,h6⟩|⟨h5,h6⟩
   ·omega
   ·rw[h5]at h6;simp at h6
  ·unfold evE
   rw[e1,if_neg (by decide)]
   rfl
  ·rw[if_neg (by omega)]at e2
   refine⟨e2,by rw[e2];rfl,?_⟩
   show(evE c o (zw n L) (max (zP L) 9223372036854775806)).lam=_
   unfold evE
   rw[if_pos e2]
   show max (zP L) 9223372036854775806+1=_
   omega
  ·rw[if_pos (by omega)]at e2
   exact e2
end
theorem Sep.setOks {G:Nat→Prop}{W w:World}{As:List HP}{b n:Nat}{L:List Ev}(h:Sep G W As w){i:Nat}(hi:As[i]? =some (SetO b n L))(hid:(L.map idE).Nodup): ∀e∈L,e.Ok:=by
 obtain⟨f,hA,_⟩:=h.get hi
 obtain⟨vv,m,R,_,_,hr⟩:=SetO.sh hA
 exact zdI hr hid
set_option maxHeartbeats 8000000 in
theorem Vk {d:Dcl}{dd0:Value}(hdd0:RdS W G dd0 d.types){dd1:Value}(hdd1:RdS W G dd1 d.projs)(od:d.Ok){n:Int}(hn:InR n){vl:Value}{l:List Ev}(hl:RdS W G vl l){o:Int}(ho:InR o){c:Cmd}(oc:c.Ok)(hKN:RdS W G (.slice (some ⟨0,0,none⟩) 6 6) kindsL)(hS0:Sep G W Rs w):Ret Tryz.prog 23 [.agg (d.cells dd0 dd1).toArray,.int .i64 (n),vl,.int .i64 (o),.agg (c.cells).toArray] w (fun r w'=>r=(.bool true:Value)∧Sep G W Rs w'):=by
 have hdd0s:_*24≤_:=hdd0.small
 have hdd1s:_*40≤_:=hdd1.small
 have hls:_*96≤_:=hl.small
 have hKNs:_*8≤_:=hKN.small
 refine zm (args:=[.agg (d.cells dd0 dd1).toArray,Iv n,vl,Iv o,.agg (c.cells).toArray]) Tryz.func23 rfl rfl ?_
 refine za (R0 fun _=>st (zT (v:=.agg (d.cells dd0 dd1).toArray) rfl ?_))
 intro w3 b2 cD
 refine st (zT (v:=.agg (c.cells).toArray) rfl ?_)
 intro w7 b6 cE
 have bX:=(hS0.new cD).new cE
 refine st (aS (.bool false) (zb (za (za (R0 fun _=>st (ze (k:=2) rT sT rfl rfl (zi (bX.b1)) (st (cL Tryz.call5 (Ww (d:=d) hdd0 hdd1 od bX) ?_))))))))
 rintro _ w11 ⟨b9,rfl,ca,az⟩
 refine st (yw (a:=b9) rfl (zb ?_))
 cases U: !b9
 have hc13r:=U
 try simp only[zh]at U
 have S:=ca (by simpa using U)
 refine zf rfl (zp (za (R0 fun _=>st (mV (Iv n) ?_))))
 refine st (cL oY (YM (x:=n) (n:=64) hn yqe az) ?_)
 rintro _ w16 ⟨j,rfl,hq15,cb⟩
 have cc:InR ((1+j:Nat):Int):=bo
 refine st (zU (r:=((1+j:Nat):Int)) (k:=.i64) (a:=1) (b:=((j:Nat):Int)) rfl rfl (by rw[show(1+((j:Nat):Int):Int)=((1+j:Nat):Int)from bo];exact zJ cc) (st (aS (Iw (1+j)) (zb (za (yy (by kernel_rfl) (fun _=>(st (mV (Iv o) (st (mV (Iw (1+j)) ?_)))))))))))
 refine st (cL oY (YM (x:=o) (n:=1+j) ho yqe cb) ?_)
 rintro _ w21 ⟨m,rfl,hq20,cd⟩
 refine st (aS (Iw m) (zb (za ?_)))
 refine WD4 ((fun TT aA=>WF [fun vals wq=>Sep G W (aA::TT) wq,fun vals wq=> ∃(y:Value) (s:List Ev),(vals 4=(y:Value))∧(s.length≤60)∧(∀i,i<s.length→We (s.getD i default) ((1+j:Nat):Int))∧Sep G W ((RowE (α:=Ev) (shr G W) 44 y s)::aA::TT) wq,fun vals wq=> ∃(y:Value) (s:List Ev) (p:Nat) (q:Nat),(vals 4=(y:Value))∧(vals 5=(.tuple #[Ix p 0,Ix q 0]:Value))∧(s.length≤60)∧(∀i,i<s.length→We (s.getD i default) ((1+j:Nat):Int))∧Sep G W ((RowE (α:=Ev) (shr G W) 44 y s)::(SetO p (1+j) (yX (1+j) s))::(ViewO q d (zq d (yX (1+j) s)) (zq d (yX (1+j) s)))::aA::TT) wq]) ((Blk b2 (d.cells dd0 dd1).toArray 25)::Rs) (Blk b6 (c.cells).toArray 49)) (AF [Vl 0 (.agg (d.cells dd0 dd1).toArray),Vl 1 (Iw (1+j)),Vl 2 (Iw (1+j)),Vl 3 vl,fun _=>True,fun _=>True,fun vals=> ∀(p:Nat) (q:Nat),vals 5=(.tuple #[Ix p 0,Ix q 0]:Value)→vals 6=(.tuple #[Ix p 0,Ix q 0]:Value),fun vals=> ∀(p:Nat) (q:Nat),vals 5=(.tuple #[Ix p 0,Ix q 0]:Value)→vals 7=(Ix p 0:Value),fun vals=> ∀(p:Nat) (q:Nat),vals 5=(.tuple #[Ix p 0,Ix q 0]:Value)→vals 8=(Ix q 0:Value),fun vals=> ∀(p:Nat) (q:Nat),vals 5=(.tuple #[Ix p 0,Ix q 0]:Value)→vals 9=(Ix p 0:Value),fun vals=> ∀(p:Nat) (q:Nat),vals 5=(.tuple #[Ix p 0,Ix q 0]:Value)→vals 10=(Ix q 0:Value)]) [[],[],[],[],[2,3],(rg 5),(rg 6),(rg 7),(rg 7),(rg 8),(rg 10)] [4,5] [(0,1),(0,1),(0,0),(0,0),(0,0),(1,1),(2,2),(2,2),(2,2),(2,2),(2,2)] cd ⟨?_,fun _ _ _ _ _ _ _=>obl rfl (mV (Iw (1+j)) dR),fun _ _ _ _ _ _ _=>obl rfl (mV (Iw (1+j)) dR),fun _ _ _ _ _ _ _=>obl rfl (mV vl dR),?_,?_,?_,?_,?_,?_,?_,zj⟩ ?_ (hlocA:=xd ⟨dA,dA,dA,dA,dT,dT,fun vals A C h=>fun p q t=>(C 6 (.inl rfl)).trans (h p q ((C 5 (.inr dc)).symm.trans t)),fun vals A C h=>fun p q t=>(C 7 (.inl rfl)).trans (h p q ((C 5 (.inr dc)).symm.trans t)),fun vals A C h=>fun p q t=>(C 8 (.inl rfl)).trans (h p q ((C 5 (.inr dc)).symm.trans t)),fun vals A C h=>fun p q t=>(C 9 (.inl rfl)).trans (h p q ((C 5 (.inr dc)).symm.trans t)),fun vals A C h=>fun p q t=>(C 10 (.inl rfl)).trans (h p q ((C 5 (.inr dc)).symm.trans t)),zj⟩)
 refine fun X _ _ ce cf am _=>?_
 have hkk:=xz ce cf
 rcases hkk with rfl|rfl
 have aV:Sep _ _ _ _:=am
 exact obl rfl (ze (k:=2) rT sT rfl rfl (zi (aV.b1)) dR)
 obtain⟨y,s,E,B,D,aW⟩:=am
 exact obl rfl (ze (k:=2) rT sT rfl rfl (zi (aW.b2)) dR)
 refine ob1 0 fun vals _ (cg:Sep _ _ _ _) aC=>(obl rfl ((zO (f:=8) (vals:=[Iw (1+j),vl]) (cap:=[]) rfl (yK ⟨(aC 2 dc),(aC 3 dc),zj⟩) Tryz.call8 (XJ (n:=((1+j:Nat):Int)) (l:=l) (vl:=vl) om hl cg) ?_)))
 rintro y w61 ⟨_,s,rfl,B,D,aD⟩
 have ch:=aD.r0
 have hr63s:_*96≤_:=ch.2
 exact fun A C J=>⟨(exiA y (exiA s (zG C (zG B (zG D aD))))),zj⟩
 refine ob1 1 fun vals _ ci aE=>?_
 obtain⟨y,s,E,B,D,cj⟩:=ci
 refine obl rfl ?_
 obtain⟨G74,ck,Y,cl,cm⟩:=cj.lend
 have an:=RowE.rdB ck Y
 have hrd80s:_*96≤_:=an.small
 refine(zO (f:=9) (vals:=[.agg (d.cells dd0 dd1).toArray,Iw (1+j),y]) (cap:=[]) rfl (yK ⟨(aE 0 dc),(aE 1 dc),E,zj⟩) Tryz.call9 (Xc (d:=d) (n:=1+j) (l:=s) (vl:=y) (zk hdd0 Y) (zk hdd1 Y) od yqe an (zk hKN Y) cl (S.1) om) ?_)
 rintro _ w83 ⟨p,q,rfl,cn⟩
 have co:=cm _ _ cn
 exact fun A C J=>⟨(exiA y (exiA s (exiA p (exiA q (zG ((J 4 dc).trans E) (zG C (zG B (zG D co)))))))),zj⟩
 refine ob1 2 fun _ _ aX _=>?_
 obtain⟨y,s,p,q,E,u,B,D,hS158⟩:=aX
 refine obl rfl (yg (v:=.tuple #[Ix p 0,Ix q 0]) u (fun A C J=>⟨rfl,?_⟩))
 intro O P t
 rw[J 5 (by decide)]at t;cases u.symm.trans t
 exact C
 refine ob1 2 fun vals _ aY aZ=>?_
 obtain⟨y,s,p,q,E,u,B,D,hS165⟩:=aY
 have cp:vals 6=(.tuple #[Ix p 0,Ix q 0]:Value):=aZ 6 dc p q u
 refine obl rfl (zl (vs:=[Ix p 0,Ix q 0]) (i:=0) (v:=Ix p 0) cp rfl (fun A C J=>⟨rfl,?_⟩))
 intro O P t
 rw[J 5 (by decide)]at t;cases u.symm.trans t
 exact C
 refine ob1 2 fun vals _ ba bb=>?_
 obtain⟨y,s,p,q,E,u,B,D,hS173⟩:=ba
 have cq:vals 6=(.tuple #[Ix p 0,Ix q 0]:Value):=bb 6 dc p q u
 refine obl rfl (zl (vs:=[Ix p 0,Ix q 0]) (i:=1) (v:=Ix q 0) cq rfl (fun A C J=>⟨rfl,?_⟩))
 intro O P t
 rw[J 5 (by decide)]at t;cases u.symm.trans t
 exact C
 refine ob1 2 fun vals _ bc bd=>?_
 obtain⟨y,s,p,q,E,u,B,D,hS181⟩:=bc
 have cr:vals 7=(Ix p 0:Value):=bd 7 dc p q u
 refine obl rfl (ya (v:=Ix p 0) cr (fun A C J=>⟨rfl,?_⟩))
 intro O P t
 rw[J 5 (by decide)]at t;cases u.symm.trans t
 exact C
 refine ob1 2 fun vals _ be bf=>?_
 obtain⟨y,s,p,q,E,u,B,D,hS189⟩:=be
 have cs:vals 8=(Ix q 0:Value):=bf 8 dc p q u
 refine obl rfl (ya (v:=Ix q 0) cs (fun A C J=>⟨rfl,?_⟩))
 intro O P t
 rw[J 5 (by decide)]at t;cases u.symm.trans t
 exact C
 intro vals ct bg ao
 obtain⟨y,s,p,q,E,u,B,D,ap⟩:=bg
 have cu:vals 9=(Ix p 0:Value):=ao 9 dc p q u
 have cv:vals 10=(Ix q 0:Value):=ao 10 dc p q u
 refine yd (kv:=[(0,.agg (d.cells dd0 dd1).toArray),(1,Iw (1+j)),(2,vl),(3,Iw m),(4,.agg (c.cells).toArray),(5,Ix b2 0),(9,Ix b6 0),(10,.bool false),(22,.agg (d.cells dd0 dd1).toArray),(23,.bool b9),(24,.bool false),(26,Iv n),(27,Iw j),(28,Iw (1+j)),(29,Iv o),(30,Iw (1+j)),(31,Iw m),(11,Ix p 0),(12,Ix q 0)]) ⟨rfl,rfl,rfl,rfl,rfl,rfl,rfl,rfl,rfl,rfl,rfl,rfl,rfl,rfl,rfl,rfl,rfl,(by exact cu),(by exact cv),zj⟩ (fun ρw191=>(zb (za (za ?_))))
 obtain⟨g,aF⟩: ∃z,(yX (1+j) s)=z:=⟨_,rfl⟩
 have T:Good (1+j) g:=by rw[←aF];exact laidL_good
 have hLl9:g.length≤60:=by rw[←aF];exact Nat.le_trans Zm B
 rw[aF]at ap
 have Q:Sep G W ((RowE (α:=Ev) (shr G W) 44 y s)::(SetO p (1+j) g)::(ViewO q d (zq d g) (zq d g))::(Blk b6 (c.cells).toArray 49)::(Blk b2 (d.cells dd0 dd1).toArray 25)::Rs) ct:=ap
 have aG: ∀e∈g,e.Ok:=(Q).setOks (i:=1) rfl T.ids
 have cw:=XN aG
 have hrl9:=xH d g
 refine zy kr (st (mV (Ix p 0) (st (xx (b:=p) (o:=0) Tryz.underlying32 rfl (st (mV (.bool false) (sty rfl rfl (mV (Ix q 0) (sty rfl rfl (xx (b:=q) (o:=0) Tryz.underlying33 rfl (st (yb (v:=.bool false) rfl rfl (zb (zf rfl (zp (za (R0 fun _=>st (ze (k:=2) rT sT rfl rfl (zi (Q.b4)) (st (mV (Ix p 0) (st (mV (Ix q 0) (st (mV (Iw m) (st (ze (k:=7) sR tR rfl rfl (zi (Q.b3)) ?_))))))))))))))))))))))))))
 obtain⟨G199,aq,Z,bh,bi⟩:=(Q.mv1).lend
 obtain⟨vv205,m206,R207,hb208,bj,hr210⟩:=SetO.sh aq
 have hsm211:(zw (1+j) g).length*8≤140737488355328:=bj.small
 refine st (cL uR (xU (d:=d) (o:=((m:Nat):Int)) (start:=0) (c:=c) (zk hdd0 Z) (zk hdd1 Z) od aq om dc oc (zk hKN Z) (bh.mv1) (S.1) ((Inv.run S.1 _)) om (T.ids) (T.srt) om om) ?_)
 rintro _ w214 ⟨F,rfl,bk⟩
 let bY:=((exR d (1+j) g (zq d g) ((m:Nat):Int) 0 c).1.cells F)
 have bl:=bi _ _ bk
 refine st (mV (.tuple #[.agg bY.toArray,.bool ((exR d (1+j) g (zq d g) ((m:Nat):Int) 0 c).2.1),Iv ((exR d (1+j) g (zq d g) ((m:Nat):Int) 0 c).2.2)]) (st (zl (vs:=[.agg bY.toArray,.bool ((exR d (1+j) g (zq d g) ((m:Nat):Int) 0 c).2.1),Iv ((exR d (1+j) g (zq d g) ((m:Nat):Int) 0 c).2.2)]) (i:=0) (v:=.agg bY.toArray) rfl rfl (st (zl (vs:=[.agg bY.toArray,.bool ((exR d (1+j) g (zq d g) ((m:Nat):Int) 0 c).2.1),Iv ((exR d (1+j) g (zq d g) ((m:Nat):Int) 0 c).2.2)]) (i:=1) (v:=.bool ((exR d (1+j) g (zq d g) ((m:Nat):Int) 0 c).2.1)) rfl rfl ?_)))))
 refine st (zl (vs:=[.agg bY.toArray,.bool ((exR d (1+j) g (zq d g) ((m:Nat):Int) 0 c).2.1),Iv ((exR d (1+j) g (zq d g) ((m:Nat):Int) 0 c).2.2)]) (i:=2) (v:=Iv ((exR d (1+j) g (zq d g) ((m:Nat):Int) 0 c).2.2)) rfl rfl (st (zv pR ?_)))
 intro w219 b218 bm
 have aa:=bl.new bm
 refine stn (zr (v:=.agg bY.toArray) (c':=bY.toArray) oT rfl rfl (aa.b0) (zZ ⟨rfl,rfl,rfl,(aa.depSl (i:=3) rfl).one,rfl,rfl,rfl,rfl,rfl,rfl,zj⟩) yqc rfl ?_)
 intro w221 bn
 have ab:=aa.pt0 bn
 refine st (aS (.bool ((exR d (1+j) g (zq d g) ((m:Nat):Int) 0 c).2.1)) (st (aS (Iv ((exR d (1+j) g (zq d g) ((m:Nat):Int) 0 c).2.2)) (zb (za (R0 fun _=>st (ze (k:=2) rT sT rfl rfl (zi (ab.b6)) (st (mV (Ix p 0) (st (mV (Ix q 0) (st (mV (Iw m) (st (ze (k:=7) sR tR rfl rfl (zi (ab.b5)) ?_)))))))))))))))
 obtain⟨G225,ar,ac,bp,bq⟩:=(ab.mv1).lend
 obtain⟨vv231,m232,R233,hb234,br,hr236⟩:=SetO.sh ar
 have hsm237:(zw (1+j) g).length*8≤140737488355328:=br.small
 refine st (cL uR (xU (d:=d) (o:=((m:Nat):Int)) (start:=9223372036854775807) (c:=c) (zk hdd0 ac) (zk hdd1 ac) od ar om dc oc (zk hKN ac) (bp.mv1) (S.1) ((Inv.run S.1 _)) om (T.ids) (T.srt) om om) ?_)
 rintro _ w240 ⟨H,rfl,bs⟩
 let aj:=((exR d (1+j) g (zq d g) ((m:Nat):Int) 9223372036854775807 c).1.cells H)
 have bt:=bq _ _ bs
 refine st (mV (.tuple #[.agg aj.toArray,.bool ((exR d (1+j) g (zq d g) ((m:Nat):Int) 9223372036854775807 c).2.1),Iv ((exR d (1+j) g (zq d g) ((m:Nat):Int) 9223372036854775807 c).2.2)]) (st (zl (vs:=[.agg aj.toArray,.bool ((exR d (1+j) g (zq d g) ((m:Nat):Int) 9223372036854775807 c).2.1),Iv ((exR d (1+j) g (zq d g) ((m:Nat):Int) 9223372036854775807 c).2.2)]) (i:=0) (v:=.agg aj.toArray) rfl rfl (st (zl (vs:=[.agg aj.toArray,.bool ((exR d (1+j) g (zq d g) ((m:Nat):Int) 9223372036854775807 c).2.1),Iv ((exR d (1+j) g (zq d g) ((m:Nat):Int) 9223372036854775807 c).2.2)]) (i:=1) (v:=.bool ((exR d (1+j) g (zq d g) ((m:Nat):Int) 9223372036854775807 c).2.1)) rfl rfl ?_)))))
 refine st (zl (vs:=[.agg aj.toArray,.bool ((exR d (1+j) g (zq d g) ((m:Nat):Int) 9223372036854775807 c).2.1),Iv ((exR d (1+j) g (zq d g) ((m:Nat):Int) 9223372036854775807 c).2.2)]) (i:=2) (v:=Iv ((exR d (1+j) g (zq d g) ((m:Nat):Int) 9223372036854775807 c).2.2)) rfl rfl (st (zv pR ?_)))
 intro w245 b244 bu
 have ad:=bt.new bu
 refine stn (zr (v:=.agg aj.toArray) (c':=aj.toArray) oT rfl rfl (ad.b0) (zZ ⟨rfl,rfl,rfl,(ad.depSl (i:=3) rfl).one,rfl,rfl,rfl,rfl,rfl,rfl,zj⟩) yqc rfl ?_)
 intro w247 bv
 have R:=ad.pt0 bv
 refine st (aS (.bool ((exR d (1+j) g (zq d g) ((m:Nat):Int) 9223372036854775807 c).2.1)) (st (aS (Iv ((exR d (1+j) g (zq d g) ((m:Nat):Int) 9223372036854775807 c).2.2)) (zb (za (za ?_))))))
 have al:=zdC (d:=d) (n:=(1+j)) (L:=g) (V:=zq d g) (o:=((m:Nat):Int)) (c:=c) om cw om
 refine zy kr (st (mV (Iv ((exR d (1+j) g (zq d g) ((m:Nat):Int) 0 c).2.2)) (st (yj (k:=.i64) (a:=(exR d (1+j) g (zq d g) ((m:Nat):Int) 0 c).2.2) (b:=0) rfl rfl (st (mV (.bool (!decide (((exR d (1+j) g (zq d g) ((m:Nat):Int) 0 c).2.2)=0))) (stc (V:=Iv ((exR d (1+j) g (zq d g) ((m:Nat):Int) 0 c).2.2)) rfl rfl (fun bw=>?_) ?_)))))))
 have hl251:=zC bw
 exact mV (Iv ((exR d (1+j) g (zq d g) ((m:Nat):Int) 0 c).2.2)) rflB
 refine stc (V:=.bool (!decide (((exR d (1+j) g (zq d g) ((m:Nat):Int) 0 c).2.2)=13))) rfl rfl (fun au=>?_) ?_
 have hl253:=zC au
 exact yj (k:=.i64) (a:=(exR d (1+j) g (zq d g) ((m:Nat):Int) 0 c).2.2) (b:=13) (ifpC au) rfl rflB
 refine st (zF (b:= !decide (((exR d (1+j) g (zq d g) ((m:Nat):Int) 0 c).2.2)=0)) (b':= !decide (((exR d (1+j) g (zq d g) ((m:Nat):Int) 0 c).2.2)=13)) rfl (fun hbp=>(ifpC hbp)) (zb ?_))
 cases M:(!decide (((exR d (1+j) g (zq d g) ((m:Nat):Int) 0 c).2.2)=0))&&(!decide (((exR d (1+j) g (zq d g) ((m:Nat):Int) 0 c).2.2)=13))
 have hc254r:=M
 try simp only[zh]at M
 have cF:=M
 refine zf rfl (zp (za (za (zy kr (st (mV (Iv ((exR d (1+j) g (zq d g) ((m:Nat):Int) 0 c).2.2)) (st (zR (k:=.i64) (a:=(exR d (1+j) g (zq d g) ((m:Nat):Int) 0 c).2.2) (b:=0) rfl rfl (st (mV (.bool (decide (((exR d (1+j) g (zq d g) ((m:Nat):Int) 0 c).2.2)=0))) (stc (V:=.bool ((exR d (1+j) g (zq d g) ((m:Nat):Int) 0 c).2.1)) rfl rfl (fun bx=>?_) ?_)))))))))))
 have hl256:=tD bx
 exact mV (.bool ((exR d (1+j) g (zq d g) ((m:Nat):Int) 0 c).2.1)) rflB
 refine stc (V:=.bool (!((exR d (1+j) g (zq d g) ((m:Nat):Int) 0 c).2.1))) rfl rfl (fun av=>?_) ?_
 have hl258:=tD av
 exact yw (a:=(exR d (1+j) g (zq d g) ((m:Nat):Int) 0 c).2.1) (ifpC av) rflB
 refine st (zF (b:=decide (((exR d (1+j) g (zq d g) ((m:Nat):Int) 0 c).2.2)=0)) (b':= !((exR d (1+j) g (zq d g) ((m:Nat):Int) 0 c).2.1)) rfl (fun hbp=>(ifpC hbp)) (zb ?_))
 cases K:(decide (((exR d (1+j) g (zq d g) ((m:Nat):Int) 0 c).2.2)=0))&&(!((exR d (1+j) g (zq d g) ((m:Nat):Int) 0 c).2.1))
 have ai:=K
 try simp only[zh]at K
 obtain⟨aH,aI,cG⟩:=al.2 (by have h9:=cF;omega) (by rintro⟨ha,hb⟩;rcases K with h9|h9;exact h9 ha;rw[hb]at h9;cases h9)
 refine zf rfl (zp (za (za (zy kr (st (mV (Iv ((exR d (1+j) g (zq d g) ((m:Nat):Int) 9223372036854775807 c).2.2)) (st (yj (k:=.i64) (a:=(exR d (1+j) g (zq d g) ((m:Nat):Int) 9223372036854775807 c).2.2) (b:=13) rfl rfl ?_))))))))
 have aJ:(!decide (((exR d (1+j) g (zq d g) ((m:Nat):Int) 9223372036854775807 c).2.2)=13))=false:=(by rw[aH];rfl)
 rw[aJ]
 refine st (mV (.bool false) (sty rfl rfl (mV (.bool ((exR d (1+j) g (zq d g) ((m:Nat):Int) 9223372036854775807 c).2.1)) ?_)))
 have aK:((exR d (1+j) g (zq d g) ((m:Nat):Int) 9223372036854775807 c).2.1)=false:=(by rw[aH])
 rw[aK]
 refine st (yb (v:=.bool false) rfl rfl (st (mV (.bool false) (sty rfl rfl (ze (k:=10) lR oT rfl rfl (zi (R.b0)) (sty rfl rfl (zQ (parts':=[]) (v:=.agg (ev0.cells Iz).toArray) rfl (by simp+zetaDelta [Instr.build,Instr.fill,go_sem,Ev.cells,ev0]) ?_)))))))
 obtain⟨G263,bz,hB266,bA,bB⟩:=(R.mv3).lend
 have aw:=DepO.rd bz
 have hsm270:((exR d (1+j) g (zq d g) ((m:Nat):Int) 9223372036854775807 c).1.deps).length*8≤140737488355328:=aw.small
 refine sty rfl rfl (cL pY (xw (a:=(exR d (1+j) g (zq d g) ((m:Nat):Int) 9223372036854775807 c).1) (b:=ev0) aw (ZT oc om dc aG om) (RdS.nil _ _) Vi bA) ?_)
 rintro _ w271 ⟨rfl,bC⟩
 have ae:=bB _ _ bC
 have aL:(decide (((exR d (1+j) g (zq d g) ((m:Nat):Int) 9223372036854775807 c).1)=ev0))=true:=(by rw[aH];exact decide_eq_true rfl)
 rw[aL]
 refine sty rfl rfl (yw (a:=true) rfl (st (yb (v:=.bool false) rfl rfl (zb (zf rfl (zp (za (R0 fun _=>st (ze (k:=2) rT sT rfl rfl (zi (ae.b8)) (st (mV (Ix p 0) (st (mV (Ix q 0) (st (mV (Iw m) (st (ze (k:=7) sR tR rfl rfl (zi (ae.b7)) ?_)))))))))))))))))
 obtain⟨G276,ax,af,bD,bE⟩:=(ae.mv2).lend
 obtain⟨vv282,m283,R284,hb285,bF,hr287⟩:=SetO.sh ax
 have hsm288:(zw (1+j) g).length*8≤140737488355328:=bF.small
 refine st (cL uR (xU (d:=d) (o:=((m:Nat):Int)) (start:=9223372036854775806) (c:=c) (zk hdd0 af) (zk hdd1 af) od ax om dc oc (zk hKN af) (bD.mv2) (S.1) ((Inv.run S.1 _)) om (T.ids) (T.srt) om om) ?_)
 rintro _ w291 ⟨I,rfl,bG⟩
 let aB:=((exR d (1+j) g (zq d g) ((m:Nat):Int) 9223372036854775806 c).1.cells I)
 have bH:=bE _ _ bG
 refine st (mV (.tuple #[.agg aB.toArray,.bool ((exR d (1+j) g (zq d g) ((m:Nat):Int) 9223372036854775806 c).2.1),Iv ((exR d (1+j) g (zq d g) ((m:Nat):Int) 9223372036854775806 c).2.2)]) (st (zl (vs:=[.agg aB.toArray,.bool ((exR d (1+j) g (zq d g) ((m:Nat):Int) 9223372036854775806 c).2.1),Iv ((exR d (1+j) g (zq d g) ((m:Nat):Int) 9223372036854775806 c).2.2)]) (i:=0) (v:=.agg aB.toArray) rfl rfl (st (zl (vs:=[.agg aB.toArray,.bool ((exR d (1+j) g (zq d g) ((m:Nat):Int) 9223372036854775806 c).2.1),Iv ((exR d (1+j) g (zq d g) ((m:Nat):Int) 9223372036854775806 c).2.2)]) (i:=1) (v:=.bool ((exR d (1+j) g (zq d g) ((m:Nat):Int) 9223372036854775806 c).2.1)) rfl rfl ?_)))))
 refine st (zl (vs:=[.agg aB.toArray,.bool ((exR d (1+j) g (zq d g) ((m:Nat):Int) 9223372036854775806 c).2.1),Iv ((exR d (1+j) g (zq d g) ((m:Nat):Int) 9223372036854775806 c).2.2)]) (i:=2) (v:=Iv ((exR d (1+j) g (zq d g) ((m:Nat):Int) 9223372036854775806 c).2.2)) rfl rfl (st (zv pR ?_)))
 intro w296 b295 bI
 have ag:=bH.new bI
 refine stn (zr (v:=.agg aB.toArray) (c':=aB.toArray) oT rfl rfl (ag.b0) (zZ ⟨rfl,rfl,rfl,(ag.depSl (i:=3) rfl).one,rfl,rfl,rfl,rfl,rfl,rfl,zj⟩) yqc rfl ?_)
 intro w298 bJ
 refine st (aS (.bool ((exR d (1+j) g (zq d g) ((m:Nat):Int) 9223372036854775806 c).2.1)) (st (aS (Iv ((exR d (1+j) g (zq d g) ((m:Nat):Int) 9223372036854775806 c).2.2)) (zb (za (za (R0 fun _=>st (mV (Ix p 0) ?_))))))))
 obtain⟨G302,ay,hB305,bK,bL⟩:=((ag.pt0 bJ).mv1).lend
 obtain⟨vv308,m309,R310,hb311,bM,hr313⟩:=SetO.sh ay
 have hsm314:(zw (1+j) g).length*8≤140737488355328:=bM.small
 refine st (cL Tryz.call43 (KD ay bK) ?_)
 rintro _ w315 ⟨rfl,bN⟩
 have ah:=bL _ _ bN
 refine st (zI (k:=.i64) (a:=zP g) (b:=9223372036854775807) rfl rfl (zb ?_))
 cases N:decide ((zP g)<9223372036854775807)
 have hc318r:=N
 have N:=fD N
 refine zf rfl (zp (za (zy kr (st (mV (Iv ((exR d (1+j) g (zq d g) ((m:Nat):Int) 9223372036854775806 c).2.2)) (st (zR (k:=.i64) (a:=(exR d (1+j) g (zq d g) ((m:Nat):Int) 9223372036854775806 c).2.2) (b:=13) rfl rfl ?_)))))))
 have aM:(decide (((exR d (1+j) g (zq d g) ((m:Nat):Int) 9223372036854775806 c).2.2)=13))=true:=decide_eq_true (cG om)
 rw[aM]
 refine st (mV (.bool true) (sty rfl rfl (cL nR (xf hKN ah) ?_)))
 rintro _ cx ⟨rfl,bO⟩
 refine st (yc (v:=.bool true) rfl rfl (st (aS (.bool true) (zb (zo (zN oR (show _=(.bool true:Value)from rfl) ?_))))))
 have bP:Sep G W Rs cx:=bO.sel 11 [] (yL _ _) rfl rfl
 refine⟨rfl,bP⟩
 have N:=tD N
 refine zg rfl (za (zy kr (st (mV (Iv ((exR d (1+j) g (zq d g) ((m:Nat):Int) 9223372036854775806 c).2.2)) (st (zR (k:=.i64) (a:=(exR d (1+j) g (zq d g) ((m:Nat):Int) 9223372036854775806 c).2.2) (b:=0) rfl rfl ?_))))))
 have aN:(decide (((exR d (1+j) g (zq d g) ((m:Nat):Int) 9223372036854775806 c).2.2)=0))=true:=decide_eq_true (aI om).1
 rw[aN]
 refine st (mV (.bool true) (sty rfl rfl (mV (.bool ((exR d (1+j) g (zq d g) ((m:Nat):Int) 9223372036854775806 c).2.1)) ?_)))
 have aO:((exR d (1+j) g (zq d g) ((m:Nat):Int) 9223372036854775806 c).2.1)=true:=(aI om).2.1
 rw[aO]
 refine st (yc (v:=.bool true) rfl rfl (st (mV (.bool true) (sty rfl rfl (xQ rfl (sty rfl rfl (lD (Iv ((exR d (1+j) g (zq d g) ((m:Nat):Int) 9223372036854775806 c).1.lam)) lT rfl (zd (ah.b1) rfl) (sty rfl rfl (zR (k:=.i64) (a:=(exR d (1+j) g (zq d g) ((m:Nat):Int) 9223372036854775806 c).1.lam) (b:=9223372036854775807) rfl rfl ?_)))))))))
 have aP:(decide (((exR d (1+j) g (zq d g) ((m:Nat):Int) 9223372036854775806 c).1.lam)=9223372036854775807))=true:=decide_eq_true (aI om).2.2
 rw[aP]
 refine st (yc (v:=.bool true) rfl rfl (st (mV (.bool true) (sty rfl rfl (cL nR (xf hKN ah) ?_)))))
 rintro _ cy ⟨rfl,bQ⟩
 refine st (yc (v:=.bool true) rfl rfl (st (aS (.bool true) (zb (zo (zN oR (show _=(.bool true:Value)from rfl) ?_))))))
 have bR:Sep G W Rs cy:=bQ.sel 11 [] (yL _ _) rfl rfl
 refine⟨rfl,bR⟩
 have ai:=K
 try simp only[zh]at K
 have ak:=al.1 (.inr (by have h9:=K;simpa using h9))
 refine zg rfl (za (zy kr (st (mV (Iv ((exR d (1+j) g (zq d g) ((m:Nat):Int) 9223372036854775807 c).2.2)) (st (zR (k:=.i64) (a:=(exR d (1+j) g (zq d g) ((m:Nat):Int) 9223372036854775807 c).2.2) (b:=0) rfl rfl ?_))))))
 have aQ:(decide (((exR d (1+j) g (zq d g) ((m:Nat):Int) 9223372036854775807 c).2.2)=0))=true:=(decide_eq_true (by have h9:=ak.1;have h8:=ai;simp only[Bool.and_eq_true,decide_eq_true_eq]at h8;omega))
 rw[aQ]
 refine st (mV (.bool true) (sty rfl rfl (mV (.bool ((exR d (1+j) g (zq d g) ((m:Nat):Int) 9223372036854775807 c).2.1)) (sty rfl rfl (yw (a:=(exR d (1+j) g (zq d g) ((m:Nat):Int) 9223372036854775807 c).2.1) rfl ?_)))))
 have aR:(!((exR d (1+j) g (zq d g) ((m:Nat):Int) 9223372036854775807 c).2.1))=true:=(by rw[ak.2];rfl)
 rw[aR]
 refine st (yc (v:=.bool true) rfl rfl (st (mV (.bool true) (sty rfl rfl (cL nR (xf hKN R) ?_)))))
 rintro _ cz ⟨rfl,bS⟩
 refine st (yc (v:=.bool true) rfl rfl (st (aS (.bool true) (zb (zo (zN oR (show _=(.bool true:Value)from rfl) ?_))))))
 have bT:Sep G W Rs cz:=bS.sel 9 [] (yL _ _) rfl rfl
 refine⟨rfl,bT⟩
 try simp only[zh]at M
 have ak:=al.1 (.inl M)
 refine zg rfl (za (zy kr (st (mV (Iv ((exR d (1+j) g (zq d g) ((m:Nat):Int) 9223372036854775807 c).2.2)) (st (mV (Iv ((exR d (1+j) g (zq d g) ((m:Nat):Int) 0 c).2.2)) (st (zR (k:=.i64) (a:=(exR d (1+j) g (zq d g) ((m:Nat):Int) 9223372036854775807 c).2.2) (b:=(exR d (1+j) g (zq d g) ((m:Nat):Int) 0 c).2.2) rfl rfl ?_))))))))
 have aT:(decide (((exR d (1+j) g (zq d g) ((m:Nat):Int) 9223372036854775807 c).2.2)=((exR d (1+j) g (zq d g) ((m:Nat):Int) 0 c).2.2)))=true:=decide_eq_true ak.1
 rw[aT]
 refine st (mV (.bool true) (sty rfl rfl (mV (.bool ((exR d (1+j) g (zq d g) ((m:Nat):Int) 9223372036854775807 c).2.1)) (sty rfl rfl (yw (a:=(exR d (1+j) g (zq d g) ((m:Nat):Int) 9223372036854775807 c).2.1) rfl ?_)))))
 have aU:(!((exR d (1+j) g (zq d g) ((m:Nat):Int) 9223372036854775807 c).2.1))=true:=(by rw[ak.2];rfl)
 rw[aU]
 refine st (yc (v:=.bool true) rfl rfl (st (mV (.bool true) (sty rfl rfl (cL nR (xf hKN R) ?_)))))
 rintro _ cC ⟨rfl,bU⟩
 refine st (yc (v:=.bool true) rfl rfl (st (aS (.bool true) (zb (zo (zN oR (show _=(.bool true:Value)from rfl) ?_))))))
 have bV:Sep G W Rs cC:=bU.sel 9 [] (yL _ _) rfl rfl
 refine⟨rfl,bV⟩
 try simp only[zh]at U
 refine zg rfl (za (R0 fun _=>st (cL nR (xf hKN az) ?_)))
 rintro _ w339 ⟨rfl,bW⟩
 refine st (aS (.bool true) (zb (zo (zN oR (show _=(.bool true:Value)from rfl) ?_))))
 refine⟨rfl,(bW.s2_)⟩
end
section
open Go.Proofs Go.RowKit
theorem QR {a b:Int}(h1:InR a)(h2:InR b):Zv (a+b)=a+b∨(9223372036854775808≤a+b∧Zv (a+b)=a+b-18446744073709551616)∨(a+b< -9223372036854775808∧Zv (a+b)=a+b+18446744073709551616):=by
 unfold Zv
 rw[IntKind.wrap_i64]
 omega
theorem rem_t {l:List Int}{k:Nat}{n:Int}(hk:k<l.length)(h: ¬l.getD k 0=n):ZG (l.take (k+1)) n=ZG (l.take k) n++[l.getD k 0]:=by unfold ZG;rw[List.take_getD hk,List.filter_append];simp only[List.filter_cons,List.filter_nil];rw[if_pos (by simpa using h)]
theorem rem_f {l:List Int}{k:Nat}{n:Int}(hk:k<l.length)(h:l.getD k 0=n):ZG (l.take (k+1)) n=ZG (l.take k) n:=by unfold ZG;rw[List.take_getD (d:=0) hk,List.filter_append];simp only[List.filter_cons,List.filter_nil];rw[if_neg (by simpa using h)];simp
theorem zdj {l:List Int}{n:Int}:(ZG l n).length≤l.length:=List.length_filter_le _ _
theorem zdT {fl:Fld}{cs:List Cel}{c:Cel}{arg:Int}(h1:InR c.n)(h2:InR arg):xO fl cs c 1 arg=(((!((decide (0≤c.n)&&decide (0≤arg))&&decide (IntKind.i64.wrap (c.n+arg)<0)))&&(!((decide (c.n<0)&&decide (arg<0))&&decide (0≤IntKind.i64.wrap (c.n+arg)))))&&(!(fl.floor&&decide (IntKind.i64.wrap (c.n+arg)<0)))):=by
 have hs:=Wk (c.n+arg)
 have hw:Zv (c.n+arg)=c.n+arg∨(9223372036854775808≤c.n+arg∧Zv (c.n+arg)=c.n+arg-18446744073709551616)∨(c.n+arg< -9223372036854775808∧Zv (c.n+arg)=c.n+arg+18446744073709551616):=QR h1 h2
 unfold xO
 rw[if_pos rfl]
 show _=(((!((decide (0≤c.n)&&decide (0≤arg))&&decide (Zv (c.n+arg)<0)))&&(!((decide (c.n<0)&&decide (arg<0))&&decide (0≤Zv (c.n+arg)))))&&(!(fl.floor&&decide (Zv (c.n+arg)<0))))
 generalize Zv (c.n+arg)=s at*
 congr 1
 rw[Bool.eq_iff_iff]
 simp only[Bool.or_eq_true,Bool.and_eq_true,Bool.not_eq_true',decide_eq_true_eq,beq_iff_eq,Bool.and_eq_false_iff,decide_eq_false_iff_not,decide_eq_decide]
 omega
theorem zdP {fl:Fld}{cs:List Cel}{c:Cel}{arg:Int}:xO fl cs c 3 arg=(decide (((c.set.length:Nat):Int)<64)||decide (arg∈c.set)):=by
 unfold xO;rw[if_neg (by decide),if_pos rfl,Bool.or_comm]
theorem zdS {fl:Fld}{cs:List Cel}{c:Cel}{arg:Int}:xO fl cs c 5 arg=(decide (c.n=(Yk fl arg).frm)&&(decide ((Yk fl arg).need<0)||decide ((Yk fl arg).least≤(yH cs (Yk fl arg).need).n))):=by
 unfold xO;rw[if_neg (by decide),if_neg (by decide),if_pos rfl]
theorem may_o {fl:Fld}{cs:List Cel}{c:Cel}{op arg:Int}(h1: ¬op=1)(h3: ¬op=3)(h5: ¬op=5):xO fl cs c op arg=true:=by
 unfold xO;rw[if_neg h1,if_neg h3,if_neg h5]
theorem Xv {t:Typ}{dt0:Value}(hdt0:RdS W G dt0 t.fields)(ot:t.Ok)(hS0:Sep G W Rs w):Ret Tryz.prog 47 [.agg (t.cells dt0).toArray] w (fun r w'=> ∃(v:Value),r=(v:Value)∧Sep G W ((RowE (α:=Cel) own 140 v (List.replicate t.fields.length (⟨0,[]⟩:Cel)))::Rs) w'):=by
 have hdt0s:_*48≤_:=hdt0.small
 refine zm Tryz.func47 rfl rfl ?_
 refine za (R0 fun _=>st (zT rfl ?_))
 intro w3 b2 e
 have c:=hS0.new e
 refine st (aS Iz (zb (za (R0 fun _=>st (xi rfl (st (lD dt0 vR rfl (zd (c.b0) rfl) (st (zS (n:=t.fields.length) wR rfl hdt0.sl (st (Zt (α:=Cel) (T:=140) (bytes:=32) (n:=t.fields.length) (x1:=(⟨0,[]⟩:Cel)) mT ⟨_,_,rfl,rfl,rfl,rfl,rfl,fun _ _=>⟨_,rfl,RdS.nil _ _,⟨by decide⟩⟩⟩ rfl rfl rfl (by show t.fields.length*32≤140737488355328;omega) ?_)))))))))))
 intro f b g he7 hl8 h
 let i:=Iy b t.fields.length t.fields.length
 have a:Sep G W ((RowE (α:=Cel) own 140 i (List.replicate t.fields.length (⟨0,[]⟩:Cel)))::(Blk b2 (t.cells dt0).toArray 74)::Rs) f:=c.made g h
 have d:=a.r0
 refine st (aS i (zb (zo (zN Tryz.results47 (show _=(i:Value)from rfl) ?_))))
 refine⟨i,rfl,(a.s2_a)⟩
theorem zam {vl:Value}{l:List Int}(hl:RdS W G vl l){n:Int}(hn:InR n)(hS0:Sep G W Rs w)(hfew:l.length≤1000):Ret Tryz.prog 112 [vl,.int .i64 (n)] w (fun r w'=> ∃(v:Value),r=(v:Value)∧Sep G W ((RowE (α:=Int) own 3 v (ZG l n))::Rs) w'):=by
 refine zm Tryz.func112 rfl rfl ?_
 refine za (R0 fun _=>st (aS Iz (zb (za (R0 fun _=>st (aS Iz (zb (za (za (R0 fun _=>st (aS (Iv 0) (zb (zu ?_)))))))))))))
 have E:Sep G W ((RowE (α:=Int) own 3 Iz [])::Rs) w:=hS0.rowNil own 3
 refine yf (fun mq σ J=> ∃k vo ρ,mq=l.length-k∧σ=yo ρ [(0,vl),(1,Iv n),(6,Iw k),(5,vo)]∧(k≤l.length)∧Sep G W ((RowE own 3 vo (ZG (l.take k) n))::Rs) J) ⟨0,(Iz),_,rfl,sSf,zY _,E⟩ ?_
 rintro m3 σ4 w2 ⟨k,vo,ρl1,rfl,rfl,hkk,e⟩
 have F:=e.r0
 have hrl:=zdj (l:=l.take k) (n:=n)
 rw[List.length_take]at hrl
 refine za (za (R0 fun _=>st (mV (Iw k) (st (mV vl (st (zS tT rfl hl.sl (st (zI rfl rfl (zb ?_))))))))))
 cases h:decide (((k:Nat):Int)<((l.length:Nat):Int))
 have h:=fD h
 have H:k=l.length:=by omega
 rw[H,List.take_length]at e
 refine zf rfl (yh (zX (za (R0 fun _=>st (mV vo (st (aS vo (zb (zo (zN Tryz.results112 (show _=(vo:Value)from rfl) ?_))))))))))
 refine⟨vo,rfl,e⟩
 have h:=tD h
 refine zg rfl (zp (za (zu (za (R0 fun _=>st (mV vl (st (mV (Iw k) ?_))))))))
 have I:k<l.length:=bo
 refine st (zn (k:=1) tT uT rfl hl.sl rfl I ?_)
 have f:k<l.length:=bo
 obtain⟨m,u⟩:=hl.intD f
 have p:=e.cells m (hl.foot (ne_of_lt f))
 refine st (lD (Iv ((l.getD k 0))) lT rfl (p.get (j:=0) rfl) (st (mV (Iv n) (st (yj rfl rfl (zb ?_))))))
 cases d: !decide ((l.getD k 0)=n)
 have d:=zB d
 refine zf rfl (zp (R0 fun _=>st (mV (Iw k) ?_)))
 have x:InR ((k+1:Nat):Int):=bo
 refine st (zU (r:=((k+1:Nat):Int)) rfl rfl (by rw[show(((k:Nat):Int)+1:Int)=((k+1:Nat):Int)from bo];exact zJ x) (st (aS (Iw (k+1)) (zb ?_))))
 have y:=(rem_f om d)
 rw[←y]at e
 exact⟨_,by omega,k+1,vo,_,rfl,sSf,by omega,e⟩
 have d:=zC d
 refine zg rfl (R0 fun _=>st (mV vo (st (mV vl (st (mV (Iw k) ?_))))))
 have z:k<l.length:=bo
 refine st (zn (k:=1) tT uT rfl hl.sl rfl z ?_)
 have q:=e.cells m (hl.foot (ne_of_lt f))
 refine st (lD (Iv ((l.getD k 0))) lT rfl (q.get (j:=0) rfl) (st (zL (c:=#[Iv ((l.getD k 0))]) tT uT Tryz.zeroValue3 dc rfl kr ?_)))
 intro w20 b19 A
 have o:=e.new A
 have s:=o.b0
 refine st (yx (src:=own) (bytes:=8) ((o.s2_b).emp1) UD rfl rfl s (fun _ _ _=>(show _ from⟨rfl,u⟩)) yqb rfl ?_)
 intro t w22 g
 have B:=g.r0
 refine st (aS t (zb (R0 fun _=>st (mV (Iw k) ?_))))
 have C:InR ((k+1:Nat):Int):=bo
 refine st (zU (r:=((k+1:Nat):Int)) rfl rfl (by rw[show(((k:Nat):Int)+1:Int)=((k+1:Nat):Int)from bo];exact zJ C) (st (aS (Iw (k+1)) (zb ?_))))
 have D:=(rem_t om d)
 rw[←D]at g
 exact⟨_,by omega,k+1,t,_,rfl,sSf,by omega,g⟩
theorem zdz {vl:Value}{l:List Int}(hl:RdS W G vl l){n:Int}(hn:InR n)(hS0:Sep G W Rs w):Ret Tryz.prog 85 [vl,.int .i64 (n)] w (fun r w'=>r=(.bool (decide (n∈l)):Value)∧Sep G W Rs w'):=by
 have hls:_*8≤_:=hl.small
 refine zm Tryz.func85 rfl rfl ?_
 refine za (R0 fun _=>st (aS (.bool false) (zb (za (za (R0 fun _=>st (aS (Iv 0) (zb (zu (yf (fun mq σ q=> ∃k ρ,mq=l.length-k∧σ=yo ρ [(0,vl),(1,Iv n),(5,Iw k)]∧(k≤l.length)∧(∀i,i<k→ ¬l.getD i 0=n)∧Sep G W Rs q) ⟨0,_,rfl,sSf,zY _,(fun i h=>absurd h (yO i)),hS0⟩ ?_))))))))))
 rintro m2 σ3 w1 ⟨k,ρl1,rfl,rfl,hkk,hm,d⟩
 refine za (za (R0 fun _=>st (mV (Iw k) (st (mV vl (st (zS tT rfl hl.sl (st (zI rfl rfl (zb ?_))))))))))
 cases e:decide (((k:Nat):Int)<((l.length:Nat):Int))
 have e:=fD e
 refine zf rfl (yh (zX (za (R0 fun _=>st (aS (.bool false) (zb (zo (zN qY (show _=(.bool false:Value)from rfl) ?_))))))))
 refine⟨?_,d⟩
 rw[decide_eq_false (Qn (fun i hi=>hm i (by omega)))]
 have e:=tD e
 refine zg rfl (zp (za (zu (za (R0 fun _=>st (mV vl (st (mV (Iw k) ?_))))))))
 have p:k<l.length:=bo
 refine st (zn (k:=1) tT uT rfl hl.sl rfl p ?_)
 have f:k<l.length:=bo
 obtain⟨g,hxe7⟩:=hl.intD f
 have m:=d.cells g (hl.foot (ne_of_lt f))
 refine st (lD (Iv ((l.getD k 0))) lT rfl (m.get (j:=0) rfl) (st (mV (Iv n) (st (zR rfl rfl (zb ?_))))))
 cases c:decide ((l.getD k 0)=n)
 have c:=fD c
 refine zf rfl (zp (R0 fun _=>st (mV (Iw k) ?_)))
 have o:InR ((k+1:Nat):Int):=bo
 refine st (zU (r:=((k+1:Nat):Int)) rfl rfl (by rw[show(((k:Nat):Int)+1:Int)=((k+1:Nat):Int)from bo];exact zJ o) (st (aS (Iw (k+1)) (zb ?_))))
 exact⟨_,by omega,k+1,_,rfl,sSf,by omega,(yU hm c),d⟩
 have c:=tD c
 refine zg rfl (za (R0 fun _=>st (aS (.bool true) (zb (zo (zN qY (show _=(.bool true:Value)from rfl) ?_))))))
 refine⟨?_,d⟩
 rw[decide_eq_true (zbO (by omega) c)]
theorem WU {t:Typ}{dt0:Value}(hdt0:RdS W G dt0 t.fields)(ot:t.Ok){vc:Value}{c:List Cel}(hc:RdS W G vc c){fi:Int}(hfi:InR fi){op:Int}(hop:InR op){arg:Int}(harg:InR arg)(hS0:Sep G W Rs w)(hask:YU t c fi op arg):Ret Tryz.prog 48 [.agg (t.cells dt0).toArray,vc,.int .i64 (fi),.int .i64 (op),.int .i64 (arg)] w (fun r w'=>r=(.int .i64 ((yN t c fi op arg)):Value)∧Sep G W Rs w'):=by
 let ci:=(((t.fields.gd fi.toNat).moves).gd arg.toNat).cells
 let ch:=zV W (sb dt0) (so dt0+fi.toNat*4+3)
 let cj:=(t.fields.gd fi.toNat).cells ch
 let ce:=zV W (sb vc) (so vc+fi.toNat*2+1)
 let ck:=(c.gd fi.toNat).cells ce
 have hdt0s:_*48≤_:=hdt0.small
 have hcs:_*32≤_:=hc.small
 have ha0:=hask.1
 have ha1:=hask.2.1
 have ha2:=hask.2.2.1
 refine zm Tryz.func48 rfl rfl ?_
 refine za (R0 fun _=>st (zT rfl ?_))
 intro w3 b2 cg
 have aK:=hS0.new cg
 refine st (aS (Iv 0) (zb (za (R0 fun _=>st (xi rfl (st (lD dt0 vR rfl (zd (aK.b0) rfl) (st (mV (Iv fi) ?_)))))))))
 have hi5:fi.toNat<t.fields.length:=bo
 refine st (zA (k:=4) (i:=fi) wR qR rfl hdt0.sl rfl ⟨by omega,by omega⟩ ?_)
 have bU:fi.toNat<t.fields.length:=bo
 obtain⟨bW,x,hoke6⟩:=hdt0.fldD bU
 have hsm8:((t.fields.gd fi.toNat).moves).length*32≤140737488355328:=x.small
 have bX:=aK.cells bW (hdt0.foot (ne_of_lt bU))
 refine st (ze Tryz.isAgg106 qR rfl rfl bX (st (zv Tryz.zeroValue106 ?_)))
 intro w12 af bY
 have aL:=aK.new bY
 refine stn (zr (v:=.agg cj.toArray) qR rfl rfl (aL.b0) (zZ ⟨rfl,rfl,rfl,x.sl.one,zj⟩) yqc rfl ?_)
 intro w14 bZ
 have aM:=aL.pt0 bZ
 refine zb (za (R0 fun _=>st (mV vc (st (mV (Iv fi) ?_)))))
 have hi17:fi.toNat<c.length:=bo
 refine st (zA (k:=2) (i:=fi) mT kT rfl hc.sl rfl ⟨by omega,by omega⟩ ?_)
 have aN:fi.toNat<c.length:=bo
 obtain⟨aU,z,ag⟩:=hc.celD aN
 have hsm20:((c.gd fi.toNat).set).length*8≤140737488355328:=z.small
 have aV:=aM.cells aU (hc.foot (ne_of_lt aN))
 refine st (ze qT kT rfl rfl aV (st (zv rY ?_)))
 intro w24 U ca
 have aO:=aM.new ca
 refine stn (zr (v:=.agg ck.toArray) kT rfl rfl (aO.b0) (zZ ⟨rfl,z.sl.one,zj⟩) yqc rfl ?_)
 intro w26 cb
 have g:=aO.pt0 cb
 refine zb (za (R0 fun _=>st (aS (.bool true) (zb (za (za (R0 fun _=>st (mV (Iv op) (zb (zu (za (R0 fun _=>st (zR rfl rfl (st (aS (.bool (decide (op=1))) (zb ?_))))))))))))))))
 cases B:decide (op=1)
 have hc29r:=B
 have B:=fD B
 refine zf rfl (za (R0 fun _=>st (zR rfl rfl (st (aS (.bool (decide (op=3))) (zb ?_))))))
 cases C:decide (op=3)
 have hc30r:=C
 have C:=fD C
 refine zf rfl (za (R0 fun _=>st (zR rfl rfl (st (aS (.bool (decide (op=5))) (zb ?_))))))
 cases y:decide (op=5)
 have hc31r:=y
 have y:=fD y
 refine zf rfl (zp (za (za (R0 fun _=>st (mV (.bool true) (zb (zg rfl (za (R0 fun _=>st (aS (Iv 0) (zb (zo (zN vT (show _=(Iv 0:Value)from rfl) ?_)))))))))))))
 refine⟨?_,(g.s3_)⟩
 congr 1
 have o:xO (xC t fi) c (yH c fi) op arg=true:=may_o om om om
 unfold yN
 rw[o];rfl
 have y:=tD y
 have bV:=hask.2.2.2.2 y
 have ha51:arg<(t.fields.gd fi.toNat).moves.length:=bV.2.1
 have ha52:((t.fields.gd fi.toNat).moves.gd arg.toNat).need<0∨((t.fields.gd fi.toNat).moves.gd arg.toNat).need<c.length:=bV.2.2
 refine zg rfl (za (R0 fun _=>st (yQ rfl (st (lD ch sY rfl (zd (g.b1) rfl) (st (mV (Iv arg) ?_)))))))
 have hi33:arg.toNat<((t.fields.gd fi.toNat).moves).length:=bo
 refine st (zA tY rR rfl x.sl rfl ⟨by omega,by omega⟩ ?_)
 have aP:arg.toNat<((t.fields.gd fi.toNat).moves).length:=bo
 obtain⟨aW,hoke34⟩:=x.mvD aP
 have aX:=g.cells aW (x.foot (ne_of_lt aP))
 refine st (ze Tryz.isAgg143 rR rfl rfl aX (st (zv Tryz.zeroValue143 ?_)))
 intro w39 X cc
 have aQ:=g.new cc
 refine stn (zr (v:=.agg ci.toArray) rR rfl rfl (aQ.b0) (zZ ⟨rfl,rfl,rfl,rfl,zj⟩) yqc rfl ?_)
 intro w41 cd
 refine zb ?_
 refine WD4 (WF [fun vals wq=>Sep G W ((Blk X ci.toArray 143)::(Blk U ck.toArray 140)::(Blk af cj.toArray 106)::(Blk b2 (t.cells dt0).toArray 74)::Rs) wq]) (AF [Vl 0 (Ix U 0),Vl 1 (Iv ((c.gd fi.toNat).n)),Vl 2 (Ix X 0),Vl 3 (Iv ((((t.fields.gd fi.toNat).moves).gd arg.toNat).frm)),Vl 4 (.bool (decide (((c.gd fi.toNat).n)=((((t.fields.gd fi.toNat).moves).gd arg.toNat).frm)))),Vl 5 (.bool (decide (((c.gd fi.toNat).n)=((((t.fields.gd fi.toNat).moves).gd arg.toNat).frm)))),Vl 6 (if(decide (((c.gd fi.toNat).n)=((((t.fields.gd fi.toNat).moves).gd arg.toNat).frm)))=true then Ix X 2 else undef),Vl 7 (if(decide (((c.gd fi.toNat).n)=((((t.fields.gd fi.toNat).moves).gd arg.toNat).frm)))=true then Iv ((((t.fields.gd fi.toNat).moves).gd arg.toNat).need)else undef),Vl 8 (if(decide (((c.gd fi.toNat).n)=((((t.fields.gd fi.toNat).moves).gd arg.toNat).frm)))=true then .bool (decide (((((t.fields.gd fi.toNat).moves).gd arg.toNat).need)<0))else undef),Vl 9 (if(decide (((c.gd fi.toNat).n)=((((t.fields.gd fi.toNat).moves).gd arg.toNat).frm)))=true then .bool (decide (((((t.fields.gd fi.toNat).moves).gd arg.toNat).need)<0))else undef),Vl 10 (if((decide (((c.gd fi.toNat).n)=((((t.fields.gd fi.toNat).moves).gd arg.toNat).frm)))=true)∧(decide (((((t.fields.gd fi.toNat).moves).gd arg.toNat).need)<0))=false then vc else undef),Vl 11 (if((decide (((c.gd fi.toNat).n)=((((t.fields.gd fi.toNat).moves).gd arg.toNat).frm)))=true)∧(decide (((((t.fields.gd fi.toNat).moves).gd arg.toNat).need)<0))=false then Ix X 2 else undef),Vl 12 (if((decide (((c.gd fi.toNat).n)=((((t.fields.gd fi.toNat).moves).gd arg.toNat).frm)))=true)∧(decide (((((t.fields.gd fi.toNat).moves).gd arg.toNat).need)<0))=false then Iv ((((t.fields.gd fi.toNat).moves).gd arg.toNat).need)else undef),Vl 13 (if((decide (((c.gd fi.toNat).n)=((((t.fields.gd fi.toNat).moves).gd arg.toNat).frm)))=true)∧(decide (((((t.fields.gd fi.toNat).moves).gd arg.toNat).need)<0))=false then Ix (sb vc) (so vc+(((((t.fields.gd fi.toNat).moves).gd arg.toNat).need).toNat)*2)else undef),Vl 14 (if((decide (((c.gd fi.toNat).n)=((((t.fields.gd fi.toNat).moves).gd arg.toNat).frm)))=true)∧(decide (((((t.fields.gd fi.toNat).moves).gd arg.toNat).need)<0))=false then Ix (sb vc) (so vc+(((((t.fields.gd fi.toNat).moves).gd arg.toNat).need).toNat)*2)else undef),Vl 15 (if((decide (((c.gd fi.toNat).n)=((((t.fields.gd fi.toNat).moves).gd arg.toNat).frm)))=true)∧(decide (((((t.fields.gd fi.toNat).moves).gd arg.toNat).need)<0))=false then Iv ((c.gd (((((t.fields.gd fi.toNat).moves).gd arg.toNat).need).toNat)).n)else undef),Vl 16 (if((decide (((c.gd fi.toNat).n)=((((t.fields.gd fi.toNat).moves).gd arg.toNat).frm)))=true)∧(decide (((((t.fields.gd fi.toNat).moves).gd arg.toNat).need)<0))=false then Ix X 3 else undef),Vl 17 (if((decide (((c.gd fi.toNat).n)=((((t.fields.gd fi.toNat).moves).gd arg.toNat).frm)))=true)∧(decide (((((t.fields.gd fi.toNat).moves).gd arg.toNat).need)<0))=false then Iv ((((t.fields.gd fi.toNat).moves).gd arg.toNat).least)else undef),Vl 18 (if((decide (((c.gd fi.toNat).n)=((((t.fields.gd fi.toNat).moves).gd arg.toNat).frm)))=true)∧(decide (((((t.fields.gd fi.toNat).moves).gd arg.toNat).need)<0))=false then .bool (decide (((((t.fields.gd fi.toNat).moves).gd arg.toNat).least)≤((c.gd (((((t.fields.gd fi.toNat).moves).gd arg.toNat).need).toNat)).n)))else undef),Vl 19 (if(decide (((c.gd fi.toNat).n)=((((t.fields.gd fi.toNat).moves).gd arg.toNat).frm)))=true then .bool ((decide (((((t.fields.gd fi.toNat).moves).gd arg.toNat).need)<0))||(decide (((((t.fields.gd fi.toNat).moves).gd arg.toNat).least)≤((c.gd (((((t.fields.gd fi.toNat).moves).gd arg.toNat).need).toNat)).n))))else undef),Vl 20 (.bool ((decide (((c.gd fi.toNat).n)=((((t.fields.gd fi.toNat).moves).gd arg.toNat).frm)))&&((decide (((((t.fields.gd fi.toNat).moves).gd arg.toNat).need)<0))||(decide (((((t.fields.gd fi.toNat).moves).gd arg.toNat).least)≤((c.gd (((((t.fields.gd fi.toNat).moves).gd arg.toNat).need).toNat)).n)))))),Vl 21 (.bool ((decide (((c.gd fi.toNat).n)=((((t.fields.gd fi.toNat).moves).gd arg.toNat).frm)))&&((decide (((((t.fields.gd fi.toNat).moves).gd arg.toNat).need)<0))||(decide (((((t.fields.gd fi.toNat).moves).gd arg.toNat).least)≤((c.gd (((((t.fields.gd fi.toNat).moves).gd arg.toNat).need).toNat)).n))))))]) [[],[0],[],[2],(rg 4),(rg 5),(rg 6),(rg 7),(rg 8),(rg 9),(rg 10),(rg 10),[0,1,2,3,4,5,6,7,8,9,11],(rg 13),(rg 14),(rg 15),(rg 10),[0,1,2,3,4,5,6,7,8,9,16],(rg 18),(rg 19),(rg 20),(rg 21)] [] [(0,0),(0,0),(0,0),(0,0),(0,0),(0,0),(0,0),(0,0),(0,0),(0,0),(0,0),(0,0),(0,0),(0,0),(0,0),(0,0),(0,0),(0,0),(0,0),(0,0),(0,0),(0,0)] (aQ.pt0 cd) ⟨fun _ _ _ _ _ _ _=>obl rfl (xr rfl dR),ob1 0 fun _ _ (aY:Sep _ _ _ _) aZ=>obl rfl (lD (Iv ((c.gd fi.toNat).n)) lT (aZ 0 dc) (zd (aY.b1) rfl) dR),fun _ _ _ _ _ _ _=>obl rfl (UY rfl dR),ob1 0 fun _ _ (ba:Sep _ _ _ _) bb=>obl rfl (lD (Iv ((((t.fields.gd fi.toNat).moves).gd arg.toNat).frm)) lT (bb 2 dc) (zd (ba.b0) rfl) dR),ob1 0 fun _ _ _ ai=>obl rfl (zR (ai 1 dc) (ai 3 dc) dR),fun _ _ _ _ _ _ bc=>obl rfl (yg (bc 4 dc) dR),?_,?_,?_,?_,?_,?_,?_,?_,?_,?_,?_,?_,?_,?_,?_,fun _ _ _ _ _ _ bd=>obl rfl (ya (bd 20 dc) dR),zj⟩ ?_
 refine fun _ _ _ _ _ _ be=>(yq rfl rfl (be 5 dc) (fun K=>?_) yD)
 have hl315:=tD K
 exact Yw rfl (yC K)
 refine ob1 0 fun _ _ (bf:Sep _ _ _ _) aj=>(yq rfl rfl (aj 5 dc) (fun D=>?_) yD)
 have hl326:=tD D
 exact lD (Iv ((((t.fields.gd fi.toNat).moves).gd arg.toNat).need)) lT (zH (aj 6 dc) (ifpC D)) (zd (bf.b0) rfl) (yC D)
 refine ob1 0 fun _ _ _ ak=>(yq rfl rfl (ak 5 dc) (fun E=>?_) yD)
 have hl337:=tD E
 exact zI (zH (ak 7 dc) (ifpC E)) rfl (yC E)
 refine fun _ _ _ _ _ _ al=>(yq rfl rfl (al 5 dc) (fun F=>?_) yD)
 have hl347:=tD F
 exact yg (zH (al 8 dc) (ifpC F)) (yC F)
 refine fun _ _ _ _ _ _ bg=>(Zf rfl rfl (bg 9 dc) (fun H=>?_) yD)
 have hl356:=tD H.1
 have hl357:=fD H.2
 exact mV vc (yC H)
 refine fun _ _ _ _ _ _ bh=>(Zf rfl rfl (bh 9 dc) (fun I=>?_) yD)
 have hl366:=tD I.1
 have hl367:=fD I.2
 exact Yw rfl (yC I)
 refine ob1 0 fun _ _ (bi:Sep _ _ _ _) am=>(Zf rfl rfl (am 9 dc) (fun p=>?_) yD)
 have hl378:=tD p.1
 have hl379:=fD p.2
 exact lD (Iv ((((t.fields.gd fi.toNat).moves).gd arg.toNat).need)) lT (zH (am 11 dc) (ifpC ⟨p.1,p.2⟩)) (zd (bi.b0) rfl) (yC p)
 refine ob1 0 fun _ _ _ Y=>(Zf rfl rfl (Y 9 dc) (fun h=>?_) yD)
 have hl391:=tD h.1
 have hl392:=fD h.2
 have hi393:((((t.fields.gd fi.toNat).moves).gd arg.toNat).need).toNat<c.length:=bo
 exact zA mT kT (zH (Y 10 dc) (ifpC ⟨h.1,h.2⟩)) hc.sl (zH (Y 12 dc) (ifpC ⟨h.1,h.2⟩)) ⟨by omega,by omega⟩ (yC h)
 refine fun _ _ _ _ _ _ an=>(Zf rfl rfl (an 9 dc) (fun q=>?_) yD)
 have hl403:=tD q.1
 have hl404:=fD q.2
 exact xr (zH (an 13 dc) (ifpC ⟨q.1,q.2⟩)) (yC q)
 refine ob1 0 fun _ _ (bj:Sep _ _ _ _) ao=>(Zf rfl rfl (ao 9 dc) (fun s=>?_) yD)
 have hl415:=tD s.1
 have hl416:=fD s.2
 have ap:((((t.fields.gd fi.toNat).moves).gd arg.toNat).need).toNat<c.length:=bo
 obtain⟨aR,ah,hoke417⟩:=hc.celD ap
 have hsm419:((c.gd (((((t.fields.gd fi.toNat).moves).gd arg.toNat).need).toNat)).set).length*8≤140737488355328:=ah.small
 have aT:=bj.cells aR (hc.foot (ne_of_lt ap))
 exact lD (Iv ((c.gd (((((t.fields.gd fi.toNat).moves).gd arg.toNat).need).toNat)).n)) lT (zH (ao 14 dc) (ifpC ⟨s.1,s.2⟩)) (aT.get (j:=0) rfl) (yC s)
 refine fun _ _ _ _ _ _ bk=>(Zf rfl rfl (bk 9 dc) (fun J=>?_) yD)
 have hl429:=tD J.1
 have hl430:=fD J.2
 exact UO rfl (yC J)
 refine ob1 0 fun _ _ (bl:Sep _ _ _ _) aq=>(Zf rfl rfl (aq 9 dc) (fun u=>?_) yD)
 have hl441:=tD u.1
 have hl442:=fD u.2
 exact lD (Iv ((((t.fields.gd fi.toNat).moves).gd arg.toNat).least)) lT (zH (aq 16 dc) (ifpC ⟨u.1,u.2⟩)) (zd (bl.b0) rfl) (yC u)
 refine ob1 0 fun _ _ _ Z=>(Zf rfl rfl (Z 9 dc) (fun m=>?_) yD)
 have hl454:=tD m.1
 have hl455:=fD m.2
 exact xh (zH (Z 15 dc) (ifpC ⟨m.1,m.2⟩)) (zH (Z 17 dc) (ifpC ⟨m.1,m.2⟩)) (yC m)
 refine fun _ _ _ _ _ _ aa=>(yq rfl rfl (aa 5 dc) (fun A=>?_) yD)
 have hl466:=tD A
 exact zz (zH (aa 9 dc) (ifpC A)) (fun hbp=>(zH (aa 18 dc) (ifpC ⟨A,hbp⟩))) (yC A)
 exact fun _ _ _ _ _ _ ar=>obl rfl (zF (ar 5 dc) (fun hbp=>(zH (ar 19 dc) (ifpC hbp))) dR)
 intro vals w482 bm bn
 have au:=bm
 have cf:=bn 21 dc
 refine yd (kv:=[(0,.agg (t.cells dt0).toArray),(1,vc),(2,Iv fi),(3,Iv op),(4,Iv arg),(5,Ix b2 0),(10,Iv 0),(16,Ix b2 0),(17,dt0),(18,Iv fi),(19,Ix (sb dt0) (so dt0+fi.toNat*4)),(20,.agg ((t.fields.gd fi.toNat).cells (zV W (sb dt0) (so dt0+fi.toNat*4+3))).toArray),(11,Ix af 0),(21,vc),(22,Iv fi),(23,Ix (sb vc) (so vc+fi.toNat*2)),(24,.agg ((c.gd fi.toNat).cells (zV W (sb vc) (so vc+fi.toNat*2+1))).toArray),(12,Ix U 0),(13,.bool ((decide (((c.gd fi.toNat).n)=((((t.fields.gd fi.toNat).moves).gd arg.toNat).frm)))&&((decide (((((t.fields.gd fi.toNat).moves).gd arg.toNat).need)<0))||(decide (((((t.fields.gd fi.toNat).moves).gd arg.toNat).least)≤((c.gd (((((t.fields.gd fi.toNat).moves).gd arg.toNat).need).toNat)).n)))))),(25,Iv op),(27,.bool false),(26,.bool false),(68,.bool false),(67,.bool false),(80,.bool true),(79,.bool true),(81,Ix af 3),(82,(zV W (sb dt0) (so dt0+fi.toNat*4+3))),(83,Iv arg),(84,Ix (sb (zV W (sb dt0) (so dt0+fi.toNat*4+3))) (so (zV W (sb dt0) (so dt0+fi.toNat*4+3))+arg.toNat*4)),(85,.agg ((((t.fields.gd fi.toNat).moves).gd arg.toNat).cells).toArray),(15,Ix X 0)]) ⟨rfl,rfl,rfl,rfl,rfl,rfl,rfl,rfl,rfl,rfl,rfl,rfl,rfl,rfl,rfl,rfl,rfl,rfl,(by exact cf),rfl,rfl,rfl,rfl,rfl,rfl,rfl,rfl,rfl,rfl,rfl,rfl,rfl,zj⟩ (fun ρw482=>?_)
 refine zb (za (za (R0 fun _=>st (mV (.bool ((decide (((c.gd fi.toNat).n)=((((t.fields.gd fi.toNat).moves).gd arg.toNat).frm)))&&((decide (((((t.fields.gd fi.toNat).moves).gd arg.toNat).need)<0))||(decide (((((t.fields.gd fi.toNat).moves).gd arg.toNat).least)≤((c.gd (((((t.fields.gd fi.toNat).moves).gd arg.toNat).need).toNat)).n)))))) (zb ?_)))))
 cases L:(decide (((c.gd fi.toNat).n)=((((t.fields.gd fi.toNat).moves).gd arg.toNat).frm)))&&((decide (((((t.fields.gd fi.toNat).moves).gd arg.toNat).need)<0))||(decide (((((t.fields.gd fi.toNat).moves).gd arg.toNat).least)≤((c.gd (((((t.fields.gd fi.toNat).moves).gd arg.toNat).need).toNat)).n))))
 have R:=L
 try simp only[zh]at L
 refine zf rfl (zp (za (R0 fun _=>st (aS (Iv 10) (zb (zo (zN vT (show _=(Iv 10:Value)from rfl) ?_)))))))
 refine⟨?_,(au.s4_)⟩
 congr 1
 have o:xO (xC t fi) c (yH c fi) op arg=false:=by rw[y];exact(zdS).trans R
 unfold yN
 rw[o];rfl
 have R:=L
 try simp only[zh]at L
 refine zg rfl (za (R0 fun _=>st (aS (Iv 0) (zb (zo (zN vT (show _=(Iv 0:Value)from rfl) ?_))))))
 refine⟨?_,(au.s4_)⟩
 congr 1
 have o:xO (xC t fi) c (yH c fi) op arg=true:=by rw[y];exact(zdS).trans R
 unfold yN
 rw[o];rfl
 have C:=tD C
 refine zg rfl (zy kr (st (xl rfl (st (lD ce wT rfl (zd (g.b0) rfl) (st (zS tT rfl z.sl (st (zI rfl rfl (st (mV (.bool (decide (((((c.gd fi.toNat).set).length:Nat):Int)<64))) (stc (V:=Ix U 1) rfl rfl (fun bp=>?_) ?_))))))))))))
 have hl491:=fD bp
 exact xl rfl rflB
 refine stc (V:=ce) rfl rfl (fun av=>?_) ?_
 have hl493:=fD av
 exact lD ce wT (ifpC av) (zd (g.b0) rfl) rflB
 refine stc (V:=Iv arg) rfl rfl (fun bq=>?_) ?_
 have hl495:=fD bq
 exact mV (Iv arg) rflB
 refine zdu (V:=.bool (decide (arg∈((c.gd fi.toNat).set)))) (fun _ wq=>Sep G W ((Blk U ck.toArray 140)::(Blk af cj.toArray 106)::(Blk b2 (t.cells dt0).toArray 74)::Rs) wq) g rfl rfl (fun ab=>?_) (fun w500 aw=>?_)
 have hl497:=fD ab
 refine(zO (vals:=[ce,Iv arg]) rfl (yK ⟨(ifpC ab),(ifpC ab),zj⟩) Tryz.call85 (zdz z harg g) ?_)
 rintro _ w498 ⟨rfl,br⟩
 exact⟨rfl,br⟩
 refine st (zz rfl (fun hbp=>(ifpC hbp)) (st (aS (.bool ((decide (((((c.gd fi.toNat).set).length:Nat):Int)<64))||(decide (arg∈((c.gd fi.toNat).set))))) (zb (za (za (R0 fun _=>st (mV (.bool ((decide (((((c.gd fi.toNat).set).length:Nat):Int)<64))||(decide (arg∈((c.gd fi.toNat).set))))) (zb ?_)))))))))
 cases M:(decide (((((c.gd fi.toNat).set).length:Nat):Int)<64))||(decide (arg∈((c.gd fi.toNat).set)))
 have S:=M
 try simp only[zh]at M
 refine zf rfl (zp (za (R0 fun _=>st (aS (Iv 10) (zb (zo (zN vT (show _=(Iv 10:Value)from rfl) ?_)))))))
 refine⟨?_,(aw.s3_)⟩
 congr 1
 have o:xO (xC t fi) c (yH c fi) op arg=false:=by rw[C];exact(zdP).trans S
 unfold yN
 rw[o];rfl
 have S:=M
 try simp only[zh]at M
 refine zg rfl (za (R0 fun _=>st (aS (Iv 0) (zb (zo (zN vT (show _=(Iv 0:Value)from rfl) ?_))))))
 refine⟨?_,(aw.s3_)⟩
 congr 1
 have o:xO (xC t fi) c (yH c fi) op arg=true:=by rw[C];exact(zdP).trans S
 unfold yN
 rw[o];rfl
 have B:=tD B
 refine zg rfl (za (R0 fun _=>st (xr rfl (st (lD (Iv ((c.gd fi.toNat).n)) lT rfl (zd (g.b0) rfl) (st (mV (Iv arg) (st (zU (r:=IntKind.i64.wrap (((c.gd fi.toNat).n)+arg)) rfl rfl rfl (st (aS (Iv (IntKind.i64.wrap (((c.gd fi.toNat).n)+arg))) (zb (zy kr (st (xr rfl (st (lD (Iv ((c.gd fi.toNat).n)) lT rfl (zd (g.b0) rfl) (st (xh rfl rfl (st (mV (.bool (decide (0≤((c.gd fi.toNat).n)))) (stc (V:=Iv arg) rfl rfl (fun bs=>?_) ?_))))))))))))))))))))))
 have hl506:=tD bs
 exact mV (Iv arg) rflB
 refine stc (V:=.bool (decide (0≤arg))) rfl rfl (fun ax=>?_) ?_
 have hl508:=tD ax
 exact xh (ifpC ax) rfl rflB
 refine st (zF rfl (fun hbp=>(ifpC hbp)) (st (mV (.bool ((decide (0≤((c.gd fi.toNat).n)))&&(decide (0≤arg)))) (stc (V:=Iv (IntKind.i64.wrap (((c.gd fi.toNat).n)+arg))) rfl rfl (fun bt=>?_) ?_))))
 have bu:=bt
 try simp only[zh]at bu
 exact mV (Iv (IntKind.i64.wrap (((c.gd fi.toNat).n)+arg))) rflB
 refine stc (V:=.bool (decide ((IntKind.i64.wrap (((c.gd fi.toNat).n)+arg))<0))) rfl rfl (fun ay=>?_) ?_
 have bv:=ay
 try simp only[zh]at bv
 exact zI (ifpC ay) rfl rflB
 refine st (zF rfl (fun hbp=>(ifpC hbp)) (st (yw rfl (st (mV (.bool (!(((decide (0≤((c.gd fi.toNat).n)))&&(decide (0≤arg)))&&(decide ((IntKind.i64.wrap (((c.gd fi.toNat).n)+arg))<0))))) (stc (V:=Ix U 0) rfl rfl (fun bw=>?_) ?_))))))
 have bx:=bw
 try simp only[zh]at bx
 exact xr rfl rflB
 refine stc (V:=Iv ((c.gd fi.toNat).n)) rfl rfl (fun az=>?_) ?_
 have bz:=az
 try simp only[zh]at bz
 exact lD (Iv ((c.gd fi.toNat).n)) lT (ifpC az) (zd (g.b0) rfl) rflB
 refine stc (V:=.bool (decide (((c.gd fi.toNat).n)<0))) rfl rfl (fun aA=>?_) ?_
 have bA:=aA
 try simp only[zh]at bA
 exact zI (ifpC aA) rfl rflB
 refine stc (V:=.bool (decide (((c.gd fi.toNat).n)<0))) rfl rfl (fun aB=>?_) ?_
 have bB:=aB
 try simp only[zh]at bB
 exact yg (ifpC aB) rflB
 refine xn (V:=Iv arg) rfl rfl (fun aC=>?_) ?_
 have bC:=aC.1
 try simp only[zh]at bC
 have hl523:=tD aC.2
 exact mV (Iv arg) rflB
 refine xn (V:=.bool (decide (arg<0))) rfl rfl (fun N=>?_) ?_
 have bD:=N.1
 try simp only[zh]at bD
 have hl526:=tD N.2
 exact zI (ifpC ⟨N.1,N.2⟩) rfl rflB
 refine stc (V:=.bool ((decide (((c.gd fi.toNat).n)<0))&&(decide (arg<0)))) rfl rfl (fun ac=>?_) ?_
 have bE:=ac
 try simp only[zh]at bE
 exact zF (ifpC ac) (fun hbp=>(ifpC ⟨ac,hbp⟩)) rflB
 refine stc (V:=.bool ((decide (((c.gd fi.toNat).n)<0))&&(decide (arg<0)))) rfl rfl (fun aD=>?_) ?_
 have bF:=aD
 try simp only[zh]at bF
 exact yg (ifpC aD) rflB
 refine xn (V:=Iv (IntKind.i64.wrap (((c.gd fi.toNat).n)+arg))) rfl rfl (fun aE=>?_) ?_
 have bG:=aE.1
 try simp only[zh]at bG
 have bH:=aE.2
 try simp only[zh]at bH
 exact mV (Iv (IntKind.i64.wrap (((c.gd fi.toNat).n)+arg))) rflB
 refine xn (V:=.bool (decide (0≤(IntKind.i64.wrap (((c.gd fi.toNat).n)+arg))))) rfl rfl (fun O=>?_) ?_
 have bI:=O.1
 try simp only[zh]at bI
 have bJ:=O.2
 try simp only[zh]at bJ
 exact xh (ifpC ⟨O.1,O.2⟩) rfl rflB
 refine stc (V:=.bool (((decide (((c.gd fi.toNat).n)<0))&&(decide (arg<0)))&&(decide (0≤(IntKind.i64.wrap (((c.gd fi.toNat).n)+arg)))))) rfl rfl (fun ad=>?_) ?_
 have bK:=ad
 try simp only[zh]at bK
 exact zF (ifpC ad) (fun hbp=>(ifpC ⟨ad,hbp⟩)) rflB
 refine stc (V:=.bool (!(((decide (((c.gd fi.toNat).n)<0))&&(decide (arg<0)))&&(decide (0≤(IntKind.i64.wrap (((c.gd fi.toNat).n)+arg))))))) rfl rfl (fun aF=>?_) ?_
 have bL:=aF
 try simp only[zh]at bL
 exact yw (ifpC aF) rflB
 refine st (zF rfl (fun hbp=>(ifpC hbp)) (st (mV (.bool ((!(((decide (0≤((c.gd fi.toNat).n)))&&(decide (0≤arg)))&&(decide ((IntKind.i64.wrap (((c.gd fi.toNat).n)+arg))<0))))&&(!(((decide (((c.gd fi.toNat).n)<0))&&(decide (arg<0)))&&(decide (0≤(IntKind.i64.wrap (((c.gd fi.toNat).n)+arg)))))))) (stc (V:=Ix af 2) rfl rfl (fun bM=>?_) ?_))))
 have bN:=bM
 try simp only[zh]at bN
 exact WG rfl rflB
 refine stc (V:=.bool ((t.fields.gd fi.toNat).floor)) rfl rfl (fun aG=>?_) ?_
 have bO:=aG
 try simp only[zh]at bO
 exact lD (.bool ((t.fields.gd fi.toNat).floor)) kY (ifpC aG) (zd (g.b1) rfl) rflB
 refine stc (V:=.bool ((t.fields.gd fi.toNat).floor)) rfl rfl (fun aH=>?_) ?_
 have bP:=aH
 try simp only[zh]at bP
 exact yg (ifpC aH) rflB
 refine xn (V:=Iv (IntKind.i64.wrap (((c.gd fi.toNat).n)+arg))) rfl rfl (fun aI=>?_) ?_
 have bQ:=aI.1
 try simp only[zh]at bQ
 have hl549:=aI.2
 exact mV (Iv (IntKind.i64.wrap (((c.gd fi.toNat).n)+arg))) rflB
 refine xn (V:=.bool (decide ((IntKind.i64.wrap (((c.gd fi.toNat).n)+arg))<0))) rfl rfl (fun P=>?_) ?_
 have bR:=P.1
 try simp only[zh]at bR
 have hl552:=P.2
 exact zI (ifpC ⟨P.1,P.2⟩) rfl rflB
 refine stc (V:=.bool (((t.fields.gd fi.toNat).floor)&&(decide ((IntKind.i64.wrap (((c.gd fi.toNat).n)+arg))<0)))) rfl rfl (fun ae=>?_) ?_
 have bS:=ae
 try simp only[zh]at bS
 exact zF (ifpC ae) (fun hbp=>(ifpC ⟨ae,hbp⟩)) rflB
 refine stc (V:=.bool (!(((t.fields.gd fi.toNat).floor)&&(decide ((IntKind.i64.wrap (((c.gd fi.toNat).n)+arg))<0))))) rfl rfl (fun aJ=>?_) ?_
 have bT:=aJ
 try simp only[zh]at bT
 exact yw (ifpC aJ) rflB
 refine st (zF rfl (fun hbp=>(ifpC hbp)) (st (aS (.bool (((!(((decide (0≤((c.gd fi.toNat).n)))&&(decide (0≤arg)))&&(decide ((IntKind.i64.wrap (((c.gd fi.toNat).n)+arg))<0))))&&(!(((decide (((c.gd fi.toNat).n)<0))&&(decide (arg<0)))&&(decide (0≤(IntKind.i64.wrap (((c.gd fi.toNat).n)+arg)))))))&&(!(((t.fields.gd fi.toNat).floor)&&(decide ((IntKind.i64.wrap (((c.gd fi.toNat).n)+arg))<0)))))) (zb (za (za (R0 fun _=>?_)))))))
 refine st (mV (.bool (((!(((decide (0≤((c.gd fi.toNat).n)))&&(decide (0≤arg)))&&(decide ((IntKind.i64.wrap (((c.gd fi.toNat).n)+arg))<0))))&&(!(((decide (((c.gd fi.toNat).n)<0))&&(decide (arg<0)))&&(decide (0≤(IntKind.i64.wrap (((c.gd fi.toNat).n)+arg)))))))&&(!(((t.fields.gd fi.toNat).floor)&&(decide ((IntKind.i64.wrap (((c.gd fi.toNat).n)+arg))<0)))))) (zb ?_))
 cases Q:((!(((decide (0≤((c.gd fi.toNat).n)))&&(decide (0≤arg)))&&(decide ((IntKind.i64.wrap (((c.gd fi.toNat).n)+arg))<0))))&&(!(((decide (((c.gd fi.toNat).n)<0))&&(decide (arg<0)))&&(decide (0≤(IntKind.i64.wrap (((c.gd fi.toNat).n)+arg)))))))&&(!(((t.fields.gd fi.toNat).floor)&&(decide ((IntKind.i64.wrap (((c.gd fi.toNat).n)+arg))<0))))
 have T:=Q
 try simp only[zh]at Q
 refine zf rfl (zp (za (R0 fun _=>st (aS (Iv 10) (zb (zo (zN vT (show _=(Iv 10:Value)from rfl) ?_)))))))
 refine⟨?_,(g.s3_)⟩
 congr 1
 have o:xO (xC t fi) c (yH c fi) op arg=false:=by rw[B];exact(zdT (ag).n harg).trans T
 unfold yN
 rw[o];rfl
 have T:=Q
 try simp only[zh]at Q
 refine zg rfl (za (R0 fun _=>st (aS (Iv 0) (zb (zo (zN vT (show _=(Iv 0:Value)from rfl) ?_))))))
 refine⟨?_,(g.s3_)⟩
 congr 1
 have o:xO (xC t fi) c (yH c fi) op arg=true:=by rw[B];exact(zdT (ag).n harg).trans T
 unfold yN
 rw[o];rfl
theorem XP {t:Typ}{c:List Cel}{fi op arg a:Int}{S:List Int}(h:(⟨a,S⟩:Cel)=xp (xC t fi) (yH c fi) op arg):c.set fi.toNat (⟨a,S⟩:Cel)=doL t c fi op arg:=by unfold doL;rw[h]
theorem dc_1 {fl:Fld}{c:Cel}{arg:Int}:xp fl c 1 arg=⟨IntKind.i64.wrap (c.n+arg),c.set⟩:=rfl
theorem dc_2 {fl:Fld}{c:Cel}{arg:Int}:xp fl c 2 arg=⟨arg,c.set⟩:=rfl
theorem dc_3 {fl:Fld}{c:Cel}{arg:Int}:xp fl c 3 arg=⟨c.n,Yg c.set arg⟩:=rfl
theorem dc_4 {fl:Fld}{c:Cel}{arg:Int}:xp fl c 4 arg=⟨c.n,ZG c.set arg⟩:=rfl
theorem dc_5 {fl:Fld}{c:Cel}{arg:Int}:xp fl c 5 arg=⟨(Yk fl arg).to,c.set⟩:=rfl
theorem dc_o {fl:Fld}{c:Cel}{op arg:Int}(h1: ¬op=1)(h2: ¬op=2)(h3: ¬op=3)(h4: ¬op=4)(h5: ¬op=5):xp fl c op arg=c:=by unfold xp;rw[if_neg h1,if_neg h2,if_neg h3,if_neg h4,if_neg h5]
theorem zch {t:Typ}{dt0:Value}(hdt0:RdS W G dt0 t.fields)(ot:t.Ok){vc:Value}{c:List Cel}(hc:RdS W G vc c){fi:Int}(hfi:InR fi){op:Int}(hop:InR op){arg:Int}(harg:InR arg)(hS0:Sep G W Rs w)(hask:YU t c fi op arg)(hfew:(c.getD fi.toNat default).set.length≤1000):Ret Tryz.prog 84 [.agg (t.cells dt0).toArray,vc,.int .i64 (fi),.int .i64 (op),.int .i64 (arg)] w (fun r w'=> ∃(v:Value),r=(v:Value)∧Sep G W ((RowE (α:=Cel) own 140 v (doL t c fi op arg))::Rs) w'):=by
 let bj:=doL t c fi op arg
 let bi:=c.gd fi.toNat
 let bh:=((t.fields.gd fi.toNat).moves).gd arg.toNat
 have hdt0s:_*48≤_:=hdt0.small
 have hcs:_*32≤_:=hc.small
 have ha0:=hask.1
 have ha1:=hask.2.1
 have ha2:=hask.2.2.1
 refine zm (args:=[.agg (t.cells dt0).toArray,vc,Iv fi,Iv op,Iv arg]) Tryz.func84 rfl rfl ?_
 refine za (R0 fun _=>st (zT (v:=.agg (t.cells dt0).toArray) rfl ?_))
 intro w3 b2 bd
 refine st (aS Iz (zb (za (R0 fun _=>st (mV vc (st (cL Tryz.call110 (zey (c:=c) (vc:=vc) hc (hS0.new bd)) ?_)))))))
 rintro e w6 ⟨_,rfl,bf⟩
 refine st (aS e (zb (za (R0 fun _=>?_))))
 obtain⟨d,g,aH⟩:=CelW.open bf
 let be:=d.gd fi.toNat
 have hsh9l:=g.1
 have J:Sep G W ((RowE (α:=CelS) own 140 e d)::(Star (SetRows 3 d c))::(Blk b2 (t.cells dt0).toArray 74)::Rs) w6:=aH
 have p:=J.r0
 have hr11s:_*32≤_:=p.2
 have K:=g.2 fi.toNat om
 have I:Sep G W ((RowE (α:=Int) own 3 ((d.gd fi.toNat).v) ((c.gd fi.toNat).set))::(Star ((SetRows 3 d c).set fi.toNat Emp))::(RowE (α:=CelS) own 140 e d)::(Blk b2 (t.cells dt0).toArray 74)::Rs) w6:=Sep.takeStar (J.mv1) (SetRows.get (i:=fi.toNat) om om)
 have m:=I.r0
 have hr14s:_*8≤_:=m.2
 refine st (mV e (st (mV (Iv fi) ?_)))
 have hi15:fi.toNat<d.length:=bo
 refine st (zA (k:=2) (i:=fi) mT kT rfl p.1 rfl ⟨by omega,by omega⟩ ?_)
 have aI:fi.toNat<d.length:=bo
 obtain⟨_,_,an,rfl,y⟩:=I.rowAtD (i:=2) (j:=fi.toNat) rfl aI
 refine st (ze (k:=2) qT kT rfl rfl an (st (zv rY ?_)))
 intro w20 b19 aJ
 have Y:=I.new aJ
 refine stn (zr (v:=.agg (be.cells).toArray) (c':=(be.cells).toArray) kT rfl rfl (Y.b0) (zZ ⟨rfl,m.1.one,zj⟩) yqc rfl ?_)
 intro w22 aK
 have f:=Y.pt0 aK
 refine zb (za (za (R0 fun _=>st (mV (Iv op) (zb (zu (za (R0 fun _=>st (zR (k:=.i64) (a:=op) (b:=1) rfl rfl (st (aS (.bool (decide (op=1))) (zb ?_))))))))))))
 cases z:decide (op=1)
 have z:=fD z
 refine zf rfl (za (R0 fun _=>st (zR (k:=.i64) (a:=op) (b:=2) rfl rfl (st (aS (.bool (decide (op=2))) (zb ?_))))))
 cases A:decide (op=2)
 have A:=fD A
 refine zf rfl (za (R0 fun _=>st (zR (k:=.i64) (a:=op) (b:=3) rfl rfl (st (aS (.bool (decide (op=3))) (zb ?_))))))
 cases B:decide (op=3)
 have B:=fD B
 refine zf rfl (za (R0 fun _=>st (zR (k:=.i64) (a:=op) (b:=4) rfl rfl (st (aS (.bool (decide (op=4))) (zb ?_))))))
 cases C:decide (op=4)
 have C:=fD C
 refine zf rfl (za (R0 fun _=>st (zR (k:=.i64) (a:=op) (b:=5) rfl rfl (st (aS (.bool (decide (op=5))) (zb ?_))))))
 cases x:decide (op=5)
 have x:=fD x
 refine zf rfl (zp (za (R0 fun _=>st (mV e (st (mV (Iv fi) (st (ze (k:=2) qT kT rfl rfl (zi (f.b0)) ?_))))))))
 have hi30:fi.toNat<d.length:=bo
 refine st (zA (k:=2) (i:=fi) mT kT rfl p.1 rfl ⟨by omega,by omega⟩ ?_)
 have aL:=(f.mv3).emp1
 refine stn (xe (α:=CelS) (j:=fi.toNat) (o:=0) (u:=.agg ((d.getD fi.toNat default).cells).toArray) (us:=(d.getD fi.toNat default).cells) (x1:=(⟨(d.getD fi.toNat default).n,(d.getD fi.toNat default).v⟩:CelS)) aL kT bo rfl rfl rfl (xJ rfl) (zZ ⟨rfl,m.1.one,zj⟩) (fun _ _ _ hel _=>(by rw[←zK default (by omega)]at hel;obtain⟨rfl,hok⟩:=hel;exact⟨rfl,⟨y.n,m.1.one⟩⟩)) ?_)
 intro w31 Z
 have aM:=Z.r0
 have hr35s:_*32≤_:=aM.2
 refine zb (za ?_)
 have aa:Sep _ _ ((CelW e 140 3 (c.set fi.toNat (⟨(d.gd fi.toNat).n,(c.gd fi.toNat).set⟩:Cel)))::_) _:=CelW.close (i:=fi.toNat) (s:=(⟨(d.gd fi.toNat).n,(d.gd fi.toNat).v⟩:CelS)) (c:=(⟨(d.gd fi.toNat).n,(c.gd fi.toNat).set⟩:Cel)) g.1 g.2 om rfl (Z.s5_cdabe)
 have h:c.set fi.toNat (⟨(d.getD fi.toNat default).n,(c.getD fi.toNat default).set⟩:Cel)=doL t c fi op arg:=XP (by rw[K,dc_o (by omega) (by omega) (by omega) (by omega) (by omega)];rfl)
 rw[h]at aa
 have aN:Sep _ _ ((RowE (α:=Cel) own 140 e bj)::_) _:=CelW.row aa
 refine R0 fun _=>st (mV e (st (aS e (zb (zo (zN mR (show _=(e:Value)from rfl) ?_))))))
 refine⟨e,rfl,(aN.s3_a)⟩
 have x:=tD x
 have bg:=hask.2.2.2.2 x
 have ha51:arg<(t.fields.gd fi.toNat).moves.length:=bg.2.1
 refine zg rfl (R0 fun _=>st (xi rfl (st (lD dt0 vR rfl (zd (f.b4) rfl) (st (mV (Iv fi) ?_))))))
 have hi40:fi.toNat<t.fields.length:=bo
 refine st (zA (k:=4) (i:=fi) wR qR rfl hdt0.sl rfl ⟨by omega,by omega⟩ (st (yQ rfl ?_)))
 have ab:fi.toNat<t.fields.length:=bo
 obtain⟨ao,q,hoke41⟩:=hdt0.fldD ab
 have hsm43:((t.fields.gd fi.toNat).moves).length*32≤140737488355328:=q.small
 have ap:=f.cells ao (hdt0.foot (ne_of_lt ab))
 refine st (lD (zV W (sb dt0) (so dt0+fi.toNat*4+3)) sY rfl (ap.get (j:=3) rfl) (st (mV (Iv arg) ?_)))
 have hi45:arg.toNat<((t.fields.gd fi.toNat).moves).length:=bo
 refine st (zA (k:=4) (i:=arg) tY rR rfl q.sl rfl ⟨by omega,by omega⟩ (st (UP rfl ?_)))
 have ac:arg.toNat<((t.fields.gd fi.toNat).moves).length:=bo
 obtain⟨aq,ad⟩:=q.mvD ac
 have ar:=f.cells aq (q.foot (ne_of_lt ac))
 refine st (lD (Iv (bh.to)) lT rfl (ar.get (j:=1) rfl) (st (xr rfl (stn (yr (v:=Iv (bh.to)) uT rfl rfl (f.b0) rfl rfl rfl ?_)))))
 intro w49 aO
 have ae:=f.pt0 aO
 refine zb (za (R0 fun _=>st (mV e (st (mV (Iv fi) (st (ze (k:=2) qT kT rfl rfl (zi (ae.b0)) ?_)))))))
 have hi52:fi.toNat<d.length:=bo
 refine st (zA (k:=2) (i:=fi) mT kT rfl p.1 rfl ⟨by omega,by omega⟩ ?_)
 have aP:=(ae.mv3).emp1
 refine stn (xe (α:=CelS) (j:=fi.toNat) (o:=0) (u:=.agg #[Iv ((((t.fields.getD fi.toNat default).moves).getD arg.toNat default).to),(d.getD fi.toNat default).v]) (us:=[Iv ((((t.fields.getD fi.toNat default).moves).getD arg.toNat default).to),(d.getD fi.toNat default).v]) (x1:=(⟨(((t.fields.getD fi.toNat default).moves).getD arg.toNat default).to,(d.getD fi.toNat default).v⟩:CelS)) aP kT bo rfl rfl rfl (xJ rfl) (zZ ⟨rfl,m.1.one,zj⟩) (fun _ _ _ hel _=>(by rw[←zK default (by omega)]at hel;obtain⟨rfl,hok⟩:=hel;exact⟨rfl,⟨ad.to,m.1.one⟩⟩)) ?_)
 intro w53 af
 have aQ:=af.r0
 have hr57s:_*32≤_:=aQ.2
 refine zb (za ?_)
 have ag:Sep _ _ ((CelW e 140 3 (c.set fi.toNat (⟨(((t.fields.gd fi.toNat).moves).gd arg.toNat).to,(c.gd fi.toNat).set⟩:Cel)))::_) _:=CelW.close (i:=fi.toNat) (s:=(⟨(((t.fields.gd fi.toNat).moves).gd arg.toNat).to,(d.gd fi.toNat).v⟩:CelS)) (c:=(⟨(((t.fields.gd fi.toNat).moves).gd arg.toNat).to,(c.gd fi.toNat).set⟩:Cel)) g.1 g.2 om rfl (af.s5_cdabe)
 have h:c.set fi.toNat (⟨bh.to,bi.set⟩:Cel)=doL t c fi op arg:=XP (by rw[x,dc_5];rfl)
 rw[h]at ag
 have aR:Sep _ _ ((RowE (α:=Cel) own 140 e bj)::_) _:=CelW.row ag
 refine R0 fun _=>st (mV e (st (aS e (zb (zo (zN mR (show _=(e:Value)from rfl) ?_))))))
 refine⟨e,rfl,(aR.s3_a)⟩
 have C:=tD C
 have aG:Asc (c.gd fi.toNat).set:=hask.2.2.2.1 om
 refine zg rfl (R0 fun _=>st (xl rfl (st (lD (be.v) wT rfl (zd (f.b0) rfl) (st (mV (Iv arg) ?_))))))
 obtain⟨G63,aT,hB66,aU,aV⟩:=(f.mv1).lend
 have L:=RowE.rd aT
 have hrd69s:_*8≤_:=L.small
 refine st (cL Tryz.call112 (zam (l:=bi.set) (vl:=be.v) (n:=arg) L harg aU hfew) ?_)
 rintro D w71 ⟨_,rfl,ah⟩
 have F:=ah.r0
 have hr73s:_*8≤_:=F.2
 have ai:=aV _ _ ah
 refine st (xl rfl (stn (yr (v:=D) lY rfl rfl (ai.b2) F.1.one rfl rfl ?_)))
 intro w75 aW
 have aj:=ai.pt2 aW
 refine zb (za (R0 fun _=>st (mV e (st (mV (Iv fi) (st (ze (k:=2) qT kT rfl rfl (zi (aj.b2)) ?_)))))))
 have hi78:fi.toNat<d.length:=bo
 refine st (zA (k:=2) (i:=fi) mT kT rfl p.1 rfl ⟨by omega,by omega⟩ ?_)
 have aX:=(aj.mv4).emp1
 refine stn (xe (α:=CelS) (j:=fi.toNat) (o:=0) (u:=.agg #[Iv ((d.getD fi.toNat default).n),D]) (us:=[Iv ((d.getD fi.toNat default).n),D]) (x1:=(⟨(d.getD fi.toNat default).n,D⟩:CelS)) aX kT bo rfl rfl rfl (xJ rfl) (zZ ⟨rfl,F.1.one,zj⟩) (fun _ _ _ hel _=>(by rw[←zK default (by omega)]at hel;obtain⟨rfl,hok⟩:=hel;exact⟨rfl,⟨y.n,F.1.one⟩⟩)) ?_)
 intro w79 ak
 have aY:=ak.r0
 have hr83s:_*32≤_:=aY.2
 refine zb (za ?_)
 have al:Sep _ _ ((CelW e 140 3 (c.set fi.toNat (⟨(d.gd fi.toNat).n,(ZG ((c.gd fi.toNat).set) arg)⟩:Cel)))::_) _:=CelW.close (i:=fi.toNat) (s:=(⟨(d.gd fi.toNat).n,D⟩:CelS)) (c:=(⟨(d.gd fi.toNat).n,(ZG ((c.gd fi.toNat).set) arg)⟩:Cel)) g.1 g.2 om rfl (ak.s6_ceabdf)
 have h:c.set fi.toNat (⟨be.n,(ZG (bi.set) arg)⟩:Cel)=doL t c fi op arg:=XP (by rw[K,C,dc_4];rfl)
 rw[h]at al
 have aZ:Sep _ _ ((RowE (α:=Cel) own 140 e bj)::_) _:=CelW.row al
 refine R0 fun _=>st (mV e (st (aS e (zb (zo (zN mR (show _=(e:Value)from rfl) ?_))))))
 refine⟨e,rfl,(aZ.s4_a)⟩
 have B:=tD B
 have aG:Asc (c.gd fi.toNat).set:=hask.2.2.2.1 om
 refine zg rfl (R0 fun _=>st (xl rfl (st (lD (be.v) wT rfl (zd (f.b0) rfl) (st (mV (Iv arg) ?_))))))
 obtain⟨G89,ba,hB92,bb,bc⟩:=(f.mv1).lend
 have M:=RowE.rd ba
 have hrd95s:_*8≤_:=M.small
 refine st (cL Tryz.call111 (zew (l:=bi.set) (vl:=be.v) (n:=arg) M harg bb aG hfew) ?_)
 rintro E w97 ⟨_,rfl,am⟩
 have H:=am.r0
 have hr99s:_*8≤_:=H.2
 have N:=bc _ _ am
 refine st (xl rfl (stn (yr (v:=E) lY rfl rfl (N.b2) H.1.one rfl rfl ?_)))
 intro w101 au
 have O:=N.pt2 au
 refine zb (za (R0 fun _=>st (mV e (st (mV (Iv fi) (st (ze (k:=2) qT kT rfl rfl (zi (O.b2)) ?_)))))))
 have hi104:fi.toNat<d.length:=bo
 refine st (zA (k:=2) (i:=fi) mT kT rfl p.1 rfl ⟨by omega,by omega⟩ ?_)
 have av:=(O.mv4).emp1
 refine stn (xe (α:=CelS) (j:=fi.toNat) (o:=0) (u:=.agg #[Iv ((d.getD fi.toNat default).n),E]) (us:=[Iv ((d.getD fi.toNat default).n),E]) (x1:=(⟨(d.getD fi.toNat default).n,E⟩:CelS)) av kT bo rfl rfl rfl (xJ rfl) (zZ ⟨rfl,H.1.one,zj⟩) (fun _ _ _ hel _=>(by rw[←zK default (by omega)]at hel;obtain⟨rfl,hok⟩:=hel;exact⟨rfl,⟨y.n,H.1.one⟩⟩)) ?_)
 intro w105 P
 have aw:=P.r0
 have hr109s:_*32≤_:=aw.2
 refine zb (za ?_)
 have Q:Sep _ _ ((CelW e 140 3 (c.set fi.toNat (⟨(d.gd fi.toNat).n,(Yg ((c.gd fi.toNat).set) arg)⟩:Cel)))::_) _:=CelW.close (i:=fi.toNat) (s:=(⟨(d.gd fi.toNat).n,E⟩:CelS)) (c:=(⟨(d.gd fi.toNat).n,(Yg ((c.gd fi.toNat).set) arg)⟩:Cel)) g.1 g.2 om rfl (P.s6_ceabdf)
 have h:c.set fi.toNat (⟨be.n,(Yg (bi.set) arg)⟩:Cel)=doL t c fi op arg:=XP (by rw[K,B,dc_3];rfl)
 rw[h]at Q
 have ax:Sep _ _ ((RowE (α:=Cel) own 140 e bj)::_) _:=CelW.row Q
 refine R0 fun _=>st (mV e (st (aS e (zb (zo (zN mR (show _=(e:Value)from rfl) ?_))))))
 refine⟨e,rfl,(ax.s4_a)⟩
 have A:=tD A
 refine zg rfl (R0 fun _=>st (mV (Iv arg) (st (xr rfl (stn (yr (v:=Iv arg) uT rfl rfl (f.b0) rfl rfl rfl ?_))))))
 intro w114 ay
 have R:=f.pt0 ay
 refine zb (za (R0 fun _=>st (mV e (st (mV (Iv fi) (st (ze (k:=2) qT kT rfl rfl (zi (R.b0)) ?_)))))))
 have hi117:fi.toNat<d.length:=bo
 refine st (zA (k:=2) (i:=fi) mT kT rfl p.1 rfl ⟨by omega,by omega⟩ ?_)
 have az:=(R.mv3).emp1
 refine stn (xe (α:=CelS) (j:=fi.toNat) (o:=0) (u:=.agg #[Iv arg,(d.getD fi.toNat default).v]) (us:=[Iv arg,(d.getD fi.toNat default).v]) (x1:=(⟨arg,(d.getD fi.toNat default).v⟩:CelS)) az kT bo rfl rfl rfl (xJ rfl) (zZ ⟨rfl,m.1.one,zj⟩) (fun _ _ _ hel _=>(by rw[←zK default (by omega)]at hel;obtain⟨rfl,hok⟩:=hel;exact⟨rfl,⟨harg,m.1.one⟩⟩)) ?_)
 intro w118 S
 have aA:=S.r0
 have hr122s:_*32≤_:=aA.2
 refine zb (za ?_)
 have T:Sep _ _ ((CelW e 140 3 (c.set fi.toNat (⟨arg,(c.gd fi.toNat).set⟩:Cel)))::_) _:=CelW.close (i:=fi.toNat) (s:=(⟨arg,(d.gd fi.toNat).v⟩:CelS)) (c:=(⟨arg,(c.gd fi.toNat).set⟩:Cel)) g.1 g.2 om rfl (S.s5_cdabe)
 have h:c.set fi.toNat (⟨arg,bi.set⟩:Cel)=doL t c fi op arg:=XP (by rw[A,dc_2];rfl)
 rw[h]at T
 have aB:Sep _ _ ((RowE (α:=Cel) own 140 e bj)::_) _:=CelW.row T
 refine R0 fun _=>st (mV e (st (aS e (zb (zo (zN mR (show _=(e:Value)from rfl) ?_))))))
 refine⟨e,rfl,(aB.s3_a)⟩
 have z:=tD z
 refine zg rfl (R0 fun _=>st (xr rfl (st (lD (Iv (be.n)) lT rfl (zd (f.b0) rfl) (st (mV (Iv arg) (st (zU (r:=IntKind.i64.wrap ((be.n)+arg)) (k:=.i64) (a:=be.n) (b:=arg) rfl rfl rfl (st (xr rfl (stn (yr (v:=Iv (IntKind.i64.wrap ((be.n)+arg))) uT rfl rfl (f.b0) rfl rfl rfl ?_))))))))))))
 intro w127 aC
 have U:=f.pt0 aC
 refine zb (za (R0 fun _=>st (mV e (st (mV (Iv fi) (st (ze (k:=2) qT kT rfl rfl (zi (U.b0)) ?_)))))))
 have hi130:fi.toNat<d.length:=bo
 refine st (zA (k:=2) (i:=fi) mT kT rfl p.1 rfl ⟨by omega,by omega⟩ ?_)
 have aD:=(U.mv3).emp1
 refine stn (xe (α:=CelS) (j:=fi.toNat) (o:=0) (u:=.agg #[Iv (IntKind.i64.wrap (((d.getD fi.toNat default).n)+arg)),(d.getD fi.toNat default).v]) (us:=[Iv (IntKind.i64.wrap (((d.getD fi.toNat default).n)+arg)),(d.getD fi.toNat default).v]) (x1:=(⟨IntKind.i64.wrap (((d.getD fi.toNat default).n)+arg),(d.getD fi.toNat default).v⟩:CelS)) aD kT bo rfl rfl rfl (xJ rfl) (zZ ⟨rfl,m.1.one,zj⟩) (fun _ _ _ hel _=>(by rw[←zK default (by omega)]at hel;obtain⟨rfl,hok⟩:=hel;exact⟨rfl,⟨(Vt _),m.1.one⟩⟩)) ?_)
 intro w131 V
 have aE:=V.r0
 have hr135s:_*32≤_:=aE.2
 refine zb (za ?_)
 have X:Sep _ _ ((CelW e 140 3 (c.set fi.toNat (⟨IntKind.i64.wrap (((d.gd fi.toNat).n)+arg),(c.gd fi.toNat).set⟩:Cel)))::_) _:=CelW.close (i:=fi.toNat) (s:=(⟨IntKind.i64.wrap (((d.gd fi.toNat).n)+arg),(d.gd fi.toNat).v⟩:CelS)) (c:=(⟨IntKind.i64.wrap (((d.gd fi.toNat).n)+arg),(c.gd fi.toNat).set⟩:Cel)) g.1 g.2 om rfl (V.s5_cdabe)
 have h:c.set fi.toNat (⟨IntKind.i64.wrap ((be.n)+arg),bi.set⟩:Cel)=doL t c fi op arg:=XP (by rw[K,z,dc_1];rfl)
 rw[h]at X
 have aF:Sep _ _ ((RowE (α:=Cel) own 140 e bj)::_) _:=CelW.row X
 refine R0 fun _=>st (mV e (st (aS e (zb (zo (zN mR (show _=(e:Value)from rfl) ?_))))))
 refine⟨e,rfl,(aF.s3_a)⟩
theorem zdg {a b:Ent}(h1:a.ev=b.ev)(h2:(a.void== b.void)=true)(h3:a.byO=b.byO∧a.byS=b.byS):a=b:=by
 rw[Ent.eq_iff];exact⟨h1,by simpa using h2,h3.1,h3.2⟩
theorem zba {a b:Ent}(h:(a.ev=b.ev∧(a.void== b.void)=true)∧a.byO=b.byO∧a.byS=b.byS):a=b:=zdg h.1.1 h.1.2 h.2
theorem VT {va:Value}{a:List Ent}(ha:RdS W G va a){vb:Value}{b:List Ent}(hb:RdS W G vb b)(hS0:Sep G W Rs w):Ret Tryz.prog 18 [va,vb] w (fun r w'=>r=(.bool (decide (a=b)):Value)∧Sep G W Rs w'):=by
 have has:_*120≤_:=ha.small
 have hbs:_*120≤_:=hb.small
 refine zm Tryz.func18 rfl rfl ?_
 refine za (R0 fun _=>st (aS (.bool false) (zb (za (za (R0 fun _=>st (mV va (st (zS nT rfl ha.sl (st (mV vb (st (zS nT rfl hb.sl (st (yj rfl rfl (zb ?_))))))))))))))))
 cases V: !decide (((a.length:Nat):Int)=((b.length:Nat):Int))
 have V:=zB V
 refine zf rfl (zp (za (za (R0 fun _=>st (aS (Iv 0) (zb (zu (yf (fun mq σ wq=> ∃k ρ,mq=a.length-k∧σ=yo ρ [(0,va),(1,vb),(5,Iw k)]∧(k≤a.length)∧(∀i,i<k→a.gd i=b.gd i)∧Sep G W Rs wq) ⟨0,_,rfl,sSf,zY _,(fun i h=>absurd h (yO i)),hS0⟩ ?_))))))))
 rintro m3 σ4 w2 ⟨k,ρl1,rfl,rfl,hkk,hm,bX⟩
 let cd:=zV W (sb vb) (so vb+k*13+3)
 let cc:=zV W (sb va) (so va+k*13+3)
 let ca:=b.gd k
 let bZ:=a.gd k
 let cb:=(bZ.void)== (ca.void)
 let aC:=decide (((a.gd k).ev)=((b.gd k).ev))
 refine za (za (R0 fun _=>st (mV (Iw k) (st (mV va (st (zS nT rfl ha.sl (st (zI rfl rfl (zb ?_))))))))))
 cases ae:decide (((k:Nat):Int)<((a.length:Nat):Int))
 have ae:=fD ae
 refine zf rfl (yh (zX (za (R0 fun _=>st (aS (.bool true) (zb (zo (zN mY (show _=(.bool true:Value)from rfl) ?_))))))))
 refine⟨?_,bX⟩
 rw[decide_eq_true (Xx (by omega) (fun i hi=>hm i (by omega)))]
 have ae:=tD ae
 refine zg rfl (zp (za (zu (za ?_))))
 refine WD4 (WF [fun vals wq=>Sep G W Rs wq,fun vals wq=>(vals 10=(.bool aC:Value))∧Sep G W Rs wq]) (AF [Vl 0 va,Vl 1 (Iw k),Vl 2 (Ix (sb va) (so va+k*13)),Vl 3 (Ix (sb va) (so va+k*13)),Vl 4 (.agg ((bZ.ev).cells cc).toArray),Vl 5 vb,Vl 6 (Iw k),Vl 7 (Ix (sb vb) (so vb+k*13)),Vl 8 (Ix (sb vb) (so vb+k*13)),Vl 9 (.agg ((ca.ev).cells cd).toArray),fun _=>True,Vl 11 (.bool (!aC)),Vl 12 (.bool (!aC)),Vl 13 (if(!aC)=false then va else undef),Vl 14 (if(!aC)=false then Iw k else undef),Vl 15 (if(!aC)=false then Ix (sb va) (so va+k*13)else undef),Vl 16 (if(!aC)=false then Ix (sb va) (so va+k*13+10)else undef),Vl 17 (if(!aC)=false then .bool (bZ.void)else undef),Vl 18 (if(!aC)=false then vb else undef),Vl 19 (if(!aC)=false then Iw k else undef),Vl 20 (if(!aC)=false then Ix (sb vb) (so vb+k*13)else undef),Vl 21 (if(!aC)=false then Ix (sb vb) (so vb+k*13+10)else undef),Vl 22 (if(!aC)=false then .bool (ca.void)else undef),Vl 23 (if(!aC)=false then .bool (!cb)else undef),Vl 24 (.bool ((!aC)||(!cb))),Vl 25 (.bool ((!aC)||(!cb))),Vl 26 (if((!aC)||(!cb))=false then va else undef),Vl 27 (if((!aC)||(!cb))=false then Iw k else undef),Vl 28 (if((!aC)||(!cb))=false then Ix (sb va) (so va+k*13)else undef),Vl 29 (if((!aC)||(!cb))=false then Ix (sb va) (so va+k*13+11)else undef),Vl 30 (if((!aC)||(!cb))=false then .agg #[Iv (bZ.byO),Iv (bZ.byS)]else undef),Vl 31 (if((!aC)||(!cb))=false then vb else undef),Vl 32 (if((!aC)||(!cb))=false then Iw k else undef),Vl 33 (if((!aC)||(!cb))=false then Ix (sb vb) (so vb+k*13)else undef),Vl 34 (if((!aC)||(!cb))=false then Ix (sb vb) (so vb+k*13+11)else undef),Vl 35 (if((!aC)||(!cb))=false then .agg #[Iv (ca.byO),Iv (ca.byS)]else undef),Vl 36 (if((!aC)||(!cb))=false then .bool (!decide (bZ.byO=ca.byO∧bZ.byS=ca.byS))else undef),Vl 37 (.bool (((!aC)||(!cb))||(!decide (bZ.byO=ca.byO∧bZ.byS=ca.byS))))]) [[],[],[0,1],[0,1,2],(rg 4),[],[],[5,6],[5,6,7],[5,6,7,8],(rg 10),(rg 11),(rg 12),(rg 13),(rg 13),(rg 15),(rg 16),(rg 17),(rg 13),(rg 13),[0,1,2,3,4,5,6,7,8,9,10,11,12,18,19],[0,1,2,3,4,5,6,7,8,9,10,11,12,18,19,20],[0,1,2,3,4,5,6,7,8,9,10,11,12,18,19,20,21],(rg 23),(rg 24),(rg 25),(rg 26),(rg 26),(rg 28),(rg 29),(rg 30),(rg 26),(rg 26),[0,1,2,3,4,5,6,7,8,9,10,11,12,13,14,15,16,17,18,19,20,21,22,23,24,25,31,32],[0,1,2,3,4,5,6,7,8,9,10,11,12,13,14,15,16,17,18,19,20,21,22,23,24,25,31,32,33],[0,1,2,3,4,5,6,7,8,9,10,11,12,13,14,15,16,17,18,19,20,21,22,23,24,25,31,32,33,34],(rg 36),(rg 37)] [10] [(0,0),(0,0),(0,0),(0,0),(0,0),(0,0),(0,0),(0,0),(0,0),(0,0),(0,0),(1,1),(1,1),(1,1),(1,1),(1,1),(1,1),(1,1),(1,1),(1,1),(1,1),(1,1),(1,1),(1,1),(1,1),(1,1),(1,1),(1,1),(1,1),(1,1),(1,1),(1,1),(1,1),(1,1),(1,1),(1,1),(1,1),(1,1)] bX ⟨fun _ _ _ _ _ _ _=>obl rfl (mV va dR),fun _ _ _ _ _ _ _=>obl rfl (mV (Iw k) dR),?_,fun _ _ _ _ _ _ aU=>obl rfl (YP (aU 2 dc) dR),?_,fun _ _ _ _ _ _ _=>obl rfl (mV vb dR),fun _ _ _ _ _ _ _=>obl rfl (mV (Iw k) dR),?_,fun _ _ _ _ _ _ aV=>obl rfl (YP (aV 7 dc) dR),?_,?_,?_,fun _ _ _ _ _ _ aW=>obl rfl (yg (aW 11 dc) dR),?_,?_,?_,?_,?_,?_,?_,?_,?_,?_,?_,fun _ _ _ _ _ _ af=>obl rfl (zz (af 12 dc) (fun hbp=>(zH (af 23 dc) (ifpC hbp))) dR),fun _ _ _ _ _ _ aX=>obl rfl (yg (aX 24 dc) dR),?_,?_,?_,?_,?_,?_,?_,?_,?_,?_,?_,fun _ _ _ _ _ _ ag=>obl rfl (zz (ag 25 dc) (fun hbp=>(zH (ag 36 dc) (ifpC hbp))) dR),zj⟩ ?_
 refine ob1 0 fun _ _ _ ah=>(obl rfl ?_)
 have aY:k<a.length:=bo
 exact zn (k:=13) nT pT (ah 0 dc) ha.sl (ah 1 dc) aY dR
 refine ob1 0 fun _ _ (aZ:Sep _ _ _ _) ba=>(obl rfl ?_)
 have ai:k<a.length:=bo
 obtain⟨aD,X,hoke431⟩:=ha.entD ai
 have hsm433:((a.gd k).ev.deps).length*8≤140737488355328:=X.small
 have aE:=aZ.cells aD (ha.foot (ne_of_lt ai))
 exact ze lR oT rfl (ba 3 dc) (CellsAt.sub aE 0 rfl) dR
 refine ob1 0 fun _ _ _ aj=>(obl rfl ?_)
 have bb:k<b.length:=bo
 exact zn (k:=13) nT pT (aj 5 dc) hb.sl (aj 6 dc) bb dR
 refine ob1 0 fun _ _ (bc:Sep _ _ _ _) bd=>(obl rfl ?_)
 have ak:k<b.length:=bo
 obtain⟨aF,Y,hoke472⟩:=hb.entD ak
 have hsm474:((b.gd k).ev.deps).length*8≤140737488355328:=Y.small
 have aG:=bc.cells aF (hb.foot (ne_of_lt ak))
 exact ze lR oT rfl (bd 8 dc) (CellsAt.sub aG 0 rfl) dR
 refine ob1 0 fun vals _ (Z:Sep _ _ _ _) aH=>(obl rfl ?_)
 have aI:k<a.length:=bo
 obtain⟨be,O,aJ⟩:=ha.entD aI
 have hsm100:((a.gd k).ev.deps).length*8≤140737488355328:=O.small
 have hcw101:=Z.cells be (ha.foot (ne_of_lt aI))
 have al:k<b.length:=bo
 obtain⟨aK,N,aB⟩:=hb.entD al
 have hsm104:((b.gd k).ev.deps).length*8≤140737488355328:=N.small
 have hcw105:=Z.cells aK (hb.foot (ne_of_lt al))
 refine(zO (vals:=[.agg ((bZ.ev).cells cc).toArray,.agg ((ca.ev).cells cd).toArray]) rfl (yK ⟨(aH 4 dc),(aH 9 dc),zj⟩) pY (xw (a:=(bZ.ev)) (b:=(ca.ev)) O aJ.ev N aB.ev Z) ?_)
 rintro _ w106 ⟨rfl,bf⟩
 exact fun c d hv'=>⟨(zG d bf),zj⟩
 refine ob1 1 fun _ _ bg _=>?_
 obtain⟨g,hS482⟩:=bg
 exact obl rfl (yw g dR)
 refine fun _ _ _ _ _ _ bh=>(yq rfl rfl (bh 12 dc) (fun D=>?_) yD)
 have hl498:=zB D
 exact mV va (yC D)
 refine fun _ _ _ _ _ _ bi=>(yq rfl rfl (bi 12 dc) (fun E=>?_) yD)
 have hl507:=zB E
 exact mV (Iw k) (yC E)
 refine ob1 1 fun _ _ bj P=>?_
 obtain⟨g,hS514⟩:=bj
 refine yq rfl rfl (P 12 dc) (fun l=>?_) yD
 have hl519:=zB l
 have bk:k<a.length:=bo
 exact zn (k:=13) nT pT (zH (P 13 dc) (ifpC l)) ha.sl (zH (P 14 dc) (ifpC l)) bk (yC l)
 refine fun _ _ _ _ _ _ am=>(yq rfl rfl (am 12 dc) (fun t=>?_) yD)
 have hl530:=zB t
 exact WM (zH (am 15 dc) (ifpC t)) (yC t)
 refine ob1 1 fun _ _ bl an=>?_
 obtain⟨g,bm⟩:=bl
 refine yq rfl rfl (an 12 dc) (fun u=>?_) yD
 have hl541:=zB u
 have ao:k<a.length:=bo
 obtain⟨aL,aa,hoke542⟩:=ha.entD ao
 have hsm544:((a.gd k).ev.deps).length*8≤140737488355328:=aa.small
 have aM:=bm.cells aL (ha.foot (ne_of_lt ao))
 exact lD (.bool (bZ.void)) kY (zH (an 16 dc) (ifpC u)) (aM.get (j:=10) rfl) (yC u)
 refine fun _ _ _ _ _ _ bn=>(yq rfl rfl (bn 12 dc) (fun F=>?_) yD)
 have hl554:=zB F
 exact mV vb (yC F)
 refine fun _ _ _ _ _ _ bp=>(yq rfl rfl (bp 12 dc) (fun H=>?_) yD)
 have hl563:=zB H
 exact mV (Iw k) (yC H)
 refine ob1 1 fun _ _ bq Q=>?_
 obtain⟨g,hS570⟩:=bq
 refine yq rfl rfl (Q 12 dc) (fun m=>?_) yD
 have hl575:=zB m
 have br:k<b.length:=bo
 exact zn (k:=13) nT pT (zH (Q 18 dc) (ifpC m)) hb.sl (zH (Q 19 dc) (ifpC m)) br (yC m)
 refine fun _ _ _ _ _ _ ap=>(yq rfl rfl (ap 12 dc) (fun x=>?_) yD)
 have hl586:=zB x
 exact WM (zH (ap 20 dc) (ifpC x)) (yC x)
 refine ob1 1 fun _ _ bs aq=>?_
 obtain⟨g,bt⟩:=bs
 refine yq rfl rfl (aq 12 dc) (fun y=>?_) yD
 have hl597:=zB y
 have ar:k<b.length:=bo
 obtain⟨aN,ab,hoke598⟩:=hb.entD ar
 have hsm600:((b.gd k).ev.deps).length*8≤140737488355328:=ab.small
 have aO:=bt.cells aN (hb.foot (ne_of_lt ar))
 exact lD (.bool (ca.void)) kY (zH (aq 21 dc) (ifpC y)) (aO.get (j:=10) rfl) (yC y)
 refine ob1 1 fun _ _ bu R=>?_
 obtain⟨g,hS608⟩:=bu
 refine yq rfl rfl (R 12 dc) (fun o=>?_) yD
 have hl613:=zB o
 exact UV Tryz.underlying4 (zH (R 17 dc) (ifpC o)) (zH (R 22 dc) (ifpC o)) (yC o)
 refine fun _ _ _ _ _ _ bv=>(yq rfl rfl (bv 25 dc) (fun I=>?_) yD)
 have bw:=I
 try simp only[zh]at bw
 exact mV va (yC I)
 refine fun _ _ _ _ _ _ bx=>(yq rfl rfl (bx 25 dc) (fun J=>?_) yD)
 have bz:=J
 try simp only[zh]at bz
 exact mV (Iw k) (yC J)
 refine ob1 1 fun _ _ bA S=>?_
 obtain⟨g,hS653⟩:=bA
 refine yq rfl rfl (S 25 dc) (fun p=>?_) yD
 have bB:=p
 try simp only[zh]at bB
 have bC:k<a.length:=bo
 exact zn (k:=13) nT pT (zH (S 26 dc) (ifpC p)) ha.sl (zH (S 27 dc) (ifpC p)) bC (yC p)
 refine fun _ _ _ _ _ _ au=>(yq rfl rfl (au 25 dc) (fun z=>?_) yD)
 have bD:=z
 try simp only[zh]at bD
 exact zbe (zH (au 28 dc) (ifpC z)) (yC z)
 refine ob1 1 fun _ _ bE av=>?_
 obtain⟨g,bF⟩:=bE
 refine yq rfl rfl (av 25 dc) (fun A=>?_) yD
 have bG:=A
 try simp only[zh]at bG
 have aw:k<a.length:=bo
 obtain⟨aP,ac,hoke681⟩:=ha.entD aw
 have hsm683:((a.gd k).ev.deps).length*8≤140737488355328:=ac.small
 have aQ:=bF.cells aP (ha.foot (ne_of_lt aw))
 exact ze uY vY rfl (zH (av 29 dc) (ifpC A)) (CellsAt.sub aQ 11 rfl) (yC A)
 refine fun _ _ _ _ _ _ bH=>(yq rfl rfl (bH 25 dc) (fun K=>?_) yD)
 have bI:=K
 try simp only[zh]at bI
 exact mV vb (yC K)
 refine fun _ _ _ _ _ _ bJ=>(yq rfl rfl (bJ 25 dc) (fun L=>?_) yD)
 have bK:=L
 try simp only[zh]at bK
 exact mV (Iw k) (yC L)
 refine ob1 1 fun _ _ bL T=>?_
 obtain⟨g,hS709⟩:=bL
 refine yq rfl rfl (T 25 dc) (fun q=>?_) yD
 have bM:=q
 try simp only[zh]at bM
 have bN:k<b.length:=bo
 exact zn (k:=13) nT pT (zH (T 31 dc) (ifpC q)) hb.sl (zH (T 32 dc) (ifpC q)) bN (yC q)
 refine fun _ _ _ _ _ _ ax=>(yq rfl rfl (ax 25 dc) (fun B=>?_) yD)
 have bO:=B
 try simp only[zh]at bO
 exact zbe (zH (ax 33 dc) (ifpC B)) (yC B)
 refine ob1 1 fun _ _ bP ay=>?_
 obtain⟨g,bQ⟩:=bP
 refine yq rfl rfl (ay 25 dc) (fun C=>?_) yD
 have bR:=C
 try simp only[zh]at bR
 have az:k<b.length:=bo
 obtain⟨aR,ad,hoke737⟩:=hb.entD az
 have hsm739:((b.gd k).ev.deps).length*8≤140737488355328:=ad.small
 have aT:=bQ.cells aR (hb.foot (ne_of_lt az))
 exact ze uY vY rfl (zH (ay 34 dc) (ifpC C)) (CellsAt.sub aT 11 rfl) (yC C)
 refine ob1 1 fun _ _ bS U=>?_
 obtain⟨g,hS747⟩:=bS
 refine yq rfl rfl (U 25 dc) (fun s=>?_) yD
 have bT:=s
 try simp only[zh]at bT
 exact Wz (e:=decide (bZ.byO=ca.byO∧bZ.byS=ca.byS)) (xs:=#[Iv (bZ.byO),Iv (bZ.byS)]) (ys:=#[Iv (ca.byO),Iv (ca.byS)]) zaV (zH (U 30 dc) (ifpC s)) (zH (U 35 dc) (ifpC s)) (yC s)
 intro vals w761 bU bV
 obtain⟨g,aA⟩:=bU
 have bY:=bV 37 dc
 refine yd (kv:=[(0,va),(1,vb),(5,Iw k),(11,Iw k),(12,va),(13,Iw a.length),(14,.bool true),(54,.bool (((!aC)||(!cb))||(!decide (bZ.byO=ca.byO∧bZ.byS=ca.byS))))]) ⟨rfl,rfl,rfl,rfl,rfl,rfl,rfl,(by exact bY),zj⟩ (fun ρw761=>(zb ?_))
 cases M:((!(decide (((a.gd k).ev)=((b.gd k).ev))))||(!(((a.gd k).void)== ((b.gd k).void))))||(!decide ((a.gd k).byO=(b.gd k).byO∧(a.gd k).byS=(b.gd k).byS))
 try simp only[zh]at M
 refine zf rfl (zp (R0 fun _=>st (mV (Iw k) ?_)))
 have bW:InR ((k+1:Nat):Int):=bo
 refine st (zU (r:=((k+1:Nat):Int)) rfl rfl (by rw[show(((k:Nat):Int)+1:Int)=((k+1:Nat):Int)from bo];exact zJ bW) (st (aS (Iw (k+1)) (zb ?_))))
 exact⟨_,by omega,k+1,_,rfl,sSf,by omega,(yU hm (zba M)),aA⟩
 try simp only[zh]at M
 refine zg rfl (za (R0 fun _=>st (aS (.bool false) (zb (zo (zN mY (show _=(.bool false:Value)from rfl) ?_))))))
 refine⟨?_,aA⟩
 rw[decide_eq_false (fun e=>by subst e;first|omega|(simp at M))]
 have V:=zC V
 refine zg rfl (za (R0 fun _=>st (aS (.bool false) (zb (zo (zN mY (show _=(.bool false:Value)from rfl) ?_))))))
 refine⟨?_,hS0⟩
 rw[decide_eq_false (fun e=>by subst e;first|omega|(simp at V))]
theorem zbK {a b:Cel}(h1:a.n=b.n)(h2:a.set=b.set):a=b:=by cases a;cases b;simp_all
theorem zcO {a b:Sta}(h1:a.ver=b.ver)(h2:a.cls=b.cls):a=b:=by cases a;cases b;simp_all
theorem QU {x:Sta}{dx0:Value}(hdx0:RdS W G dx0 x.cls)(ox:x.Ok){y:Sta}{dy0:Value}(hdy0:RdS W G dy0 y.cls)(oy:y.Ok)(hS0:Sep G W Rs w):Ret Tryz.prog 62 [.agg (x.cells dx0).toArray,.agg (y.cells dy0).toArray] w (fun r w'=>r=(.bool (decide (x=y)):Value)∧Sep G W Rs w'):=by
 let bx:=((x.cls.length:Nat):Int)
 have hdx0s:_*32≤_:=hdx0.small
 have hdy0s:_*32≤_:=hdy0.small
 refine zm Tryz.func62 rfl rfl ?_
 refine za (R0 fun _=>st (zT rfl ?_))
 intro w3 b2 bq
 refine st (zT rfl ?_)
 intro w7 O br
 have J:=(hS0.new bq).new br
 refine st (aS (.bool false) (zb (za (za (zy kr (st (Zr rfl (st (lD (Iv (x.ver)) lT rfl (zd (J.b1) rfl) (st (Zr rfl (st (lD (Iv (y.ver)) lT rfl (zd (J.b0) rfl) (st (yj rfl rfl (st (mV (.bool (!decide (x.ver=y.ver))) (stc (V:=Ix b2 1) rfl rfl (fun bs=>?_) ?_))))))))))))))))))
 have hl10:=zB bs
 exact xu rfl rflB
 refine stc (V:=dx0) rfl rfl (fun aq=>?_) ?_
 have hl12:=zB aq
 exact lD dx0 kR (ifpC aq) (zd (J.b1) rfl) rflB
 refine stc (V:=Iw x.cls.length) rfl rfl (fun ar=>?_) ?_
 have hl14:=zB ar
 exact zS mT (ifpC ar) hdx0.sl rflB
 refine stc (V:=Ix O 1) rfl rfl (fun bm=>?_) ?_
 have hl16:=zB bm
 exact xu rfl rflB
 refine stc (V:=dy0) rfl rfl (fun au=>?_) ?_
 have hl18:=zB au
 exact lD dy0 kR (ifpC au) (zd (J.b0) rfl) rflB
 refine stc (V:=Iw y.cls.length) rfl rfl (fun av=>?_) ?_
 have hl20:=zB av
 exact zS mT (ifpC av) hdy0.sl rflB
 refine stc (V:=.bool (!decide (bx=((y.cls.length:Nat):Int)))) rfl rfl (fun P=>?_) ?_
 have hl22:=zB P
 exact yj (ifpC P) (ifpC P) rflB
 refine st (zz rfl (fun hbp=>(ifpC hbp)) (zb ?_))
 cases Q:(!decide (x.ver=y.ver))||(!decide (((x.cls.length:Nat):Int)=((y.cls.length:Nat):Int)))
 try simp only[zh]at Q
 refine zf rfl (zp (za (za (R0 fun _=>st (aS (Iv 0) (zb (zu (yf (fun mq σ wq=> ∃k ρ,mq=x.cls.length-k∧σ=yo ρ [(2,Ix b2 0),(3,Ix O 0),(5,Iw k)]∧(k≤x.cls.length)∧(∀i,i<k→x.cls.getD i default=y.cls.getD i default)∧Sep G W ((Blk O (y.cells dy0).toArray 77)::(Blk b2 (x.cells dx0).toArray 77)::Rs) wq) ⟨0,_,rfl,sSf,zY _,(fun i h=>absurd h (yO i)),J⟩ ?_))))))))
 rintro m25 σ26 w24 ⟨k,ρl1,rfl,rfl,hkk,hm,R⟩
 let bw:=zV W (sb dy0) (so dy0+k*2+1)
 let bv:=zV W (sb dx0) (so dx0+k*2+1)
 let bu:=((x.cls.getD k default).set)=((y.cls.getD k default).set)
 let aw:=((x.cls.getD k default).n)=((y.cls.getD k default).n)
 refine za (za (R0 fun _=>st (mV (Iw k) (st (xu rfl (st (lD dx0 kR rfl (zd (R.b1) rfl) (st (zS mT rfl hdx0.sl (st (zI rfl rfl (zb ?_))))))))))))
 cases K:decide (((k:Nat):Int)<((x.cls.length:Nat):Int))
 have K:=fD K
 refine zf rfl (yh (zX (za (R0 fun _=>st (aS (.bool true) (zb (zo (zN nY (show _=(.bool true:Value)from rfl) ?_))))))))
 refine⟨?_,(R.s2_)⟩
 rw[decide_eq_true (zcO (by omega) (Xx (by omega) (fun i hi=>hm i (by omega))))]
 have K:=tD K
 refine zg rfl (zp (za (zu (za ?_))))
 refine WD4 ((fun TT bl=>WF [fun vals wq=>Sep G W (bl::TT) wq,fun vals wq=>(vals 26=(if(!decide aw)=false then(.bool (decide bu):Value)else undef))∧Sep G W (bl::TT) wq]) ((Blk b2 (x.cells dx0).toArray 77)::Rs) (Blk O (y.cells dy0).toArray 77)) (AF [Vl 0 (Ix b2 1),Vl 1 dx0,Vl 2 (Iw k),Vl 3 (Ix (sb dx0) (so dx0+k*2)),Vl 4 (Ix (sb dx0) (so dx0+k*2)),Vl 5 (Iv ((x.cls.getD k default).n)),Vl 6 (Ix O 1),Vl 7 dy0,Vl 8 (Iw k),Vl 9 (Ix (sb dy0) (so dy0+k*2)),Vl 10 (Ix (sb dy0) (so dy0+k*2)),Vl 11 (Iv ((y.cls.getD k default).n)),Vl 12 (.bool (!decide aw)),Vl 13 (.bool (!decide aw)),Vl 14 (if(!decide aw)=false then Ix b2 1 else undef),Vl 15 (if(!decide aw)=false then dx0 else undef),Vl 16 (if(!decide aw)=false then Iw k else undef),Vl 17 (if(!decide aw)=false then Ix (sb dx0) (so dx0+k*2)else undef),Vl 18 (if(!decide aw)=false then Ix (sb dx0) (so dx0+k*2+1)else undef),Vl 19 (if(!decide aw)=false then bv else undef),Vl 20 (if(!decide aw)=false then Ix O 1 else undef),Vl 21 (if(!decide aw)=false then dy0 else undef),Vl 22 (if(!decide aw)=false then Iw k else undef),Vl 23 (if(!decide aw)=false then Ix (sb dy0) (so dy0+k*2)else undef),Vl 24 (if(!decide aw)=false then Ix (sb dy0) (so dy0+k*2+1)else undef),Vl 25 (if(!decide aw)=false then bw else undef),fun _=>True,Vl 27 (if(!decide aw)=false then .bool (!(decide bu))else undef),Vl 28 (.bool ((!decide aw)||(!(decide bu))))]) [[],[0],[],[0,1,2],(rg 4),(rg 5),[],[6],[],[6,7,8],[6,7,8,9],[6,7,8,9,10],(rg 12),(rg 13),(rg 14),(rg 15),(rg 14),(rg 17),(rg 18),(rg 19),(rg 14),[0,1,2,3,4,5,6,7,8,9,10,11,12,13,20],(rg 14),[0,1,2,3,4,5,6,7,8,9,10,11,12,13,20,21,22],[0,1,2,3,4,5,6,7,8,9,10,11,12,13,20,21,22,23],[0,1,2,3,4,5,6,7,8,9,10,11,12,13,20,21,22,23,24],(rg 26),(rg 27),(rg 28)] [26] [(0,0),(0,0),(0,0),(0,0),(0,0),(0,0),(0,0),(0,0),(0,0),(0,0),(0,0),(0,0),(0,0),(0,0),(0,0),(0,0),(0,0),(0,0),(0,0),(0,0),(0,0),(0,0),(0,0),(0,0),(0,0),(0,0),(0,0),(1,1),(1,1)] R ⟨fun _ _ _ _ _ _ _=>obl rfl (xu rfl dR),ob1 0 fun _ _ (aH:Sep _ _ _ _) aI=>obl rfl (lD dx0 kR (aI 0 dc) (zd (aH.b1) rfl) dR),fun _ _ _ _ _ _ _=>obl rfl (mV (Iw k) dR),?_,fun _ _ _ _ _ _ aJ=>obl rfl (xr (aJ 3 dc) dR),?_,fun _ _ _ _ _ _ _=>obl rfl (xu rfl dR),ob1 0 fun _ _ (aK:Sep _ _ _ _) aL=>obl rfl (lD dy0 kR (aL 6 dc) (zd (aK.b0) rfl) dR),fun _ _ _ _ _ _ _=>obl rfl (mV (Iw k) dR),?_,fun _ _ _ _ _ _ aM=>obl rfl (xr (aM 9 dc) dR),?_,ob1 0 fun _ _ _ Y=>obl rfl (yj (Y 5 dc) (Y 11 dc) dR),fun _ _ _ _ _ _ aN=>obl rfl (yg (aN 12 dc) dR),?_,?_,?_,?_,?_,?_,?_,?_,?_,?_,?_,?_,?_,?_,fun _ _ _ _ _ _ Z=>obl rfl (zz (Z 13 dc) (fun hbp=>(zH (Z 27 dc) (ifpC hbp))) dR),zj⟩ ?_
 refine ob1 0 fun _ _ _ aa=>(obl rfl ?_)
 have aO:k<x.cls.length:=bo
 exact zn (k:=2) mT kT (aa 1 dc) hdx0.sl (aa 2 dc) aO dR
 refine ob1 0 fun _ _ (aP:Sep _ _ _ _) aQ=>(obl rfl ?_)
 have ab:k<x.cls.length:=bo
 obtain⟨ax,S,hoke364⟩:=hdx0.celD ab
 have hsm366:((x.cls.getD k default).set).length*8≤140737488355328:=S.small
 have ay:=aP.cells ax (hdx0.foot (ne_of_lt ab))
 exact lD (Iv ((x.cls.getD k default).n)) lT (aQ 4 dc) (ay.get (j:=0) rfl) dR
 refine ob1 0 fun _ _ _ ac=>(obl rfl ?_)
 have aR:k<y.cls.length:=bo
 exact zn (k:=2) mT kT (ac 7 dc) hdy0.sl (ac 8 dc) aR dR
 refine ob1 0 fun _ _ (aT:Sep _ _ _ _) aU=>(obl rfl ?_)
 have ad:k<y.cls.length:=bo
 obtain⟨az,T,hoke413⟩:=hdy0.celD ad
 have hsm415:((y.cls.getD k default).set).length*8≤140737488355328:=T.small
 have aA:=aT.cells az (hdy0.foot (ne_of_lt ad))
 exact lD (Iv ((y.cls.getD k default).n)) lT (aU 10 dc) (aA.get (j:=0) rfl) dR
 refine fun _ _ _ _ _ _ aV=>(yq rfl rfl (aV 13 dc) (fun B=>?_) yD)
 have hl441:=zB B
 exact xu rfl (yC B)
 refine ob1 0 fun _ _ (aW:Sep _ _ _ _) ae=>(yq rfl rfl (ae 13 dc) (fun o=>?_) yD)
 have hl452:=zB o
 exact lD dx0 kR (zH (ae 14 dc) (ifpC o)) (zd (aW.b1) rfl) (yC o)
 refine fun _ _ _ _ _ _ aX=>(yq rfl rfl (aX 13 dc) (fun C=>?_) yD)
 have hl461:=zB C
 exact mV (Iw k) (yC C)
 refine ob1 0 fun _ _ _ L=>(yq rfl rfl (L 13 dc) (fun g=>?_) yD)
 have hl473:=zB g
 have aY:k<x.cls.length:=bo
 exact zn (k:=2) mT kT (zH (L 15 dc) (ifpC g)) hdx0.sl (zH (L 16 dc) (ifpC g)) aY (yC g)
 refine fun _ _ _ _ _ _ af=>(yq rfl rfl (af 13 dc) (fun p=>?_) yD)
 have hl484:=zB p
 exact xl (zH (af 17 dc) (ifpC p)) (yC p)
 refine ob1 0 fun _ _ (aZ:Sep _ _ _ _) ag=>(yq rfl rfl (ag 13 dc) (fun q=>?_) yD)
 have hl495:=zB q
 have ah:k<x.cls.length:=bo
 obtain⟨aB,U,hoke496⟩:=hdx0.celD ah
 have hsm498:((x.cls.getD k default).set).length*8≤140737488355328:=U.small
 have aC:=aZ.cells aB (hdx0.foot (ne_of_lt ah))
 exact lD bv wT (zH (ag 18 dc) (ifpC q)) (aC.get (j:=1) rfl) (yC q)
 refine fun _ _ _ _ _ _ ba=>(yq rfl rfl (ba 13 dc) (fun D=>?_) yD)
 have hl508:=zB D
 exact xu rfl (yC D)
 refine ob1 0 fun _ _ (bb:Sep _ _ _ _) ai=>(yq rfl rfl (ai 13 dc) (fun s=>?_) yD)
 have hl519:=zB s
 exact lD dy0 kR (zH (ai 20 dc) (ifpC s)) (zd (bb.b0) rfl) (yC s)
 refine fun _ _ _ _ _ _ bc=>(yq rfl rfl (bc 13 dc) (fun E=>?_) yD)
 have hl528:=zB E
 exact mV (Iw k) (yC E)
 refine ob1 0 fun _ _ _ M=>(yq rfl rfl (M 13 dc) (fun l=>?_) yD)
 have hl540:=zB l
 have bd:k<y.cls.length:=bo
 exact zn (k:=2) mT kT (zH (M 21 dc) (ifpC l)) hdy0.sl (zH (M 22 dc) (ifpC l)) bd (yC l)
 refine fun _ _ _ _ _ _ aj=>(yq rfl rfl (aj 13 dc) (fun t=>?_) yD)
 have hl551:=zB t
 exact xl (zH (aj 23 dc) (ifpC t)) (yC t)
 refine ob1 0 fun _ _ (be:Sep _ _ _ _) ak=>(yq rfl rfl (ak 13 dc) (fun u=>?_) yD)
 have hl562:=zB u
 have al:k<y.cls.length:=bo
 obtain⟨aD,X,hoke563⟩:=hdy0.celD al
 have hsm565:((y.cls.getD k default).set).length*8≤140737488355328:=X.small
 have aE:=be.cells aD (hdy0.foot (ne_of_lt al))
 exact lD bw wT (zH (ak 24 dc) (ifpC u)) (aE.get (j:=1) rfl) (yC u)
 refine ob1 0 fun vals bn (F:Sep _ _ _ _) N=>(yq rfl rfl (N 13 dc) (fun m=>?_) (fun m c d bt=>?_))
 have hl289:=zB m
 have am:k<x.cls.length:=bo
 obtain⟨aF,H,hoke290⟩:=hdx0.celD am
 have hsm292:((x.cls.getD k default).set).length*8≤140737488355328:=H.small
 have hcw293:=F.cells aF (hdx0.foot (ne_of_lt am))
 have an:k<y.cls.length:=bo
 obtain⟨aG,I,hoke294⟩:=hdy0.celD an
 have hsm296:((y.cls.getD k default).set).length*8≤140737488355328:=I.small
 have hcw297:=F.cells aG (hdy0.foot (ne_of_lt an))
 refine(zO (vals:=[bv,bw]) rfl (yK ⟨(zH (N 19 dc) (ifpC m)),(zH (N 25 dc) (ifpC m)),zj⟩) Tryz.call52 (Vd (a:=(x.cls.getD k default).set) (va:=bv) (b:=(y.cls.getD k default).set) (vb:=bw) H I F) ?_)
 rintro _ w298 ⟨rfl,bf⟩
 exact fun c d bt=>⟨(zG (d.trans (ifpC m).symm) bf),zj⟩
 refine⟨?_,zj⟩
 show(c 26=(if(!decide aw)=false then(.bool (decide bu):Value)else undef))∧Sep G W ((Blk O (y.cells dy0).toArray 77)::(Blk b2 (x.cells dx0).toArray 77)::Rs) bn
 exact⟨(d.trans (ifnC m).symm),F⟩
 refine ob1 1 fun _ _ bg bh=>?_
 obtain⟨ao,hS573⟩:=bg
 refine yq rfl rfl (bh 13 dc) (fun z=>?_) yD
 have hl576:=zB z
 exact yw (zH ao (ifpC z)) (yC z)
 intro vals w585 bi bj
 obtain⟨ao,ap⟩:=bi
 have bp:=bj 28 dc
 refine yd (kv:=[(2,Ix b2 0),(3,Ix O 0),(5,Iw k),(20,Iw k),(21,Ix b2 1),(22,dx0),(23,Iw x.cls.length),(24,.bool true),(55,.bool ((!decide aw)||(!(decide bu))))]) ⟨rfl,rfl,rfl,rfl,rfl,rfl,rfl,rfl,(by exact bp),zj⟩ (fun ρw585=>(zb ?_))
 cases A:(!decide (((x.cls.getD k default).n)=((y.cls.getD k default).n)))||(!(decide (((x.cls.getD k default).set)=((y.cls.getD k default).set))))
 try simp only[zh]at A
 refine zf rfl (zp (R0 fun _=>st (mV (Iw k) ?_)))
 have bk:InR ((k+1:Nat):Int):=bo
 refine st (zU (r:=((k+1:Nat):Int)) rfl rfl (by rw[show(((k:Nat):Int)+1:Int)=((k+1:Nat):Int)from bo];exact zJ bk) (st (aS (Iw (k+1)) (zb ?_))))
 exact⟨_,by omega,k+1,_,rfl,sSf,by omega,(yU hm (zbK A.1 A.2)),ap⟩
 try simp only[zh]at A
 refine zg rfl (za (R0 fun _=>st (aS (.bool false) (zb (zo (zN nY (show _=(.bool false:Value)from rfl) ?_))))))
 refine⟨?_,(ap.s2_)⟩
 rw[decide_eq_false (fun e=>by subst e;first|omega|(simp at A))]
 try simp only[zh]at Q
 refine zg rfl (za (R0 fun _=>st (aS (.bool false) (zb (zo (zN nY (show _=(.bool false:Value)from rfl) ?_))))))
 refine⟨?_,(J.s2_)⟩
 rw[decide_eq_false (fun e=>by subst e;first|omega|(simp at Q))]
def RefV (b:Nat)(d:Dcl)(L:List Ent):HP:=Ex1 fun vt=>Ex1 fun vp=>Ex1 fun ve=>Star [Blk b #[vt,vp,ve] 103,RowE (α:=Typ) own 74 vt d.types,RowE (α:=Prj) own 112 vp d.projs,RowE (α:=Ent) own 96 ve L]
section
variable {G:Nat→Prop}{W w:World}{As:List HP}{b:Nat}{d:Dcl}{L:List Ent}
theorem RefV.open (h:Sep G W (RefV b d L::As) w): ∃vt vp ve,Sep G W (Blk b #[vt,vp,ve] 103::RowE (α:=Typ) own 74 vt d.types::RowE (α:=Prj) own 112 vp d.projs::RowE (α:=Ent) own 96 ve L::As) w:=by
 obtain⟨vt,h⟩:=h.openEx
 obtain⟨vp,h⟩:=h.openEx
 obtain⟨ve,h⟩:=h.openEx
 exact⟨vt,vp,ve,h.openStar⟩
theorem RefV.close {vt vp ve:Value}(h:Sep G W (Blk b #[vt,vp,ve] 103::RowE (α:=Typ) own 74 vt d.types::RowE (α:=Prj) own 112 vp d.projs::RowE (α:=Ent) own 96 ve L::As) w):Sep G W (RefV b d L::As) w:=by
 have h:=Sep.closeStar (Bs:=[Blk b #[vt,vp,ve] 103,RowE (α:=Typ) own 74 vt d.types,RowE (α:=Prj) own 112 vp d.projs,RowE (α:=Ent) own 96 ve L]) h
 exact Sep.closeEx (A:=fun vt=>Ex1 fun vp=>Ex1 fun ve=>Star [Blk b #[vt,vp,ve] 103,RowE (α:=Typ) own 74 vt d.types,RowE (α:=Prj) own 112 vp d.projs,RowE (α:=Ent) own 96 ve L]) vt (Sep.closeEx (A:=fun vp=>Ex1 fun ve=>Star [Blk b #[vt,vp,ve] 103,RowE (α:=Typ) own 74 vt d.types,RowE (α:=Prj) own 112 vp d.projs,RowE (α:=Ent) own 96 ve L]) vp (Sep.closeEx (A:=fun ve=>Star [Blk b #[vt,vp,ve] 103,RowE (α:=Typ) own 74 vt d.types,RowE (α:=Prj) own 112 vp d.projs,RowE (α:=Ent) own 96 ve L]) ve h))
theorem RefV.sh (h:(RefV b d L).p W G): ∃vt vp ve,(Blk b #[vt,vp,ve] 103).p W G∧RdS W G vt d.types∧RdS W G vp d.projs∧RdS W G ve L:=by
 obtain⟨vt,vp,ve,h⟩:=h
 exact⟨vt,vp,ve,Star.at_ h (i:=0) rfl,RowE.rd (T:=74) (Star.at_ h (i:=1) rfl),RowE.rd (T:=112) (Star.at_ h (i:=2) rfl),RowE.rd (T:=96) (Star.at_ h (i:=3) rfl)⟩
end
theorem xF {e:Ev}{de0:Value}(hde0:RdS W G de0 e.deps)(oe:e.Ok)(hS0:Sep G W Rs w):Ret Tryz.prog 56 [.agg (e.cells de0).toArray] w (fun r w'=> ∃(v:Value),r=(.agg (e.cells v).toArray:Value)∧Sep G W ((RowE (α:=Int) own 3 v e.deps)::Rs) w'):=by
 refine zm Tryz.func56 rfl rfl ?_
 refine za (R0 fun _=>st (zT rfl ?_))
 intro w3 b2 n
 refine st (zv pR ?_)
 intro w7 p o
 have i:=(hS0.new n).new o
 refine zb (za (R0 fun _=>st (xg rfl (st (lD de0 wT rfl (zd (i.b1) rfl) (st (cL Tryz.call90 (VC hde0 i) ?_)))))))
 rintro g w10 ⟨_,rfl,a⟩
 have d:=a.r0
 refine st (xg rfl (stn (yr (v:=g) lY rfl rfl (a.b2) d.1.one rfl rfl ?_)))
 intro w13 j
 have f:=a.pt2 j
 refine zb (za (R0 fun _=>st (ze lR oT rfl rfl (zi (f.b2)) (stn (zr (v:=.agg (e.cells g).toArray) oT rfl rfl (f.b1) (zZ ⟨rfl,rfl,rfl,d.1.one,rfl,rfl,rfl,rfl,rfl,rfl,zj⟩) yqc rfl ?_)))))
 intro w17 m
 have h:=f.pt1 m
 refine zb (zo (VU Tryz.results56 lR oT rfl rfl (zi (h.b1)) ?_))
 refine⟨g,rfl,(h.s3_a)⟩
theorem VR {vl:Value}{l:List Ent}(hl:RdS W G vl l)(hS0:Sep G W Rs w):Ret Tryz.prog 59 [vl] w (fun r w'=> ∃(v:Value),r=(v:Value)∧Sep G W ((RowE (α:=Ent) own 96 v l)::Rs) w'):=by
 have hls:_*120≤_:=hl.small
 refine zm Tryz.func59 rfl rfl ?_
 refine za (R0 fun _=>st (aS Iz (zb (za (R0 fun _=>st (aS Iz (zb (za (za (R0 fun _=>st (aS (Iv 0) (zb (zu ?_)))))))))))))
 have L:Sep G W ((RowE (α:=Ent) own 96 Iz [])::Rs) w:=hS0.rowNil own 96
 refine yf (fun mq σ P=> ∃k vo ρ,mq=l.length-k∧σ=yo ρ [(0,vl),(4,Iw k),(3,vo)]∧(k≤l.length)∧Sep G W ((RowE own 96 vo (l.take k))::Rs) P) ⟨0,(Iz),_,rfl,sSf,zY _,L⟩ ?_
 rintro m3 σ4 w2 ⟨k,vo,ρl1,rfl,rfl,hkk,f⟩
 let R:=zV W (sb vl) (so vl+k*13+3)
 have M:=f.r0
 have hr6s:_*120≤_:=M.2
 refine za (za (R0 fun _=>st (mV (Iw k) (st (mV vl (st (zS nT rfl hl.sl (st (zI rfl rfl (zb ?_))))))))))
 cases j:decide (((k:Nat):Int)<((l.length:Nat):Int))
 have j:=fD j
 have hkn:k=l.length:=by omega
 rw[hkn,List.take_of_length_le (Nat.le_refl l.length)]at f
 have N:=f.r0
 have hr8s:_*120≤_:=N.2
 refine zf rfl (yh (zX (za (R0 fun _=>st (mV vo (st (aS vo (zb (zo (zN Tryz.results59 (show _=(vo:Value)from rfl) ?_))))))))))
 refine⟨vo,rfl,f⟩
 have j:=tD j
 refine zg rfl (zp (za (zu (za (R0 fun _=>st (mV vl (st (mV (Iw k) ?_))))))))
 have O:k<l.length:=bo
 refine st (zn (k:=13) nT pT rfl hl.sl rfl O ?_)
 have o:k<l.length:=bo
 obtain⟨z,d,g⟩:=hl.entD o
 have hsm12:((l.getD k default).ev.deps).length*8≤140737488355328:=d.small
 have A:=f.cells z (hl.foot (ne_of_lt o))
 refine st (ze wY pT rfl rfl A (st (zv kA ?_)))
 intro w16 b15 D
 have p:=f.new D
 refine stn (zr (v:=.agg ((l.getD k default).cells R).toArray) pT rfl rfl (p.b0) (zZ ⟨rfl,rfl,rfl,d.sl.one,rfl,rfl,rfl,rfl,rfl,rfl,rfl,rfl,rfl,zj⟩) yqc rfl ?_)
 intro w18 E
 have q:=p.pt0 E
 refine zb (za (R0 fun _=>st (YP rfl (st (ze lR oT rfl rfl (CellsAt.sub (zi (q.b0)) 0 rfl) (st (cL Tryz.call56 (xF d g.ev q) ?_)))))))
 rintro _ w22 ⟨m,rfl,h⟩
 have s:=h.r0
 have hr24s:_*8≤_:=s.2
 refine st (YP rfl (stn (zr (v:=.agg (((l.getD k default).ev).cells m).toArray) oT rfl rfl (h.b1) (zZ ⟨rfl,rfl,rfl,s.1.one,rfl,rfl,rfl,rfl,rfl,rfl,zj⟩) yqc rfl ?_)))
 intro w25 F
 have t:=h.pt1 F
 refine zb (R0 fun _=>st (mV vo (st (ze wY pT rfl rfl (zi (t.b1)) (st (zL (c:=((l.getD k default).cells m).toArray) nT pT kA dc rfl kr ?_))))))
 intro w30 b29 H
 have u:=t.new H
 have B:=u.b0
 refine st (yx (src:=own) (bytes:=120) (x1:=(l.getD k default)) (u.s4_dbc) zcP rfl rfl B (fun _ _ Q=>⟨_,rfl,RowE.soft Q,g⟩) yqb rfl ?_)
 intro C w32 x
 have I:=x.r0
 have hr37s:_*120≤_:=I.2
 refine st (aS C (zb (R0 fun _=>st (mV (Iw k) ?_))))
 have J:InR ((k+1:Nat):Int):=bo
 refine st (zU (r:=((k+1:Nat):Int)) rfl rfl (by rw[show(((k:Nat):Int)+1:Int)=((k+1:Nat):Int)from bo];exact zJ J) (st (aS (Iw (k+1)) (zb ?_))))
 have y:=x.s2_a
 have K:(l.take (k+1))=(l.take k)++[(l.getD k default)]:=(List.take_getD om)
 rw[←K]at y
 exact⟨_,by omega,k+1,C,_,rfl,sSf,by omega,y⟩
theorem KC {d:Dcl}{dd0:Value}(hdd0:RdS W G dd0 d.types){dd1:Value}(hdd1:RdS W G dd1 d.projs)(od:d.Ok)(hS0:Sep G W Rs w):Ret Tryz.prog 74 [.agg (d.cells dd0 dd1).toArray] w (fun r w'=> ∃(b:Nat),r=(.pointer (some ⟨b,0,none⟩):Value)∧Sep G W ((RefV b d ([]:List Ent))::Rs) w'):=by
 refine zm Tryz.func74 rfl rfl ?_
 refine za (R0 fun _=>st (zT rfl ?_))
 intro w3 b2 m
 have f:=hS0.new m
 refine st (aS (.pointer none) (zb (za (R0 fun _=>st (ze rT sT rfl rfl (zi (f.b0)) (st (cL Tryz.call96 (Ke hdd0 hdd1 od f) ?_)))))))
 rintro _ w7 ⟨a,e,rfl,g⟩
 have n:=g.r1
 refine st (zQ (parts':=[(0,.agg (d.cells a e).toArray)]) (v:=.agg #[a,e,(Iz)]) rfl (by simp[Instr.build,Instr.fill,go_sem,Dcl.cells]) (st (zT rfl ?_)))
 intro w12 c h
 refine st (aS (Ix c 0) (zb (zo (zN Tryz.results74 (show _=(Ix c 0:Value)from rfl) ?_))))
 have i:Sep _ _ ((RowE (α:=Typ) own 74 a d.types)::_) _:=TypW.row ((g.new h).mv1)
 have j:Sep _ _ ((RowE (α:=Ent) own 96 Iz [])::_) _:=i.rowNil own 96
 have l:Sep _ _ ((RefV c d ([]:List Ent))::_) _:=RefV.close (j.s5_cbdae)
 refine⟨c,rfl,(l.s2_a)⟩
theorem UJ {b:Nat}{d:Dcl}{L:List Ent}(hb:(RefV b d L).p W G)(hS0:Sep G W Rs w):Ret Tryz.prog 20 [.pointer (some ⟨b,0,none⟩)] w (fun r w'=> ∃(v:Value),r=(v:Value)∧Sep G W ((RowE (α:=Ent) own 96 v L)::Rs) w'):=by
 refine zm Tryz.func20 rfl rfl ?_
 obtain⟨vt1,vp2,e,h,i,j,f⟩:=RefV.sh hb
 refine za (R0 fun _=>st (aS Iz (zb (za (R0 fun _=>st (mV (Ix b 0) (st (zx rfl (st (ZL rfl (st (lD e Tryz.isAgg56 rfl (zd (hS0.gblk h) rfl) (st (cL Tryz.call59 (VR f hS0) ?_))))))))))))))
 rintro a w12 ⟨_,rfl,c⟩
 have g:=c.r0
 refine st (aS a (zb (zo (zN Tryz.results20 (show _=(a:Value)from rfl) ?_))))
 refine⟨a,rfl,c⟩
end
end Go.Proofs.YtbcdijeggfoabaaGreatDoor
