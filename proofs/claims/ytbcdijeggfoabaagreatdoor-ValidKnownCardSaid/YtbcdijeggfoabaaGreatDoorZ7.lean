import Derived.Test.YtbcdijeggfoabaaGreatDoorZ6
set_option maxRecDepth 8000
set_option maxHeartbeats 4000000
set_option linter.unusedSimpArgs false
set_option linter.unusedVariables false
set_option linter.unusedSectionVars false
set_option linter.deprecated false
open Go.Proofs.Tryz renaming isAgg3→kT,sizeOf44→lT,sizeOf106→mT,isAgg44→nT,underlying42→oT,results83→pT,sizeOf3→qT,isAgg106→rT,underlying104→sT,isAgg22→tT,underlying22→uT,sizeOf74→vT,isAgg72→wT,sizeOf25→kR,sizeOf143→lR,isAgg25→mR,zeroValue44→nR,zeroValue106→oR,isAgg104→pR,underlying72→qR,isAgg23→rR,results143→sR,results124→tR,call80→uR,results41→vR,underlying23→wR,sizeOf112→kY,call86→lY,results142→mY,results49→nY,results117→oY,results34→pY,zeroValue3→qY,call81→rY,sizeOf104→sY,isAgg143→tY,zeroValue143→uY,zeroValue25→vY,zeroValue74→wY,results86→kA,isAgg42→lA,call154→mA,results65→nA,results44→pA,call139→qA,results116→rA,results119→sA
namespace Go.Proofs.YtbcdijeggfoabaaGreatDoor
variable {G:Nat→Prop}{W w:World}{Rs:List HP}
section
open Go.Proofs Go.RowKit
def xc (d:Dcl)(c:Cmd):Int:=if((decide (c.cagg<0)||decide (c.ckey<0))||decide (c.expect< -1))=true then 1 else xb d c.ctyp c.cfield c.cop c.carg
def yv (a b:List Int):List Int:=(List.range (max a.length b.length)).map fun i=>max (yz a ((i:Nat):Int)) (yz b ((i:Nat):Int))
theorem Xh (a b:List Int):(yv a b).length=max a.length b.length:=by unfold yv;rw[List.length_map,List.length_range]
theorem WV {a b:List Int}{k:Nat}(h:k<max a.length b.length):(yv a b).getD k 0=max (yz a ((k:Nat):Int)) (yz b ((k:Nat):Int)):=by
 unfold yv
 rw[zK _ (by rw[List.length_map,List.length_range];exact h),List.getElem_map,List.getElem_range]
def evN (o:Int)(v:List Int)(lam:Int):Int:=if((decide (o<0)||decide (((v.length:Nat):Int)≤o))||decide (lam<0))=true then 1 else if(decide (yz v o=9223372036854775807)||decide (lam=9223372036854775807))=true then 13 else 0
def ev0:Ev:=⟨0,0,0,[],0,0,0,0,0,0⟩
def evY (c:Cmd)(o:Int)(v:List Int)(lam:Int):Ev:=⟨o,yz v o+1,lam+1,yv v [],c.ctyp,c.cagg,c.cfield,c.cop,c.carg,c.ckey⟩
def evE (c:Cmd)(o:Int)(v:List Int)(lam:Int):Ev:=if evN o v lam=0 then evY c o v lam else ev0
theorem Vi:ev0.Ok:=by constructor<;>decide
theorem zeb {c:Cmd}{o lam:Int}{v:List Int}(oc:c.Ok)(ho:InR o)(hv:InR (yz v o))(hl:InR lam):(evE c o v lam).Ok:=by
 unfold evE
 split
 ·rename_i h
  unfold evN at h
  split at h
  ·cases h
  split at h
  ·cases h
  rename_i h2
  simp only[Bool.or_eq_true,decide_eq_true_eq,not_or]at h2
  exact⟨ho,show InR (_+1) by omega,show InR (lam+1) by omega,oc.ctyp,oc.cagg,oc.cfield,oc.cop,oc.carg,oc.ckey⟩
 ·exact Vi
theorem zaO {d:Dcl}{dd0:Value}(hdd0:RdS W G dd0 d.types){dd1:Value}(hdd1:RdS W G dd1 d.projs)(od:d.Ok){c:Cmd}(oc:c.Ok)(hKN:RdS W G (.slice (some ⟨0,0,none⟩) 6 6) kindsL)(hS0:Sep G W Rs w):Ret Tryz.prog 34 [.agg (d.cells dd0 dd1).toArray,.agg (c.cells).toArray] w (fun r w'=>r=(.int .i64 (xc d c):Value)∧Sep G W Rs w'):=by
 refine zm Tryz.func34 rfl rfl ?_
 refine za (R0 fun _=>st (zT rfl ?_))
 intro w3 b2 t
 refine st (zT rfl ?_)
 intro w7 u x
 have e:=(hS0.new t).new x
 refine st (aS (Iv 0) (zb (za (za (zy kr (st (YB rfl (st (lD (Iv (c.cagg)) kT rfl (zd (e.b0) rfl) (st (zI rfl rfl (st (mV (.bool (decide (c.cagg<0))) (stc (V:=Ix u 6) rfl rfl (fun y=>?_) ?_))))))))))))))
 exact Yd rfl rflB
 refine stc (V:=Iv (c.ckey)) rfl rfl (fun i=>?_) ?_
 exact lD (Iv (c.ckey)) kT (ifpC i) (zd (e.b0) rfl) rflB
 refine stc (V:=.bool (decide (c.ckey<0))) rfl rfl (fun j=>?_) ?_
 exact zI (ifpC j) rfl rflB
 refine st (zz rfl (fun hbp=>(ifpC hbp)) (st (mV (.bool ((decide (c.cagg<0))||(decide (c.ckey<0)))) (stc (V:=Ix u 5) rfl rfl (fun n=>?_) ?_))))
 have o:=n
 try simp only[zh]at o
 exact Zk rfl rflB
 refine stc (V:=Iv (c.expect)) rfl rfl (fun l=>?_) ?_
 have p:=l
 try simp only[zh]at p
 exact lD (Iv (c.expect)) kT (ifpC l) (zd (e.b0) rfl) rflB
 refine stc (V:=.bool (decide (c.expect<(-1)))) rfl rfl (fun m=>?_) ?_
 have q:=m
 try simp only[zh]at q
 exact zI (ifpC m) rfl rflB
 refine st (zz rfl (fun hbp=>(ifpC hbp)) (zb ?_))
 cases g:((decide (c.cagg<0))||(decide (c.ckey<0)))||(decide (c.expect<(-1)))
 have h:=g
 try simp only[zh]at g
 refine zf rfl (zp (za (R0 fun _=>st (ze mR kR rfl rfl (zi (e.b1)) (st (Zu rfl (st (lD (Iv (c.ctyp)) kT rfl (zd (e.b0) rfl) (st (Xu rfl (st (lD (Iv (c.cfield)) kT rfl (zd (e.b0) rfl) (st (Xw rfl (st (lD (Iv (c.cop)) kT rfl (zd (e.b0) rfl) (st (Yj rfl (st (lD (Iv (c.carg)) kT rfl (zd (e.b0) rfl) (st (cL Tryz.call76 (zcL (d:=d) (ty:=c.ctyp) (f:=c.cfield) (op:=c.cop) (arg:=c.carg) hdd0 hdd1 od oc.ctyp oc.cfield oc.cop oc.carg hKN e) ?_))))))))))))))))))))))
 rintro _ w22 ⟨rfl,s⟩
 refine st (aS (Iv (xb d c.ctyp c.cfield c.cop c.carg)) (zb (zo (zN pY (show _=(Iv (xb d c.ctyp c.cfield c.cop c.carg):Value)from rfl) ?_))))
 refine⟨?_,(s.s2_)⟩
 unfold xc
 simp only[h,if_true,if_false,Bool.false_eq_true,↓reduceIte]
 have h:=g
 try simp only[zh]at g
 refine zg rfl (za (R0 fun _=>st (aS (Iv 1) (zb (zo (zN pY (show _=(Iv 1:Value)from rfl) ?_))))))
 refine⟨?_,(e.s2_)⟩
 unfold xc
 simp only[h,if_true,if_false,Bool.false_eq_true,↓reduceIte]
theorem Jo {va:Value}{a:List Int}(ha:RdS W G va a){vb:Value}{b:List Int}(hb:RdS W G vb b)(hS0:Sep G W Rs w):Ret Tryz.prog 81 [va,vb] w (fun r w'=> ∃(v:Value),r=(v:Value)∧Sep G W ((RowE (α:=Int) own 3 v (yv a b))::Rs) w'):=by
 have has:_*8≤_:=ha.small
 have hbs:_*8≤_:=hb.small
 refine zm Tryz.func81 rfl rfl ?_
 refine za (R0 fun _=>st (aS Iz (zb (za (R0 fun _=>st (aS Iz (zb (za (za (R0 fun _=>st (mV va (st (zS oT rfl ha.sl (st (mV vb (st (zS oT rfl hb.sl (st (YG rfl rfl (st (mV (Iv 0) (zb (zu ?_)))))))))))))))))))))))
 have u:Sep G W ((RowE (α:=Int) own 3 Iz [])::Rs) w:=hS0.rowNil own 3
 refine yf (fun mq σ y=> ∃k vo ρ,mq=(max a.length b.length)-k∧σ=yo ρ [(0,va),(1,vb),(4,(Iz)),(11,Iv (max ((a.length:Nat):Int) ((b.length:Nat):Int))),(12,Iw k),(5,vo)]∧(k≤(max a.length b.length))∧Sep G W ((RowE own 3 vo ((yv a b).take k))::Rs) y) ⟨0,(Iz),_,rfl,sSf,zY _,u⟩ ?_
 rintro m3 σ4 w2 ⟨k,vo,ρl1,rfl,rfl,hkk,f⟩
 have x:=f.r0
 have hr6s:_*8≤_:=x.2
 refine za (R0 fun _=>st (zI rfl rfl (zb (za ?_))))
 cases g:decide (((k:Nat):Int)<(max ((a.length:Nat):Int) ((b.length:Nat):Int)))
 have g:=fD g
 refine zf rfl (yh (zX (za (R0 fun _=>st (mV vo (st (aS vo (zb (zo (zN Tryz.results81 rfl ?_))))))))))
 have hk9:k=max a.length b.length:=by omega
 rw[List.take_of_length_le (by rw[Xh];omega)]at f
 refine⟨vo,rfl,f⟩
 have g:=tD g
 refine zg rfl (zp (za (zu (za (R0 fun _=>st (mV (Iw k) (st (aS (Iw k) (zb (R0 fun _=>st (mV vo (st (mV va (st (mV (Iw k) (st (cL uR (UM (v:=a) (vv:=va) (o:=((k:Nat):Int)) ha om f) ?_)))))))))))))))))
 rintro _ w9 ⟨rfl,hg8,l⟩
 refine st (mV vb (st (mV (Iw k) (st (cL uR (UM (v:=b) (vv:=vb) (o:=((k:Nat):Int)) hb om l) ?_)))))
 rintro _ w12 ⟨rfl,hg11,m⟩
 refine st (YG (k:=.i64) (a:=yz a ((k:Nat):Int)) (b:=yz b ((k:Nat):Int)) rfl rfl (st (zL (c:=#[Iv (max (yz a ((k:Nat):Int)) (yz b ((k:Nat):Int)))]) oT qT qY dc rfl kr ?_)))
 intro w16 b15 p
 have h:=m.new p
 have i:=h.b0
 refine st (yx (src:=own) (bytes:=8) (x1:=max (yz a ((k:Nat):Int)) (yz b ((k:Nat):Int))) ((h.s2_b).emp1) UD rfl rfl i (fun _ _ _=>(show _ from⟨rfl,(by have h1:InR (yz a ((k:Nat):Int)):=(by omega);have h2:InR (yz b ((k:Nat):Int)):=(by omega);omega)⟩)) yqb rfl ?_)
 intro j w18 e
 have q:=e.r0
 refine st (aS j (zb (R0 fun _=>?_)))
 have s:InR ((k+1:Nat):Int):=bo
 refine st (zU (r:=((k+1:Nat):Int)) rfl rfl (by rw[show(((k:Nat):Int)+1:Int)=((k+1:Nat):Int)from bo];exact zJ s) (st (mV (Iw (k+1)) (zb ?_))))
 have t:((yv a b).take (k+1))=((yv a b).take k)++[max (yz a ((k:Nat):Int)) (yz b ((k:Nat):Int))]:=(by rw[List.take_getD (by rw[Xh];omega),WV (by omega)])
 rw[←t]at e
 exact⟨_,by omega,k+1,j,_,rfl,sSf,by omega,e⟩
theorem QN {c:Cmd}(oc:c.Ok){o:Int}(ho:InR o){vv:Value}{v:List Int}(hv:RdS W G vv v){lam:Int}(hlam:InR lam)(hS0:Sep G W Rs w):Ret Tryz.prog 41 [.agg (c.cells).toArray,.int .i64 (o),vv,.int .i64 (lam)] w (fun r w'=> ∃(vd:Value),r=(.tuple #[.agg ((evE c o v lam).cells vd).toArray,.int .i64 ((evN o v lam))]:Value)∧Sep G W ((RowE (α:=Int) own 3 vd ((evE c o v lam).deps))::Rs) w'):=by
 have hvs:_*8≤_:=hv.small
 refine zm (args:=[.agg (c.cells).toArray,Iv o,vv,Iv lam]) Tryz.func41 rfl rfl ?_
 refine za (R0 fun _=>st (zT (v:=.agg (c.cells).toArray) rfl ?_))
 intro w3 b2 cj
 refine st (zv nR ?_)
 intro w7 b6 ck
 have az:=(hS0.new cj).new ck
 refine st (aS (Iv 0) (zb (za (za (zy kr (st (mV (Iv o) (st (zI (k:=.i64) (a:=o) (b:=0) rfl rfl (st (mV (.bool (decide (o<0))) (stc (V:=Iv o) rfl rfl (fun cl=>?_) ?_))))))))))))
 have hl10:=fD cl
 exact mV (Iv o) rflB
 refine stc (V:=vv) rfl rfl (fun bR=>?_) ?_
 have hl12:=fD bR
 exact mV vv rflB
 refine stc (V:=Iw v.length) rfl rfl (fun aA=>?_) ?_
 have hl14:=fD aA
 exact zS (n:=v.length) oT (ifpC aA) hv.sl rflB
 refine stc (V:=.bool (decide (((v.length:Nat):Int)≤o))) rfl rfl (fun af=>?_) ?_
 have hl16:=fD af
 exact xh (k:=.i64) (a:=o) (b:=((v.length:Nat):Int)) (ifpC af) (ifpC af) rflB
 refine st (zz (b:=decide (o<0)) (b':=decide (((v.length:Nat):Int)≤o)) rfl (fun hbp=>(ifpC hbp)) (st (mV (.bool ((decide (o<0))||(decide (((v.length:Nat):Int)≤o)))) (stc (V:=Iv lam) rfl rfl (fun bS=>?_) ?_))))
 have bT:=bS
 try simp only[zh]at bT
 exact mV (Iv lam) rflB
 refine stc (V:=.bool (decide (lam<0))) rfl rfl (fun aB=>?_) ?_
 have bU:=aB
 try simp only[zh]at bU
 exact zI (k:=.i64) (a:=lam) (b:=0) (ifpC aB) rfl rflB
 refine st (zz (b:=(decide (o<0))||(decide (((v.length:Nat):Int)≤o))) (b':=decide (lam<0)) rfl (fun hbp=>(ifpC hbp)) (zb ?_))
 cases L:((decide (o<0))||(decide (((v.length:Nat):Int)≤o)))||(decide (lam<0))
 have q:=L
 try simp only[zh]at L
 refine zf rfl (zp (za (R0 fun _=>st (mV vv (st (mV (Iv o) (st (cL uR (UM (v:=v) (vv:=vv) (o:=o) hv ho az) ?_))))))))
 rintro _ w23 ⟨rfl,hg22,ag⟩
 refine st (aS (Iv (yz v o)) (zb (za (za (zy kr (st (mV (Iv (yz v o)) (st (zR (k:=.i64) (a:=yz v o) (b:=9223372036854775807) rfl rfl (st (mV (.bool (decide ((yz v o)=9223372036854775807))) (stc (V:=Iv lam) rfl rfl (fun bV=>?_) ?_))))))))))))
 have hl26:=fD bV
 exact mV (Iv lam) rflB
 refine stc (V:=.bool (decide (lam=9223372036854775807))) rfl rfl (fun aC=>?_) ?_
 have hl28:=fD aC
 exact zR (k:=.i64) (a:=lam) (b:=9223372036854775807) (ifpC aC) rfl rflB
 refine st (zz (b:=decide ((yz v o)=9223372036854775807)) (b':=decide (lam=9223372036854775807)) rfl (fun hbp=>(ifpC hbp)) (zb ?_))
 cases M:(decide ((yz v o)=9223372036854775807))||(decide (lam=9223372036854775807))
 have N:=M
 try simp only[zh]at M
 refine zf rfl (zp (za ?_))
 refine WD6 ((fun TT Q=>WF [fun vals O=>Sep G W (Q::TT) O,fun vals O=> ∃(d:Value),(vals 3=(d:Value))∧Sep G W ((RowE (α:=Int) own 3 d (yv v ([]:List Int)))::Q::TT) O,fun vals O=> ∃(e:Nat),(vals 17=(Ix e 0:Value))∧Sep G W ((Blk e #[Iv 0,Iv 0,Iv 0,(Iz),Iv 0,Iv 0,Iv 0,Iv 0,Iv 0,Iv 0] 44)::Q::TT) O,fun vals O=> ∃(d:Value) (e:Nat),(vals 3=(d:Value))∧(vals 17=(Ix e 0:Value))∧Sep G W ((Blk e #[Iv 0,Iv 0,Iv 0,(Iz),Iv 0,Iv 0,Iv 0,Iv 0,Iv 0,Iv 0] 44)::(RowE (α:=Int) own 3 d (yv v ([]:List Int)))::Q::TT) O,fun _ _=>True,fun _ _=>True,fun _ _=>True,fun vals O=> ∃(d:Value) (e:Nat),(vals 3=(d:Value))∧(vals 17=(Ix e 0:Value))∧Sep G W ((Blk e ((⟨0,0,lam+1,yv v [],c.ctyp,c.cagg,c.cfield,c.cop,c.carg,c.ckey⟩:Ev).cells d).toArray 44)::(RowE (α:=Int) own 3 d (yv v ([]:List Int)))::Q::TT) O]) ((Blk b2 (c.cells).toArray 49)::Rs) (Blk b6 #[Iv 0,Iv 0,Iv 0,(Iz),Iv 0,Iv 0,Iv 0,Iv 0,Iv 0,Iv 0] 44)) (AF [Vl 0 (Iv lam),Vl 1 (Iv (lam+1)),Vl 2 vv,fun _=>True,Vl 4 (Ix b2 0),Vl 5 (Iv (c.ctyp)),Vl 6 (Ix b2 1),Vl 7 (Iv (c.cagg)),Vl 8 (Ix b2 2),Vl 9 (Iv (c.cfield)),Vl 10 (Ix b2 3),Vl 11 (Iv (c.cop)),Vl 12 (Ix b2 4),Vl 13 (Iv (c.carg)),Vl 14 (Ix b2 6),Vl 15 (Iv (c.ckey)),fun vals=> ∀(d:Value),vals 3=(d:Value)→vals 16=(.agg ((⟨0,0,lam+1,yv v [],c.ctyp,c.cagg,c.cfield,c.cop,c.carg,c.ckey⟩:Ev).cells d).toArray:Value),fun _=>True,fun _=>True]) [[],[0],[],[2],[],[4],[],[6],[],[8],[],[10],[],[12],[],[14],(rg 16),[],(rg 18)] [3,17,18] [(rg 4),(rg 4),[0,2],[0,2],(rg 4),(rg 4),(rg 4),(rg 4),(rg 4),(rg 4),(rg 4),(rg 4),(rg 4),(rg 4),(rg 4),(rg 4),[1,3],[0,1],[3]] ag ⟨fun _ _ _ _ _ _=>obl rfl (mV (Iv lam) dR),?_,fun _ _ _ _ _ _=>obl rfl (mV vv dR),?_,fun _ _ _ _ _ _=>obl rfl (Zu rfl dR),?_,fun _ _ _ _ _ _=>obl rfl (YB rfl dR),?_,fun _ _ _ _ _ _=>obl rfl (Xu rfl dR),?_,fun _ _ _ _ _ _=>obl rfl (Xw rfl dR),?_,fun _ _ _ _ _ _=>obl rfl (Yj rfl dR),?_,fun _ _ _ _ _ _=>obl rfl (Yd rfl dR),?_,?_,?_,?_,zj⟩ ?_ (hlocA:=xd ⟨dA,dA,dA,dT,dA,dA,dA,dA,dA,dA,dA,dA,dA,dA,dA,dA,fun vals l hv h=>fun d K=>(hv 16 (.inl rfl)).trans (h d ((hv 3 (.inr dc)).symm.trans K)),dT,dT,zj⟩)
 intro bW vals w180 aD s t
 have R:bW∈[0,1,2,3]:=aD
 simp only[yF]at R
 rcases R with rfl|rfl|rfl|rfl
 have hS184:Sep _ _ _ _:=s
 refine obl rfl ?_
 have aE:InR (lam+1):=by omega
 exact zU (r:=lam+1) (k:=.i64) (a:=lam) (b:=1) (t 0 dc) rfl (zJ aE) dR
 obtain⟨d,i,hS187⟩:=s
 refine obl rfl ?_
 have aF:InR (lam+1):=by omega
 exact zU (r:=lam+1) (k:=.i64) (a:=lam) (b:=1) (t 0 dc) rfl (zJ aF) dR
 obtain⟨e,g,hS190⟩:=s
 refine obl rfl ?_
 have aG:InR (lam+1):=by omega
 exact zU (r:=lam+1) (k:=.i64) (a:=lam) (b:=1) (t 0 dc) rfl (zJ aG) dR
 obtain⟨d,e,i,g,hS193⟩:=s
 refine obl rfl ?_
 have aH:InR (lam+1):=by omega
 exact zU (r:=lam+1) (k:=.i64) (a:=lam) (b:=1) (t 0 dc) rfl (zJ aH) dR
 intro bX vals w202 aI ah ai
 have S:bX∈[0,2]:=aI
 simp only[yF]at S
 rcases S with rfl|rfl
 have aJ:Sep _ _ _ _:=ah
 refine obl rfl ((zO (f:=81) (vals:=[vv,(Iz)]) (cap:=[]) rfl (yK ⟨(ai 2 dc),rfl,zj⟩) rY (Jo (a:=v) (va:=vv) (b:=([]:List Int)) (vb:=(Iz)) hv (RdS.nil _ _) aJ) ?_))
 rintro d w209 ⟨_,rfl,aj⟩
 have aK:=aj.r0
 have hr211s:_*8≤_:=aK.2
 exact fun l hv m=>⟨(exiA d (zG hv aj)),zj⟩
 obtain⟨e,g,aL⟩:=ah
 refine obl rfl ((zO (f:=81) (vals:=[vv,(Iz)]) (cap:=[]) rfl (yK ⟨(ai 2 dc),rfl,zj⟩) rY (Jo (a:=v) (va:=vv) (b:=([]:List Int)) (vb:=(Iz)) hv (RdS.nil _ _) aL) ?_))
 rintro d w215 ⟨_,rfl,ak⟩
 have aM:=ak.r0
 have hr217s:_*8≤_:=aM.2
 exact fun l hv m=>⟨(exiA d (exiA e (zG hv (zG ((m 17 dc).trans g) (ak.mv1))))),zj⟩
 intro bY vals w225 aN u x
 have T:bY∈[0,1,2,3]:=aN
 simp only[yF]at T
 rcases T with rfl|rfl|rfl|rfl
 have aO:Sep _ _ _ _:=u
 exact obl rfl (lD (Iv (c.ctyp)) kT (x 4 dc) (zd (aO.b1) rfl) dR)
 obtain⟨d,i,aP⟩:=u
 exact obl rfl (lD (Iv (c.ctyp)) kT (x 4 dc) (zd (aP.b2) rfl) dR)
 obtain⟨e,g,aQ⟩:=u
 exact obl rfl (lD (Iv (c.ctyp)) kT (x 4 dc) (zd (aQ.b2) rfl) dR)
 obtain⟨d,e,i,g,aR⟩:=u
 exact obl rfl (lD (Iv (c.ctyp)) kT (x 4 dc) (zd (aR.b3) rfl) dR)
 intro bZ vals w243 aT y z
 have U:bZ∈[0,1,2,3]:=aT
 simp only[yF]at U
 rcases U with rfl|rfl|rfl|rfl
 have aU:Sep _ _ _ _:=y
 exact obl rfl (lD (Iv (c.cagg)) kT (z 6 dc) (zd (aU.b1) rfl) dR)
 obtain⟨d,i,aV⟩:=y
 exact obl rfl (lD (Iv (c.cagg)) kT (z 6 dc) (zd (aV.b2) rfl) dR)
 obtain⟨e,g,aW⟩:=y
 exact obl rfl (lD (Iv (c.cagg)) kT (z 6 dc) (zd (aW.b2) rfl) dR)
 obtain⟨d,e,i,g,aX⟩:=y
 exact obl rfl (lD (Iv (c.cagg)) kT (z 6 dc) (zd (aX.b3) rfl) dR)
 intro ca vals w261 aY A B
 have X:ca∈[0,1,2,3]:=aY
 simp only[yF]at X
 rcases X with rfl|rfl|rfl|rfl
 have aZ:Sep _ _ _ _:=A
 exact obl rfl (lD (Iv (c.cfield)) kT (B 8 dc) (zd (aZ.b1) rfl) dR)
 obtain⟨d,i,ba⟩:=A
 exact obl rfl (lD (Iv (c.cfield)) kT (B 8 dc) (zd (ba.b2) rfl) dR)
 obtain⟨e,g,bb⟩:=A
 exact obl rfl (lD (Iv (c.cfield)) kT (B 8 dc) (zd (bb.b2) rfl) dR)
 obtain⟨d,e,i,g,bc⟩:=A
 exact obl rfl (lD (Iv (c.cfield)) kT (B 8 dc) (zd (bc.b3) rfl) dR)
 intro cb vals w279 bd C D
 have Y:cb∈[0,1,2,3]:=bd
 simp only[yF]at Y
 rcases Y with rfl|rfl|rfl|rfl
 have be:Sep _ _ _ _:=C
 exact obl rfl (lD (Iv (c.cop)) kT (D 10 dc) (zd (be.b1) rfl) dR)
 obtain⟨d,i,bf⟩:=C
 exact obl rfl (lD (Iv (c.cop)) kT (D 10 dc) (zd (bf.b2) rfl) dR)
 obtain⟨e,g,bg⟩:=C
 exact obl rfl (lD (Iv (c.cop)) kT (D 10 dc) (zd (bg.b2) rfl) dR)
 obtain⟨d,e,i,g,bh⟩:=C
 exact obl rfl (lD (Iv (c.cop)) kT (D 10 dc) (zd (bh.b3) rfl) dR)
 intro cc vals w297 bi E F
 have Z:cc∈[0,1,2,3]:=bi
 simp only[yF]at Z
 rcases Z with rfl|rfl|rfl|rfl
 have bj:Sep _ _ _ _:=E
 exact obl rfl (lD (Iv (c.carg)) kT (F 12 dc) (zd (bj.b1) rfl) dR)
 obtain⟨d,i,bk⟩:=E
 exact obl rfl (lD (Iv (c.carg)) kT (F 12 dc) (zd (bk.b2) rfl) dR)
 obtain⟨e,g,bl⟩:=E
 exact obl rfl (lD (Iv (c.carg)) kT (F 12 dc) (zd (bl.b2) rfl) dR)
 obtain⟨d,e,i,g,bm⟩:=E
 exact obl rfl (lD (Iv (c.carg)) kT (F 12 dc) (zd (bm.b3) rfl) dR)
 intro cd vals w315 bn H I
 have aa:cd∈[0,1,2,3]:=bn
 simp only[yF]at aa
 rcases aa with rfl|rfl|rfl|rfl
 have bp:Sep _ _ _ _:=H
 exact obl rfl (lD (Iv (c.ckey)) kT (I 14 dc) (zd (bp.b1) rfl) dR)
 obtain⟨d,i,bq⟩:=H
 exact obl rfl (lD (Iv (c.ckey)) kT (I 14 dc) (zd (bq.b2) rfl) dR)
 obtain⟨e,g,br⟩:=H
 exact obl rfl (lD (Iv (c.ckey)) kT (I 14 dc) (zd (br.b2) rfl) dR)
 obtain⟨d,e,i,g,bs⟩:=H
 exact obl rfl (lD (Iv (c.ckey)) kT (I 14 dc) (zd (bs.b3) rfl) dR)
 intro ce vals w328 bt al j
 have ab:ce∈[1,3]:=bt
 simp only[yF]at ab
 rcases ab with rfl|rfl
 obtain⟨d,i,bu⟩:=al
 refine obl rfl ?_
 have am:=bu.r0
 have hr341s:_*8≤_:=am.2
 refine zQ (parts':=[(1,Iv (lam+1)),(2,d),(3,Iv (c.ctyp)),(4,Iv (c.cagg)),(5,Iv (c.cfield)),(6,Iv (c.cop)),(7,Iv (c.carg)),(8,Iv (c.ckey))]) (v:=.agg ((⟨0,0,lam+1,yv v [],c.ctyp,c.cagg,c.cfield,c.cop,c.carg,c.ckey⟩:Ev).cells d).toArray) (ZH ⟨rfl,(j 1 (by decide)),rfl,i,rfl,(j 5 (by decide)),rfl,(j 7 (by decide)),rfl,(j 9 (by decide)),rfl,(j 11 (by decide)),rfl,(j 13 (by decide)),rfl,(j 15 (by decide)),zj⟩) (by obtain⟨_,_,bv,_⟩:=am.1;rw[show d=Value.slice _ _ _ from bv];simp[Instr.build,Instr.fill,go_sem,Ev.cells,ev0]) (fun l hv m=>⟨rfl,?_⟩)
 intro cf K
 rw[m 3 (by decide)]at K;cases i.symm.trans K
 exact hv
 obtain⟨d,e,i,g,bw⟩:=al
 refine obl rfl ?_
 have an:=bw.r1
 have hr351s:_*8≤_:=an.2
 refine zQ (parts':=[(1,Iv (lam+1)),(2,d),(3,Iv (c.ctyp)),(4,Iv (c.cagg)),(5,Iv (c.cfield)),(6,Iv (c.cop)),(7,Iv (c.carg)),(8,Iv (c.ckey))]) (v:=.agg ((⟨0,0,lam+1,yv v [],c.ctyp,c.cagg,c.cfield,c.cop,c.carg,c.ckey⟩:Ev).cells d).toArray) (ZH ⟨rfl,(j 1 (by decide)),rfl,i,rfl,(j 5 (by decide)),rfl,(j 7 (by decide)),rfl,(j 9 (by decide)),rfl,(j 11 (by decide)),rfl,(j 13 (by decide)),rfl,(j 15 (by decide)),zj⟩) (by obtain⟨_,_,bx,_⟩:=an.1;rw[show d=Value.slice _ _ _ from bx];simp[Instr.build,Instr.fill,go_sem,Ev.cells,ev0]) (fun l hv m=>⟨rfl,?_⟩)
 intro cf K
 rw[m 3 (by decide)]at K;cases i.symm.trans K
 exact hv
 intro cg vals w353 bz ao hA354
 have ac:cg∈[0,1]:=bz
 simp only[yF]at ac
 rcases ac with rfl|rfl
 have bA:Sep _ _ _ _:=ao
 refine obl rfl ((zv nR ?_))
 intro w360 e bB
 exact fun l hv m=>⟨(exiA e (zG hv (bA.new bB))),zj⟩
 obtain⟨d,i,bC⟩:=ao
 refine obl rfl ((zv nR ?_))
 intro w365 e bD
 exact fun l hv m=>⟨(exiA d (exiA e (zG ((m 3 dc).trans i) (zG hv (bC.new bD))))),zj⟩
 intro ch vals w368 bE bF bG
 have ad:ch∈[3]:=bE
 simp only[yF]at ad
 subst ad
 obtain⟨d,e,i,g,P⟩:=bF
 let ay:=((⟨0,0,lam+1,yv v [],c.ctyp,c.cagg,c.cfield,c.cop,c.carg,c.ckey⟩:Ev).cells d)
 refine obl rfl ?_
 have ci:vals 16=(.agg ay.toArray:Value):=bG 16 dc d i
 have ap:=P.r1
 have hr376s:_*8≤_:=ap.2
 refine(zr (v:=.agg ay.toArray) (c':=ay.toArray) lT g ci (P.b0) (zZ ⟨rfl,rfl,rfl,ap.1.one,rfl,rfl,rfl,rfl,rfl,rfl,zj⟩) yqc rfl ?_)
 intro w374 bH
 exact fun l hv m=>⟨(exiA d (exiA e (zG ((m 3 dc).trans i) (zG ((m 17 dc).trans g) (P.pt0 bH))))),zj⟩
 intro vals w378 bI hA380
 obtain⟨d,e,i,g,aq⟩:=bI
 refine yd (kv:=[(0,.agg (c.cells).toArray),(1,Iv o),(2,vv),(3,Iv lam),(4,Ix b2 0),(8,Ix b6 0),(9,Iv 0),(12,Iv o),(13,.bool (decide (o<0))),(14,.bool (decide (o<0))),(19,.bool ((decide (o<0))||(decide (((v.length:Nat):Int)≤o)))),(20,.bool ((decide (o<0))||(decide (((v.length:Nat):Int)≤o)))),(23,.bool false),(25,vv),(26,Iv o),(27,Iv (yz v o)),(10,Iv (yz v o)),(28,Iv (yz v o)),(29,.bool (decide ((yz v o)=9223372036854775807))),(30,.bool (decide ((yz v o)=9223372036854775807))),(33,.bool false),(11,Ix e 0)]) ⟨rfl,rfl,rfl,rfl,rfl,rfl,rfl,rfl,rfl,rfl,rfl,rfl,rfl,rfl,rfl,rfl,rfl,rfl,rfl,rfl,rfl,(by exact g),zj⟩ (fun ρw378=>(zb (za (R0 fun _=>st (mV (Iv o) (st (mV (Iv (yz v o)) ?_)))))))
 have bJ:InR ((yz v o)+1):=by omega
 refine st (zU (r:=(yz v o)+1) (k:=.i64) (a:=yz v o) (b:=1) rfl rfl (zJ bJ) (st (yA rfl (st (xm rfl ?_)))))
 refine stn (yr (v:=Iv o) (c:=[Iv ((⟨0,0,lam+1,yv v [],c.ctyp,c.cagg,c.cfield,c.cop,c.carg,c.ckey⟩:Ev).origin),Iv ((⟨0,0,lam+1,yv v [],c.ctyp,c.cagg,c.cfield,c.cop,c.carg,c.ckey⟩:Ev).seq),Iv ((⟨0,0,lam+1,yv v [],c.ctyp,c.cagg,c.cfield,c.cop,c.carg,c.ckey⟩:Ev).lam),d,Iv ((⟨0,0,lam+1,yv v [],c.ctyp,c.cagg,c.cfield,c.cop,c.carg,c.ckey⟩:Ev).typ),Iv ((⟨0,0,lam+1,yv v [],c.ctyp,c.cagg,c.cfield,c.cop,c.carg,c.ckey⟩:Ev).agg),Iv ((⟨0,0,lam+1,yv v [],c.ctyp,c.cagg,c.cfield,c.cop,c.carg,c.ckey⟩:Ev).field),Iv ((⟨0,0,lam+1,yv v [],c.ctyp,c.cagg,c.cfield,c.cop,c.carg,c.ckey⟩:Ev).op),Iv ((⟨0,0,lam+1,yv v [],c.ctyp,c.cagg,c.cfield,c.cop,c.carg,c.ckey⟩:Ev).arg),Iv ((⟨0,0,lam+1,yv v [],c.ctyp,c.cagg,c.cfield,c.cop,c.carg,c.ckey⟩:Ev).key)]) (c':=[Iv o,Iv ((⟨0,0,lam+1,yv v [],c.ctyp,c.cagg,c.cfield,c.cop,c.carg,c.ckey⟩:Ev).seq),Iv ((⟨0,0,lam+1,yv v [],c.ctyp,c.cagg,c.cfield,c.cop,c.carg,c.ckey⟩:Ev).lam),d,Iv ((⟨0,0,lam+1,yv v [],c.ctyp,c.cagg,c.cfield,c.cop,c.carg,c.ckey⟩:Ev).typ),Iv ((⟨0,0,lam+1,yv v [],c.ctyp,c.cagg,c.cfield,c.cop,c.carg,c.ckey⟩:Ev).agg),Iv ((⟨0,0,lam+1,yv v [],c.ctyp,c.cagg,c.cfield,c.cop,c.carg,c.ckey⟩:Ev).field),Iv ((⟨0,0,lam+1,yv v [],c.ctyp,c.cagg,c.cfield,c.cop,c.carg,c.ckey⟩:Ev).op),Iv ((⟨0,0,lam+1,yv v [],c.ctyp,c.cagg,c.cfield,c.cop,c.carg,c.ckey⟩:Ev).arg),Iv ((⟨0,0,lam+1,yv v [],c.ctyp,c.cagg,c.cfield,c.cop,c.carg,c.ckey⟩:Ev).key)]) qT rfl rfl (aq.b0) rfl rfl rfl ?_)
 intro w383 bK
 have ar:=aq.pt0 bK
 refine st (yA rfl (st (Za rfl ?_)))
 refine stn (yr (v:=Iv ((yz v o)+1)) (c:=[Iv o,Iv ((⟨0,0,lam+1,yv v [],c.ctyp,c.cagg,c.cfield,c.cop,c.carg,c.ckey⟩:Ev).seq),Iv ((⟨0,0,lam+1,yv v [],c.ctyp,c.cagg,c.cfield,c.cop,c.carg,c.ckey⟩:Ev).lam),d,Iv ((⟨0,0,lam+1,yv v [],c.ctyp,c.cagg,c.cfield,c.cop,c.carg,c.ckey⟩:Ev).typ),Iv ((⟨0,0,lam+1,yv v [],c.ctyp,c.cagg,c.cfield,c.cop,c.carg,c.ckey⟩:Ev).agg),Iv ((⟨0,0,lam+1,yv v [],c.ctyp,c.cagg,c.cfield,c.cop,c.carg,c.ckey⟩:Ev).field),Iv ((⟨0,0,lam+1,yv v [],c.ctyp,c.cagg,c.cfield,c.cop,c.carg,c.ckey⟩:Ev).op),Iv ((⟨0,0,lam+1,yv v [],c.ctyp,c.cagg,c.cfield,c.cop,c.carg,c.ckey⟩:Ev).arg),Iv ((⟨0,0,lam+1,yv v [],c.ctyp,c.cagg,c.cfield,c.cop,c.carg,c.ckey⟩:Ev).key)]) (c':=[Iv o,Iv ((yz v o)+1),Iv ((⟨0,0,lam+1,yv v [],c.ctyp,c.cagg,c.cfield,c.cop,c.carg,c.ckey⟩:Ev).lam),d,Iv ((⟨0,0,lam+1,yv v [],c.ctyp,c.cagg,c.cfield,c.cop,c.carg,c.ckey⟩:Ev).typ),Iv ((⟨0,0,lam+1,yv v [],c.ctyp,c.cagg,c.cfield,c.cop,c.carg,c.ckey⟩:Ev).agg),Iv ((⟨0,0,lam+1,yv v [],c.ctyp,c.cagg,c.cfield,c.cop,c.carg,c.ckey⟩:Ev).field),Iv ((⟨0,0,lam+1,yv v [],c.ctyp,c.cagg,c.cfield,c.cop,c.carg,c.ckey⟩:Ev).op),Iv ((⟨0,0,lam+1,yv v [],c.ctyp,c.cagg,c.cfield,c.cop,c.carg,c.ckey⟩:Ev).arg),Iv ((⟨0,0,lam+1,yv v [],c.ctyp,c.cagg,c.cfield,c.cop,c.carg,c.ckey⟩:Ev).key)]) qT rfl rfl (ar.b0) rfl rfl rfl ?_)
 intro w386 bL
 have J:=ar.pt0 bL
 refine zb (za (R0 fun _=>st (ze (k:=10) nT lT rfl rfl (zi (J.b0)) ?_)))
 have au:=J.r1
 have hr391s:_*8≤_:=au.2
 refine stn (zr (v:=.agg ((⟨o,(yz v o)+1,(⟨0,0,lam+1,yv v [],c.ctyp,c.cagg,c.cfield,c.cop,c.carg,c.ckey⟩:Ev).lam,yv v [],(⟨0,0,lam+1,yv v [],c.ctyp,c.cagg,c.cfield,c.cop,c.carg,c.ckey⟩:Ev).typ,(⟨0,0,lam+1,yv v [],c.ctyp,c.cagg,c.cfield,c.cop,c.carg,c.ckey⟩:Ev).agg,(⟨0,0,lam+1,yv v [],c.ctyp,c.cagg,c.cfield,c.cop,c.carg,c.ckey⟩:Ev).field,(⟨0,0,lam+1,yv v [],c.ctyp,c.cagg,c.cfield,c.cop,c.carg,c.ckey⟩:Ev).op,(⟨0,0,lam+1,yv v [],c.ctyp,c.cagg,c.cfield,c.cop,c.carg,c.ckey⟩:Ev).arg,(⟨0,0,lam+1,yv v [],c.ctyp,c.cagg,c.cfield,c.cop,c.carg,c.ckey⟩:Ev).key⟩:Ev).cells d).toArray) (c':=((⟨o,(yz v o)+1,(⟨0,0,lam+1,yv v [],c.ctyp,c.cagg,c.cfield,c.cop,c.carg,c.ckey⟩:Ev).lam,yv v [],(⟨0,0,lam+1,yv v [],c.ctyp,c.cagg,c.cfield,c.cop,c.carg,c.ckey⟩:Ev).typ,(⟨0,0,lam+1,yv v [],c.ctyp,c.cagg,c.cfield,c.cop,c.carg,c.ckey⟩:Ev).agg,(⟨0,0,lam+1,yv v [],c.ctyp,c.cagg,c.cfield,c.cop,c.carg,c.ckey⟩:Ev).field,(⟨0,0,lam+1,yv v [],c.ctyp,c.cagg,c.cfield,c.cop,c.carg,c.ckey⟩:Ev).op,(⟨0,0,lam+1,yv v [],c.ctyp,c.cagg,c.cfield,c.cop,c.carg,c.ckey⟩:Ev).arg,(⟨0,0,lam+1,yv v [],c.ctyp,c.cagg,c.cfield,c.cop,c.carg,c.ckey⟩:Ev).key⟩:Ev).cells d).toArray) lT rfl rfl (J.b2) (zZ ⟨rfl,rfl,rfl,au.1.one,rfl,rfl,rfl,rfl,rfl,rfl,zj⟩) yqc rfl ?_)
 intro w389 bM
 have av:=J.pt2 bM
 refine st (aS (Iv 0) (zb (zo (xY (b:=b6) vR nT lT rfl rfl (zi (av.b2)) (show _=(Iv 0:Value)from rfl) ?_))))
 have p:evN o v lam=0:=by unfold evN;simp only[q,N,if_true,if_false,Bool.false_eq_true,↓reduceIte]
 have ae:evE c o v lam=(⟨o,(yz v o)+1,(⟨0,0,lam+1,yv v [],c.ctyp,c.cagg,c.cfield,c.cop,c.carg,c.ckey⟩:Ev).lam,yv v [],(⟨0,0,lam+1,yv v [],c.ctyp,c.cagg,c.cfield,c.cop,c.carg,c.ckey⟩:Ev).typ,(⟨0,0,lam+1,yv v [],c.ctyp,c.cagg,c.cfield,c.cop,c.carg,c.ckey⟩:Ev).agg,(⟨0,0,lam+1,yv v [],c.ctyp,c.cagg,c.cfield,c.cop,c.carg,c.ckey⟩:Ev).field,(⟨0,0,lam+1,yv v [],c.ctyp,c.cagg,c.cfield,c.cop,c.carg,c.ckey⟩:Ev).op,(⟨0,0,lam+1,yv v [],c.ctyp,c.cagg,c.cfield,c.cop,c.carg,c.ckey⟩:Ev).arg,(⟨0,0,lam+1,yv v [],c.ctyp,c.cagg,c.cfield,c.cop,c.carg,c.ckey⟩:Ev).key⟩:Ev):=by unfold evE;exact ifpC p
 rw[ae,p]
 refine⟨d,?_,(av.s4_b)⟩
 rfl
 have N:=M
 try simp only[zh]at M
 refine zg rfl (za (yy (by kernel_rfl) (fun _=>(st (zQ (parts':=[]) (v:=.agg (ev0.cells Iz).toArray) rfl (by simp+zetaDelta [Instr.build,Instr.fill,go_sem,Ev.cells,ev0]) (stn (zr (v:=.agg (ev0.cells Iz).toArray) (c':=(ev0.cells Iz).toArray) lT rfl rfl (ag.b0) (zZ ⟨rfl,rfl,rfl,rfl,rfl,rfl,rfl,rfl,rfl,rfl,zj⟩) yqc rfl ?_)))))))
 intro w394 bN
 have aw:=ag.pt0 bN
 refine st (aS (Iv 13) (zb (zo (xY (b:=b6) vR nT lT rfl rfl (zi (aw.b0)) (show _=(Iv 13:Value)from rfl) ?_))))
 have bO:Sep _ _ ((RowE (α:=Int) own 3 Iz ([]:List Int))::_) _:=aw.rowNil own 3
 have p:evN o v lam=13:=by unfold evN;simp only[q,N,if_true,if_false,Bool.false_eq_true,↓reduceIte]
 have ae:evE c o v lam=ev0:=by unfold evE;exact ifnC (by rw[p];decide)
 rw[ae,p]
 refine⟨(Iz),?_,(bO.s3_a)⟩
 rfl
 have q:=L
 try simp only[zh]at L
 refine zg rfl (za (yy (by kernel_rfl) (fun _=>(st (zQ (parts':=[]) (v:=.agg (ev0.cells Iz).toArray) rfl (by simp+zetaDelta [Instr.build,Instr.fill,go_sem,Ev.cells,ev0]) (stn (zr (v:=.agg (ev0.cells Iz).toArray) (c':=(ev0.cells Iz).toArray) lT rfl rfl (az.b0) (zZ ⟨rfl,rfl,rfl,rfl,rfl,rfl,rfl,rfl,rfl,rfl,zj⟩) yqc rfl ?_)))))))
 intro w399 bP
 have ax:=az.pt0 bP
 refine st (aS (Iv 1) (zb (zo (xY (b:=b6) vR nT lT rfl rfl (zi (ax.b0)) (show _=(Iv 1:Value)from rfl) ?_))))
 have bQ:Sep _ _ ((RowE (α:=Int) own 3 Iz ([]:List Int))::_) _:=ax.rowNil own 3
 have p:evN o v lam=1:=by unfold evN;simp only[q,if_true,if_false,Bool.false_eq_true,↓reduceIte]
 have ae:evE c o v lam=ev0:=by unfold evE;exact ifnC (by rw[p];decide)
 rw[ae,p]
 refine⟨(Iz),?_,(bQ.s3_a)⟩
 rfl
end
section
open Go.RowKit
structure TypS where
 v:Value
 deriving Inhabited
structure TypS.Ok (e:TypS):Prop where
 one:e.v.oneCell'=true
def TypS.cells (e:TypS):List Value:=[e.v]
instance:Rep TypS where
 k:=1
 rd _ _ cs x:=cs=x.cells∧x.Ok
 bytes:=24
 bpos:=by decide
 kpos:=by decide
 len h:=by rw[h.1];rfl
 one h:=by rw[h.1];exact zZ ⟨h.2.one,trivial⟩
 mono h _:=h
instance:Flat TypS:=⟨fun h=>h⟩
def FldRows (Ti:TypeId):List TypS→List Typ→List HP
 |s::sh,c::l=>RowE (α:=Fld) own Ti s.v c.fields::FldRows Ti sh l
 |_,_=>[]
theorem FldRows.get {Ti:TypeId}: ∀{sh:List TypS} {l:List Typ} {i:Nat},i<sh.length→i<l.length→(FldRows Ti sh l)[i]? =some (RowE (α:=Fld) own Ti (sh.getD i default).v (l.getD i default).fields)
 |_::_,_::_,0,_,_=>rfl
 |_::_,_::_,i+1,h1,h2=>by
  have:=FldRows.get (Ti:=Ti) (i:=i) (by simpa using h1) (by simpa using h2)
  simpa[FldRows]using this
 |[],_,i,h,_=>absurd h (Nat.not_lt_zero i)
 |_::_,[],i,_,h=>absurd h (Nat.not_lt_zero i)
theorem FldRows.set {Ti:TypeId}: ∀{sh:List TypS} {l:List Typ} (i:Nat) (c:Typ),FldRows Ti sh (l.set i c)=if i<sh.length∧i<l.length then(FldRows Ti sh l).set i (RowE (α:=Fld) own Ti (sh.getD i default).v c.fields)else FldRows Ti sh l
 |[],[],_,_=>by simp[FldRows]
 |_::_,_::_,0,_=>by simp[FldRows]
 |_::sh,_::l,i+1,c=>by
  simp only[List.set_cons_succ,FldRows]
  rw[FldRows.set i c]
  by_cases h:i<sh.length∧i<l.length
  ·rw[if_pos h,if_pos (by simpa using h)];simp
  ·rw[if_neg h,if_neg (by simpa using h)]
 |[],_::_,i,_=>by cases i<;>simp[FldRows]
 |_::_,[],_,_=>by simp[FldRows]
theorem FldRows.snoc {Ti:TypeId}: ∀{sh:List TypS} {l:List Typ} (s:TypS) (c:Typ),sh.length=l.length→FldRows Ti (sh++[s]) (l++[c])=FldRows Ti sh l++[RowE (α:=Fld) own Ti s.v c.fields]
 |[],[],_,_,_=>rfl
 |_::sh,_::l,s,c,h=>by simp only[List.cons_append,FldRows];rw[FldRows.snoc s c (by simpa using h)]
 |[],_::_,_,_,h=>by simp at h
 |_::_,[],_,_,h=>by simp at h
section
variable {G:Nat→Prop}{W w:World}{As:List HP}{T Ti:TypeId}{v:Value}{sh:List TypS}{l:List Typ}
def TypW (v:Value)(T Ti:TypeId)(l:List Typ):HP:=Ex1 fun sh:List TypS=>zaa (sh.length=l.length) (Star [RowE (α:=TypS) own T v sh,Star (FldRows Ti sh l)])
theorem TypW.open (h:Sep G W (TypW v T Ti l::As) w): ∃sh:List TypS,sh.length=l.length∧Sep G W (RowE (α:=TypS) own T v sh::Star (FldRows Ti sh l)::As) w:=by
 obtain⟨sh,h1⟩:=h.openEx
 obtain⟨h2,h3⟩:=h1.openAnd
 exact⟨sh,h2,h3.openStar⟩
theorem TypW.mk (h:Sep G W (RowE (α:=TypS) own T v sh::Star (FldRows Ti sh l)::As) w)(hn:sh.length=l.length):Sep G W (TypW v T Ti l::As) w:=
 Sep.closeEx (A:=fun sh:List TypS=>zaa (sh.length=l.length) (Star [RowE (α:=TypS) own T v sh,Star (FldRows Ti sh l)])) sh (Sep.closeAnd hn (Sep.closeStar (Bs:=[RowE (α:=TypS) own T v sh,Star (FldRows Ti sh l)]) h))
theorem TypW.rowP {f:Nat→Prop}(h:(TypW v T Ti l).p w f):(RowE (α:=Typ) own T v l).p w f:=by
 obtain⟨sh,hlen,hA⟩:=h
 obtain⟨fs,q1,q2⟩:=hA
 obtain⟨⟨css,hE,hown,hrow,hsm⟩,hf0⟩:=q1 0 _ rfl
 obtain⟨hSt,hf1⟩:=q1 1 _ rfl
 have q2':=q2 0 1 (by simp) (by simp) (by simp)
 have hcl:=hE.length
 refine⟨css,EP.of_at (by omega) (fun i h1 h2=>?_),by rw[←hlen];exact hown,fun b hb=>(hf0 b (hrow b hb)).1,by rw[←hlen];exact hsm⟩
 have hs:i<sh.length:=by omega
 have hcs:css[i]=sh[i].cells:=(EP.at2 hE i h1 hs).1
 have hr:(RowE (α:=Fld) own Ti (sh.getD i default).v (l.getD i default).fields).p w (fs 1):=Star.at_ hSt (FldRows.get hs h2)
 have hsoft:=RowE.soft hr
 rw[zK _ hs,zK _ h2]at hsoft
 refine⟨sh[i].v,?_,hsoft.mono (fun b hb hlt=>⟨rfl,⟨(hf1 b hb.1).1,fun e=>q2' b (hrow b e) hb.1⟩,hb.2⟩),⟨⟩⟩
 rw[hcs];rfl
theorem TypW.row (h:Sep G W (TypW v T Ti l::As) w):Sep G W (RowE (α:=Typ) own T v l::As) w:=h.impl (i:=0) rfl (fun _=>TypW.rowP)
theorem Sep.typSl (h:Sep G W As w){i:Nat}(hi:As[i]? =some (TypW v T Ti l)):IsSl v l.length:=by
 obtain⟨f,h1,_⟩:=h.get hi
 exact RowE.isSl (TypW.rowP h1)
theorem TypW.snoc {vf:Value}{c:Typ}(hlen:sh.length=l.length)(h:Sep G W (RowE (α:=TypS) own T v (sh++[⟨vf⟩])::Star (FldRows Ti sh l)::RowE (α:=Fld) own Ti vf c.fields::As) w):Sep G W (TypW v T Ti (l++[c])::As) w:=by
 have h1:Sep G W (RowE (α:=Fld) own Ti vf c.fields::Star (FldRows Ti sh l)::RowE (α:=TypS) own T v (sh++[⟨vf⟩])::As) w:=h.sel 3 [2,1,0] (Nat.le_add_left _ _) rfl rfl
 have h2:=h1.snocStar
 rw[←FldRows.snoc ⟨vf⟩ c hlen]at h2
 exact TypW.mk (h2.sel 2 [1,0] (Nat.le_add_left _ _) rfl rfl) (by rw[List.length_append,List.length_append,hlen];rfl)
theorem TypW.nil (h:Sep G W As w):Sep G W (TypW (.slice none 0 0) T Ti []::As) w:=TypW.mk (sh:=[]) (h.nilStar.rowNil own T) rfl
end
end
section
open Go.Proofs Go.RowKit
abbrev Zd:=And.intro (@Ev.cells.eq_1) (And.intro (@Mv.cells.eq_1) (And.intro (@Fld.cells.eq_1) (And.intro (@Typ.cells.eq_1) (And.intro (@Prj.cells.eq_1) (And.intro (@Dcl.cells.eq_1) (And.intro (@Cel.cells.eq_1) (And.intro (@AskR.cells.eq_1) (And.intro (@CelS.cells.eq_1) (And.intro (@Ent.cells.eq_1) (And.intro (@Sta.cells.eq_1) (@Cmd.cells.eq_1)))))))))))
theorem Kc {f:Fld}{df0:Value}(hdf0:RdS W G df0 f.moves)(of:f.Ok)(hS0:Sep G W Rs w):Ret Tryz.prog 123 [.agg (f.cells df0).toArray] w (fun r w'=> ∃(v:Value),r=(.agg (f.cells v).toArray:Value)∧Sep G W ((RowE (α:=Mv) own 143 v f.moves)::Rs) w'):=by
 have hdf0s:_*32≤_:=hdf0.small
 refine zm Tryz.func123 rfl rfl ?_
 refine za (R0 fun _=>st (zT rfl ?_))
 intro w3 b2 H
 refine st (zv oR ?_)
 intro w7 x I
 refine zb (za (R0 fun _=>st (aS Iz (zb (za (za (R0 fun _=>st (aS (Iv 0) (zb (zu ?_))))))))))
 have J:Sep _ _ ((RowE (α:=Mv) own 143 Iz [])::_) _:=((hS0.new H).new I).rowNil own 143
 refine yf (fun mq σ K=> ∃k vo ρ,mq=f.moves.length-k∧σ=yo ρ [(1,Ix b2 0),(2,Ix x 0),(4,Iw k),(3,vo)]∧(k≤f.moves.length)∧Sep G W ((RowE own 143 vo (f.moves.take k))::(Blk x #[Iv 0,Iv 0,.bool false,(Iz)] 106)::(Blk b2 (f.cells df0).toArray 106)::Rs) K) ⟨0,(Iz),_,rfl,sSf,zY _,J⟩ ?_
 rintro m11 σ12 w10 ⟨k,vo,ρl1,rfl,rfl,hkk,d⟩
 have y:=d.r0
 have hr14s:_*32≤_:=y.2
 refine za (za (R0 fun _=>st (mV (Iw k) (st (yQ rfl (st (lD df0 pR rfl (zd (d.b2) rfl) (st (zS sT rfl hdf0.sl (st (zI rfl rfl (zb ?_))))))))))))
 cases e:decide (((k:Nat):Int)<((f.moves.length:Nat):Int))
 have e:=fD e
 have hkn:k=f.moves.length:=by omega
 rw[hkn,List.take_of_length_le (Nat.le_refl f.moves.length)]at d
 have g:=d.r0
 have hr16s:_*32≤_:=g.2
 refine zf rfl (yh (zX (za (R0 fun _=>st (mV vo (st (yQ rfl (stn (yr (v:=vo) sY rfl rfl (d.b2) g.1.one rfl rfl ?_)))))))))
 intro w17 z
 have ok19:Fld.Ok f:=⟨(show InR (f.kind)from of.kind),(show InR (f.policy)from of.policy)⟩
 have h:=d.pt2 z
 refine zb (za (R0 fun _=>st (ze rT mT rfl rfl (zi (h.b2)) (stn (zr (v:=.agg (f.cells vo).toArray) mT rfl rfl (h.b1) (zZ ⟨rfl,rfl,rfl,g.1.one,zj⟩) yqc rfl ?_)))))
 intro w21 A
 have l:=h.pt1 A
 refine zb (zo (VU Tryz.results123 rT mT rfl rfl (zi (l.b1)) ?_))
 refine⟨vo,rfl,(l.s3_a)⟩
 have e:=tD e
 refine zg rfl (zp (za (zu (R0 fun _=>st (mV vo (st (yQ rfl (st (lD df0 pR rfl (zd (d.b2) rfl) (st (mV (Iw k) ?_)))))))))))
 have B:k<f.moves.length:=bo
 refine st (zn (k:=4) sT lR rfl hdf0.sl rfl B ?_)
 have m:k<f.moves.length:=bo
 obtain⟨q,o⟩:=hdf0.mvD m
 have s:=d.cells q (hdf0.foot (ne_of_lt m))
 refine st (ze tY lR rfl rfl s (st (zL (c:=((f.moves.gd k).cells).toArray) sT lR uY dc rfl kr ?_)))
 intro w31 b30 C
 have p:=d.new C
 have t:=p.b0
 refine st (yx (src:=own) (bytes:=32) (x1:=(f.moves.gd k)) ((p.s4_bcd).emp1) Jg rfl rfl t (fun _ _ _=>(show _ from⟨rfl,o⟩)) yqb rfl ?_)
 intro u w33 j
 have D:=j.r0
 have hr39s:_*32≤_:=D.2
 refine st (aS u (zb (R0 fun _=>st (mV (Iw k) ?_))))
 have E:InR ((k+1:Nat):Int):=bo
 refine st (zU (r:=((k+1:Nat):Int)) rfl rfl (by rw[show(((k:Nat):Int)+1:Int)=((k+1:Nat):Int)from bo];exact zJ E) (st (aS (Iw (k+1)) (zb ?_))))
 have F:(f.moves.take (k+1))=(f.moves.take k)++[(f.moves.gd k)]:=(List.take_getD om)
 rw[←F]at j
 exact⟨_,by omega,k+1,u,_,rfl,sSf,by omega,j⟩
theorem Ke {d:Dcl}{dd0:Value}(hdd0:RdS W G dd0 d.types){dd1:Value}(hdd1:RdS W G dd1 d.projs)(od:d.Ok)(hS0:Sep G W Rs w):Ret Tryz.prog 96 [.agg (d.cells dd0 dd1).toArray] w (fun r w'=> ∃(v1:Value) (v2:Value),r=(.agg (d.cells v1 v2).toArray:Value)∧Sep G W ((TypW v1 74 106 d.types)::(RowE (α:=Prj) own 112 v2 d.projs)::Rs) w'):=by
 have hdd0s:_*24≤_:=hdd0.small
 have hdd1s:_*40≤_:=hdd1.small
 refine zm (args:=[.agg (d.cells dd0 dd1).toArray]) Tryz.func96 rfl rfl ?_
 refine za (R0 fun _=>st (zT (v:=.agg (d.cells dd0 dd1).toArray) rfl ?_))
 intro w3 b2 cu
 refine st (zv vY ?_)
 intro w7 E cv
 refine zb (za (R0 fun _=>st (zv vY ?_)))
 intro w11 u cw
 refine zb (za (za (R0 fun _=>st (aS (Iv 0) (zb (zu ?_))))))
 have cg:Sep _ _ ((TypW Iz 74 106 [])::_) _:=TypW.nil (T:=74) (Ti:=106) (((hS0.new cu).new cv).new cw)
 refine yf (fun mq σ s=> ∃(k:Nat) (vo:Value) (ρ:Env),mq=d.types.length-k∧σ=yo ρ [(1,Ix b2 0),(2,Ix E 0),(3,Ix u 0),(4,Iw k)]∧(k≤d.types.length)∧Sep G W ((TypW vo 74 106 (d.types.take k))::(Blk u #[vo,(Iz)] 25)::(Blk E #[(Iz),(Iz)] 25)::(Blk b2 (d.cells dd0 dd1).toArray 25)::Rs) s) ⟨0,(Iz),_,rfl,sSf,zY _,cg⟩ ?_
 rintro m15 σ16 w14 ⟨k,vo,ρl1,rfl,rfl,hkk,M⟩
 refine za (za (R0 fun _=>st (mV (Iw k) (st (yJ rfl (st (lD dd0 tT rfl (zd (M.b3) rfl) (st (zS (n:=d.types.length) uT rfl hdd0.sl (st (zI (k:=.i64) (a:=((k:Nat):Int)) (b:=((d.types.length:Nat):Int)) rfl rfl (zb ?_))))))))))))
 cases N:decide (((k:Nat):Int)<((d.types.length:Nat):Int))
 have N:=fD N
 have hkn:k=d.types.length:=by omega
 rw[hkn,List.take_of_length_le (Nat.le_refl d.types.length)]at M
 refine zf rfl (yh (zX (za (za (R0 fun _=>st (aS (Iv 0) (zb (zu ?_))))))))
 have ch:Sep _ _ ((RowE (α:=Prj) own 112 Iz ([]:List Prj))::_) _:=M.rowNil own 112
 refine yf (fun mq σ s=> ∃(k:Nat) (vp:Value) (ρ:Env),mq=d.projs.length-k∧σ=yo ρ [(1,Ix b2 0),(2,Ix E 0),(3,Ix u 0),(7,Iw k)]∧(k≤d.projs.length)∧Sep G W ((RowE (α:=Prj) own 112 vp (d.projs.take k))::(TypW vo 74 106 d.types)::(Blk u #[vo,vp] 25)::(Blk E #[(Iz),(Iz)] 25)::(Blk b2 (d.cells dd0 dd1).toArray 25)::Rs) s) ⟨0,(Iz),_,rfl,sSf,zY _,ch⟩ ?_
 rintro m21 σ22 w20 ⟨k,vp,ρl2,rfl,rfl,hkk,y⟩
 have ci:=y.r0
 have hr24s:_*40≤_:=ci.2
 refine za (za (R0 fun _=>st (mV (Iw k) (st (Ym rfl (st (lD dd1 rR rfl (zd (y.b4) rfl) (st (zS (n:=d.projs.length) wR rfl hdd1.sl (st (zI (k:=.i64) (a:=((k:Nat):Int)) (b:=((d.projs.length:Nat):Int)) rfl rfl (zb ?_))))))))))))
 cases O:decide (((k:Nat):Int)<((d.projs.length:Nat):Int))
 have O:=fD O
 have hkn:k=d.projs.length:=by omega
 rw[hkn,List.take_of_length_le (Nat.le_refl d.projs.length)]at y
 have aM:=y.r0
 have hr26s:_*40≤_:=aM.2
 refine zf rfl (yh (zX (za (R0 fun _=>st (ze (k:=2) mR kR rfl rfl (zi (y.b2)) (stn (zr (v:=.agg (d.cells vo vp).toArray) (c':=(d.cells vo vp).toArray) kR rfl rfl (y.b3) (zZ ⟨(y.typSl (i:=1) rfl).one,aM.1.one,zj⟩) yqc rfl ?_)))))))
 intro cx cj
 have aN:=y.pt3 cj
 refine zb (zo (VU (b:=E) Tryz.results96 mR kR rfl rfl (zi (aN.b3)) ?_))
 have ck:Sep G W ((TypW vo 74 106 d.types)::(RowE (α:=Prj) own 112 vp d.projs)::Rs) cx:=aN.sel 5 [1,0] (yL _ _) rfl rfl
 refine⟨vo,vp,rfl,ck⟩
 have O:=tD O
 refine zg rfl (zp (za (zu ?_)))
 refine WD4 ((fun TT L C aO=>WF [fun vals s=>Sep G W (L::C::aO::TT) s,fun vals s=> ∃(x:Nat),(vals 7=((Iy x 1 1):Value))∧Sep G W ((Blk x ((d.projs.gd k).cells).toArray 112)::L::C::aO::TT) s,fun vals s=> ∃(x:Nat) (h:Value),(vals 7=((Iy x 1 1):Value))∧(vals 8=(h:Value))∧Sep G W ((RowE (α:=Prj) own 112 h ((d.projs.take k)++[(d.projs.gd k)]))::C::aO::TT) s,fun vals s=> ∃(x:Nat) (h:Value),(vals 7=((Iy x 1 1):Value))∧(vals 8=(h:Value))∧Sep G W ((RowE (α:=Prj) own 112 h ((d.projs.take k)++[(d.projs.gd k)]))::C::(Blk u (d.cells vo h).toArray 25)::TT) s]) ((Blk E #[(Iz),(Iz)] 25)::(Blk b2 (d.cells dd0 dd1).toArray 25)::Rs) (RowE (α:=Prj) own 112 vp (d.projs.take k)) (TypW vo 74 106 d.types) (Blk u #[vo,vp] 25)) (AF [Vl 0 (Ix u 1),Vl 1 vp,Vl 2 (Ix b2 1),Vl 3 dd1,Vl 4 (Iw k),Vl 5 (Ix (sb dd1) (so dd1+k*5)),Vl 6 (.agg ((d.projs.gd k).cells).toArray),fun _=>True,fun _=>True,Vl 9 (Ix u 1),fun _=>True]) [[],[0],[],[2],[],[2,3,4],[2,3,4,5],[2,3,4,5,6],(rg 8),(rg 9),(rg 10)] [7,8,10] [(0,1),(0,1),(0,0),(0,0),(0,0),(0,0),(0,0),(0,0),(1,1),(2,2),(2,2)] y ⟨fun _ _ _ _ _ _ _=>obl rfl (Ym rfl dR),?_,fun _ _ _ _ _ _ _=>obl rfl (Ym rfl dR),ob1 0 fun _ _ (bc:Sep _ _ _ _) bd=>obl rfl (lD dd1 rR (bd 2 dc) (zd (bc.b4) rfl) dR),fun _ _ _ _ _ _ _=>obl rfl (mV (Iw k) dR),?_,?_,?_,?_,fun _ _ _ _ _ _ _=>obl rfl (Ym rfl dR),?_,zj⟩ ?_
 refine fun P _ _ cl cm af ag=>?_
 have hkk:=xz cl cm
 rcases hkk with rfl|rfl
 have be:Sep _ _ _ _:=af
 exact obl rfl (lD vp rR (ag 0 dc) (zd (be.b2) rfl) dR)
 obtain⟨x,D,bf⟩:=af
 exact obl rfl (lD vp rR (ag 0 dc) (zd (bf.b3) rfl) dR)
 refine ob1 0 fun _ _ _ ah=>(obl rfl ?_)
 have bg:k<d.projs.length:=bo
 exact zn (k:=5) (i:=k) wR kY (ah 3 dc) hdd1.sl (ah 4 dc) bg dR
 refine ob1 0 fun _ _ (bh:Sep _ _ _ _) bi=>(obl rfl ?_)
 have ai:k<d.projs.length:=bo
 obtain⟨aP,hoke190⟩:=hdd1.prjD ai
 have aQ:=bh.cells aP (hdd1.foot (ne_of_lt ai))
 exact ze (k:=5) Tryz.isAgg112 kY rfl (bi 5 dc) aQ dR
 refine ob1 0 fun _ _ (cn:Sep _ _ _ _) co=>(obl rfl ((zL (k:=5) (parts':=[(0,.agg ((d.projs.gd k).cells).toArray)]) (c:=((d.projs.gd k).cells).toArray) wR kY Tryz.zeroValue112 dc (ZH ⟨rfl,(co 6 dc),zj⟩) kr ?_)))
 intro w96 x cp
 exact fun A H t=>⟨(exiA x (zG H (cn.new cp))),zj⟩
 refine ob1 1 fun _ _ bj bk=>?_
 obtain⟨x,D,aj⟩:=bj
 refine obl rfl ?_
 have aR:=aj.b0
 have ak:=(aj.s6_bcdef).emp1
 have al:k<d.projs.length:=bo
 obtain⟨aT,aI⟩:=hdd1.prjD al
 have hcw115:=ak.cells aT (hdd1.foot (ne_of_lt al))
 refine(yx (src:=own) (bytes:=40) (x1:=(d.projs.gd k)) ak el23 (bk 1 (by decide)) D aR (fun _ _ _=>(show _ from⟨rfl,aI⟩)) yqb rfl ?_)
 intro h w107 am
 have bl:=am.r0
 have hr116s:_*40≤_:=bl.2
 exact fun A H t=>⟨(exiA x (exiA h (zG ((t 7 dc).trans D) (zG H am)))),zj⟩
 refine ob1 2 fun _ _ bm bn=>?_
 obtain⟨x,h,D,Q,R⟩:=bm
 refine obl rfl ?_
 have an:=R.r0
 have hr134s:_*40≤_:=an.2
 refine(yr (v:=h) (c':=[vo,h]) Tryz.sizeOf23 (bn 9 dc) Q (R.b2) an.1.one rfl rfl ?_)
 intro w132 bp
 exact fun A H t=>⟨(exiA x (exiA h (zG ((t 7 dc).trans D) (zG ((t 8 dc).trans Q) (R.pt2 bp))))),zj⟩
 intro vals w199 bq hA201
 obtain⟨x,h,D,Q,ao⟩:=bq
 refine yd (kv:=[(1,Ix b2 0),(2,Ix E 0),(3,Ix u 0),(7,Iw k),(48,Iw k),(49,Ix b2 1),(50,dd1),(51,Iw d.projs.length),(52,.bool true)]) sEv (fun ρw199=>(zb (R0 fun _=>st (mV (Iw k) ?_))))
 have br:InR ((k+1:Nat):Int):=bo
 refine st (zU (r:=((k+1:Nat):Int)) (k:=.i64) (a:=((k:Nat):Int)) (b:=1) rfl rfl (by rw[show(((k:Nat):Int)+1:Int)=((k+1:Nat):Int)from bo];exact zJ br) (st (aS (Iw (k+1)) (zb ?_))))
 have bs:(d.projs.take (k+1))=(d.projs.take k)++[(d.projs.gd k)]:=(List.take_getD om)
 rw[←bs]at ao
 exact⟨_,by omega,k+1,h,_,rfl,sSf,by omega,ao⟩
 have N:=tD N
 refine zg rfl (zp (za (zu (za (R0 fun _=>?_)))))
 have ok205:Typ.Ok (⟨[]⟩:Typ):=⟨⟩
 refine st (zQ (parts':=[]) (v:=.agg ((⟨[]⟩:Typ).cells Iz).toArray) rfl (by simp[Instr.build,Instr.fill,go_sem,Zd]) (st (zv wY ?_)))
 intro w208 z bt
 have ap:=M.new bt
 refine stn (zr (v:=.agg ((⟨[]⟩:Typ).cells Iz).toArray) (c':=((⟨[]⟩:Typ).cells Iz).toArray) vT rfl rfl (ap.b0) (zZ ⟨rfl,zj⟩) yqc rfl ?_)
 intro w210 bu
 refine zb (za (za (R0 fun _=>st (aS (Iv 0) (zb (zu ?_))))))
 have bv:Sep _ _ ((RowE (α:=Fld) own 106 Iz ([]:List Fld))::_) _:=(ap.pt0 bu).rowNil own 106
 refine yf (fun mq σ s=> ∃(q:Nat) (vq:Value) (ρ:Env),mq=((d.types.gd k).fields).length-q∧σ=yo ρ [(1,Ix b2 0),(2,Ix E 0),(3,Ix u 0),(4,Iw k),(5,Ix z 0),(6,Iw q)]∧(q≤((d.types.gd k).fields).length)∧Sep G W ((RowE (α:=Fld) own 106 vq (((d.types.gd k).fields).take q))::(Blk z #[vq] 74)::(TypW vo 74 106 (d.types.take k))::(Blk u #[vo,(Iz)] 25)::(Blk E #[(Iz),(Iz)] 25)::(Blk b2 (d.cells dd0 dd1).toArray 25)::Rs) s) ⟨0,(Iz),_,rfl,sSf,zY _,bv⟩ ?_
 rintro m215 σ216 w214 ⟨q,vq,ρl3,rfl,rfl,hkq,o⟩
 have bw:=o.r0
 have hr218s:_*48≤_:=bw.2
 refine za (za (R0 fun _=>st (mV (Iw q) (st (yJ rfl (st (lD dd0 tT rfl (zd (o.b5) rfl) (st (mV (Iw k) ?_)))))))))
 have bx:k<d.types.length:=bo
 refine st (zn (k:=1) (i:=k) uT vT rfl hdd0.sl rfl bx (st (xi rfl ?_)))
 have S:k<d.types.length:=bo
 obtain⟨ab,g,hoke220⟩:=hdd0.typD S
 have hsm222:((d.types.gd k).fields).length*48≤140737488355328:=g.small
 have aU:=o.cells ab (hdd0.foot (ne_of_lt S))
 refine st (lD (zV W (sb dd0) (so dd0+k*1+0)) wT rfl (aU.get (j:=0) rfl) (st (zS (n:=((d.types.gd k).fields).length) qR rfl g.sl (st (zI (k:=.i64) (a:=((q:Nat):Int)) (b:=((((d.types.gd k).fields).length:Nat):Int)) rfl rfl (zb ?_))))))
 cases F:decide (((q:Nat):Int)<((((d.types.gd k).fields).length:Nat):Int))
 have F:=fD F
 have hkn:q=((d.types.gd k).fields).length:=by omega
 rw[hkn,List.take_of_length_le (Nat.le_refl ((d.types.getD k default).fields).length)]at o
 have aq:=o.r0
 have hr225s:_*48≤_:=aq.2
 refine zf rfl (yh (zX (R0 fun _=>st (yJ rfl (st (lD vo tT rfl (zd (o.b3) rfl) ?_))))))
 have ok226:Typ.Ok (d.types.gd k):=⟨⟩
 refine st (ze (k:=1) Tryz.isAgg74 vT rfl rfl (zi (o.b1)) (st (zL (k:=1) (parts':=[(0,.agg ((d.types.gd k).cells vq).toArray)]) (c:=((d.types.gd k).cells vq).toArray) uT vT wY dc rfl kr ?_)))
 intro cq cr bz
 obtain⟨ar,ac,bA⟩:=TypW.open ((o.new bz).mv3)
 have I:Sep G W ((RowE (α:=TypS) own 74 vo ar)::(Star (FldRows 106 ar (d.types.take k)))::(Blk cr ((d.types.gd k).cells vq).toArray 74)::(RowE (α:=Fld) own 106 vq ((d.types.gd k).fields))::(Blk z #[vq] 74)::(Blk u #[vo,(Iz)] 25)::(Blk E #[(Iz),(Iz)] 25)::(Blk b2 (d.cells dd0 dd1).toArray 25)::Rs) cq:=bA
 have bB:=I.r0
 have hr235s:_*24≤_:=bB.2
 have aJ:=ac
 rw[List.length_take]at aJ
 have aV:=I.b2
 refine st (yx (src:=own) (bytes:=24) (x1:=(⟨vq⟩:TypS)) ((I.s8_abdefgh).emp1) el22 rfl rfl aV (fun _ _ _=>(show _ from⟨rfl,⟨aq.1.one⟩⟩)) yqb rfl ?_)
 intro U w236 au
 have bC:=au.r0
 have hr242s:_*24≤_:=bC.2
 have V:Sep _ _ ((TypW U 74 106 ((d.types.take k)++[(d.types.gd k)]))::_) _:=TypW.snoc (c:=(d.types.gd k)) ac au
 refine st (yJ rfl (stn (yr (v:=U) (c':=[U,(Iz)]) Tryz.sizeOf22 rfl rfl (V.b2) (V.typSl (i:=0) rfl).one rfl rfl ?_)))
 intro w244 bD
 refine zb (R0 fun _=>st (mV (Iw k) ?_))
 have bE:InR ((k+1:Nat):Int):=bo
 refine st (zU (r:=((k+1:Nat):Int)) (k:=.i64) (a:=((k:Nat):Int)) (b:=1) rfl rfl (by rw[show(((k:Nat):Int)+1:Int)=((k+1:Nat):Int)from bo];exact zJ bE) (st (aS (Iw (k+1)) (zb ?_))))
 have av:=(V.pt2 bD).s5_acde
 have bF:d.types.take (k+1)=((d.types.take k)++[(d.types.gd k)]):=(List.take_getD om)
 rw[←bF]at av
 exact⟨_,by omega,k+1,U,_,rfl,sSf,by omega,av⟩
 have F:=tD F
 refine zg rfl (zp (za (zu ?_)))
 refine WD4 ((fun TT L C=>WF [fun vals s=>Sep G W (L::C::TT) s,fun vals s=> ∃(e:Value),(vals 11=(.agg ((((d.types.gd k).fields).gd q).cells e).toArray:Value))∧Sep G W ((RowE (α:=Mv) own 143 e ((((d.types.gd k).fields).gd q).moves))::L::C::TT) s,fun vals s=> ∃(e:Value) (l:Nat),(vals 11=(.agg ((((d.types.gd k).fields).gd q).cells e).toArray:Value))∧(vals 12=((Iy l 1 1):Value))∧Sep G W ((Blk l ((((d.types.gd k).fields).gd q).cells e).toArray 106)::(RowE (α:=Mv) own 143 e ((((d.types.gd k).fields).gd q).moves))::L::C::TT) s,fun vals s=> ∃(e:Value) (l:Nat) (m:Value),(vals 11=(.agg ((((d.types.gd k).fields).gd q).cells e).toArray:Value))∧(vals 12=((Iy l 1 1):Value))∧(vals 13=(m:Value))∧Sep G W ((RowE (α:=Fld) own 106 m ((((d.types.gd k).fields).take q)++[(((d.types.gd k).fields).gd q)]))::C::TT) s,fun vals s=> ∃(e:Value) (l:Nat) (m:Value),(vals 11=(.agg ((((d.types.gd k).fields).gd q).cells e).toArray:Value))∧(vals 12=((Iy l 1 1):Value))∧(vals 13=(m:Value))∧Sep G W ((RowE (α:=Fld) own 106 m ((((d.types.gd k).fields).take q)++[(((d.types.gd k).fields).gd q)]))::(Blk z #[m] 74)::TT) s]) ((TypW vo 74 106 (d.types.take k))::(Blk u #[vo,(Iz)] 25)::(Blk E #[(Iz),(Iz)] 25)::(Blk b2 (d.cells dd0 dd1).toArray 25)::Rs) (RowE (α:=Fld) own 106 vq (((d.types.gd k).fields).take q)) (Blk z #[vq] 74)) (AF [Vl 0 (Ix z 0),Vl 1 vq,Vl 2 (Ix b2 0),Vl 3 dd0,Vl 4 (Iw k),Vl 5 (Ix (sb dd0) (so dd0+k*1)),Vl 6 (Ix (sb dd0) (so dd0+k*1)),Vl 7 ((zV W (sb dd0) (so dd0+k*1+0))),Vl 8 (Iw q),Vl 9 (Ix (sb (zV W (sb dd0) (so dd0+k*1+0))) (so (zV W (sb dd0) (so dd0+k*1+0))+q*4)),Vl 10 (.agg ((((d.types.gd k).fields).gd q).cells (zV W (sb (zV W (sb dd0) (so dd0+k*1+0))) (so (zV W (sb dd0) (so dd0+k*1+0))+q*4+3))).toArray),fun _=>True,fun _=>True,fun _=>True,Vl 14 (Ix z 0),fun _=>True]) [[],[0],[],[2],[],[2,3,4],[2,3,4,5],[2,3,4,5,6],[],[2,3,4,5,6,7,8],[2,3,4,5,6,7,8,9],[2,3,4,5,6,7,8,9,10],[2,3,4,5,6,7,8,9,10,11],(rg 13),(rg 14),(rg 15)] [11,12,13,15] [(0,2),(0,2),(0,0),(0,0),(0,0),(0,0),(0,0),(0,0),(0,0),(0,0),(0,0),(0,0),(1,1),(2,2),(3,3),(3,3)] o ⟨fun _ _ _ _ _ _ _=>obl rfl (xi rfl dR),?_,fun _ _ _ _ _ _ _=>obl rfl (yJ rfl dR),ob1 0 fun _ _ (bG:Sep _ _ _ _) bH=>obl rfl (lD dd0 tT (bH 2 dc) (zd (bG.b5) rfl) dR),fun _ _ _ _ _ _ _=>obl rfl (mV (Iw k) dR),?_,fun _ _ _ _ _ _ bI=>obl rfl (xi (bI 5 dc) dR),?_,fun _ _ _ _ _ _ _=>obl rfl (mV (Iw q) dR),?_,?_,?_,?_,?_,fun _ _ _ _ _ _ _=>obl rfl (xi rfl dR),?_,zj⟩ ?_
 refine fun J _ _ cs ct X Y=>?_
 have hkk:=zaw cs ct
 rcases hkk with rfl|rfl|rfl
 have bJ:Sep _ _ _ _:=X
 exact obl rfl (lD vq wT (Y 0 dc) (zd (bJ.b1) rfl) dR)
 obtain⟨e,p,bK⟩:=X
 exact obl rfl (lD vq wT (Y 0 dc) (zd (bK.b2) rfl) dR)
 obtain⟨e,l,p,B,bL⟩:=X
 exact obl rfl (lD vq wT (Y 0 dc) (zd (bL.b3) rfl) dR)
 refine ob1 0 fun _ _ _ aw=>(obl rfl ?_)
 have bM:k<d.types.length:=bo
 exact zn (k:=1) (i:=k) uT vT (aw 3 dc) hdd0.sl (aw 4 dc) bM dR
 refine ob1 0 fun _ _ (bN:Sep _ _ _ _) bO=>(obl rfl ?_)
 have aW:=bN.cells ab (hdd0.foot (ne_of_lt S))
 exact lD (zV W (sb dd0) (so dd0+k*1+0)) wT (bO 6 dc) (aW.get (j:=0) rfl) dR
 refine ob1 0 fun _ _ _ ax=>(obl rfl ?_)
 have bP:q<((d.types.gd k).fields).length:=bo
 exact zn (k:=4) (i:=q) qR mT (ax 7 dc) g.sl (ax 8 dc) bP dR
 refine ob1 0 fun _ _ (bQ:Sep _ _ _ _) bR=>(obl rfl ?_)
 have ay:q<((d.types.gd k).fields).length:=bo
 obtain⟨aX,ad,hoke494⟩:=g.fldD ay
 have hsm496:((((d.types.gd k).fields).gd q).moves).length*32≤140737488355328:=ad.small
 have aY:=bQ.cells aX (g.foot (ne_of_lt ay))
 exact ze (k:=4) rT mT rfl (bR 9 dc) aY dR
 refine ob1 0 fun vals _ (az:Sep _ _ _ _) bS=>(obl rfl ?_)
 have aA:q<((d.types.gd k).fields).length:=bo
 obtain⟨aZ,K,aK⟩:=g.fldD aA
 have hsm349:((((d.types.gd k).fields).gd q).moves).length*32≤140737488355328:=K.small
 have hcw350:=az.cells aZ (g.foot (ne_of_lt aA))
 refine(zO (f:=123) (vals:=[.agg ((((d.types.gd k).fields).gd q).cells (zV W (sb (zV W (sb dd0) (so dd0+k*1+0))) (so (zV W (sb dd0) (so dd0+k*1+0))+q*4+3))).toArray]) (cap:=[]) rfl (yK ⟨(bS 10 dc),zj⟩) Tryz.call123 (Kc (f:=(((d.types.gd k).fields).gd q)) K aK az) ?_)
 rintro _ w352 ⟨e,rfl,aB⟩
 have bT:=aB.r0
 have hr354s:_*32≤_:=bT.2
 exact fun A H t=>⟨(exiA e (zG H aB)),zj⟩
 refine ob1 1 fun _ _ bU _=>?_
 obtain⟨e,p,bV⟩:=bU
 refine obl rfl ((zL (k:=4) (parts':=[(0,.agg ((((d.types.gd k).fields).gd q).cells e).toArray)]) (c:=((((d.types.gd k).fields).gd q).cells e).toArray) qR mT oR dc (ZH ⟨rfl,p,zj⟩) kr ?_))
 intro w365 l bW
 exact fun A H t=>⟨(exiA e (exiA l (zG ((t 11 dc).trans p) (zG H (bV.new bW))))),zj⟩
 refine ob1 2 fun _ _ bX bY=>?_
 obtain⟨e,l,p,B,aC⟩:=bX
 refine obl rfl ?_
 have ba:=aC.b0
 have aD:=aC.s8_cbdefgh
 have aE:q<((d.types.gd k).fields).length:=bo
 obtain⟨bb,ae,aL⟩:=g.fldD aE
 have hsm383:((((d.types.gd k).fields).gd q).moves).length*32≤140737488355328:=ae.small
 have hcw384:=aD.cells bb (g.foot (ne_of_lt aE))
 refine(yx (src:=own) (bytes:=48) (x1:=(((d.types.gd k).fields).gd q)) aD el72 (bY 1 (by decide)) B ba (fun _ _ hN=>⟨_,rfl,RowE.soft hN,aL⟩) yqb rfl ?_)
 intro m w376 aF
 have bZ:=aF.r0
 have hr385s:_*48≤_:=bZ.2
 exact fun A H t=>⟨(exiA e (exiA l (exiA m (zG ((t 11 dc).trans p) (zG ((t 12 dc).trans B) (zG H aF)))))),zj⟩
 refine ob1 3 fun _ _ ca cb=>?_
 obtain⟨e,l,m,p,B,Z,aa⟩:=ca
 refine obl rfl ?_
 have aG:=aa.r0
 have hr403s:_*48≤_:=aG.2
 refine(yr (v:=m) (c':=[m]) Tryz.sizeOf72 (cb 14 dc) Z (aa.b1) aG.1.one rfl rfl ?_)
 intro w401 cc
 exact fun A H t=>⟨(exiA e (exiA l (exiA m (zG ((t 11 dc).trans p) (zG ((t 12 dc).trans B) (zG ((t 13 dc).trans Z) (aa.pt1 cc))))))),zj⟩
 intro vals w504 cd hA506
 obtain⟨e,l,m,p,B,Z,aH⟩:=cd
 refine yd (kv:=[(1,Ix b2 0),(2,Ix E 0),(3,Ix u 0),(4,Iw k),(5,Ix z 0),(6,Iw q),(16,Iw q),(17,Ix b2 0),(18,dd0),(19,Iw k),(20,Ix (sb dd0) (so dd0+k*1)),(21,Ix (sb dd0) (so dd0+k*1)),(22,(zV W (sb dd0) (so dd0+k*1+0))),(23,Iw (((d.types.gd k).fields).length)),(24,.bool true)]) sEv (fun ρw504=>(zb (R0 fun _=>st (mV (Iw q) ?_))))
 have ce:InR ((q+1:Nat):Int):=bo
 refine st (zU (r:=((q+1:Nat):Int)) (k:=.i64) (a:=((q:Nat):Int)) (b:=1) rfl rfl (by rw[show(((q:Nat):Int)+1:Int)=((q+1:Nat):Int)from bo];exact zJ ce) (st (aS (Iw (q+1)) (zb ?_))))
 have cf:(((d.types.gd k).fields).take (q+1))=(((d.types.gd k).fields).take q)++[(((d.types.gd k).fields).gd q)]:=(List.take_getD om)
 rw[←cf]at aH
 exact⟨_,by omega,q+1,m,_,rfl,sSf,by omega,aH⟩
def rJ (d:Dcl)(e:Ev)(x:Ent):Bool:=on3 (e.typ,e.agg,e.field) x&&xt ((xR d e.typ).fields.getD e.field.toNat default) x.ev e
theorem YC {p:Ent→Bool}{q:Ev→Bool}: ∀(T:List Ent),((T.filter p).map (·.ev)).find? q=(T.find? (fun x=>p x&&q x.ev)).map (·.ev)
 |[]=>rfl
 |x::T=>by
  have ih:=YC (p:=p) (q:=q) T
  rw[List.filter_cons,List.find?_cons]
  cases hp:p x with
  |false=>simp[ih]
  |true=>
   simp only[if_true,List.map_cons,List.find?_cons,Bool.true_and]
   cases hq:q x.ev with
   |true=>rfl
   |false=>exact ih
theorem QQ {r:Ent→Bool}: ∀{T:List Ent} {j:Nat},j<T.length→r (T.getD j default)=true→(∀j',j'<j→r (T.getD j' default)=false)→T.find? r=some (T.getD j default)
 |[],j,hj,_,_=>absurd hj (Nat.not_lt_zero j)
 |x::T,0,_,h1,_=>by have h1:r x=true:=h1;rw[List.find?_cons,h1];rfl
 |x::T,j+1,hj,h1,h0=>by
  have hx:r x=false:=h0 0 (Nat.succ_pos _)
  rw[List.find?_cons,hx]
  exact QQ (by simpa using hj) h1 (fun i hi=>h0 (i+1) (by omega))
theorem zcw {r:Ent→Bool}{T:List Ent}(h: ∀j,j<T.length→r (T.getD j default)=false):T.find? r=none:=by
 rw[List.find?_eq_none]
 intro x hx
 obtain⟨i,hi,rfl⟩:=List.getElem_of_mem hx
 have:=h i hi
 rw[zK _ hi]at this
 rw[this];decide
theorem Jx {d:Dcl}{l:List Ev}: ∀{i:Nat},i<l.length→(zq d l).getD i default=yI d ((zq d l).take i) (l.getD i default):=by
 induction l using Yr with
 |h0=>intro i hi;exact absurd hi (Nat.not_lt_zero i)
 |h1 l e ih=>
  intro i hi
  rw[xT]
  have hl:=xH d l
  rw[List.length_append,List.length_singleton]at hi
  rcases Nat.lt_or_ge i l.length with h|h
  ·rw[List.getD_eq_getElem?_getD,List.getElem?_append_left (by omega),←List.getD_eq_getElem?_getD,ih h,List.take_append_of_le_length (by omega)]
   congr 1
   rw[List.getD_eq_getElem?_getD,List.getD_eq_getElem?_getD,List.getElem?_append_left h]
  ·have e1:i=l.length:=by omega
   subst e1
   rw[List.getD_eq_getElem?_getD,List.getElem?_append_right (by omega),hl,Nat.sub_self,List.take_append_of_le_length (by omega),List.take_of_length_le (by omega)]
   show yI d (zq d l) e=_
   congr 1
   rw[List.getD_eq_getElem?_getD,List.getElem?_append_right (Nat.le_refl _),Nat.sub_self];rfl
theorem zdE {d:Dcl}{l:List Ev}{i:Nat}(h:i<l.length):((zq d l).getD i default).ev=l.getD i default:=by rw[Jx h];rfl
theorem zan (d:Dcl)(l:List Ev)(n:Nat):zq d (l.take n)=(zq d l).take n:=by
 induction l using Yr with
 |h0=>rw[List.take_nil,show zq d []=[]from rfl,List.take_nil]
 |h1 l e ih=>
  rcases Nat.lt_or_ge l.length n with h|h
  ·rw[List.take_of_length_le (by rw[List.length_append,List.length_singleton];omega),List.take_of_length_le (by rw[xH,List.length_append,List.length_singleton];omega)]
  ·rw[List.take_append_of_le_length h,ih,xT,List.take_append_of_le_length (by rw[xH];exact h)]
theorem zcX {d:Dcl}{ty ag:Int}(l:List Ev)(h: ¬yn (ty,ag) (zq d l)=0):0≤ty∧ty<d.types.length:=by
 induction l using Yr with
 |h0=>exact absurd rfl h
 |h1 l e ih=>
  rw[xT,Zw]at h
  split at h
  ·rename_i hx
   unfold onL at hx
   simp only[Bool.and_eq_true,Bool.not_eq_true',decide_eq_true_eq]at hx
   obtain⟨hv,ht,ha⟩:=hx
   obtain⟨hf,hm⟩:=XX (d:=d) (L:=zq d l) (e:=e) hv
   obtain⟨f1,f2,_⟩:=ZM hf
   have ht':e.typ=ty:=ht
   subst ht'
   exact⟨f1,f2⟩
  ·exact ih h
theorem onL_raw {a b:Int}{x:Ent}:onL (a,b) x=(((!x.void)&&decide (x.ev.typ=a))&&decide (x.ev.agg=b)):=by
 unfold onL;cases x.void<;>simp[Bool.and_comm,Bool.decide_and]
theorem ver_t {k:Int×Int}{L:List Ent}{j:Nat}(hj:j<L.length)(h:onL k (L.getD j default)=true):yn k (L.take (j+1))=yn k (L.take j)+1:=by
 have e:L.take (j+1)=L.take j++[L.getD j default]:=by rw[List.take_add_one,List.getElem?_eq_getElem hj,List.getD_eq_getElem?_getD,List.getElem?_eq_getElem hj];rfl
 rw[e,Zw,if_pos h]
theorem ver_f {k:Int×Int}{L:List Ent}{j:Nat}(hj:j<L.length)(h:onL k (L.getD j default)=false):yn k (L.take (j+1))=yn k (L.take j):=by
 have e:L.take (j+1)=L.take j++[L.getD j default]:=by rw[List.take_add_one,List.getElem?_eq_getElem hj,List.getD_eq_getElem?_getD,List.getElem?_eq_getElem hj];rfl
 rw[e,Zw,h];rfl
theorem xG (d:Dcl)(ty f op arg:Int):xb d ty f op arg=if yM d ty f=false then 8 else if op=1 then(if ¬(ym d ty f).kind=1 then 2 else if arg=0 then 1 else 0)else if op=2 then(if ¬(ym d ty f).kind=2 then 2 else 0)
 else if op=3∨op=4 then(if ¬(ym d ty f).kind=3 then 2 else 0)else if op=5 then(if ¬(ym d ty f).kind=4 then 2 else if arg<0∨((ym d ty f).moves.length:Int)≤arg then 1 else 0)else 2:=by
 unfold xb
 cases hB:yM d ty f
 ·rfl
 ·generalize ym d ty f=F
  by_cases h1:op=1
  ·subst h1
   simp only[show kindsL.getD (1:Int).toNat 0=1 from rfl]
   by_cases h:F.kind=1<;>by_cases h2:arg=0<;>simp[h,h2,eq_comm]
  by_cases h2:op=2
  ·subst h2
   simp only[show kindsL.getD (2:Int).toNat 0=2 from rfl]
   by_cases h:F.kind=2<;>simp[h,eq_comm]
  by_cases h3:op=3
  ·subst h3
   simp only[show kindsL.getD (3:Int).toNat 0=3 from rfl]
   by_cases h:F.kind=3<;>simp[h,eq_comm]
  by_cases h4:op=4
  ·subst h4
   simp only[show kindsL.getD (4:Int).toNat 0=3 from rfl]
   by_cases h:F.kind=3<;>simp[h,eq_comm]
  by_cases h5:op=5
  ·subst h5
   simp only[show kindsL.getD (5:Int).toNat 0=4 from rfl]
   by_cases h:F.kind=4
   ·by_cases h6:arg<0∨(F.moves.length:Int)≤arg
    ·have:(decide (0≤arg)&&decide (arg≤(F.moves.length:Int)-1))=false:=by
      rw[Bool.and_eq_false_iff]
      rcases h6 with h6|h6
      ·exact .inl (decide_eq_false (by omega))
      ·exact .inr (decide_eq_false (by omega))
     rw[this,if_pos h6];simp[h]
    ·have:(decide (0≤arg)&&decide (arg≤(F.moves.length:Int)-1))=true:=by
      rw[decide_eq_true (by omega),decide_eq_true (by omega)];rfl
     rw[this,if_neg h6];simp[h]
   ·simp[h,eq_comm]
  ·have:(decide (1≤op)&&decide (op≤5))=false:=by
    rw[Bool.and_eq_false_iff]
    rcases Int.lt_or_le op 1 with h6|h6
    ·exact .inl (decide_eq_false (by omega))
    ·exact .inr (decide_eq_false (by omega))
   simp[this,h1,h2,h3,h4,h5]
theorem Qy {v:List Int}{o:Int}(h: ¬((0≤o∧o<v.length)∧0<v.getD o.toNat 0)):yz v o=0:=by
 unfold yz;split
 ·rfl
 ·omega
theorem Jj {v:List Int}{o:Int}(h:(0≤o∧o<v.length)∧0<v.getD o.toNat 0):yz v o=v.getD o.toNat 0:=by
 unfold yz;rw[if_neg (by omega)];omega
theorem Xg {f:Fld}{x e:Ev}:xt f x e=if((!xZ x e)||(!YN f.kind x.op x.arg e.op e.arg))=true then false else if decide (f.policy=3)=true then decide (e.arg<x.arg)else decide (f.policy=2):=by
 unfold xt
 cases xZ x e<;>cases YN f.kind x.op x.arg e.op e.arg<;>simp
 by_cases h:f.policy=3
 ·simp[h]
 ·simp[h]
theorem XU {a b:Ev}:xZ a b=if(decide (a.origin=b.origin)&&decide (a.seq=b.seq))=true then false else((!ZR a b)&&(!ZR b a)):=by
 unfold xZ
 by_cases h:a.origin=b.origin<;>by_cases h2:a.seq=b.seq<;>simp[h,h2]
theorem Wy {k oA aA oB aB:Int}:YN k oA aA oB aB=if decide (k=2)=true then((decide (oA=2)&&decide (oB=2))&& !decide (aA=aB))else if decide (k=4)=true then((decide (oA=5)&&decide (oB=5))&& !decide (aA=aB))
 else if(decide (k=3)&&decide (aA=aB))=true then((decide (oA=3)&&decide (oB=4))||(decide (oA=4)&&decide (oB=3)))else false:=by
 unfold YN
 by_cases h2:k=2
 ·subst h2
  by_cases ha:oA=2<;>by_cases hb:oB=2<;>simp[ha,hb]
 by_cases h4:k=4
 ·subst h4
  by_cases ha:oA=5<;>by_cases hb:oB=5<;>simp[ha,hb]
 by_cases h3:k=3
 ·subst h3
  by_cases ha:aA=aB
  ·subst ha;simp
  ·have ha': ¬aB=aA:=fun e=>ha e.symm
   simp[ha,ha']
 ·simp[h2,h3,h4]
theorem WW {vv:Value}{v:List Int}(hv:RdS W G vv v){o:Int}(ho:InR o)(hS0:Sep G W Rs w):Ret Tryz.prog 86 [vv,.int .i64 (o)] w (fun r w'=>r=(.int .i64 (yz v o):Value)∧(InR (yz v o))∧Sep G W Rs w'):=by
 refine zm Tryz.func86 rfl rfl ?_
 refine za (R0 fun _=>st (aS (Iv 0) (zb (za (za (zy kr (st (mV (Iv o) (st (xh rfl rfl (st (mV (.bool (decide (0≤o))) (stc (V:=Iv o) rfl rfl (fun C=>?_) ?_)))))))))))))
 exact mV (Iv o) rflB
 refine stc (V:=vv) rfl rfl (fun D=>?_) ?_
 exact mV vv rflB
 refine stc (V:=Iw v.length) rfl rfl (fun t=>?_) ?_
 exact zS oT (ifpC t) hv.sl rflB
 refine stc (V:=.bool (decide (o<((v.length:Nat):Int)))) rfl rfl (fun d=>?_) ?_
 exact zI (ifpC d) (ifpC d) rflB
 refine st (zF rfl (fun hbp=>(ifpC hbp)) (st (mV (.bool ((decide (0≤o))&&(decide (o<((v.length:Nat):Int))))) (stc (V:=vv) rfl rfl (fun E=>?_) ?_))))
 have u:=E
 try simp only[zh]at u
 exact mV vv rflB
 refine stc (V:=Iv o) rfl rfl (fun x=>?_) ?_
 have y:=x
 try simp only[zh]at y
 exact mV (Iv o) rflB
 refine stc (V:=Ix (sb vv) (so vv+o.toNat*1)) rfl rfl (fun c=>?_) ?_
 have z:=c
 try simp only[zh]at z
 exact zA oT qT (ifpC c) hv.sl (ifpC c) ⟨by omega,by omega⟩ rflB
 refine stc (V:=Iv ((v.getD o.toNat 0))) rfl rfl (fun e=>?_) ?_
 have A:=e
 try simp only[zh]at A
 have f:o.toNat<v.length:=bo
 obtain⟨m,hxe18⟩:=hv.intD f
 have p:=hS0.cells m (hv.foot (ne_of_lt f))
 exact lD (Iv ((v.getD o.toNat 0))) kT (ifpC e) (p.get (j:=0) rfl) rflB
 refine stc (V:=.bool (decide (0<(v.getD o.toNat 0)))) rfl rfl (fun g=>?_) ?_
 have B:=g
 try simp only[zh]at B
 exact xj (k:=.i64) (a:=(v.getD o.toNat 0)) (b:=0) (ifpC g) rfl rflB
 refine st (zF rfl (fun hbp=>(ifpC hbp)) (zb ?_))
 cases h:((decide (0≤o))&&(decide (o<((v.length:Nat):Int))))&&(decide (0<(v.getD o.toNat 0)))
 try simp only[zh]at h
 refine zf rfl (zp (za (R0 fun _=>st (aS (Iv 0) (zb (zo (zN kA (show _=(Iv 0:Value)from rfl) ?_)))))))
 refine⟨?_,?_,hS0⟩
 congr 1;exact(Qy om).symm
 rw[Qy (by omega)];decide
 try simp only[zh]at h
 refine zg rfl (za (R0 fun _=>st (mV vv (st (mV (Iv o) ?_)))))
 refine st (zA oT qT rfl hv.sl rfl ⟨by omega,by omega⟩ ?_)
 have l:o.toNat<v.length:=bo
 obtain⟨q,hxe25⟩:=hv.intD l
 have s:=hS0.cells q (hv.foot (ne_of_lt l))
 refine st (lD (Iv ((v.getD o.toNat 0))) kT rfl (s.get (j:=0) rfl) (st (aS (Iv ((v.getD o.toNat 0))) (zb (zo (zN kA (show _=(Iv ((v.getD o.toNat 0)):Value)from rfl) ?_))))))
 refine⟨?_,?_,hS0⟩
 congr 1;exact(Jj om).symm
 rw[Jj (by omega)];assumption
theorem Wj {a:Ev}{da0:Value}(hda0:RdS W G da0 a.deps)(oa:a.Ok){b:Ev}{db0:Value}(hdb0:RdS W G db0 b.deps)(ob:b.Ok)(hS0:Sep G W Rs w):Ret Tryz.prog 154 [.agg (a.cells da0).toArray,.agg (b.cells db0).toArray] w (fun r w'=>r=(.bool ((ZR a b)):Value)∧Sep G W Rs w'):=by
 refine zm Tryz.func154 rfl rfl ?_
 refine za (R0 fun _=>st (zT rfl ?_))
 intro w3 b2 L
 refine st (zT rfl ?_)
 intro w7 D M
 refine st (aS (.bool false) (zb (za ?_)))
 refine WD4 ((fun TT C=>WF [fun vals E=>Sep G W (C::TT) E,fun vals E=>(vals 5=(Iv (yz b.deps a.origin):Value))∧(InR (yz b.deps a.origin))∧Sep G W (C::TT) E]) ((Blk b2 (a.cells da0).toArray 44)::Rs) (Blk D (b.cells db0).toArray 44)) (AF [Vl 0 (Ix D 3),Vl 1 db0,Vl 2 (Ix b2 0),Vl 3 (Ix b2 0),Vl 4 (Iv (a.origin)),fun _=>True,Vl 6 (Ix b2 0),Vl 7 (Ix b2 1),Vl 8 (Iv (a.seq)),Vl 9 (.bool (decide (a.seq≤(yz b.deps a.origin)))),Vl 10 (.bool (decide (a.seq≤(yz b.deps a.origin))))]) [[],[0],[],[2],[2,3],(rg 5),[],[6],[6,7],(rg 9),(rg 10)] [5] [(0,0),(0,0),(0,0),(0,0),(0,0),(0,0),(0,1),(0,1),(0,1),(1,1),(1,1)] ((hS0.new L).new M) ⟨fun _ _ _ _ _ _ _=>obl rfl (xg rfl dR),ob1 0 fun _ _ (j:Sep _ _ _ _) l=>obl rfl (lD db0 lA (l 0 dc) (zd (j.b0) rfl) dR),fun _ _ _ _ _ _ _=>obl rfl (yA rfl dR),fun _ _ _ _ _ _ m=>obl rfl (xm (m 2 dc) dR),ob1 0 fun _ _ (n:Sep _ _ _ _) p=>obl rfl (lD (Iv (a.origin)) kT (p 3 dc) (zd (n.b1) rfl) dR),?_,fun _ _ _ _ _ _ _=>obl rfl (yA rfl dR),fun _ _ _ _ _ _ q=>obl rfl (Za (q 6 dc) dR),?_,?_,fun _ _ _ _ _ _ s=>obl rfl (ya (s 9 dc) dR),zj⟩ ?_
 refine ob1 0 fun vals _ (F:Sep _ _ _ _) i=>(obl rfl ((zO (vals:=[db0,Iv (a.origin)]) rfl (yK ⟨(i 1 dc),(i 4 dc),zj⟩) lY (WW hdb0 oa.origin F) ?_)))
 rintro _ w54 ⟨rfl,c,H⟩
 exact fun vals' N hv'=>⟨(zG N (zG c H)),zj⟩
 refine fun d _ _ I J g h=>?_
 have hkk:=xz I J
 rcases hkk with rfl|rfl
 have t:=g
 exact obl rfl (lD (Iv (a.seq)) kT (h 7 dc) (zd (t.b1) rfl) dR)
 obtain⟨e,c,u⟩:=g
 exact obl rfl (lD (Iv (a.seq)) kT (h 7 dc) (zd (u.b1) rfl) dR)
 refine ob1 1 fun _ _ x y=>?_
 obtain⟨e,c,hS157⟩:=x
 exact obl rfl (xh e (y 8 dc) dR)
 intro vals w166 z A
 obtain⟨e,c,B⟩:=z
 have K:=A 10 dc
 refine yd (kv:=[(0,.agg (a.cells da0).toArray),(1,.agg (b.cells db0).toArray),(2,Ix b2 0),(3,Ix D 0),(4,.bool (decide (a.seq≤(yz b.deps a.origin))))]) ⟨rfl,rfl,rfl,rfl,(by exact K),zj⟩ (fun ρw166=>(zb (zo (zN Tryz.results154 (show _=(.bool (decide (a.seq≤(yz b.deps a.origin))):Value)from rfl) ?_))))
 refine⟨rfl,(B.s2_)⟩
theorem Kw {a:Ev}{da0:Value}(hda0:RdS W G da0 a.deps)(oa:a.Ok){b:Ev}{db0:Value}(hdb0:RdS W G db0 b.deps)(ob:b.Ok)(hS0:Sep G W Rs w):Ret Tryz.prog 142 [.agg (a.cells da0).toArray,.agg (b.cells db0).toArray] w (fun r w'=>r=(.bool ((xZ a b)):Value)∧Sep G W Rs w'):=by
 refine zm Tryz.func142 rfl rfl ?_
 refine za (R0 fun _=>st (zT rfl ?_))
 intro w3 b2 x
 refine st (zT rfl ?_)
 intro w7 y z
 have e:=(hS0.new x).new z
 refine st (aS (.bool false) (zb (za (za (zy kr (st (yA rfl (st (xm rfl (st (lD (Iv (a.origin)) kT rfl (zd (e.b1) rfl) (st (yA rfl (st (xm rfl (st (lD (Iv (b.origin)) kT rfl (zd (e.b0) rfl) (st (zR rfl rfl (st (mV (.bool (decide (a.origin=b.origin))) (stc (V:=Ix b2 0) rfl rfl (fun A=>?_) ?_))))))))))))))))))))))
 exact yA rfl rflB
 refine stc (V:=Ix b2 1) rfl rfl (fun j=>?_) ?_
 exact Za (ifpC j) rflB
 refine stc (V:=Iv (a.seq)) rfl rfl (fun l=>?_) ?_
 exact lD (Iv (a.seq)) kT (ifpC l) (zd (e.b1) rfl) rflB
 refine stc (V:=Ix y 0) rfl rfl (fun o=>?_) ?_
 exact yA rfl rflB
 refine stc (V:=Ix y 1) rfl rfl (fun m=>?_) ?_
 exact Za (ifpC m) rflB
 refine stc (V:=Iv (b.seq)) rfl rfl (fun n=>?_) ?_
 exact lD (Iv (b.seq)) kT (ifpC n) (zd (e.b0) rfl) rflB
 refine stc (V:=.bool (decide (a.seq=b.seq))) rfl rfl (fun i=>?_) ?_
 exact zR (ifpC i) (ifpC i) rflB
 refine st (zF rfl (fun hbp=>(ifpC hbp)) (zb ?_))
 cases f:(decide (a.origin=b.origin))&&(decide (a.seq=b.seq))
 have c:=f
 try simp only[zh]at f
 refine zf rfl (zp (za (zy kr (st (ze nT lT rfl rfl (zi (e.b1)) (st (ze nT lT rfl rfl (zi (e.b0)) (st (cL mA (Wj hda0 oa hdb0 ob e) ?_)))))))))
 rintro _ w24 ⟨rfl,g⟩
 refine st (yw rfl (st (mV (.bool (!(ZR a b))) (stc (V:=.agg (b.cells db0).toArray) rfl rfl (fun p=>?_) ?_))))
 have q:=p
 try simp only[zh]at q
 exact ze nT lT rfl rfl (zi (g.b0)) rflB
 refine stc (V:=.agg (a.cells da0).toArray) rfl rfl (fun s=>?_) ?_
 have t:=s
 try simp only[zh]at t
 exact ze nT lT rfl rfl (zi (g.b1)) rflB
 cases h: !(ZR a b)
 have d:=h
 try simp only[zh]at h
 refine stx rfl rfl (stx rfl rfl (st (yb rfl rfl (st (aS (.bool false) (zb (zo (zN mY (show _=(.bool false:Value)from rfl) ?_))))))))
 refine⟨?_,(g.s2_)⟩
 rw[XU]
 ·first|rfl|(simp only[c,d,Ze,↓reduceIte];done)|(simp only[c,d,Ze,↓reduceIte];rfl)
 have d:=h
 try simp only[zh]at h
 refine sty rfl rfl (cL mA (Wj hdb0 ob hda0 oa g) ?_)
 rintro _ w32 ⟨rfl,u⟩
 refine sty rfl rfl (yw rfl (st (yc rfl rfl (st (aS (.bool (!(ZR b a))) (zb (zo (zN mY (show _=(.bool (!(ZR b a)):Value)from rfl) ?_))))))))
 refine⟨?_,(u.s2_)⟩
 rw[XU]
 ·first|rfl|(simp only[c,d,Ze,↓reduceIte];done)|(simp only[c,d,Ze,↓reduceIte];rfl)
 have c:=f
 try simp only[zh]at f
 refine zg rfl (za (R0 fun _=>st (aS (.bool false) (zb (zo (zN mY (show _=(.bool false:Value)from rfl) ?_))))))
 refine⟨?_,(e.s2_)⟩
 rw[XU]
 ·first|rfl|(simp only[c,Ze,↓reduceIte];done)|(simp only[c,Ze,↓reduceIte];rfl)
theorem UF {f:Fld}{df0:Value}(hdf0:RdS W G df0 f.moves)(of:f.Ok){oA:Int}(hoA:InR oA){aA:Int}(haA:InR aA){oB:Int}(hoB:InR oB){aB:Int}(haB:InR aB)(hS0:Sep G W Rs w):Ret Tryz.prog 143 [.agg (f.cells df0).toArray,.int .i64 (oA),.int .i64 (aA),.int .i64 (oB),.int .i64 (aB)] w (fun r w'=>r=(.bool ((YN f.kind oA aA oB aB)):Value)∧Sep G W Rs w'):=by
 refine zm Tryz.func143 rfl rfl ?_
 refine za (R0 fun _=>st (zT rfl ?_))
 intro w3 b2 U
 have g:=hS0.new U
 refine st (aS (.bool false) (zb (za (za (R0 fun _=>st (xA rfl (st (lD (Iv (f.kind)) kT rfl (zd (g.b0) rfl) (st (zR rfl rfl (zb ?_)))))))))))
 cases h:decide (f.kind=2)
 have c:=h
 have h:=fD h
 refine zf rfl (zp (za (za (R0 fun _=>st (xA rfl (st (lD (Iv (f.kind)) kT rfl (zd (g.b0) rfl) (st (zR rfl rfl (zb ?_))))))))))
 cases i:decide (f.kind=4)
 have d:=i
 have i:=fD i
 refine zf rfl (zp (za (za (zy kr (st (xA rfl (st (lD (Iv (f.kind)) kT rfl (zd (g.b0) rfl) (st (zR rfl rfl (st (mV (.bool (decide (f.kind=3))) (stc (V:=Iv aA) rfl rfl (fun X=>?_) ?_)))))))))))))
 exact mV (Iv aA) rflB
 refine stc (V:=Iv aB) rfl rfl (fun Y=>?_) ?_
 exact mV (Iv aB) rflB
 refine stc (V:=.bool (decide (aA=aB))) rfl rfl (fun m=>?_) ?_
 exact zR (ifpC m) (ifpC m) rflB
 refine st (zF rfl (fun hbp=>(ifpC hbp)) (zb ?_))
 cases j:(decide (f.kind=3))&&(decide (aA=aB))
 have e:=j
 try simp only[zh]at j
 refine zf rfl (zp (za (R0 fun _=>st (aS (.bool false) (zb (zo (zN sR (show _=(.bool false:Value)from rfl) ?_)))))))
 refine⟨?_,(g.s1_)⟩
 rw[Wy]
 ·first|rfl|(simp only[c,d,e,Ze,↓reduceIte];done)|(simp only[c,d,e,Ze,↓reduceIte];rfl)
 have e:=j
 try simp only[zh]at j
 refine zg rfl (za (zy kr (st (mV (Iv oA) (st (zR rfl rfl (st (mV (.bool (decide (oA=3))) (stc (V:=Iv oB) rfl rfl (fun z=>?_) ?_)))))))))
 exact mV (Iv oB) rflB
 refine stc (V:=.bool (decide (oB=4))) rfl rfl (fun q=>?_) ?_
 exact zR (ifpC q) rfl rflB
 refine st (zF rfl (fun hbp=>(ifpC hbp)) (st (mV (.bool ((decide (oA=3))&&(decide (oB=4)))) (stc (V:=Iv oA) rfl rfl (fun A=>?_) ?_))))
 have B:=A
 try simp only[zh]at B
 exact mV (Iv oA) rflB
 refine stc (V:=.bool (decide (oA=4))) rfl rfl (fun s=>?_) ?_
 have C:=s
 try simp only[zh]at C
 exact zR (ifpC s) rfl rflB
 refine stc (V:=.bool (decide (oA=4))) rfl rfl (fun t=>?_) ?_
 have D:=t
 try simp only[zh]at D
 exact yg (ifpC t) rflB
 refine xn (V:=Iv oB) rfl rfl (fun u=>?_) ?_
 have E:=u.1
 try simp only[zh]at E
 exact mV (Iv oB) rflB
 refine xn (V:=.bool (decide (oB=3))) rfl rfl (fun l=>?_) ?_
 have F:=l.1
 try simp only[zh]at F
 exact zR (ifpC ⟨l.1,l.2⟩) rfl rflB
 refine stc (V:=.bool ((decide (oA=4))&&(decide (oB=3)))) rfl rfl (fun n=>?_) ?_
 have H:=n
 try simp only[zh]at H
 exact zF (ifpC n) (fun hbp=>(ifpC ⟨n,hbp⟩)) rflB
 refine st (zz rfl (fun hbp=>(ifpC hbp)) (st (aS (.bool (((decide (oA=3))&&(decide (oB=4)))||((decide (oA=4))&&(decide (oB=3))))) (zb (zo (zN sR (show _=(.bool (((decide (oA=3))&&(decide (oB=4)))||((decide (oA=4))&&(decide (oB=3)))):Value)from rfl) ?_))))))
 refine⟨?_,(g.s1_)⟩
 rw[Wy]
 ·first|rfl|(simp only[c,d,e,Ze,↓reduceIte];done)|(simp only[c,d,e,Ze,↓reduceIte];rfl)
 have d:=i
 have i:=tD i
 refine zg rfl (za (zy kr (st (mV (Iv oA) (st (zR rfl rfl (st (mV (.bool (decide (oA=5))) (stc (V:=Iv oB) rfl rfl (fun I=>?_) ?_)))))))))
 exact mV (Iv oB) rflB
 refine stc (V:=.bool (decide (oB=5))) rfl rfl (fun x=>?_) ?_
 exact zR (ifpC x) rfl rflB
 refine st (zF rfl (fun hbp=>(ifpC hbp)) (st (mV (.bool ((decide (oA=5))&&(decide (oB=5)))) (stc (V:=Iv aA) rfl rfl (fun J=>?_) ?_))))
 have K:=J
 try simp only[zh]at K
 exact mV (Iv aA) rflB
 refine stc (V:=Iv aB) rfl rfl (fun L=>?_) ?_
 have M:=L
 try simp only[zh]at M
 exact mV (Iv aB) rflB
 refine stc (V:=.bool (!decide (aA=aB))) rfl rfl (fun o=>?_) ?_
 have N:=o
 try simp only[zh]at N
 exact yj (ifpC o) (ifpC o) rflB
 refine st (zF rfl (fun hbp=>(ifpC hbp)) (st (aS (.bool (((decide (oA=5))&&(decide (oB=5)))&&(!decide (aA=aB)))) (zb (zo (zN sR (show _=(.bool (((decide (oA=5))&&(decide (oB=5)))&&(!decide (aA=aB))):Value)from rfl) ?_))))))
 refine⟨?_,(g.s1_)⟩
 rw[Wy]
 ·first|rfl|(simp only[c,d,Ze,↓reduceIte];done)|(simp only[c,d,Ze,↓reduceIte];rfl)
 have c:=h
 have h:=tD h
 refine zg rfl (za (zy kr (st (mV (Iv oA) (st (zR rfl rfl (st (mV (.bool (decide (oA=2))) (stc (V:=Iv oB) rfl rfl (fun O=>?_) ?_)))))))))
 exact mV (Iv oB) rflB
 refine stc (V:=.bool (decide (oB=2))) rfl rfl (fun y=>?_) ?_
 exact zR (ifpC y) rfl rflB
 refine st (zF rfl (fun hbp=>(ifpC hbp)) (st (mV (.bool ((decide (oA=2))&&(decide (oB=2)))) (stc (V:=Iv aA) rfl rfl (fun P=>?_) ?_))))
 have Q:=P
 try simp only[zh]at Q
 exact mV (Iv aA) rflB
 refine stc (V:=Iv aB) rfl rfl (fun R=>?_) ?_
 have S:=R
 try simp only[zh]at S
 exact mV (Iv aB) rflB
 refine stc (V:=.bool (!decide (aA=aB))) rfl rfl (fun p=>?_) ?_
 have T:=p
 try simp only[zh]at T
 exact yj (ifpC p) (ifpC p) rflB
 refine st (zF rfl (fun hbp=>(ifpC hbp)) (st (aS (.bool (((decide (oA=2))&&(decide (oB=2)))&&(!decide (aA=aB)))) (zb (zo (zN sR (show _=(.bool (((decide (oA=2))&&(decide (oB=2)))&&(!decide (aA=aB))):Value)from rfl) ?_))))))
 refine⟨?_,(g.s1_)⟩
 rw[Wy]
 ·first|rfl|(simp only[c,Ze,↓reduceIte];done)|(simp only[c,Ze,↓reduceIte];rfl)
theorem KE {f:Fld}{df0:Value}(hdf0:RdS W G df0 f.moves)(of:f.Ok){x:Ev}{dx0:Value}(hdx0:RdS W G dx0 x.deps)(ox:x.Ok){e:Ev}{de0:Value}(hde0:RdS W G de0 e.deps)(oe:e.Ok)(hS0:Sep G W Rs w):Ret Tryz.prog 124 [.agg (f.cells df0).toArray,.agg (x.cells dx0).toArray,.agg (e.cells de0).toArray] w (fun r w'=>r=(.bool ((xt f x e)):Value)∧Sep G W Rs w'):=by
 refine zm Tryz.func124 rfl rfl ?_
 refine za (R0 fun _=>st (zT rfl ?_))
 intro w3 b2 M
 refine st (zT rfl ?_)
 intro w7 N O
 refine st (zT rfl ?_)
 intro w11 t P
 have n:=((hS0.new M).new O).new P
 refine st (aS (.bool false) (zb (za (za (zy kr (st (ze nT lT rfl rfl (zi (n.b1)) (st (ze nT lT rfl rfl (zi (n.b0)) (st (cL Tryz.call142 (Kw hdx0 ox hde0 oe n) ?_)))))))))))
 rintro _ w13 ⟨rfl,g⟩
 refine st (yw rfl (st (mV (.bool (!(xZ x e))) (stc (V:=.agg (f.cells df0).toArray) rfl rfl (fun u=>?_) ?_))))
 have y:=u
 try simp only[zh]at y
 exact ze rT mT rfl rfl (zi (g.b2)) rflB
 refine stc (V:=Ix N 7) rfl rfl (fun z=>?_) ?_
 have A:=z
 try simp only[zh]at A
 exact xP rfl rflB
 refine stc (V:=Iv (x.op)) rfl rfl (fun o=>?_) ?_
 have B:=o
 try simp only[zh]at B
 exact lD (Iv (x.op)) kT (ifpC o) (zd (g.b1) rfl) rflB
 refine stc (V:=Ix N 8) rfl rfl (fun C=>?_) ?_
 have D:=C
 try simp only[zh]at D
 exact Zc rfl rflB
 refine stc (V:=Iv (x.arg)) rfl rfl (fun p=>?_) ?_
 have E:=p
 try simp only[zh]at E
 exact lD (Iv (x.arg)) kT (ifpC p) (zd (g.b1) rfl) rflB
 refine stc (V:=Ix t 7) rfl rfl (fun F=>?_) ?_
 have H:=F
 try simp only[zh]at H
 exact xP rfl rflB
 refine stc (V:=Iv (e.op)) rfl rfl (fun q=>?_) ?_
 have I:=q
 try simp only[zh]at I
 exact lD (Iv (e.op)) kT (ifpC q) (zd (g.b0) rfl) rflB
 refine stc (V:=Ix t 8) rfl rfl (fun J=>?_) ?_
 have K:=J
 try simp only[zh]at K
 exact Zc rfl rflB
 refine stc (V:=Iv (e.arg)) rfl rfl (fun s=>?_) ?_
 have L:=s
 try simp only[zh]at L
 exact lD (Iv (e.arg)) kT (ifpC s) (zd (g.b0) rfl) rflB
 cases l: !(xZ x e)
 have c:=l
 try simp only[zh]at l
 refine sty rfl rfl (cL Tryz.call143 (UF hdf0 of ox.op ox.arg oe.op oe.arg g) ?_)
 rintro _ w34 ⟨rfl,h⟩
 refine sty rfl rfl (yw rfl (st (yb rfl rfl (zb ?_))))
 cases m: !(YN f.kind x.op x.arg e.op e.arg)
 have d:=m
 try simp only[zh]at m
 refine zf rfl (zp (za (za (R0 fun _=>st (Yq rfl (st (lD (Iv (f.policy)) kT rfl (zd (h.b2) rfl) (st (zR rfl rfl (zb ?_))))))))))
 cases j:decide (f.policy=3)
 have i:=j
 have j:=fD j
 refine zf rfl (zp (za (R0 fun _=>st (Yq rfl (st (lD (Iv (f.policy)) kT rfl (zd (h.b2) rfl) (st (zR rfl rfl (st (aS (.bool (decide (f.policy=2))) (zb (zo (zN tR (show _=(.bool (decide (f.policy=2)):Value)from rfl) ?_)))))))))))))
 refine⟨?_,(h.s3_)⟩
 rw[Xg]
 ·first|rfl|(simp only[c,d,i,Ze,↓reduceIte];done)|(simp only[c,d,i,Ze,↓reduceIte];rfl)
 have i:=j
 have j:=tD j
 refine zg rfl (za (R0 fun _=>st (Zc rfl (st (lD (Iv (x.arg)) kT rfl (zd (h.b1) rfl) (st (Zc rfl (st (lD (Iv (e.arg)) kT rfl (zd (h.b0) rfl) (st (xj (k:=.i64) (a:=x.arg) (b:=e.arg) rfl rfl (st (aS (.bool (decide (e.arg<x.arg))) (zb (zo (zN tR (show _=(.bool (decide (e.arg<x.arg)):Value)from rfl) ?_))))))))))))))))
 refine⟨?_,(h.s3_)⟩
 rw[Xg]
 ·first|rfl|(simp only[c,d,i,Ze,↓reduceIte];done)|(simp only[c,d,i,Ze,↓reduceIte];rfl)
 have d:=m
 try simp only[zh]at m
 refine zg rfl (za (R0 fun _=>st (aS (.bool false) (zb (zo (zN tR (show _=(.bool false:Value)from rfl) ?_))))))
 refine⟨?_,(h.s3_)⟩
 rw[Xg]
 ·first|rfl|(simp only[c,d,Ze,↓reduceIte];done)|(simp only[c,d,Ze,↓reduceIte];rfl)
 have c:=l
 try simp only[zh]at l
 refine stx rfl rfl (stx rfl rfl (st (yc rfl rfl (zb (zg rfl (za (R0 fun _=>st (aS (.bool false) (zb (zo (zN tR (show _=(.bool false:Value)from rfl) ?_)))))))))))
 refine⟨?_,(g.s3_)⟩
 rw[Xg]
 ·first|rfl|(simp only[c,Ze,↓reduceIte];done)|(simp only[c,Ze,↓reduceIte];rfl)
theorem KL {d:Dcl}{dd0:Value}(hdd0:RdS W G dd0 d.types){dd1:Value}(hdd1:RdS W G dd1 d.projs)(od:d.Ok){ty:Int}(hty:InR ty){f:Int}(hf:InR f)(hS0:Sep G W Rs w):Ret Tryz.prog 65 [.agg (d.cells dd0 dd1).toArray,.int .i64 (ty),.int .i64 (f)] w (fun r w'=> ∃(v:Value),r=(.tuple #[.agg ((ym d ty f).cells v).toArray,.bool ((yM d ty f))]:Value)∧((ym d ty f).Ok)∧Sep G W ((RowE (α:=Mv) own 143 v ((ym d ty f).moves))::Rs) w'):=by
 let aU:=zV W (sb dd0) (so dd0+ty.toNat*1+0)
 let aV:=zV W (sb aU) (so aU+f.toNat*4+3)
 refine zm Tryz.func65 rfl rfl ?_
 refine za (R0 fun _=>st (zT rfl ?_))
 intro w3 b2 aQ
 refine st (zv oR ?_)
 intro w7 U aR
 have l:=(hS0.new aQ).new aR
 refine st (aS (.bool false) (zb (za (za (zy kr (st (mV (Iv ty) (st (zI rfl rfl (st (mV (.bool (decide (ty<0))) (stc (V:=Iv ty) rfl rfl (fun aT=>?_) ?_))))))))))))
 exact mV (Iv ty) rflB
 refine stc (V:=Ix b2 0) rfl rfl (fun an=>?_) ?_
 exact yJ rfl rflB
 refine stc (V:=dd0) rfl rfl (fun B=>?_) ?_
 exact lD dd0 tT (ifpC B) (zd (l.b1) rfl) rflB
 refine stc (V:=Iw d.types.length) rfl rfl (fun C=>?_) ?_
 exact zS uT (ifpC C) hdd0.sl rflB
 refine stc (V:=.bool (decide (((d.types.length:Nat):Int)≤ty))) rfl rfl (fun q=>?_) ?_
 exact xh (ifpC q) (ifpC q) rflB
 refine st (zz rfl (fun hbp=>(ifpC hbp)) (st (mV (.bool ((decide (ty<0))||(decide (((d.types.length:Nat):Int)≤ty)))) (stc (V:=Iv f) rfl rfl (fun ao=>?_) ?_))))
 have ap:=ao
 try simp only[zh]at ap
 exact mV (Iv f) rflB
 refine stc (V:=.bool (decide (f<0))) rfl rfl (fun D=>?_) ?_
 have aq:=D
 try simp only[zh]at aq
 exact zI (ifpC D) rfl rflB
 refine st (zz rfl (fun hbp=>(ifpC hbp)) (st (mV (.bool (((decide (ty<0))||(decide (((d.types.length:Nat):Int)≤ty)))||(decide (f<0)))) (stc (V:=Iv f) rfl rfl (fun ar=>?_) ?_))))
 have au:=ar
 try simp only[zh]at au
 exact mV (Iv f) rflB
 refine stc (V:=Ix b2 0) rfl rfl (fun av=>?_) ?_
 have aw:=av
 try simp only[zh]at aw
 exact yJ rfl rflB
 refine stc (V:=dd0) rfl rfl (fun E=>?_) ?_
 have ax:=E
 try simp only[zh]at ax
 exact lD dd0 tT (ifpC E) (zd (l.b1) rfl) rflB
 refine stc (V:=Iv ty) rfl rfl (fun ay=>?_) ?_
 have az:=ay
 try simp only[zh]at az
 exact mV (Iv ty) rflB
 refine stc (V:=Ix (sb dd0) (so dd0+ty.toNat*1)) rfl rfl (fun s=>?_) ?_
 have aA:=s
 try simp only[zh]at aA
 exact zA uT vT (ifpC s) hdd0.sl (ifpC s) ⟨by omega,by omega⟩ rflB
 refine stc (V:=Ix (sb dd0) (so dd0+ty.toNat*1)) rfl rfl (fun F=>?_) ?_
 have aB:=F
 try simp only[zh]at aB
 exact xi (ifpC F) rflB
 refine stc (V:=aU) rfl rfl (fun H=>?_) ?_
 have aC:=H
 try simp only[zh]at aC
 have I:ty.toNat<d.types.length:=bo
 obtain⟨X,A,hoke38⟩:=hdd0.typD I
 have Y:=l.cells X (hdd0.foot (ne_of_lt I))
 exact lD aU wT (ifpC H) (Y.get (j:=0) rfl) rflB
 refine stc (V:=Iw (((d.types.getD ty.toNat default).fields).length)) rfl rfl (fun J=>?_) ?_
 have aD:=J
 try simp only[zh]at aD
 have K:ty.toNat<d.types.length:=bo
 obtain⟨Z,m,hoke44⟩:=hdd0.typD K
 exact zS qR (ifpC J) m.sl rflB
 refine stc (V:=.bool (decide (((((d.types.getD ty.toNat default).fields).length:Nat):Int)≤f))) rfl rfl (fun t=>?_) ?_
 have aE:=t
 try simp only[zh]at aE
 exact xh (ifpC t) (ifpC t) rflB
 refine st (zz rfl (fun hbp=>(ifpC hbp)) (zb ?_))
 cases L:(((decide (ty<0))||(decide (((d.types.length:Nat):Int)≤ty)))||(decide (f<0)))||(decide (((((d.types.getD ty.toNat default).fields).length:Nat):Int)≤f))
 try simp only[zh]at L
 refine zf rfl (zp (za (R0 fun _=>st (yJ rfl (st (lD dd0 tT rfl (zd (l.b1) rfl) (st (mV (Iv ty) ?_))))))))
 refine st (zA uT vT rfl hdd0.sl rfl ⟨by omega,by omega⟩ (st (xi rfl ?_)))
 have M:ty.toNat<d.types.length:=bo
 obtain⟨aa,h,hoke52⟩:=hdd0.typD M
 have hsm54:((d.types.getD ty.toNat default).fields).length*48≤140737488355328:=h.small
 have ab:=l.cells aa (hdd0.foot (ne_of_lt M))
 refine st (lD aU wT rfl (ab.get (j:=0) rfl) (st (mV (Iv f) ?_)))
 have hi56:f.toNat<((d.types.getD ty.toNat default).fields).length:=bo
 refine st (zA qR mT rfl h.sl rfl ⟨by omega,by omega⟩ ?_)
 have N:f.toNat<((d.types.getD ty.toNat default).fields).length:=bo
 obtain⟨ac,e,p⟩:=h.fldD N
 have hsm59:((((d.types.getD ty.toNat default).fields).getD f.toNat default).moves).length*32≤140737488355328:=e.small
 have ad:=l.cells ac (h.foot (ne_of_lt N))
 refine st (ze rT mT rfl rfl ad (st (zv oR ?_)))
 intro w63 al aF
 have O:=l.new aF
 refine stn (zr (v:=.agg ((((d.types.getD ty.toNat default).fields).getD f.toNat default).cells aV).toArray) mT rfl rfl (O.b0) (zZ ⟨rfl,rfl,rfl,e.sl.one,zj⟩) yqc rfl ?_)
 intro w65 aG
 refine zb (za (R0 fun _=>st (aS Iz (zb (za (za (R0 fun _=>st (aS (Iv 0) (zb (zu ?_))))))))))
 have aH:Sep _ _ ((RowE (α:=Mv) own 143 Iz [])::_) _:=(O.pt0 aG).rowNil own 143
 refine yf (fun mq σ wq=> ∃k vm ρ,mq=((d.types.getD ty.toNat default).fields.getD f.toNat default).moves.length-k∧σ=yo ρ [(3,Ix b2 0),(6,Ix U 0),(8,Ix al 0),(10,Iw k),(9,vm)]∧(k≤((d.types.getD ty.toNat default).fields.getD f.toNat default).moves.length)∧Sep G W ((RowE own 143 vm (((d.types.getD ty.toNat default).fields.getD f.toNat default).moves.take k))::(Blk al ((((d.types.getD ty.toNat default).fields).getD f.toNat default).cells (zV W (sb (zV W (sb dd0) (so dd0+ty.toNat*1+0))) (so (zV W (sb dd0) (so dd0+ty.toNat*1+0))+f.toNat*4+3))).toArray 106)::(Blk U #[Iv 0,Iv 0,.bool false,(Iz)] 106)::(Blk b2 (d.cells dd0 dd1).toArray 25)::Rs) wq) ⟨0,(Iz),_,rfl,sSf,zY _,aH⟩ ?_
 rintro m70 σ71 w69 ⟨k,vm,ρl1,rfl,rfl,hkk,g⟩
 have aI:=g.r0
 have hr73s:_*32≤_:=aI.2
 refine za (za (R0 fun _=>st (mV (Iw k) (st (yQ rfl (st (lD aV pR rfl (zd (g.b1) rfl) (st (zS sT rfl e.sl (st (zI rfl rfl (zb ?_))))))))))))
 cases o:decide (((k:Nat):Int)<((((((d.types.getD ty.toNat default).fields).getD f.toNat default).moves).length:Nat):Int))
 have o:=fD o
 have hkn:k=((d.types.getD ty.toNat default).fields.getD f.toNat default).moves.length:=by omega
 rw[hkn,List.take_of_length_le (Nat.le_refl ((d.types.getD ty.toNat default).fields.getD f.toNat default).moves.length)]at g
 have u:=g.r0
 have hr75s:_*32≤_:=u.2
 refine zf rfl (yh (zX (za (R0 fun _=>st (mV vm (st (yQ rfl (stn (yr (v:=vm) sY rfl rfl (g.b1) u.1.one rfl rfl ?_)))))))))
 intro w76 aJ
 have aK:Fld.Ok (⟨(((d.types.getD ty.toNat default).fields).getD f.toNat default).kind,(((d.types.getD ty.toNat default).fields).getD f.toNat default).policy,(((d.types.getD ty.toNat default).fields).getD f.toNat default).floor,((d.types.getD ty.toNat default).fields.getD f.toNat default).moves⟩:Fld):=⟨(show InR ((((d.types.getD ty.toNat default).fields).getD f.toNat default).kind)from p.kind),(show InR ((((d.types.getD ty.toNat default).fields).getD f.toNat default).policy)from p.policy)⟩
 have x:=g.pt1 aJ
 refine zb (za (R0 fun _=>st (ze rT mT rfl rfl (zi (x.b1)) (stn (zr (v:=.agg ((⟨(((d.types.getD ty.toNat default).fields).getD f.toNat default).kind,(((d.types.getD ty.toNat default).fields).getD f.toNat default).policy,(((d.types.getD ty.toNat default).fields).getD f.toNat default).floor,((d.types.getD ty.toNat default).fields.getD f.toNat default).moves⟩:Fld).cells vm).toArray) mT rfl rfl (x.b2) (zZ ⟨rfl,rfl,rfl,u.1.one,zj⟩) yqc rfl ?_)))))
 intro w80 aL
 have P:=x.pt2 aL
 refine st (aS (.bool true) (zb (zo (xY nA rT mT rfl rfl (zi (P.b2)) (show _=(.bool true:Value)from rfl) ?_))))
 have Q:yM d ty f=true:=by unfold yM;simp only[Bool.and_eq_true,decide_eq_true_eq];omega
 have hz:ym d ty f=(⟨(((d.types.getD ty.toNat default).fields).getD f.toNat default).kind,(((d.types.getD ty.toNat default).fields).getD f.toNat default).policy,(((d.types.getD ty.toNat default).fields).getD f.toNat default).floor,((d.types.getD ty.toNat default).fields.getD f.toNat default).moves⟩:Fld):=by unfold ym;rw[Q];rfl
 rw[hz,Q]
 refine⟨vm,rfl,?_,(P.s4_a)⟩
 exact aK
 have o:=tD o
 refine zg rfl (zp (za (zu (R0 fun _=>st (mV vm (st (yQ rfl (st (lD aV pR rfl (zd (g.b1) rfl) (st (mV (Iw k) ?_)))))))))))
 have aM:k<((((d.types.getD ty.toNat default).fields).getD f.toNat default).moves).length:=bo
 refine st (zn (k:=4) sT lR rfl e.sl rfl aM ?_)
 have R:k<((((d.types.getD ty.toNat default).fields).getD f.toNat default).moves).length:=bo
 obtain⟨ae,S⟩:=e.mvD R
 have af:=g.cells ae (e.foot (ne_of_lt R))
 refine st (ze tY lR rfl rfl af (st (zL (c:=((((((d.types.getD ty.toNat default).fields).getD f.toNat default).moves).getD k default).cells).toArray) sT lR uY dc rfl kr ?_)))
 intro w90 b89 aN
 have T:=g.new aN
 have ag:=T.b0
 refine st (yx (src:=own) (bytes:=32) (x1:=(((((d.types.getD ty.toNat default).fields).getD f.toNat default).moves).getD k default)) ((T.s5_bcde).emp1) Jg rfl rfl ag (fun _ _ _=>(show _ from⟨rfl,S⟩)) yqb rfl ?_)
 intro am w92 y
 have aO:=y.r0
 have hr98s:_*32≤_:=aO.2
 refine st (aS am (zb (R0 fun _=>st (mV (Iw k) ?_))))
 have aP:InR ((k+1:Nat):Int):=bo
 refine st (zU (r:=((k+1:Nat):Int)) rfl rfl (by rw[show(((k:Nat):Int)+1:Int)=((k+1:Nat):Int)from bo];exact zJ aP) (st (aS (Iw (k+1)) (zb ?_))))
 have ah:(((d.types.getD ty.toNat default).fields.getD f.toNat default).moves.take (k+1))=(((d.types.getD ty.toNat default).fields.getD f.toNat default).moves.take k)++[(((((d.types.getD ty.toNat default).fields).getD f.toNat default).moves).getD k default)]:=(List.take_getD om)
 rw[←ah]at y
 exact⟨_,by omega,k+1,am,_,rfl,sSf,by omega,y⟩
 try simp only[zh]at L
 refine zg rfl (za (R0 fun _=>?_))
 have ai:Fld.Ok (⟨0,0,false,[]⟩:Fld):=⟨(show InR (0)from dc),(show InR (0)from dc)⟩
 refine st (zQ (v:=.agg ((⟨0,0,false,[]⟩:Fld).cells Iz).toArray) rfl (by simp+zetaDelta [Instr.build,Instr.fill,go_sem,Zd]) (stn (zr (v:=.agg ((⟨0,0,false,[]⟩:Fld).cells Iz).toArray) mT rfl rfl (l.b0) (zZ ⟨rfl,rfl,rfl,rfl,zj⟩) yqc rfl ?_)))
 intro w102 aj
 have z:=l.pt0 aj
 refine st (aS (.bool false) (zb (zo (xY nA rT mT rfl rfl (zi (z.b0)) (show _=(.bool false:Value)from rfl) ?_))))
 have ak:Sep _ _ ((RowE (α:=Mv) own 143 Iz [])::_) _:=z.rowNil own 143
 have Q:yM d ty f=false:=by unfold yM;rw[Bool.eq_false_iff];intro h9;simp only[Bool.and_eq_true,decide_eq_true_eq]at h9;omega
 have hz:ym d ty f=(⟨0,0,false,[]⟩:Fld):=by unfold ym;rw[Q];rfl
 rw[hz,Q]
 refine⟨(Iz),rfl,?_,(ak.s3_a)⟩
 exact ai
theorem VX {d:Dcl}{dd0:Value}(hdd0:RdS W G dd0 d.types){dd1:Value}(hdd1:RdS W G dd1 d.projs)(od:d.Ok){ty:Int}(hty:InR ty){f:Int}(hf:InR f){op:Int}(hop:InR op){arg:Int}(harg:InR arg)(hS0:Sep G W Rs w):Ret Tryz.prog 83 [.agg (d.cells dd0 dd1).toArray,.int .i64 (ty),.int .i64 (f),.int .i64 (op),.int .i64 (arg)] w (fun r w'=>r=(.int .i64 (xb d ty f op arg):Value)∧Sep G W Rs w'):=by
 refine zm Tryz.func83 rfl rfl ?_
 refine za (R0 fun _=>st (zT rfl ?_))
 intro w3 b2 L
 have E:=hS0.new L
 refine st (aS (Iv 0) (zb (za (R0 fun _=>st (ze mR kR rfl rfl (zi (E.b0)) (st (mV (Iv ty) (st (mV (Iv f) (st (cL Tryz.call65 (KL hdd0 hdd1 od hty hf E) ?_)))))))))))
 rintro _ w7 ⟨u,rfl,hfok6,F⟩
 let N:=(ym d ty f).cells u
 have y:=F.r0
 refine st (mV (.tuple #[.agg N.toArray,.bool ((yM d ty f))]) (st (zl rfl rfl (st (zl rfl rfl (st (zv oR ?_)))))))
 intro w12 M H
 have z:=F.new H
 refine stn (zr (v:=.agg N.toArray) mT rfl rfl (z.b0) (zZ ⟨rfl,rfl,rfl,y.1.one,zj⟩) yqc rfl ?_)
 intro w14 I
 have c:=z.pt0 I
 refine st (aS (.bool ((yM d ty f))) (zb (za (za (R0 fun _=>st (mV (.bool ((yM d ty f))) (st (yw rfl (zb ?_)))))))))
 cases A: !(yM d ty f)
 try simp only[zh]at A
 refine zf rfl (zp (za (za (R0 fun _=>st (mV (Iv op) (zb (zu (za (R0 fun _=>st (zR rfl rfl (st (aS (.bool (decide (op=1))) (zb ?_)))))))))))))
 cases e:decide (op=1)
 have e:=fD e
 refine zf rfl (za (R0 fun _=>st (zR rfl rfl (st (aS (.bool (decide (op=2))) (zb ?_))))))
 cases g:decide (op=2)
 have g:=fD g
 refine zf rfl (za (za (R0 fun _=>st (zR rfl rfl (st (aS (.bool (decide (op=3))) (zb ?_)))))))
 cases h:decide (op=3)
 have h:=fD h
 refine zf rfl (R0 fun _=>st (zR rfl rfl (st (aS (.bool (decide (op=4))) (zb ?_)))))
 cases j:decide (op=4)
 have j:=fD j
 refine zf rfl (za (R0 fun _=>st (zR rfl rfl (st (aS (.bool (decide (op=5))) (zb ?_))))))
 cases l:decide (op=5)
 have l:=fD l
 refine zf rfl (za (R0 fun _=>st (aS (Iv 2) (zb (zo (zN pT (show _=(Iv 2:Value)from rfl) ?_))))))
 refine⟨?_,(c.s3_)⟩
 congr 1
 rw[xG]
 ·repeat first|rfl|rw[ifpC (by first|assumption|omega)]|rw[ifnC (by first|assumption|omega|simp_all)]
 have l:=tD l
 refine zg rfl (za (za (R0 fun _=>st (xA rfl (st (lD (Iv ((ym d ty f).kind)) kT rfl (zd (c.b0) rfl) (st (yj rfl rfl (zb ?_)))))))))
 cases m: !decide (((ym d ty f).kind)=4)
 have m:=zB m
 refine zf rfl (zp (za (zy kr (st (mV (Iv arg) (st (zI rfl rfl (st (mV (.bool (decide (arg<0))) (stc (V:=Iv arg) rfl rfl (fun J=>?_) ?_))))))))))
 exact mV (Iv arg) rflB
 refine stc (V:=Ix M 3) rfl rfl (fun K=>?_) ?_
 exact yQ rfl rflB
 refine stc (V:=u) rfl rfl (fun B=>?_) ?_
 exact lD u pR (ifpC B) (zd (c.b0) rfl) rflB
 refine stc (V:=Iw (((ym d ty f).moves).length)) rfl rfl (fun C=>?_) ?_
 exact zS sT (ifpC C) y.1 rflB
 refine stc (V:=.bool (decide (((((ym d ty f).moves).length:Nat):Int)≤arg))) rfl rfl (fun x=>?_) ?_
 exact xh (ifpC x) (ifpC x) rflB
 refine st (zz rfl (fun hbp=>(ifpC hbp)) (zb ?_))
 cases D:(decide (arg<0))||(decide (((((ym d ty f).moves).length:Nat):Int)≤arg))
 try simp only[zh]at D
 refine zf rfl (zp (za (R0 fun _=>st (aS (Iv 0) (zb (zo (zN pT (show _=(Iv 0:Value)from rfl) ?_)))))))
 refine⟨?_,(c.s3_)⟩
 congr 1
 rw[xG]
 ·repeat first|rfl|rw[ifpC (by first|assumption|omega)]|rw[ifnC (by first|assumption|omega|simp_all)]
 try simp only[zh]at D
 refine zg rfl (za (R0 fun _=>st (aS (Iv 1) (zb (zo (zN pT (show _=(Iv 1:Value)from rfl) ?_))))))
 refine⟨?_,(c.s3_)⟩
 congr 1
 rw[xG]
 ·repeat first|rfl|rw[ifpC (by first|assumption|omega)]|rw[ifnC (by first|assumption|omega|simp_all)]
 have m:=zC m
 refine zg rfl (za (R0 fun _=>st (aS (Iv 2) (zb (zo (zN pT (show _=(Iv 2:Value)from rfl) ?_))))))
 refine⟨?_,(c.s3_)⟩
 congr 1
 rw[xG]
 ·repeat first|rfl|rw[ifpC (by first|assumption|omega)]|rw[ifnC (by first|assumption|omega|simp_all)]
 have j:=tD j
 refine zg rfl (za (R0 fun _=>st (xA rfl (st (lD (Iv ((ym d ty f).kind)) kT rfl (zd (c.b0) rfl) (st (yj rfl rfl (zb ?_))))))))
 cases o: !decide (((ym d ty f).kind)=3)
 have o:=zB o
 refine zf rfl (zp (za (R0 fun _=>st (aS (Iv 0) (zb (zo (zN pT (show _=(Iv 0:Value)from rfl) ?_)))))))
 refine⟨?_,(c.s3_)⟩
 congr 1
 rw[xG]
 ·repeat first|rfl|rw[ifpC (by first|assumption|omega)]|rw[ifnC (by first|assumption|omega|simp_all)]
 have o:=zC o
 refine zg rfl (za (R0 fun _=>st (aS (Iv 2) (zb (zo (zN pT (show _=(Iv 2:Value)from rfl) ?_))))))
 refine⟨?_,(c.s3_)⟩
 congr 1
 rw[xG]
 ·repeat first|rfl|rw[ifpC (by first|assumption|omega)]|rw[ifnC (by first|assumption|omega|simp_all)]
 have h:=tD h
 refine zg rfl (zp (zg rfl (za (R0 fun _=>st (xA rfl (st (lD (Iv ((ym d ty f).kind)) kT rfl (zd (c.b0) rfl) (st (yj rfl rfl (zb ?_))))))))))
 cases p: !decide (((ym d ty f).kind)=3)
 have p:=zB p
 refine zf rfl (zp (za (R0 fun _=>st (aS (Iv 0) (zb (zo (zN pT (show _=(Iv 0:Value)from rfl) ?_)))))))
 refine⟨?_,(c.s3_)⟩
 congr 1
 rw[xG]
 ·repeat first|rfl|rw[ifpC (by first|assumption|omega)]|rw[ifnC (by first|assumption|omega|simp_all)]
 have p:=zC p
 refine zg rfl (za (R0 fun _=>st (aS (Iv 2) (zb (zo (zN pT (show _=(Iv 2:Value)from rfl) ?_))))))
 refine⟨?_,(c.s3_)⟩
 congr 1
 rw[xG]
 ·repeat first|rfl|rw[ifpC (by first|assumption|omega)]|rw[ifnC (by first|assumption|omega|simp_all)]
 have g:=tD g
 refine zg rfl (za (R0 fun _=>st (xA rfl (st (lD (Iv ((ym d ty f).kind)) kT rfl (zd (c.b0) rfl) (st (yj rfl rfl (zb ?_))))))))
 cases q: !decide (((ym d ty f).kind)=2)
 have q:=zB q
 refine zf rfl (zp (za (R0 fun _=>st (aS (Iv 0) (zb (zo (zN pT (show _=(Iv 0:Value)from rfl) ?_)))))))
 refine⟨?_,(c.s3_)⟩
 congr 1
 rw[xG]
 ·repeat first|rfl|rw[ifpC (by first|assumption|omega)]|rw[ifnC (by first|assumption|omega|simp_all)]
 have q:=zC q
 refine zg rfl (za (R0 fun _=>st (aS (Iv 2) (zb (zo (zN pT (show _=(Iv 2:Value)from rfl) ?_))))))
 refine⟨?_,(c.s3_)⟩
 congr 1
 rw[xG]
 ·repeat first|rfl|rw[ifpC (by first|assumption|omega)]|rw[ifnC (by first|assumption|omega|simp_all)]
 have e:=tD e
 refine zg rfl (za (za (R0 fun _=>st (xA rfl (st (lD (Iv ((ym d ty f).kind)) kT rfl (zd (c.b0) rfl) (st (yj rfl rfl (zb ?_)))))))))
 cases s: !decide (((ym d ty f).kind)=1)
 have s:=zB s
 refine zf rfl (zp (za (R0 fun _=>st (mV (Iv arg) (st (zR rfl rfl (zb ?_)))))))
 cases t:decide (arg=0)
 have t:=fD t
 refine zf rfl (zp (za (R0 fun _=>st (aS (Iv 0) (zb (zo (zN pT (show _=(Iv 0:Value)from rfl) ?_)))))))
 refine⟨?_,(c.s3_)⟩
 congr 1
 rw[xG]
 ·repeat first|rfl|rw[ifpC (by first|assumption|omega)]|rw[ifnC (by first|assumption|omega|simp_all)]
 have t:=tD t
 refine zg rfl (za (R0 fun _=>st (aS (Iv 1) (zb (zo (zN pT (show _=(Iv 1:Value)from rfl) ?_))))))
 refine⟨?_,(c.s3_)⟩
 congr 1
 rw[xG]
 ·repeat first|rfl|rw[ifpC (by first|assumption|omega)]|rw[ifnC (by first|assumption|omega|simp_all)]
 have s:=zC s
 refine zg rfl (za (R0 fun _=>st (aS (Iv 2) (zb (zo (zN pT (show _=(Iv 2:Value)from rfl) ?_))))))
 refine⟨?_,(c.s3_)⟩
 congr 1
 rw[xG]
 ·repeat first|rfl|rw[ifpC (by first|assumption|omega)]|rw[ifnC (by first|assumption|omega|simp_all)]
 try simp only[zh]at A
 refine zg rfl (za (R0 fun _=>st (aS (Iv 8) (zb (zo (zN pT (show _=(Iv 8:Value)from rfl) ?_))))))
 refine⟨?_,(c.s3_)⟩
 congr 1
 rw[xG]
 ·repeat first|rfl|rw[ifpC (by first|assumption|omega)]|rw[ifnC (by first|assumption|omega|simp_all)]
theorem VO {v:List Int}:(yv v []).length=v.length:=by rw[Xh];exact Nat.max_eq_left (Nat.zero_le _)
theorem UX {v:List Int}{k:Nat}(h:k<v.length):(yv v []).getD k 0=yz v ((k:Nat):Int):=by
 rw[WV (Nat.lt_of_lt_of_le h (Nat.le_max_left ..))]
 have h1:yz [] ((k:Nat):Int)=0:=by unfold yz;rw[if_pos (.inr (by simp))]
 have h2:0≤yz v ((k:Nat):Int):=by unfold yz;split<;>omega
 omega
theorem JY {d:Dcl}{dd0:Value}(hdd0:RdS W G dd0 d.types){dd1:Value}(hdd1:RdS W G dd1 d.projs)(od:d.Ok){c:Cmd}(oc:c.Ok)(hS0:Sep G W Rs w):Ret Tryz.prog 44 [.agg (d.cells dd0 dd1).toArray,.agg (c.cells).toArray] w (fun r w'=>r=(.int .i64 (xc d c):Value)∧Sep G W Rs w'):=by
 refine zm Tryz.func44 rfl rfl ?_
 refine za (R0 fun _=>st (zT rfl ?_))
 intro w3 b2 t
 refine st (zT rfl ?_)
 intro w7 u x
 have e:=(hS0.new t).new x
 refine st (aS (Iv 0) (zb (za (za (zy kr (st (YB rfl (st (lD (Iv (c.cagg)) kT rfl (zd (e.b0) rfl) (st (zI rfl rfl (st (mV (.bool (decide (c.cagg<0))) (stc (V:=Ix u 6) rfl rfl (fun y=>?_) ?_))))))))))))))
 exact Yd rfl rflB
 refine stc (V:=Iv (c.ckey)) rfl rfl (fun i=>?_) ?_
 exact lD (Iv (c.ckey)) kT (ifpC i) (zd (e.b0) rfl) rflB
 refine stc (V:=.bool (decide (c.ckey<0))) rfl rfl (fun j=>?_) ?_
 exact zI (ifpC j) rfl rflB
 refine st (zz rfl (fun hbp=>(ifpC hbp)) (st (mV (.bool ((decide (c.cagg<0))||(decide (c.ckey<0)))) (stc (V:=Ix u 5) rfl rfl (fun n=>?_) ?_))))
 have o:=n
 exact Zk rfl rflB
 refine stc (V:=Iv (c.expect)) rfl rfl (fun l=>?_) ?_
 have p:=l
 exact lD (Iv (c.expect)) kT (ifpC l) (zd (e.b0) rfl) rflB
 refine stc (V:=.bool (decide (c.expect<(-1)))) rfl rfl (fun m=>?_) ?_
 have q:=m
 exact zI (ifpC m) rfl rflB
 refine st (zz rfl (fun hbp=>(ifpC hbp)) (zb ?_))
 cases g:((decide (c.cagg<0))||(decide (c.ckey<0)))||(decide (c.expect<(-1)))
 have h:=g
 refine zf rfl (zp (za (R0 fun _=>st (ze mR kR rfl rfl (zi (e.b1)) (st (Zu rfl (st (lD (Iv (c.ctyp)) kT rfl (zd (e.b0) rfl) (st (Xu rfl (st (lD (Iv (c.cfield)) kT rfl (zd (e.b0) rfl) (st (Xw rfl (st (lD (Iv (c.cop)) kT rfl (zd (e.b0) rfl) (st (Yj rfl (st (lD (Iv (c.carg)) kT rfl (zd (e.b0) rfl) (st (cL Tryz.call83 (VX hdd0 hdd1 od oc.ctyp oc.cfield oc.cop oc.carg e) ?_))))))))))))))))))))))
 rintro _ w22 ⟨rfl,s⟩
 refine st (aS (Iv (xb d c.ctyp c.cfield c.cop c.carg)) (zb (zo (zN pA (show _=(Iv (xb d c.ctyp c.cfield c.cop c.carg):Value)from rfl) ?_))))
 refine⟨?_,(s.s2_)⟩
 unfold xc
 simp only[h,if_true,if_false,Bool.false_eq_true,↓reduceIte]
 have h:=g
 refine zg rfl (za (R0 fun _=>st (aS (Iv 1) (zb (zo (zN pA (show _=(Iv 1:Value)from rfl) ?_))))))
 refine⟨?_,(e.s2_)⟩
 unfold xc
 simp only[h,if_true,if_false,Bool.false_eq_true,↓reduceIte]
theorem VV {c:Cmd}(oc:c.Ok){o:Int}(ho:InR o){vv:Value}{v:List Int}(hv:RdS W G vv v){lam:Int}(hlam:InR lam)(hS0:Sep G W Rs w):Ret Tryz.prog 49 [.agg (c.cells).toArray,.int .i64 (o),vv,.int .i64 (lam)] w (fun r w'=> ∃(vd:Value),r=(.tuple #[.agg ((evE c o v lam).cells vd).toArray,.int .i64 ((evN o v lam))]:Value)∧Sep G W ((RowE (α:=Int) own 3 vd ((evE c o v lam).deps))::Rs) w'):=by
 have hvs:_*8≤_:=hv.small
 have hjl9:=VO (v:=v)
 refine zm Tryz.func49 rfl rfl ?_
 refine za (R0 fun _=>st (zT rfl ?_))
 intro w3 b2 af
 refine st (zv nR ?_)
 intro w7 u ag
 have x:=(hS0.new af).new ag
 refine st (aS (Iv 0) (zb (za (za (zy kr (st (mV (Iv o) (st (zI rfl rfl (st (mV (.bool (decide (o<0))) (stc (V:=Iv o) rfl rfl (fun ah=>?_) ?_))))))))))))
 have hl10:=fD ah
 exact mV (Iv o) rflB
 refine stc (V:=vv) rfl rfl (fun J=>?_) ?_
 have hl12:=fD J
 exact mV vv rflB
 refine stc (V:=Iw v.length) rfl rfl (fun y=>?_) ?_
 have hl14:=fD y
 exact zS oT (ifpC y) hv.sl rflB
 refine stc (V:=.bool (decide (((v.length:Nat):Int)≤o))) rfl rfl (fun p=>?_) ?_
 have hl16:=fD p
 exact xh (ifpC p) (ifpC p) rflB
 refine st (zz rfl (fun hbp=>(ifpC hbp)) (st (mV (.bool ((decide (o<0))||(decide (((v.length:Nat):Int)≤o)))) (stc (V:=Iv lam) rfl rfl (fun K=>?_) ?_))))
 have L:=K
 try simp only[zh]at L
 exact mV (Iv lam) rflB
 refine stc (V:=.bool (decide (lam<0))) rfl rfl (fun z=>?_) ?_
 have M:=z
 try simp only[zh]at M
 exact zI (ifpC z) rfl rflB
 refine st (zz rfl (fun hbp=>(ifpC hbp)) (zb ?_))
 cases i:((decide (o<0))||(decide (((v.length:Nat):Int)≤o)))||(decide (lam<0))
 have g:=i
 try simp only[zh]at i
 refine zf rfl (zp (za (R0 fun _=>st (mV vv (st (mV (Iv o) (st (cL lY (WW hv ho x) ?_))))))))
 rintro _ w23 ⟨rfl,hg22,q⟩
 refine st (aS (Iv (yz v o)) (zb (za (za (zy kr (st (mV (Iv (yz v o)) (st (zR rfl rfl (st (mV (.bool (decide ((yz v o)=9223372036854775807))) (stc (V:=Iv lam) rfl rfl (fun N=>?_) ?_))))))))))))
 have hl26:=fD N
 exact mV (Iv lam) rflB
 refine stc (V:=.bool (decide (lam=9223372036854775807))) rfl rfl (fun A=>?_) ?_
 have hl28:=fD A
 exact zR (ifpC A) rfl rflB
 refine st (zz rfl (fun hbp=>(ifpC hbp)) (zb ?_))
 cases j:(decide ((yz v o)=9223372036854775807))||(decide (lam=9223372036854775807))
 have l:=j
 try simp only[zh]at j
 refine zf rfl (zp (za (R0 fun _=>st (aS Iz (zb (za (za (R0 fun _=>st (aS (Iv 0) (zb (zu ?_)))))))))))
 have O:Sep _ _ ((RowE (α:=Int) own 3 Iz [])::_) _:=q.rowNil own 3
 refine yf (fun mq σ wq=> ∃k vo ρ,mq=v.length-k∧σ=yo ρ [(1,Iv o),(2,vv),(3,Iv lam),(4,Ix b2 0),(8,Ix u 0),(10,Iv (yz v o)),(12,Iw k),(11,vo)]∧(k≤v.length)∧Sep G W ((RowE own 3 vo ((yv v []).take k))::(Blk u #[Iv 0,Iv 0,Iv 0,(Iz),Iv 0,Iv 0,Iv 0,Iv 0,Iv 0,Iv 0] 44)::(Blk b2 (c.cells).toArray 49)::Rs) wq) ⟨0,(Iz),_,rfl,sSf,zY _,O⟩ ?_
 rintro m32 σ33 w31 ⟨k,vo,ρl1,rfl,rfl,hkk,e⟩
 let ai:=((⟨o,(yz v o)+1,lam+1,yv v [],c.ctyp,c.cagg,c.cfield,c.cop,c.carg,c.ckey⟩:Ev).cells vo)
 have P:=e.r0
 have hr35s:_*8≤_:=P.2
 refine za (za (R0 fun _=>st (mV (Iw k) (st (mV vv (st (zS oT rfl hv.sl (st (zI rfl rfl (zb ?_))))))))))
 cases h:decide (((k:Nat):Int)<((v.length:Nat):Int))
 have F:=h
 have h:=fD h
 have hkn:k=(yv v []).length:=by omega
 rw[hkn,List.take_of_length_le (Nat.le_refl (yv v []).length)]at e
 have s:=e.r0
 refine zf rfl (yh (zX (za (R0 fun _=>st (mV (Iv o) (st (mV (Iv (yz v o)) ?_)))))))
 have Q:InR ((yz v o)+1):=by omega
 refine st (zU (r:=(yz v o)+1) rfl rfl (zJ Q) (st (zQ (parts':=[(0,Iv o),(1,Iv ((yz v o)+1))]) (v:=.agg #[Iv o,Iv ((yz v o)+1)]) rfl (by simp+zetaDelta [Instr.build,Instr.fill,go_sem,Ev.cells,ev0]) (st (mV (Iv lam) ?_)))))
 have R:InR (lam+1):=by omega
 refine st (zU (r:=lam+1) rfl rfl (zJ R) (st (mV vo (st (Zu rfl (st (lD (Iv (c.ctyp)) kT rfl (zd (e.b2) rfl) (st (YB rfl (st (lD (Iv (c.cagg)) kT rfl (zd (e.b2) rfl) (st (Xu rfl (st (lD (Iv (c.cfield)) kT rfl (zd (e.b2) rfl) (st (Xw rfl (st (lD (Iv (c.cop)) kT rfl (zd (e.b2) rfl) (st (Yj rfl (st (lD (Iv (c.carg)) kT rfl (zd (e.b2) rfl) (st (Yd rfl (st (lD (Iv (c.ckey)) kT rfl (zd (e.b2) rfl) ?_)))))))))))))))))))))))))))
 refine st (zQ (parts':=[(0,.agg #[Iv o,Iv ((yz v o)+1)]),(1,Iv (lam+1)),(2,vo),(3,Iv (c.ctyp)),(4,Iv (c.cagg)),(5,Iv (c.cfield)),(6,Iv (c.cop)),(7,Iv (c.carg)),(8,Iv (c.ckey))]) (v:=.agg ai.toArray) rfl (by obtain⟨_,_,S,_⟩:=s.1;simp+zetaDelta [Instr.build,Instr.fill,go_sem,Ev.cells,ev0,S]) (stn (zr (v:=.agg ai.toArray) lT rfl rfl (e.b1) (zZ ⟨rfl,rfl,rfl,s.1.one,rfl,rfl,rfl,rfl,rfl,rfl,zj⟩) yqc rfl ?_)))
 intro w41 T
 have B:=e.pt1 T
 refine st (aS (Iv 0) (zb (zo (xY nY nT lT rfl rfl (zi (B.b1)) (show _=(Iv 0:Value)from rfl) ?_))))
 have f:evN o v lam=0:=by unfold evN;simp only[g,l,F,if_true,if_false,Bool.false_eq_true,↓reduceIte]
 have m:evE c o v lam=(⟨o,(yz v o)+1,lam+1,yv v [],c.ctyp,c.cagg,c.cfield,c.cop,c.carg,c.ckey⟩:Ev):=by unfold evE;exact ifpC f
 rw[m,f]
 refine⟨vo,?_,(B.s3_a)⟩
 rfl
 have h:=tD h
 refine zg rfl (zp (za (zu (R0 fun _=>st (mV vo (st (mV vv (st (mV (Iw k) (st (cL lY (WW (v:=v) (vv:=vv) (o:=((k:Nat):Int)) hv om e) ?_)))))))))))
 rintro _ w46 ⟨rfl,hg45,U⟩
 refine st (zL (c:=#[Iv (yz v ((k:Nat):Int))]) oT qT qY dc rfl kr ?_)
 intro w50 b49 X
 have C:=U.new X
 have H:=C.b0
 refine st (yx (src:=own) (bytes:=8) (x1:=yz v ((k:Nat):Int)) ((C.s4_bcd).emp1) UD rfl rfl H (fun _ _ _=>(show _ from⟨rfl,(by omega)⟩)) yqb rfl ?_)
 intro I w52 t
 have Y:=t.r0
 refine st (aS I (zb (R0 fun _=>st (mV (Iw k) ?_))))
 have Z:InR ((k+1:Nat):Int):=bo
 refine st (zU (r:=((k+1:Nat):Int)) rfl rfl (by rw[show(((k:Nat):Int)+1:Int)=((k+1:Nat):Int)from bo];exact zJ Z) (st (aS (Iw (k+1)) (zb ?_))))
 have aa:((yv v []).take (k+1))=((yv v []).take k)++[yz v ((k:Nat):Int)]:=(by rw[List.take_getD (d:=0) (by omega),UX (by omega)])
 rw[←aa]at t
 exact⟨_,by omega,k+1,I,_,rfl,sSf,by omega,t⟩
 have l:=j
 try simp only[zh]at j
 refine zg rfl (za (yy (by kernel_rfl) (fun _=>(st (zQ (parts':=[]) (v:=.agg (ev0.cells Iz).toArray) rfl (by simp+zetaDelta [Instr.build,Instr.fill,go_sem,Ev.cells,ev0]) (stn (zr (v:=.agg (ev0.cells Iz).toArray) lT rfl rfl (q.b0) (zZ ⟨rfl,rfl,rfl,rfl,rfl,rfl,rfl,rfl,rfl,rfl,zj⟩) yqc rfl ?_)))))))
 intro w61 ab
 have D:=q.pt0 ab
 refine st (aS (Iv 13) (zb (zo (xY nY nT lT rfl rfl (zi (D.b0)) (show _=(Iv 13:Value)from rfl) ?_))))
 have ac:Sep _ _ ((RowE (α:=Int) own 3 Iz [])::_) _:=D.rowNil own 3
 have f:evN o v lam=13:=by unfold evN;simp only[g,l,if_true,if_false,Bool.false_eq_true,↓reduceIte]
 have m:evE c o v lam=ev0:=by unfold evE;exact ifnC (by rw[f];decide)
 rw[m,f]
 refine⟨(Iz),?_,(ac.s3_a)⟩
 rfl
 have g:=i
 try simp only[zh]at i
 refine zg rfl (za (yy (by kernel_rfl) (fun _=>(st (zQ (parts':=[]) (v:=.agg (ev0.cells Iz).toArray) rfl (by simp+zetaDelta [Instr.build,Instr.fill,go_sem,Ev.cells,ev0]) (stn (zr (v:=.agg (ev0.cells Iz).toArray) lT rfl rfl (x.b0) (zZ ⟨rfl,rfl,rfl,rfl,rfl,rfl,rfl,rfl,rfl,rfl,zj⟩) yqc rfl ?_)))))))
 intro w66 ad
 have E:=x.pt0 ad
 refine st (aS (Iv 1) (zb (zo (xY nY nT lT rfl rfl (zi (E.b0)) (show _=(Iv 1:Value)from rfl) ?_))))
 have ae:Sep _ _ ((RowE (α:=Int) own 3 Iz [])::_) _:=E.rowNil own 3
 have f:evN o v lam=1:=by unfold evN;simp only[g,if_true,if_false,Bool.false_eq_true,↓reduceIte]
 have m:evE c o v lam=ev0:=by unfold evE;exact ifnC (by rw[f];decide)
 rw[m,f]
 refine⟨(Iz),?_,(ae.s3_a)⟩
 rfl
end
section
def xa (a b:Int):Int:=if a<b then-1 else if b<a then 1 else 0
def orL:List Int→Int
 |[]=>0
 |x::l=>if x≠0 then x else orL l
def Yt (a b:Ev):Int:=orL [xa a.lam b.lam,xa a.origin b.origin,xa a.seq b.seq]
theorem Qs (a b:Int):InR (xa a b):=by unfold xa;split<;>(try split)<;>decide
end
section
open Go.Proofs Go.RowKit
theorem Jv {x:Int}(hS0:Sep G W Rs w):Ret Tryz.prog 139 [.int .i64 (x)] w (fun r w'=>r=(.bool false:Value)∧Sep G W Rs w'):=by
 refine zm Tryz.func139 rfl rfl ?_
 refine za (R0 fun _=>st (aS (.bool false) (zb (za (R0 fun _=>st (mV (Iv x) (st (mV (Iv x) (st (yj rfl rfl (st (aS (.bool (!decide (x=x))) (zb (zo (zN Tryz.results139 (show _=(.bool (!decide (x=x)):Value)from rfl) ?_)))))))))))))))
 refine⟨?_,hS0⟩
 simp
theorem KS {x:Int}{y:Int}(hS0:Sep G W Rs w):Ret Tryz.prog 117 [.int .i64 (x),.int .i64 (y)] w (fun r w'=>r=(.int .i64 ((xa x y)):Value)∧Sep G W Rs w'):=by
 refine zm Tryz.func117 rfl rfl ?_
 refine za (R0 fun _=>st (aS (Iv 0) (zb (za (R0 fun _=>st (mV (Iv x) (st (cL qA (Jv hS0) ?_))))))))
 rintro _ w1 ⟨rfl,f⟩
 refine st (aS (.bool false) (zb (za (R0 fun _=>st (mV (Iv y) (st (cL qA (Jv f) ?_)))))))
 rintro _ w3 ⟨rfl,e⟩
 refine st (aS (.bool false) (zb (za (za (R0 fun _=>st (mV (.bool false) (zb (zf rfl (zp (za (za (R0 fun _=>st (mV (.bool false) (zb (zf rfl (zp (za (za (R0 fun _=>st (mV (Iv x) (st (mV (Iv y) (st (zI rfl rfl (zb ?_)))))))))))))))))))))))))
 cases c:decide (x<y)
 have c:=fD c
 refine zf rfl (zp (za (za (R0 fun _=>st (mV (Iv x) (st (mV (Iv y) (st (xj (k:=.i64) (a:=x) (b:=y) rfl rfl (zb ?_))))))))))
 cases d:decide (y<x)
 have d:=fD d
 refine zf rfl (zp (za (R0 fun _=>st (aS (Iv 0) (zb (zo (zN oY (show _=(Iv 0:Value)from rfl) ?_)))))))
 refine⟨?_,e⟩
 unfold xa
 (repeat (first|rw[ifpC (by omega)]|rw[ifnC (by omega)]))
 have d:=tD d
 refine zg rfl (za (R0 fun _=>st (aS (Iv 1) (zb (zo (zN oY (show _=(Iv 1:Value)from rfl) ?_))))))
 refine⟨?_,e⟩
 unfold xa
 (repeat (first|rw[ifpC (by omega)]|rw[ifnC (by omega)]))
 have c:=tD c
 refine zg rfl (za (R0 fun _=>st (aS (Iv (-1)) (zb (zo (zN oY (show _=(Iv (-1):Value)from rfl) ?_))))))
 refine⟨?_,e⟩
 unfold xa
 (repeat (first|rw[ifpC (by omega)]|rw[ifnC (by omega)]))
theorem Da_or {vl:Value}{l:List Int}(hl:RdS W G vl l)(hS0:Sep G W Rs w):Ret Tryz.prog 116 [vl] w (fun r w'=>r=(.int .i64 ((orL l)):Value)∧Sep G W Rs w'):=by
 have hls:_*8≤_:=hl.small
 refine zm Tryz.func116 rfl rfl ?_
 refine za (R0 fun _=>st (aS (Iv 0) (zb (za (R0 fun _=>st (aS (Iv 0) (zb (za (za (R0 fun _=>st (mV vl (st (zS oT rfl hl.sl (st (mV (Iv 0) (zb (zu (yf (fun mq σ q=> ∃k ρ,mq=l.length-k∧σ=yo ρ [(0,vl),(3,Iv 0),(6,vl),(7,Iw l.length),(8,Iw k)]∧(k≤l.length)∧(orL l=orL (l.drop k))∧Sep G W Rs q) ⟨0,_,rfl,sSf,zY _,rfl,hS0⟩ ?_))))))))))))))))))
 rintro m2 σ3 w1 ⟨k,ρl1,rfl,rfl,hkk,g,d⟩
 refine za (R0 fun _=>st (zI rfl rfl (zb (za ?_))))
 cases e:decide (((k:Nat):Int)<((l.length:Nat):Int))
 have e:=fD e
 refine zf rfl (yh (zX (za (R0 fun _=>st (mV (Iv 0) (st (aS (Iv 0) (zb (zo (zN rA (show _=(Iv 0:Value)from rfl) ?_))))))))))
 refine⟨?_,d⟩
 rw[g,List.drop_of_length_le (by omega)];rfl
 have e:=tD e
 refine zg rfl (zp (za (zu (za (R0 fun _=>?_)))))
 have p:k<l.length:=bo
 refine st (zn (k:=1) oT qT rfl hl.sl rfl p ?_)
 have f:k<l.length:=bo
 obtain⟨h,hxe7⟩:=hl.intD f
 have m:=d.cells h (hl.foot (ne_of_lt f))
 refine st (lD (Iv ((l.getD k 0))) kT rfl (m.get (j:=0) rfl) (st (aS (Iv ((l.getD k 0))) (zb (za (R0 fun _=>st (mV (Iv ((l.getD k 0))) (st (mV (Iv 0) (st (yj rfl rfl (zb ?_))))))))))))
 cases c: !decide ((l.getD k 0)=0)
 have c:=zB c
 refine zf rfl (zp (R0 fun _=>?_))
 have o:InR ((k+1:Nat):Int):=bo
 refine st (zU (r:=((k+1:Nat):Int)) rfl rfl (by rw[show(((k:Nat):Int)+1:Int)=((k+1:Nat):Int)from bo];exact zJ o) (st (mV (Iw (k+1)) (zb ?_))))
 exact⟨_,by omega,k+1,_,rfl,sSf,by omega,(by rw[g,List.drop_eq_getElem_cons (by omega)];simp only[orL];rw[ifnC (by rw[←zK 0 (by omega)];simpa using c)]),d⟩
 have c:=zC c
 refine zg rfl (za (R0 fun _=>st (mV (Iv ((l.getD k 0))) (st (aS (Iv ((l.getD k 0))) (zb (zo (zN rA (show _=(Iv ((l.getD k 0)):Value)from rfl) ?_))))))))
 refine⟨?_,d⟩
 rw[g,List.drop_eq_getElem_cons (by omega)];simp only[orL];rw[ifpC (by rw[←zK 0 (by omega)];simpa using c),←zK 0 (by omega)]
theorem zbt {x:Int}(hx:InR x)(hS0:Sep G W Rs w):Ret Tryz.prog 93 [.int .i64 (x)] w (fun r w'=>r=(.bool (decide (x<0)):Value)∧Sep G W Rs w'):=by
 refine zm Tryz.func93 rfl rfl ?_
 refine za (R0 fun _=>st (aS (.bool false) (zb (za (R0 fun _=>st (mV (Iv x) (st (zI rfl rfl (st (aS (.bool (decide (x<0))) (zb (zo (zN Tryz.results93 rfl ?_)))))))))))))
 refine⟨rfl,hS0⟩
theorem Up {e:Ev}{de0:Value}(hde0:RdS W G de0 e.deps)(oe:e.Ok)(hS0:Sep G W Rs w):Ret Tryz.prog 69 [.agg (e.cells de0).toArray] w (fun r w'=> ∃(v:Value),r=(.agg (e.cells v).toArray:Value)∧Sep G W ((RowE (α:=Int) own 3 v e.deps)::Rs) w'):=by
 refine zm Tryz.func69 rfl rfl ?_
 refine za (R0 fun _=>st (zT rfl ?_))
 intro w3 b2 n
 refine st (zv nR ?_)
 intro w7 p o
 have i:=(hS0.new n).new o
 refine zb (za (R0 fun _=>st (xg rfl (st (lD de0 lA rfl (zd (i.b1) rfl) (st (cL Tryz.call82 (ZQ hde0 i) ?_)))))))
 rintro g w10 ⟨_,rfl,a⟩
 have d:=a.r0
 refine st (xg rfl (stn (yr Tryz.sizeOf42 rfl rfl (a.b2) d.1.one rfl rfl ?_)))
 intro w13 j
 have f:=a.pt2 j
 refine zb (za (R0 fun _=>st (ze nT lT rfl rfl (zi (f.b2)) (stn (zr (v:=.agg (e.cells g).toArray) lT rfl rfl (f.b1) (zZ ⟨rfl,rfl,rfl,d.1.one,rfl,rfl,rfl,rfl,rfl,rfl,zj⟩) yqc rfl ?_)))))
 intro w17 m
 have h:=f.pt1 m
 refine zb (zo (VU Tryz.results69 nT lT rfl rfl (zi (h.b1)) ?_))
 refine⟨g,rfl,(h.s3_a)⟩
theorem Kf {vl:Value}{l:List Int}(hl:RdS W G vl l)(hS0:Sep G W Rs w):Ret Tryz.prog 119 [vl,.func (.func 93) #[] #[]] w (fun r w'=> ∃(c:Int),r=(.int .i64 (c):Value)∧(InR c)∧(c<0↔ ∀i,i<l.length→0≤l.getD i 0)∧Sep G W Rs w'):=by
 have hls:_*8≤_:=hl.small
 refine zm Tryz.func119 rfl rfl ?_
 refine za (R0 fun _=>st (aS (Iv 0) (zb (za (za (R0 fun _=>st (mV vl (st (zS oT rfl hl.sl (st (mV (Iv 0) (zb (zu (yf (fun mq σ u=> ∃k ρ,mq=l.length-k∧σ=yo ρ [(0,vl),(1,.func (.func 93) #[] #[]),(6,vl),(7,Iw l.length),(8,Iw k)]∧(k≤l.length)∧(∀i,i<k→0≤l.getD i 0)∧Sep G W Rs u) ⟨0,_,rfl,sSf,zY _,(fun i h=>absurd h (yO i)),hS0⟩ ?_))))))))))))))
 rintro m2 σ3 w1 ⟨k,ρl1,rfl,rfl,hkk,hm,f⟩
 refine za (R0 fun _=>st (zI rfl rfl (zb (za ?_))))
 cases e:decide (((k:Nat):Int)<((l.length:Nat):Int))
 have e:=fD e
 refine zf rfl (yh (zX (za (R0 fun _=>st (aS (Iv (-1)) (zb (zo (zN sA rfl ?_))))))))
 refine⟨-1,rfl,?_,?_,f⟩
 decide
 exact⟨fun _ i hi=>hm i om,fun _=>by decide⟩
 have e:=tD e
 refine zg rfl (zp (za (zu (za (R0 fun _=>st (mV (Iw k) (st (aS (Iw k) (zb (za (R0 fun _=>st (mV (.func (.func 93) #[] #[]) (st (mV vl (st (mV (Iw k) ?_))))))))))))))))
 have t:k<l.length:=bo
 refine st (zn oT qT rfl hl.sl rfl t ?_)
 have m:k<l.length:=bo
 obtain⟨o,p⟩:=hl.intD m
 have q:=f.cells o (hl.foot (ne_of_lt m))
 refine st (lD (Iv ((l.getD k 0))) kT rfl (q.get (j:=0) rfl) (st (cL Tryz.call93 (zbt (x:=(l.getD k 0)) p f) ?_)))
 rintro _ w10 ⟨rfl,g⟩
 refine zb ?_
 cases d:decide ((l.getD k 0)<0)
 have d:=fD d
 refine zf rfl (zp (R0 fun _=>?_))
 have s:InR ((k+1:Nat):Int):=bo
 refine st (zU (r:=((k+1:Nat):Int)) rfl rfl (by rw[show(((k:Nat):Int)+1:Int)=((k+1:Nat):Int)from bo];exact zJ s) (st (mV (Iw (k+1)) (zb ?_))))
 exact⟨_,by omega,k+1,_,rfl,sSf,by omega,(yU hm om),g⟩
 have d:=tD d
 refine zg rfl (za (R0 fun _=>st (mV (Iw k) (st (aS (Iw k) (zb (zo (zN sA rfl ?_))))))))
 refine⟨((k:Nat):Int),rfl,?_,?_,g⟩
 show InR ((k:Nat):Int);omega
 refine⟨fun h=>by omega,fun h=>?_⟩
 have h8:=h k om
 omega
def Yp (l:List Int):Bool:=l.any (fun x=>decide (x<0))
theorem negL_iff {l:List Int}:Yp l=false↔ ∀i,i<l.length→0≤l.getD i 0:=by
 unfold Yp
 rw[List.any_eq_false]
 constructor
 ·intro h i hi
  have:=h l[i] (List.getElem_mem hi)
  rw[zK 0 hi]
  simpa using this
 ·intro h x hx
  obtain⟨i,hi,rfl⟩:=List.getElem_of_mem hx
  have:=h i hi
  rw[zK 0 hi]at this
  simpa using this
theorem zcW {l:List Int}{c:Int}(h:c<0↔Yp l=false):decide (0≤c)=Yp l:=by
 cases hb:Yp l
 ·exact decide_eq_false (by have:=h.2 hb;omega)
 ·refine decide_eq_true ?_
  rcases Int.lt_or_le c 0 with h1|h1
  ·rw[h.1 h1]at hb;cases hb
  ·exact h1
theorem Vp {vl:Value}{l:List Int}(hl:RdS W G vl l)(hS0:Sep G W Rs w):Ret Tryz.prog 94 [vl,.func (.func 93) #[] #[]] w (fun r w'=>r=(.bool ((Yp l)):Value)∧Sep G W Rs w'):=by
 refine zm Tryz.func94 rfl rfl ?_
 refine za (R0 fun _=>st (aS (.bool false) (zb (za (R0 fun _=>st (mV vl (st (mV (.func (.func 93) #[] #[]) (st (cL Tryz.call119 (Kf (l:=l) (vl:=vl) hl hS0) ?_))))))))))
 rintro _ w4 ⟨c,rfl,hc92,d,e⟩
 refine st (xh rfl rfl (st (aS (.bool (decide (0≤c))) (zb (zo (zN Tryz.results94 (show _=(.bool (decide (0≤c)):Value)from rfl) ?_))))))
 refine⟨?_,e⟩
 congr 1
 exact zcW (d.trans negL_iff.symm)
end
end Go.Proofs.YtbcdijeggfoabaaGreatDoor
