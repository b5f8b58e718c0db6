import Derived.Test.YtbcdijeggfoabaaGreatDoorZ7
import Derived.RangeFuncLeaves
import Derived.RangeFuncMany
import Derived.OrdersIn
import Derived.TacticsIn
import Derived.Shelf.SlSortCmp.NoneTotal
set_option maxRecDepth 8000
set_option maxHeartbeats 4000000
set_option linter.unusedSimpArgs false
set_option linter.unusedVariables false
set_option linter.unusedSectionVars false
set_option linter.deprecated false
open Go.Proofs.Tryz renaming isAgg3→kT,sizeOf44→lT,f54→mT,underlying42→nT,isAgg42→oT,isAgg44→pT,sizeOf3→qT,zeroValue44→rT,isAgg26→sT,results67→tT,results68→uT,underlying26→vT,results73→wT,isAgg116→kR,call117→lR,underlying116→mR,sizeOf26→nR,zeroValue3→oR,zeroValue26→pR,call54→qR,results35→rR
namespace Go.Proofs.YtbcdijeggfoabaaGreatDoor
variable {G:Nat→Prop}{W w:World}{Rs:List HP}
section
open Go.Proofs Go.RowKit
def yE (e:Ev)(n:Int):Int:=
 if(((((decide (e.origin<0)||decide (n≤e.origin))||decide (min e.seq e.lam<1))||decide (min e.agg e.key<0))|| !decide (((e.deps.length:Nat):Int)=n))||Yp e.deps)=true then 1
 else if(!decide (e.deps.getD e.origin.toNat 0=e.seq-1))=true then 9
 else if(decide (e.op<1)||decide (5<e.op))=true then 2
 else if((decide (min e.typ e.field<0)||decide (8≤e.typ))||decide (8≤e.field))=true then 8
 else 0
theorem zcA {e:Ev}{de0:Value}(hde0:RdS W G de0 e.deps)(oe:e.Ok){n:Int}(hn:InR n)(hS0:Sep G W Rs w):Ret Tryz.prog 67 [.agg (e.cells de0).toArray,.int .i64 (n)] w (fun r w'=>r=(.int .i64 ((yE e n)):Value)∧Sep G W Rs w'):=by
 refine zm Tryz.func67 rfl rfl ?_
 refine za (R0 fun _=>st (zT rfl ?_))
 intro w3 b2 bi
 have m:=hS0.new bi
 refine st (aS (Iv 0) (zb (za (R0 fun _=>st (aS (.func (.func 93) #[] #[]) (zb (za (zu (za (zy kr (st (yA rfl (st (xm rfl (st (lD (Iv (e.origin)) kT rfl (zd (m.b0) rfl) (st (zI rfl rfl (st (mV (.bool (decide (e.origin<0))) (stc (V:=Ix b2 0) rfl rfl (fun bj=>?_) ?_)))))))))))))))))))))
 exact yA rfl rflB
 refine stc (V:=Ix b2 0) rfl rfl (fun ax=>?_) ?_
 exact xm (ifpC ax) rflB
 refine stc (V:=Iv (e.origin)) rfl rfl (fun ay=>?_) ?_
 exact lD (Iv (e.origin)) kT (ifpC ay) (zd (m.b0) rfl) rflB
 refine stc (V:=Iv n) rfl rfl (fun az=>?_) ?_
 exact mV (Iv n) rflB
 refine stc (V:=.bool (decide (n≤e.origin))) rfl rfl (fun u=>?_) ?_
 exact xh (ifpC u) (ifpC u) rflB
 refine st (zz rfl (fun hbp=>(ifpC hbp)) (st (mV (.bool ((decide (e.origin<0))||(decide (n≤e.origin)))) (stc (V:=Ix b2 0) rfl rfl (fun aA=>?_) ?_))))
 have aB:=aA
 try simp only[zh]at aB
 exact yA rfl rflB
 refine stc (V:=Ix b2 1) rfl rfl (fun L=>?_) ?_
 have aC:=L
 try simp only[zh]at aC
 exact Za (ifpC L) rflB
 refine stc (V:=Iv (e.seq)) rfl rfl (fun M=>?_) ?_
 have aD:=M
 try simp only[zh]at aD
 exact lD (Iv (e.seq)) kT (ifpC M) (zd (m.b0) rfl) rflB
 refine stc (V:=Ix b2 2) rfl rfl (fun aE=>?_) ?_
 have aF:=aE
 try simp only[zh]at aF
 exact xQ rfl rflB
 refine stc (V:=Iv (e.lam)) rfl rfl (fun N=>?_) ?_
 have aG:=N
 try simp only[zh]at aG
 exact lD (Iv (e.lam)) kT (ifpC N) (zd (m.b0) rfl) rflB
 refine stc (V:=Iv (min e.seq e.lam)) rfl rfl (fun x=>?_) ?_
 have aH:=x
 try simp only[zh]at aH
 exact Jc (k:=.i64) (a:=e.seq) (b:=e.lam) (ifpC x) (ifpC x) rflB
 refine stc (V:=.bool (decide ((min e.seq e.lam)<1))) rfl rfl (fun O=>?_) ?_
 have aI:=O
 try simp only[zh]at aI
 exact zI (ifpC O) rfl rflB
 refine st (zz rfl (fun hbp=>(ifpC hbp)) (st (mV (.bool (((decide (e.origin<0))||(decide (n≤e.origin)))||(decide ((min e.seq e.lam)<1)))) (stc (V:=Ix b2 5) rfl rfl (fun aJ=>?_) ?_))))
 have aK:=aJ
 try simp only[zh]at aK
 exact Ye rfl rflB
 refine stc (V:=Iv (e.agg)) rfl rfl (fun P=>?_) ?_
 have aL:=P
 try simp only[zh]at aL
 exact lD (Iv (e.agg)) kT (ifpC P) (zd (m.b0) rfl) rflB
 refine stc (V:=Ix b2 9) rfl rfl (fun aM=>?_) ?_
 have aN:=aM
 try simp only[zh]at aN
 exact YV rfl rflB
 refine stc (V:=Iv (e.key)) rfl rfl (fun Q=>?_) ?_
 have aO:=Q
 try simp only[zh]at aO
 exact lD (Iv (e.key)) kT (ifpC Q) (zd (m.b0) rfl) rflB
 refine stc (V:=Iv (min e.agg e.key)) rfl rfl (fun y=>?_) ?_
 have aP:=y
 try simp only[zh]at aP
 exact Jc (k:=.i64) (a:=e.agg) (b:=e.key) (ifpC y) (ifpC y) rflB
 refine stc (V:=.bool (decide ((min e.agg e.key)<0))) rfl rfl (fun R=>?_) ?_
 have aQ:=R
 try simp only[zh]at aQ
 exact zI (ifpC R) rfl rflB
 refine st (zz rfl (fun hbp=>(ifpC hbp)) (st (mV (.bool ((((decide (e.origin<0))||(decide (n≤e.origin)))||(decide ((min e.seq e.lam)<1)))||(decide ((min e.agg e.key)<0)))) (stc (V:=Ix b2 3) rfl rfl (fun aR=>?_) ?_))))
 have aT:=aR
 try simp only[zh]at aT
 exact xg rfl rflB
 refine stc (V:=de0) rfl rfl (fun S=>?_) ?_
 have aU:=S
 try simp only[zh]at aU
 exact lD de0 oT (ifpC S) (zd (m.b0) rfl) rflB
 refine stc (V:=Iw e.deps.length) rfl rfl (fun T=>?_) ?_
 have aV:=T
 try simp only[zh]at aV
 exact zS nT (ifpC T) hde0.sl rflB
 refine stc (V:=Iv n) rfl rfl (fun aW=>?_) ?_
 have aX:=aW
 try simp only[zh]at aX
 exact mV (Iv n) rflB
 refine stc (V:=.bool (!decide (((e.deps.length:Nat):Int)=n))) rfl rfl (fun z=>?_) ?_
 have aY:=z
 try simp only[zh]at aY
 exact yj (ifpC z) (ifpC z) rflB
 refine st (zz rfl (fun hbp=>(ifpC hbp)) (st (mV (.bool (((((decide (e.origin<0))||(decide (n≤e.origin)))||(decide ((min e.seq e.lam)<1)))||(decide ((min e.agg e.key)<0)))||(!decide (((e.deps.length:Nat):Int)=n)))) (stc (V:=Ix b2 3) rfl rfl (fun aZ=>?_) ?_))))
 have ba:=aZ
 try simp only[zh]at ba
 exact xg rfl rflB
 refine stc (V:=de0) rfl rfl (fun U=>?_) ?_
 have bb:=U
 try simp only[zh]at bb
 exact lD de0 oT (ifpC U) (zd (m.b0) rfl) rflB
 refine stc (V:=.func (.func 93) #[] #[]) rfl rfl (fun bc=>?_) ?_
 have bd:=bc
 try simp only[zh]at bd
 exact mV (.func (.func 93) #[] #[]) rflB
 refine zdu (V:=.bool ((Yp e.deps))) (fun _ wq=>Sep G W ((Blk b2 (e.cells de0).toArray 44)::Rs) wq) m rfl rfl (fun A=>?_) (fun w61 X=>?_)
 have bf:=A
 try simp only[zh]at bf
 refine(zO (vals:=[de0,.func (.func 93) #[] #[]]) rfl (yK ⟨(ifpC A),(ifpC A),zj⟩) Tryz.call94 (Vp (l:=e.deps) (vl:=de0) hde0 m) ?_)
 rintro _ w59 ⟨rfl,bg⟩
 exact⟨rfl,bg⟩
 refine st (zz rfl (fun hbp=>(ifpC hbp)) (st (aS (.bool ((((((decide (e.origin<0))||(decide (n≤e.origin)))||(decide ((min e.seq e.lam)<1)))||(decide ((min e.agg e.key)<0)))||(!decide (((e.deps.length:Nat):Int)=n)))||(Yp e.deps))) (zb ?_))))
 cases t:(((((decide (e.origin<0))||(decide (n≤e.origin)))||(decide ((min e.seq e.lam)<1)))||(decide ((min e.agg e.key)<0)))||(!decide (((e.deps.length:Nat):Int)=n)))||(Yp e.deps)
 have g:=t
 try simp only[zh]at t
 refine zf rfl (za ?_)
 refine WD4 (WF [fun vals wq=>Sep G W ((Blk b2 (e.cells de0).toArray 44)::Rs) wq]) (AF [Vl 0 (Ix b2 3),Vl 1 de0,Vl 2 (Ix b2 0),Vl 3 (Ix b2 0),Vl 4 (Iv (e.origin)),Vl 5 (Ix (sb de0) (so de0+e.origin.toNat*1)),Vl 6 (Iv ((e.deps.getD e.origin.toNat 0))),Vl 7 (Ix b2 0),Vl 8 (Ix b2 1),Vl 9 (Iv (e.seq)),Vl 10 (Iv (e.seq-1)),Vl 11 (.bool (!decide ((e.deps.getD e.origin.toNat 0)=(e.seq-1)))),Vl 12 (.bool (!decide ((e.deps.getD e.origin.toNat 0)=(e.seq-1))))]) [[],[0],[],[2],[2,3],(rg 5),(rg 6),[],[7],[7,8],[7,8,9],(rg 11),(rg 12)] [] [(0,0),(0,0),(0,0),(0,0),(0,0),(0,0),(0,0),(0,0),(0,0),(0,0),(0,0),(0,0),(0,0)] X ⟨fun _ _ _ _ _ _ _=>obl rfl (xg rfl dR),ob1 0 fun _ _ (aa:Sep _ _ _ _) ab=>obl rfl (lD de0 oT (ab 0 dc) (zd (aa.b0) rfl) dR),fun _ _ _ _ _ _ _=>obl rfl (yA rfl dR),fun _ _ _ _ _ _ ac=>obl rfl (xm (ac 2 dc) dR),ob1 0 fun _ _ (ad:Sep _ _ _ _) ae=>obl rfl (lD (Iv (e.origin)) kT (ae 3 dc) (zd (ad.b0) rfl) dR),?_,?_,fun _ _ _ _ _ _ _=>obl rfl (yA rfl dR),fun _ _ _ _ _ _ af=>obl rfl (Za (af 7 dc) dR),ob1 0 fun _ _ (ag:Sep _ _ _ _) ah=>obl rfl (lD (Iv (e.seq)) kT (ah 8 dc) (zd (ag.b0) rfl) dR),?_,ob1 0 fun _ _ _ B=>obl rfl (yj (B 6 dc) (B 10 dc) dR),fun _ _ _ _ _ _ ai=>obl rfl (ya (ai 11 dc) dR),zj⟩ ?_
 refine ob1 0 fun _ _ _ C=>(obl rfl ?_)
 exact zA nT qT (C 1 dc) hde0.sl (C 4 dc) ⟨by omega,by omega⟩ dR
 refine ob1 0 fun _ _ (aj:Sep _ _ _ _) ak=>(obl rfl ?_)
 have D:e.origin.toNat<e.deps.length:=bo
 obtain⟨Y,hxe219⟩:=hde0.intD D
 have Z:=aj.cells Y (hde0.foot (ne_of_lt D))
 exact lD (Iv ((e.deps.getD e.origin.toNat 0))) kT (ak 5 dc) (Z.get (j:=0) rfl) dR
 refine ob1 0 fun _ _ _ al=>(obl rfl ?_)
 have am:InR (e.seq-1):=(by have h9:=oe.seq;omega)
 exact YK (r:=e.seq-1) (b:=1) (al 9 (by decide)) rfl (by rw[show(e.seq-1:Int)=e.seq-1 from rfl];exact zJ am) dR
 intro vals w268 an ao
 have c:=an
 have bh:=ao 12 dc
 refine yd (kv:=[(0,.agg (e.cells de0).toArray),(1,Iv n),(2,Ix b2 0),(4,Iv 0),(5,.func (.func 93) #[] #[]),(7,Ix b2 0),(8,Ix b2 0),(9,Iv (e.origin)),(10,.bool (decide (e.origin<0))),(11,.bool (decide (e.origin<0))),(17,.bool ((decide (e.origin<0))||(decide (n≤e.origin)))),(18,.bool ((decide (e.origin<0))||(decide (n≤e.origin)))),(26,.bool (((decide (e.origin<0))||(decide (n≤e.origin)))||(decide ((min e.seq e.lam)<1)))),(27,.bool (((decide (e.origin<0))||(decide (n≤e.origin)))||(decide ((min e.seq e.lam)<1)))),(34,.bool ((((decide (e.origin<0))||(decide (n≤e.origin)))||(decide ((min e.seq e.lam)<1)))||(decide ((min e.agg e.key)<0)))),(35,.bool ((((decide (e.origin<0))||(decide (n≤e.origin)))||(decide ((min e.seq e.lam)<1)))||(decide ((min e.agg e.key)<0)))),(41,.bool (((((decide (e.origin<0))||(decide (n≤e.origin)))||(decide ((min e.seq e.lam)<1)))||(decide ((min e.agg e.key)<0)))||(!decide (((e.deps.length:Nat):Int)=n)))),(42,.bool (((((decide (e.origin<0))||(decide (n≤e.origin)))||(decide ((min e.seq e.lam)<1)))||(decide ((min e.agg e.key)<0)))||(!decide (((e.deps.length:Nat):Int)=n)))),(47,.bool false),(6,.bool false),(48,.bool (!decide ((e.deps.getD e.origin.toNat 0)=(e.seq-1))))]) ⟨rfl,rfl,rfl,rfl,rfl,rfl,rfl,rfl,rfl,rfl,rfl,rfl,rfl,rfl,rfl,rfl,rfl,rfl,rfl,rfl,(by exact bh),zj⟩ (fun ρw268=>?_)
 refine zb ?_
 cases h: !decide ((e.deps.getD e.origin.toNat 0)=(e.seq-1))
 have d:=h
 have h:=zB h
 refine zf rfl (za (zy kr (st (xP rfl (st (lD (Iv (e.op)) kT rfl (zd (c.b0) rfl) (st (zI rfl rfl (st (mV (.bool (decide (e.op<1))) (stc (V:=Ix b2 7) rfl rfl (fun ap=>?_) ?_)))))))))))
 exact xP rfl rflB
 refine stc (V:=Iv (e.op)) rfl rfl (fun E=>?_) ?_
 exact lD (Iv (e.op)) kT (ifpC E) (zd (c.b0) rfl) rflB
 refine stc (V:=.bool (decide (5<e.op))) rfl rfl (fun F=>?_) ?_
 exact xj (k:=.i64) (a:=e.op) (b:=5) (ifpC F) rfl rflB
 refine st (zz rfl (fun hbp=>(ifpC hbp)) (st (aS (.bool ((decide (e.op<1))||(decide (5<e.op)))) (zb ?_))))
 cases p:(decide (e.op<1))||(decide (5<e.op))
 have o:=p
 try simp only[zh]at p
 refine zf rfl (za (zy kr (st (xL rfl (st (lD (Iv (e.typ)) kT rfl (zd (c.b0) rfl) (st (xN rfl (st (lD (Iv (e.field)) kT rfl (zd (c.b0) rfl) (st (Jc (k:=.i64) (a:=e.typ) (b:=e.field) rfl rfl (st (zI rfl rfl (st (mV (.bool (decide ((min e.typ e.field)<0))) (stc (V:=Ix b2 4) rfl rfl (fun aq=>?_) ?_)))))))))))))))))
 exact xL rfl rflB
 refine stc (V:=Iv (e.typ)) rfl rfl (fun H=>?_) ?_
 exact lD (Iv (e.typ)) kT (ifpC H) (zd (c.b0) rfl) rflB
 refine stc (V:=.bool (decide (8≤e.typ))) rfl rfl (fun I=>?_) ?_
 exact xh (ifpC I) rfl rflB
 refine st (zz rfl (fun hbp=>(ifpC hbp)) (st (mV (.bool ((decide ((min e.typ e.field)<0))||(decide (8≤e.typ)))) (stc (V:=Ix b2 6) rfl rfl (fun ar=>?_) ?_))))
 have au:=ar
 try simp only[zh]at au
 exact xN rfl rflB
 refine stc (V:=Iv (e.field)) rfl rfl (fun J=>?_) ?_
 have av:=J
 try simp only[zh]at av
 exact lD (Iv (e.field)) kT (ifpC J) (zd (c.b0) rfl) rflB
 refine stc (V:=.bool (decide (8≤e.field))) rfl rfl (fun K=>?_) ?_
 have aw:=K
 try simp only[zh]at aw
 exact xh (ifpC K) rfl rflB
 refine st (zz rfl (fun hbp=>(ifpC hbp)) (st (aS (.bool (((decide ((min e.typ e.field)<0))||(decide (8≤e.typ)))||(decide (8≤e.field)))) (zb ?_))))
 cases q:((decide ((min e.typ e.field)<0))||(decide (8≤e.typ)))||(decide (8≤e.field))
 have s:=q
 try simp only[zh]at q
 refine zf rfl (zp (za (R0 fun _=>st (aS (Iv 0) (zb (zo (zN tT (show _=(Iv 0:Value)from rfl) ?_)))))))
 refine⟨?_,(c.s1_)⟩
 unfold yE
 simp only[g,d,o,s,if_true,if_false,Bool.false_eq_true,↓reduceIte]
 have s:=q
 try simp only[zh]at q
 refine zg rfl (za (R0 fun _=>st (aS (Iv 8) (zb (zo (zN tT (show _=(Iv 8:Value)from rfl) ?_))))))
 refine⟨?_,(c.s1_)⟩
 unfold yE
 simp only[g,d,o,s,if_true,if_false,Bool.false_eq_true,↓reduceIte]
 have o:=p
 try simp only[zh]at p
 refine zg rfl (za (R0 fun _=>st (aS (Iv 2) (zb (zo (zN tT (show _=(Iv 2:Value)from rfl) ?_))))))
 refine⟨?_,(c.s1_)⟩
 unfold yE
 simp only[g,d,o,if_true,if_false,Bool.false_eq_true,↓reduceIte]
 have d:=h
 have h:=zC h
 refine zg rfl (za (R0 fun _=>st (aS (Iv 9) (zb (zo (zN tT (show _=(Iv 9:Value)from rfl) ?_))))))
 refine⟨?_,(c.s1_)⟩
 unfold yE
 simp only[g,d,if_true,if_false,Bool.false_eq_true,↓reduceIte]
 have g:=t
 try simp only[zh]at t
 refine zg rfl (za (R0 fun _=>st (aS (Iv 1) (zb (zo (zN tT (show _=(Iv 1:Value)from rfl) ?_))))))
 refine⟨?_,(X.s1_)⟩
 unfold yE
 simp only[g,if_true,if_false,Bool.false_eq_true,↓reduceIte]
def ltE (a b:Ev):Bool:=if(!decide (a.lam=b.lam))=true then decide (a.lam<b.lam)else if(!decide (a.origin=b.origin))=true then decide (a.origin<b.origin)else decide (a.seq<b.seq)
theorem zbB {a:Ev}{da0:Value}(hda0:RdS W G da0 a.deps)(oa:a.Ok){b:Ev}{db0:Value}(hdb0:RdS W G db0 b.deps)(ob:b.Ok)(hS0:Sep G W Rs w):Ret Tryz.prog 73 [.agg (a.cells da0).toArray,.agg (b.cells db0).toArray] w (fun r w'=>r=(.bool ((ltE a b)):Value)∧Sep G W Rs w'):=by
 refine zm Tryz.func73 rfl rfl ?_
 refine za (R0 fun _=>st (zT rfl ?_))
 intro w3 b2 h
 refine st (zT rfl ?_)
 intro w7 b6 i
 have c:=(hS0.new h).new i
 refine st (aS (.bool false) (zb (za (za (R0 fun _=>st (xQ rfl (st (lD (Iv (a.lam)) kT rfl (zd (c.b1) rfl) (st (xQ rfl (st (lD (Iv (b.lam)) kT rfl (zd (c.b0) rfl) (st (yj rfl rfl (zb ?_)))))))))))))))
 cases e: !decide (a.lam=b.lam)
 have f:=e
 have e:=zB e
 refine zf rfl (zp (za (za (R0 fun _=>st (yA rfl (st (xm rfl (st (lD (Iv (a.origin)) kT rfl (zd (c.b1) rfl) (st (yA rfl (st (xm rfl (st (lD (Iv (b.origin)) kT rfl (zd (c.b0) rfl) (st (yj rfl rfl (zb ?_))))))))))))))))))
 cases d: !decide (a.origin=b.origin)
 have g:=d
 have d:=zB d
 refine zf rfl (zp (za (R0 fun _=>st (yA rfl (st (Za rfl (st (lD (Iv (a.seq)) kT rfl (zd (c.b1) rfl) (st (yA rfl (st (Za rfl (st (lD (Iv (b.seq)) kT rfl (zd (c.b0) rfl) (st (zI rfl rfl (st (aS (.bool (decide (a.seq<b.seq))) (zb (zo (zN wT (show _=(.bool (decide (a.seq<b.seq)):Value)from rfl) ?_)))))))))))))))))))))
 refine⟨?_,(c.s2_)⟩
 unfold ltE
 simp only[f,g,if_true,if_false,Bool.false_eq_true,↓reduceIte]
 have g:=d
 have d:=zC d
 refine zg rfl (za (R0 fun _=>st (yA rfl (st (xm rfl (st (lD (Iv (a.origin)) kT rfl (zd (c.b1) rfl) (st (yA rfl (st (xm rfl (st (lD (Iv (b.origin)) kT rfl (zd (c.b0) rfl) (st (zI rfl rfl (st (aS (.bool (decide (a.origin<b.origin))) (zb (zo (zN wT (show _=(.bool (decide (a.origin<b.origin)):Value)from rfl) ?_))))))))))))))))))))
 refine⟨?_,(c.s2_)⟩
 unfold ltE
 simp only[f,g,if_true,if_false,Bool.false_eq_true,↓reduceIte]
 have f:=e
 have e:=zC e
 refine zg rfl (za (R0 fun _=>st (xQ rfl (st (lD (Iv (a.lam)) kT rfl (zd (c.b1) rfl) (st (xQ rfl (st (lD (Iv (b.lam)) kT rfl (zd (c.b0) rfl) (st (zI rfl rfl (st (aS (.bool (decide (a.lam<b.lam))) (zb (zo (zN wT (show _=(.bool (decide (a.lam<b.lam)):Value)from rfl) ?_))))))))))))))))
 refine⟨?_,(c.s2_)⟩
 unfold ltE
 simp only[f,if_true,if_false,Bool.false_eq_true,↓reduceIte]
end
section
open Go.RowKit
def MildV (a b:Value):Prop:=b=a∨ ∃m n:Int,a=.int .i64 m∧b=.int .i64 n∧InR n
def ML (w0:World)(f0:Nat→Prop)(X:Nat→Nat→Prop):HP:=
 ⟨fun w f=> ∀b,f0 b→f b∧Soft w b∧ ∀o v,w0.cell? ⟨b,o,none⟩=some v→ ∃v',w.cell? ⟨b,o,none⟩=some v'∧(X b o∨MildV v v'),by
  intro w w' f f' h hf b hb
  obtain⟨h1,h2,h3⟩:=h b hb
  have hlt:b<w.heap.size:=by obtain⟨c,T,hc⟩:=h2;exact xD hc
  have e:=hf b h1 hlt
  refine⟨e.2,h2.keep e.1,fun o v hv=>?_⟩
  rw[Yu e.1];exact h3 o v hv⟩
def noX:Nat→Nat→Prop:=fun _ _=>False
section
variable {α:Type}[Rep α]{G:Nat→Prop}{W w w0:World}{As:List HP}{T:TypeId}{v:Value}{l:List α}{f0:Nat→Prop}{X:Nat→Nat→Prop}
end
theorem Qe {w:World}{b o:Nat}{c:Array Value}{T:TypeId}(h:w.heap[b]? =some (.cells c T)):w.cell? ⟨b,o,none⟩=c[o]? :=by
 unfold World.cell?;simp[h]
theorem zau {c:Array Value}{o:Nat}{us:List Value}(h:o+us.length≤c.size)(p:Nat):(Wl c o us)[p]? =if o≤p∧p<o+us.length then us[p-o]? else c[p]? :=by
 unfold Wl
 simp only[List.getElem?_toArray]
 have hl:(c.toList.take o).length=o:=by simp;omega
 by_cases h1:p<o
 ·rw[if_neg (by omega),List.append_assoc,List.getElem?_append_left (by rw[hl];exact h1),List.getElem?_take,if_pos h1];simp
 ·by_cases h2:p<o+us.length
  ·rw[if_pos ⟨by omega,h2⟩,List.getElem?_append_left (by rw[List.length_append,hl];exact h2),List.getElem?_append_right (by rw[hl];omega),hl]
  ·rw[if_neg (by omega),List.getElem?_append_right (by rw[List.length_append,hl];omega),List.length_append,hl,List.getElem?_drop,show o+us.length+(p-(o+us.length))=p by omega];simp
section
variable {P:Program}{d:Option Tmp}{ty:TypeId}{pos:String}{af:Array Edge}{gd:Option (Nat×Bool)}{σ:Env}{w w0:World}{K:Value→World→Prop}{G:Nat→Prop}{W:World}{As:List HP}{f0:Nat→Prop}{X X':Nat→Nat→Prop}
theorem KB {t:TypeId}{b o:Nat}{x y:Operand}{u:Value}{us cs:List Value}(h:Sep G W (ML w0 f0 X::As) w)(hS: ∀w,(sizeOf t).run P w=.ok us.length w)(hx:ev σ x=.pointer (some ⟨b,o,none⟩))(hb:f0 b)
 (hy:ev σ y=u) (hu:u.cells.toList=us) (h1: ∀u∈us,u.oneCell'=true) (hc:CellsAt w0 b o cs) (hl:cs.length=us.length) (hpos:0<us.length)
 (hm: ∀(j:Nat) v v',cs[j]? =some v→us[j]? =some v'→X' b (o+j)∨MildV v v') (hXX: ∀b o,X b o→X' b o) (hK: ∀w',Sep G W (ML w0 f0 X'::As) w'→K undef w'):opV P ⟨d,.store t x y,ty,pos,af,gd⟩ σ w K:=by
 obtain⟨f,hA,hfl⟩:=h.get (i:=0) rfl
 obtain⟨hfb,⟨c,T,hbk⟩,h3⟩:=hA b hb
 have hfit:o+us.length≤c.size:=by
  obtain⟨v',h4,_⟩:=h3 _ _ (hc (us.length-1) (by omega))
  rw[Qe hbk]at h4
  obtain⟨h5,_⟩:=Array.getElem?_eq_some_iff.1 h4
  omega
 refine zr (v:=u) (c:=c) (T:=T) (by intro w;rw[hS,←hu];simp) hx hy hbk (by rw[hu];exact h1) (by rw[hu];exact hfit) rfl (fun w1 hp=>hK w1 ?_)
 refine h.upd (i:=0) (B:=ML w0 f0 X') rfl (fun f hA hl9=>?_)
 refine⟨hp.chg.weak (fun i _ hi=>by subst hi;exact(hA _ hb).1),f,fun b' hb'=>?_,fun _ hb=>.inl hb⟩
 obtain⟨h5,h6,h7⟩:=hA b' hb'
 by_cases e:b'=b
 ·subst e
  refine⟨h5,⟨_,_,hp.at_⟩,fun p v hv=>?_⟩
  obtain⟨v',h8,h9⟩:=h7 p v hv
  rw[Qe hbk]at h8
  rw[Qe hp.at_,hu,zau hfit]
  by_cases hr:o≤p∧p<o+us.length
  ·rw[if_pos hr]
   have hlt:p-o<us.length:=by omega
   refine⟨us[p-o],List.getElem?_eq_getElem hlt,?_⟩
   have h10:=hc (p-o) (by omega)
   rw[show o+(p-o)=p by omega,hv]at h10
   have h11:=hm (p-o) v us[p-o] (by rw[List.getElem?_eq_getElem (by omega)];exact h10.symm) (List.getElem?_eq_getElem hlt)
   rw[show o+(p-o)=p by omega]at h11
   exact h11
  ·rw[if_neg hr]
   exact⟨v',h8,h9.imp (hXX _ _) id⟩
 ·have e2:=hp.chg.block b' (by obtain⟨c,T,hc⟩:=h6;exact xD hc) e
  refine⟨h5,h6.keep e2,fun p v hv=>?_⟩
  obtain⟨v',h8,h9⟩:=h7 p v hv
  exact⟨v',by rw[Yu e2];exact h8,h9.imp (hXX _ _) id⟩
end
def MildAll:List Value→List Value→Prop
 |a::xs,b::ys=>MildV a b∧MildAll xs ys
 |_,_=>True
theorem MildAll.at_: ∀{xs ys:List Value},MildAll xs ys→ ∀(j:Nat) v v',xs[j]? =some v→ys[j]? =some v'→MildV v v'
 |_::_,_::_,h,0,_,_,h1,h2=>by
  simp only[List.getElem?_cons_zero,Option.some.injEq]at h1 h2
  subst h1;subst h2;exact h.1
 |_::_,_::_,h,j+1,_,_,h1,h2=>MildAll.at_ h.2 j _ _ (by simpa using h1) (by simpa using h2)
 |[],_,_,j,_,_,h1,_=>by simp at h1
 |_::_,[],_,j,_,_,_,h2=>by simp at h2
theorem MildV.num {m n:Int}(h:InR n):MildV (.int .i64 m) (.int .i64 n):=.inr ⟨m,n,rfl,rfl,h⟩
end
section
open Go.Proofs Go.RowKit
theorem K2i:KLaw Tryz.prog 41 xB where
 inj:=by
  rintro⟨a,b⟩ ⟨c,d⟩ h
  simp only[xB,Value.agg.injEq,Array.mk.injEq,List.cons.injEq,Value.int.injEq,true_and,and_true]at h
  rw[h.1,h.2]
 desc:=⟨_,Tryz.underlying41,fun _ _=>rfl⟩
 check:=by
  intro w e k
  show(Instr.checkKey e 10000 41 (.agg #[.int .i64 k.1,.int .i64 k.2])).run Tryz.prog w=.ok () w
  rw[show(10000:Nat)=9998+1+1 from rfl,Instr.checkKey]
  simp[go_sem,ck3]
 eql:=by
  rintro w ⟨a,b⟩ ⟨c,d⟩
  rw[show decide ((a,b)=(c,d))=(a== c&&b== d) by rw[←Uk];simp]
  unfold Op.equal Op.maxDepth xB
  simp[go_sem]
  by_cases h1:a=c<;>by_cases h2:b=d<;>simp[h1,h2]
 stays:=by intro k;simp[Instr.sameBits,xB]
def EV (v:Value)(e:Ev):HP:=⟨fun w f=> ∃vd,v=.agg (e.cells vd).toArray∧e.Ok∧(RowE (α:=Int) own 3 vd e.deps).p w f,fun h hf=>by
 obtain⟨vd,h1,h2,h3⟩:=h
 exact⟨vd,h1,h2,HP.loc _ h3 hf⟩⟩
def Wh:Value:=.agg ((⟨0,0,0,[],0,0,0,0,0,0⟩:Ev).cells (.slice none 0 0)).toArray
def yp (L:List Ev):Int×Int→Option Ev:=fun k=>L.find? (fun e=>decide (e.origin=k.1∧e.seq=k.2))
def ZD (L:List Ev)(o:Nat):Nat:=(L.filter (fun e=>decide (e.origin=(o:Int)))).length
def zw (n:Nat)(L:List Ev):List Int:=(List.range n).map (fun o=>((ZD L o:Nat):Int))
def zP (L:List Ev):Int:=L.foldr (fun e m=>max m e.lam) 0
def SetO (b:Nat)(n:Nat)(L:List Ev):HP:=Ex1 fun vv=>Ex1 fun m=>Star [Blk b #[vv,.map (some m),.int .i64 (zP L)] 118,RowE (α:=Int) own 3 vv (zw n L),MapO xB EV m (yp L)]
section
variable {G:Nat→Prop}{W w:World}{As:List HP}{b n:Nat}{L:List Ev}
theorem SetO.open (h:Sep G W (SetO b n L::As) w): ∃vv m,Sep G W (Blk b #[vv,.map (some m),.int .i64 (zP L)] 118::RowE (α:=Int) own 3 vv (zw n L)::MapO xB EV m (yp L)::As) w:=by
 obtain⟨vv,h⟩:=h.openEx
 obtain⟨m,h⟩:=h.openEx
 exact⟨vv,m,h.openStar⟩
theorem SetO.close {vv:Value}{m:Nat}{t:Int}{v:List Int}{X:Int×Int→Option Ev}(h:Sep G W (Blk b #[vv,.map (some m),.int .i64 t] 118::RowE (α:=Int) own 3 vv v::MapO xB EV m X::As) w)(ht:t=zP L)(hv:v=zw n L)(hX:X=yp L):Sep G W (SetO b n L::As) w:=by
 subst ht hv hX
 have h:=Sep.closeStar (Bs:=[Blk b #[vv,.map (some m),.int .i64 (zP L)] 118,RowE (α:=Int) own 3 vv (zw n L),MapO xB EV m (yp L)]) h
 exact Sep.closeEx (A:=fun vv=>Ex1 fun m=>Star [Blk b #[vv,.map (some m),.int .i64 (zP L)] 118,RowE (α:=Int) own 3 vv (zw n L),MapO xB EV m (yp L)]) vv (Sep.closeEx (A:=fun m=>Star [Blk b #[vv,.map (some m),.int .i64 (zP L)] 118,RowE (α:=Int) own 3 vv (zw n L),MapO xB EV m (yp L)]) m h)
structure SetR (W:World) (G:Nat→Prop) (m:Nat) (R:List ((Int×Int)×Value)) (L:List Ev):Prop where
 gm:G m
 is:IsMap xB W m R
 at_: ∀k,∃(x:Ev) (vd:Value),x=(yp L k).getD default∧(yT R k).getD Wh=.agg (x.cells vd).toArray∧x.Ok∧RdS W G vd x.deps∧(yT R k).isSome=(yp L k).isSome
theorem IsMap.move {κ:Type}[DecidableEq κ]{enc:κ→Value}{W w:World}{m:Nat}{R:List (κ×Value)}(h:IsMap enc W m R)(e:w.heap[m]? =W.heap[m]?):IsMap enc w m R:=by
 obtain⟨es,c,h1,h2⟩:=h
 exact⟨es,c,e.trans h1,h2⟩
theorem MapO.rd {m:Nat}(h:(MapO xB EV m (yp L)).p W G): ∃R,SetR W G m R L:=by
 obtain⟨R,g,h1,h2,h3,h4⟩:=h
 refine⟨R,h1,h2,fun k=>?_⟩
 have h5:=h3 k
 cases hR:yT R k with
 |none=>
  cases hX:yp L k with
  |none=>exact⟨default,.slice none 0 0,rfl,rfl,by constructor<;>decide,RdS.nil _ _,rfl⟩
  |some x=>rw[hR,hX]at h5;exact h5.elim
 |some v=>
  cases hX:yp L k with
  |none=>rw[hR,hX]at h5;exact h5.elim
  |some x=>
   rw[hR,hX]at h5
   obtain⟨vd,e1,e2,e3⟩:=h5
   exact⟨x,vd,rfl,e1,e2,(RowE.rd e3).weak (fun b _ hb=>(h4.sub k b hb).1),rfl⟩
theorem SetO.sh (h:(SetO b n L).p W G): ∃vv m R,(Blk b #[vv,.map (some m),.int .i64 (zP L)] 118).p W G∧RdS W G vv (zw n L)∧SetR W G m R L:=by
 obtain⟨vv,m,h⟩:=h
 obtain⟨R,hR⟩:=MapO.rd (Star.at_ h (i:=2) rfl)
 exact⟨vv,m,R,Star.at_ h (i:=0) rfl,RowE.rd (T:=3) (Star.at_ h (i:=1) rfl),hR⟩
theorem Wa {K:Value→World→Prop}{P:Program}{d:Option Tmp}{ty:TypeId}{pos:String}{af:Array Edge}{g:Option (Nat×Bool)}{σ:Env}{t kt et:TypeId}{x y:Operand}{m:Nat}{R:List ((Int×Int)×Value)}{k:Int×Int}{v:Value}{bb:Bool}(h:Sep G W As w)(hr:SetR W G m R L)(hK:KLaw P kt xB)(hU:P.underlying t=some (.map kt et))(hZ: ∀w,(zeroValue et).run P w=.ok Wh w)
 (hx:ev σ x=.map (some m)) (hy:ev σ y=xB k) (hv:(yT R k).getD Wh=v) (hb:(yT R k).isSome=bb) (hk:K (.tuple #[v,.bool bb]) w):opV P ⟨d,.lookup t x y true,ty,pos,af,g⟩ σ w K:=by
 subst hv hb
 exact Wd hK hU hZ hx hy (hr.is.move (h.gb hr.gm)) hk
end
theorem Ka {n:Nat}:List.replicate n (0:Int)=zw n []:=by
 unfold zw ZD
 refine List.ext_getElem (by simp) (fun i h1 h2=>by simp)
theorem xM {n:Nat}{L:List Ev}:(zw n L).length=n:=by simp[zw]
theorem Xd {n:Nat}{L:List Ev}{o:Nat}(h:o<n):(zw n L).getD o 0=((ZD L o:Nat):Int):=by simp[zw,h]
theorem JR {n:Nat}(hn:n≤1000)(hS0:Sep G W Rs w):Ret Tryz.prog 28 [.int .i64 ((n:Nat):Int)] w (fun r w'=> ∃(b:Nat),r=(.pointer (some ⟨b,0,none⟩):Value)∧Sep G W ((SetO b n ([]:List Ev))::Rs) w'):=by
 refine zm Tryz.func28 rfl rfl ?_
 refine za (R0 fun _=>st (aS (.pointer none) (zb (za (R0 fun _=>st (mV (Iw n) (st (Zt (α:=Int) (T:=3) (bytes:=8) (n:=n) (x1:=(0:Int)) nT ⟨_,_,rfl,rfl,rfl,rfl,rfl,fun _ _=>⟨rfl,by decide⟩⟩ rfl rfl rfl (by show n*8≤140737488355328;omega) ?_))))))))
 intro l d m he3 hl4 o
 have f:Sep G W ((RowE (α:=Int) own 3 (Iy d n n) (List.replicate n (0:Int)))::Rs) l:=hS0.made m o
 have g:=f.r0
 refine st (Yz ?_)
 intro p q
 obtain⟨a,e⟩: ∃z,z=l.heap.size:=⟨_,rfl⟩;rw[←e]
 have h:Sep G W ((MapO xB EV a (fun _=>none))::(RowE (α:=Int) own 3 (Iy d n n) (List.replicate n (0:Int)))::Rs) p:=(by rw[e];exact f.mapoNew q)
 refine st (zQ (parts':=[(0,(Iy d n n)),(1,.map (some a))]) (v:=.agg #[(Iy d n n),.map (some a),Iv 0]) rfl (by obtain⟨_,_,i,_⟩:=g.1;rw[show(Iy d n n)=Value.slice _ _ _ from i];simp[Instr.build,Instr.fill,go_sem]) (st (zT rfl ?_)))
 intro s c j
 refine st (aS (Ix c 0) (zb (zo (zN Tryz.results28 rfl ?_))))
 have k:Sep G W ((SetO c n ([]:List Ev))::Rs) s:=SetO.close ((h.new j).s3_acb) rfl Ka rfl
 refine⟨c,rfl,k⟩
theorem zbi {b:Nat}{n:Nat}{L:List Ev}(hb:(SetO b n L).p W G)(hS0:Sep G W Rs w):Ret Tryz.prog 42 [.pointer (some ⟨b,0,none⟩)] w (fun r w'=> ∃(v:Value),r=(v:Value)∧Sep G W ((RowE (α:=Int) own 3 v (zw n L))::Rs) w'):=by
 refine zm Tryz.func42 rfl rfl ?_
 obtain⟨c,m2,R3,g,d,hr6⟩:=SetO.sh hb
 refine za (R0 fun _=>st (aS Iz (zb (za (R0 fun _=>st (mV (Ix b 0) (st (zx rfl (st (XA rfl (st (lD c oT rfl (zd (hS0.gblk g) rfl) (st (cL Tryz.call82 (ZQ d hS0) ?_))))))))))))))
 rintro e w9 ⟨_,rfl,a⟩
 have f:=a.r0
 refine st (aS e (zb (zo (zN Tryz.results42 rfl ?_))))
 refine⟨e,rfl,a⟩
theorem KD {b:Nat}{n:Nat}{L:List Ev}(hb:(SetO b n L).p W G)(hS0:Sep G W Rs w):Ret Tryz.prog 43 [.pointer (some ⟨b,0,none⟩)] w (fun r w'=>r=(.int .i64 (zP L):Value)∧Sep G W Rs w'):=by
 refine zm Tryz.func43 rfl rfl ?_
 obtain⟨vv1,m2,R3,a,c,hr6⟩:=SetO.sh hb
 refine za (R0 fun _=>st (aS (Iv 0) (zb (za (R0 fun _=>st (mV (Ix b 0) (st (zx rfl (st (US rfl (st (lD (Iv (zP L)) kT rfl (zd (hS0.gblk a) rfl) (st (aS (Iv (zP L)) (zb (zo (zN Tryz.results43 rfl ?_)))))))))))))))))
 refine⟨rfl,hS0⟩
end
section
open Go.Proofs Go.RowKit
def xW (L:List Ev)(e:Ev)(o:Nat):Bool:=decide (e.deps.getD o 0=0)||match yp L ((o:Int),e.deps.getD o 0)with
 |none=>false
 |some x=>decide (x.lam<e.lam)&&(List.range x.deps.length).all fun i=>decide (x.deps.getD i 0≤e.deps.getD i 0)
theorem zcx {L:List Ev}{e:Ev}{o:Nat}(h:e.deps.getD o 0=0):xW L e o=true:=by unfold xW;rw[decide_eq_true h];rfl
theorem zbl {L:List Ev}{e:Ev}{o:Nat}(h: ¬e.deps.getD o 0=0)(hn:(yp L ((o:Int),e.deps.getD o 0)).isSome=false):xW L e o=false:=by
 unfold xW
 rw[Option.isSome_eq_false_iff,Option.isNone_iff_eq_none]at hn
 rw[hn,decide_eq_false h];rfl
theorem XW {L:List Ev}{e x:Ev}{o:Nat}(h: ¬e.deps.getD o 0=0)(hx:x=(yp L ((o:Int),e.deps.getD o 0)).getD default)(hn:(yp L ((o:Int),e.deps.getD o 0)).isSome=true):
 xW L e o=(decide (x.lam<e.lam)&&(List.range x.deps.length).all fun i=>decide (x.deps.getD i 0≤e.deps.getD i 0)):=by
 unfold xW
 obtain⟨y,hy⟩:=Option.isSome_iff_exists.1 hn
 rw[hy]at hx
 simp only[Option.getD_some]at hx
 subst hx
 rw[hy];simp only[decide_eq_false h,Bool.false_or]
theorem XD {L:List Ev}{k:Int×Int}{x:Ev}(h:yp L k=some x):x∈L∧x.origin=k.1∧x.seq=k.2:=by
 have h1:=List.mem_of_find?_eq_some h
 have h2:=List.find?_some h
 simp only[decide_eq_true_eq]at h2
 exact⟨h1,h2⟩
theorem QA {n:Nat}{L:List Ev}{k:Int×Int}{x:Ev}(hl: ∀y∈L,y.deps.length=n)(hx:x=(yp L k).getD default)(hn:(yp L k).isSome=true):x.deps.length=n:=by
 obtain⟨y,hy⟩:=Option.isSome_iff_exists.1 hn
 rw[hy]at hx
 simp only[Option.getD_some]at hx
 subst hx
 exact hl _ (XD hy).1
theorem zdA {b:Nat}{n:Nat}{L:List Ev}(hb:(SetO b n L).p W G){e:Ev}{de0:Value}(hde0:RdS W G de0 e.deps)(oe:e.Ok){o:Nat}(ho:o<n)(hS0:Sep G W Rs w)(hel:e.deps.length=n)(hlen: ∀y∈L,y.deps.length=n):Ret Tryz.prog 68 [.pointer (some ⟨b,0,none⟩),.agg (e.cells de0).toArray,.int .i64 ((o:Nat):Int)] w (fun r w'=>r=(.bool ((xW L e o)):Value)∧Sep G W Rs w'):=by
 have hde0s:_*8≤_:=hde0.small
 refine zm Tryz.func68 rfl rfl ?_
 obtain⟨vv1,m2,R3,ak,al,Q⟩:=SetO.sh hb
 have hsm7:(zw n L).length*8≤140737488355328:=al.small
 refine za (R0 fun _=>st (zT rfl ?_))
 intro w10 S am
 have g:=hS0.new am
 refine st (aS (.bool false) (zb (za (R0 fun _=>st (xg rfl (st (lD de0 oT rfl (zd (g.b0) rfl) (st (mV (Iw o) ?_)))))))))
 have T:o<e.deps.length:=bo
 refine st (zn (k:=1) nT qT rfl hde0.sl rfl T ?_)
 have C:o<e.deps.length:=bo
 obtain⟨J,hxe13⟩:=hde0.intD C
 have K:=g.cells J (hde0.foot (ne_of_lt C))
 refine st (lD (Iv ((e.deps.getD o 0))) kT rfl (K.get (j:=0) rfl) (st (aS (Iv ((e.deps.getD o 0))) (zb (za (za (R0 fun _=>st (mV (Iv ((e.deps.getD o 0))) (st (zR rfl rfl (zb ?_)))))))))))
 cases d:decide ((e.deps.getD o 0)=0)
 have hc16r:=d
 have d:=fD d
 refine zf rfl (zp (za (yy (by kernel_rfl) (fun _=>(st (mV (Ix b 0) (st (zx rfl (st (Wx rfl (st (lD (.map (some m2)) kR rfl (zd (g.gblk ak) rfl) (st (mV (Iw o) (st (mV (Iv ((e.deps.getD o 0))) (st (zQ (parts':=[(0,Iw o),(1,Iv ((e.deps.getD o 0)))]) (v:=.agg #[Iw o,Iv ((e.deps.getD o 0))]) rfl (by simp+zetaDelta [Instr.build,Instr.fill,go_sem,ZZ]) ?_))))))))))))))))))
 obtain⟨c,f,z,U,hok21,l,X⟩:=Q.at_ (((o:Nat):Int),(e.deps.getD o 0))
 have hsm24:c.deps.length*8≤140737488355328:=l.small
 refine st (Wa (k:=(((o:Nat):Int),(e.deps.getD o 0))) g Q K2i mR rT rfl (show _=(.agg #[Iw o,Iv ((e.deps.getD o 0))]:Value)from rfl) U X (st (mV (.tuple #[.agg (c.cells f).toArray,.bool ((yp L (((o:Nat):Int),(e.deps.getD o 0))).isSome)]) (st (zl rfl rfl (st (zl rfl rfl (st (zv rT ?_)))))))))
 intro w27 R Y
 have D:=g.new Y
 refine stn (zr (v:=.agg (c.cells f).toArray) lT rfl rfl (D.b0) (zZ ⟨rfl,rfl,rfl,l.sl.one,rfl,rfl,rfl,rfl,rfl,rfl,zj⟩) yqc rfl ?_)
 intro w29 Z
 have t:=D.pt0 Z
 refine st (aS (.bool ((yp L (((o:Nat):Int),(e.deps.getD o 0))).isSome)) (zb (za (za (zy kr (st (mV (.bool ((yp L (((o:Nat):Int),(e.deps.getD o 0))).isSome)) (st (yw rfl (st (mV (.bool (!((yp L (((o:Nat):Int),(e.deps.getD o 0))).isSome))) (stc (V:=Ix R 2) rfl rfl (fun aa=>?_) ?_))))))))))))
 have ab:=aa
 try simp only[zh]at ab
 exact xQ rfl rflB
 refine stc (V:=Iv (c.lam)) rfl rfl (fun E=>?_) ?_
 have ac:=E
 try simp only[zh]at ac
 exact lD (Iv (c.lam)) kT (ifpC E) (zd (t.b0) rfl) rflB
 refine stc (V:=Ix S 2) rfl rfl (fun ad=>?_) ?_
 have ae:=ad
 try simp only[zh]at ae
 exact xQ rfl rflB
 refine stc (V:=Iv (e.lam)) rfl rfl (fun F=>?_) ?_
 have af:=F
 try simp only[zh]at af
 exact lD (Iv (e.lam)) kT (ifpC F) (zd (t.b1) rfl) rflB
 refine stc (V:=.bool (decide (e.lam≤c.lam))) rfl rfl (fun B=>?_) ?_
 have ag:=B
 try simp only[zh]at ag
 exact xh (ifpC B) (ifpC B) rflB
 refine st (zz rfl (fun hbp=>(ifpC hbp)) (zb ?_))
 cases A:(!((yp L (((o:Nat):Int),(e.deps.getD o 0))).isSome))||(decide (e.lam≤c.lam))
 have s:=A
 try simp only[zh]at A
 have q:=s
 simp only[Bool.or_eq_false_iff,Bool.not_eq_false',decide_eq_false_iff_not,Bool.not_eq_eq_eq_not,Bool.not_false]at q
 have hxl9:=QA hlen z q.1
 refine zf rfl (zp (za (za (R0 fun _=>st (xg rfl (st (lD f oT rfl (zd (t.b0) rfl) (st (zS nT rfl l.sl (st (mV (Iv 0) (zb (zu (yf (fun mq σ wq=> ∃k ρ,mq=c.deps.length-k∧σ=yo ρ [(0,Ix b 0),(4,Ix S 0),(40,f),(41,Iw c.deps.length),(42,Iw k)]∧(k≤c.deps.length)∧(∀i,i<k→c.deps.getD i 0≤e.deps.getD i 0)∧Sep G W ((Blk R (c.cells f).toArray 44)::(Blk S (e.cells de0).toArray 44)::Rs) wq) ⟨0,_,rfl,sSf,zY _,(fun i h=>absurd h (yO i)),t⟩ ?_))))))))))))))
 rintro m44 σ45 w43 ⟨k,ρl1,rfl,rfl,hkk,hm,m⟩
 refine za (R0 fun _=>st (zI rfl rfl (zb (za ?_))))
 cases u:decide (((k:Nat):Int)<((c.deps.length:Nat):Int))
 have hc47r:=u
 have u:=fD u
 refine zf rfl (yh (zX (za (R0 fun _=>st (aS (.bool true) (zb (zo (zN uT (show _=(.bool true:Value)from rfl) ?_))))))))
 refine⟨?_,(m.s2_)⟩
 rw[XW d z q.1,decide_eq_true (show c.lam<e.lam by omega),Bool.true_and]
 rw[List.all_eq_true.2 (fun i hi=>decide_eq_true (hm i (by have:=List.mem_range.1 hi;omega)))]
 have u:=tD u
 refine zg rfl (zp (za (zu (za (R0 fun _=>st (mV (Iw k) ?_))))))
 have ah:k<c.deps.length:=bo
 refine st (zn (k:=1) nT qT rfl l.sl rfl ah ?_)
 have H:k<c.deps.length:=bo
 obtain⟨M,hxe50⟩:=l.intD H
 have N:=m.cells M (l.foot (ne_of_lt H))
 refine st (lD (Iv ((c.deps.getD k 0))) kT rfl (N.get (j:=0) rfl) (st (aS (Iw k) (st (aS (Iv ((c.deps.getD k 0))) (zb (za (R0 fun _=>st (mV (Iv ((c.deps.getD k 0))) (st (xg rfl (st (lD de0 oT rfl (zd (m.b1) rfl) (st (mV (Iw k) ?_)))))))))))))))
 have ai:k<e.deps.length:=bo
 refine st (zn (k:=1) nT qT rfl hde0.sl rfl ai ?_)
 have I:k<e.deps.length:=bo
 obtain⟨O,hxe54⟩:=hde0.intD I
 have P:=m.cells O (hde0.foot (ne_of_lt I))
 refine st (lD (Iv ((e.deps.getD k 0))) kT rfl (P.get (j:=0) rfl) (st (xj (k:=.i64) (a:=(c.deps.getD k 0)) (b:=(e.deps.getD k 0)) rfl rfl (zb ?_))))
 cases x:decide ((e.deps.getD k 0)<(c.deps.getD k 0))
 have x:=fD x
 refine zf rfl (zp (R0 fun _=>?_))
 have aj:InR ((k+1:Nat):Int):=bo
 refine st (zU (r:=((k+1:Nat):Int)) rfl rfl (by rw[show(((k:Nat):Int)+1:Int)=((k+1:Nat):Int)from bo];exact zJ aj) (st (mV (Iw (k+1)) (zb ?_))))
 exact⟨_,by omega,k+1,_,rfl,sSf,by omega,(yU hm om),m⟩
 have x:=tD x
 refine zg rfl (za (R0 fun _=>st (aS (.bool false) (zb (zo (zN uT (show _=(.bool false:Value)from rfl) ?_))))))
 refine⟨?_,(m.s2_)⟩
 rw[XW d z q.1,decide_eq_true (show c.lam<e.lam by omega),Bool.true_and]
 congr 1
 symm
 rw[List.all_eq_false]
 exact⟨k,List.mem_range.2 (by omega),by simp only[decide_eq_true_eq];omega⟩
 have s:=A
 try simp only[zh]at A
 refine zg rfl (za (R0 fun _=>st (aS (.bool false) (zb (zo (zN uT (show _=(.bool false:Value)from rfl) ?_))))))
 refine⟨?_,(t.s2_)⟩
 cases q:(yp L (((o:Nat):Int),(e.deps.getD o 0))).isSome
 rw[zbl d q]
 rw[XW d z q]
 have h9: ¬c.lam<e.lam:=by rw[q]at s;simpa using s
 simp[h9]
 have d:=tD d
 refine zg rfl (za (R0 fun _=>st (aS (.bool true) (zb (zo (zN uT (show _=(.bool true:Value)from rfl) ?_))))))
 refine⟨?_,(g.s1_)⟩
 rw[zcx d]
end
section
open Go.RowKit
abbrev FR (r:Option Nat):Fence:={Fence.wide with round:=r}
structure SimD (ds:List Deferred) (n:Nat) (σ:Env) (a:Act):Prop where
 size:a.tmps.size=n
 defers:a.defers=ds
 get: ∀i,a.tmps.getD i undef=σ i
section
variable {P:Program}{n:Nat}{Q:ZW}{σ:Env}{w:World}{ds:List Deferred}{r:Option Nat}{a:Act}
theorem SimD.sim (h:SimD [] n σ a):Sim n σ a:=⟨h.size,h.defers,h.get⟩
theorem SimD.of (h:Sim n σ a):SimD [] n σ a:=⟨h.size,h.defers,h.get⟩
theorem SimD.low (h:SimD ds n σ a):Sim n σ {a with defers:=[]}:=⟨h.size,rfl,h.get⟩
theorem SimD.eval (h:SimD ds n σ a):a.eval=ev σ:=h.low.eval
theorem SimD.put (h:SimD ds n σ a){dst:Option Nat}(hd: ∀d,dst=some d→d<n)(v:Value):SimD ds n (Yo σ dst v) (a.put dst v):=by
 have h1:=h.low.put hd v
 refine⟨?_,?_,?_⟩
 ·have:=h1.size;cases dst<;>exact this
 ·have:=h.defers;cases dst<;>exact this
 ·have:=h1.get;cases dst<;>exact this
theorem SimD.yielded (h:SimD ds n σ a)(ops:Array Oper):yielded ops a.tmps=yl ops σ:=h.low.yielded ops
def opX (P:Program)(o:Oper)(σ:Env)(w:World)(K:Value→World→Prop):Prop:=
 match (execOp (ev σ) o).run P w with
 | .ok (.value v) w'=>K v w'
 | .ok .skip w'=>K undef w'
 | .ok (.enter f args) w'=>Calls P f args w' fun e w''=> ∃v,e=.returned v∧K v w''
 | .ok (.round l f tmps assign body) w'=>RoundIn (FR none) 0 P l f tmps assign body w' fun e w''=> ∃v,e=.returned v∧K v w''
 |_=>False
theorem zcJ {o:Oper}{K:Value→World→Prop}(h:opV P o σ w K):opX P o σ w K:=by
 unfold opV at h
 unfold opX
 generalize (execOp (ev σ) o).run P w=q at*
 cases q with
 |halt x w'=>cases x<;>exact h.elim
 |ok x w'=>cases x<;>first|exact h|exact h.elim
def ZA (o:Oper):Bool:=match o.op with| .defer _=>false|_=>true
theorem Va {o:Oper}(h:ZA o=true): ∀c,o.op≠ .defer c:=by
 intro c hc
 unfold ZA at h
 rw[hc]at h
 cases h
theorem KP {f:FuncId}{args:Array Value}{R:Ending→World→Prop}(h:Calls P f args w R):CallsIn (FR r) 0 P f args w R:=callsIn_wide.2 h
theorem zcz {o:Oper}{K:Value→World→Prop}{next:Act→World→Prop}{Q':Exit→Act→World→Prop}(hs:SimD ds n σ a)(hnd:ZA o=true)
 (hn: ∀a' v w',SimD ds n (Yo σ o.dst v) a'→K v w'→next a' w') (hd: ∀d,o.dst=some d→d<n) (h:opX P o σ w K):o.wpIn (FR r) 0 P a w next Q':=by
 unfold Oper.wpIn
 refine⟨fun _ _=>trivial,?_⟩
 rw[Oper.semAt_eq _ _ _ (Va hnd),hs.eval]
 unfold opX at h
 generalize (execOp (ev σ) o).run P w=q at*
 cases q with
 |halt x w'=>cases x<;>exact h.elim
 |ok x w'=>
  cases x<;>try exact h.elim
  case value v=>exact hn _ _ _ (hs.put hd v) h
  case skip=>exact hn _ _ _ (hs.put hd undef) h
  case enter f args=>
   refine⟨fun h=>(by cases h),CallsIn.mono (KP h) fun e w''=>?_⟩
   rintro⟨v,rfl,hk⟩
   exact hn _ _ _ (hs.put hd v) hk
  case round l f tmps assign body=>
   refine⟨fun h=>(by cases h),RoundIn.mono h fun e w''=>?_⟩
   rintro⟨v,rfl,hk⟩
   exact hn _ _ _ (hs.put hd v) hk
def Wn (P:Program)(ops:Array Oper)(K:Env→World→Prop):List Oper→Env→World→Prop
 |[],σ,w=>K σ w
 |o::rest,σ,w=>if Region.wanted o (yl ops σ)then opX P o σ w (fun v w'=>Wn P ops K rest (Yo σ o.dst v) w')else Wn P ops K rest (Yo σ o.dst undef) w
theorem zcF {o:Oper}{K K':Value→World→Prop}(h: ∀v w',K v w'→K' v w')(hh:opX P o σ w K):opX P o σ w K':=by
 unfold opX at*
 generalize (execOp (ev σ) o).run P w=q at*
 cases q with
 |halt x w'=>cases x<;>exact hh.elim
 |ok x w'=>
  cases x<;>try exact hh.elim
  case value v=>exact h _ _ hh
  case skip=>exact h _ _ hh
  case enter f args=>
   refine Calls.mono hh fun e w''=>?_
   rintro⟨v,rfl,hk⟩
   exact⟨v,rfl,h _ _ hk⟩
  case round l f tmps assign body=>
   refine RoundIn.mono hh fun e w''=>?_
   rintro⟨v,rfl,hk⟩
   exact⟨v,rfl,h _ _ hk⟩
theorem Qr {ops:Array Oper}{K:Env→World→Prop}: ∀{l:List Oper} {σ:Env} {w:World},WPs P ops K l σ w→Wn P ops K l σ w
 |[],_,_,h=>h
 |o::rest,σ,w,h=>by
  simp only[WPs]at h
  simp only[Wn]
  split
  ·rename_i hw
   rw[if_pos hw]at h
   exact zcF (fun v w' hk=>Qr hk) (zcJ h)
  ·rename_i hw
   rw[if_neg hw]at h
   exact Qr h
theorem stX {ops:Array Oper}{K:Env→World→Prop}{rest:List Oper}{d:Nat}{op:Op}{ty:TypeId}{pos:String}{af:Array Edge}(h:opX P ⟨some d,op,ty,pos,af,none⟩ σ w (fun v w'=>Wn P ops K rest (upd σ d v) w')):Wn P ops K (⟨some d,op,ty,pos,af,none⟩::rest) σ w:=h
theorem zea {ops:Array Oper}{K:Env→World→Prop}{rest:List Oper}{d:Nat}{op:Op}{ty:TypeId}{pos:String}{af:Array Edge}(h:opV P ⟨some d,op,ty,pos,af,none⟩ σ w (fun v w'=>Wn P ops K rest (upd σ d v) w')):Wn P ops K (⟨some d,op,ty,pos,af,none⟩::rest) σ w:=zcJ h
theorem zdB {ops:Array Oper}{K:Env→World→Prop}(h:K σ w):Wn P ops K [] σ w:=h
theorem Uc {ops:Array Oper}{K:Env→World→Prop}{Q':Exit→Act→World→Prop}(hK: ∀a σ w,SimD ds n σ a→K σ w→Q' .normal a w):
 ∀(l:List Oper),xI n l=true→l.all ZA=true→ ∀(σ:Env) (a:Act) (w:World),SimD ds n σ a→Wn P ops K l σ w→wpListIn (FR r) 0 P ops Q' l a w
 |[],_,_,σ,a,w,hs,h=>hK a σ w hs h
 |o::rest,hd,hnd,σ,a,w,hs,h=>by
  simp only[xI,List.all_cons,Bool.and_eq_true]at hd hnd
  have hd1: ∀d,o.dst=some d→d<n:=by
   intro d hd'
   have:=hd.1
   rw[hd']at this
   simpa using this
  have ih:=Uc (ops:=ops) hK rest (by simpa[xI]using hd.2) hnd.2
  simp only[Wn]at h
  simp only[wpListIn,hs.yielded]
  split
  ·rename_i hw
   rw[if_pos hw]at h
   exact zcz hs hnd.1 (fun a' v w' hs' hk=>ih _ a' w' hs' hk) hd1 h
  ·rename_i hw
   rw[if_neg hw]at h
   exact⟨fun _ _=>trivial,ih _ _ _ (hs.put hd1 undef) h⟩
def WPX (r:Option Nat)(ds:List Deferred)(P:Program)(n:Nat)(c:Code)(Q:ZW)(σ:Env)(w:World):Prop:=
 ∀a,SimD ds n σ a→c.wpIn (FR r) 0 P (fun e a' w'=> ∃σ',SimD ds n σ' a'∧Q e σ' w') a w
theorem zdw {c:Code}(h:WPX none [] P n c Q σ w):WP P n c Q σ w:=fun a hs=>
 wp_mono (wpIn_wide.1 (h a (.of hs))) (by rintro e a' w' ⟨σ',h1,h2⟩;exact⟨σ',h1.sim,h2⟩)
theorem Wc {id:Nat}{l:List Oper}(hd:(xI n l&&l.all ZA)=true)(h:Wn P l.toArray (Q .normal) l σ w):WPX r ds P n (.region id l.toArray false) Q σ w:=by
 intro a hs
 rw[Bool.and_eq_true]at hd
 exact wpIn_region_lit (Uc (fun a σ w hs hk=>⟨σ,hs,hk⟩) l hd.1 hd.2 σ a w hs h)
theorem Kz {id:Nat}{l:List Oper}(hd:(xI n l&&l.all ZA)=true)(h:WPs P l.toArray (Q .normal) l σ w):WPX r ds P n (.region id l.toArray false) Q σ w:=Wc hd (Qr h)
theorem Yb {id:Nat}{l:List Oper}(hd:(xI n l&&l.all ZA)=true)(h: ∀ops,WPs P ops (Q .normal) l σ w):WPX r ds P n (.region id l.toArray false) Q σ w:=Kz hd (h _)
theorem UI {x y:Code}(h:WPX r ds P n x (zbX (WPX r ds P n y Q) Q) σ w):WPX r ds P n (.seq x y) Q σ w:=by
 intro a hs
 refine wpIn_seq (wpIn_mono (h a hs) ?_)
 rintro e a' w' ⟨σ',hs',hq⟩
 cases e<;>first|exact hq a' hs'|exact⟨σ',hs',hq⟩
theorem zbR (h:Q .normal σ w):WPX r ds P n .skip Q σ w:=fun _ hs=>wpIn_skip ⟨σ,hs,h⟩
theorem zdK (h:Q .ret σ w):WPX r ds P n .ret Q σ w:=fun _ hs=>wpIn_ret ⟨σ,hs,h⟩
theorem QG {c:Operand}{x y:Code}{t:Bool}(hc:ev σ c=.bool t)(ht:t=true→WPX r ds P n x Q σ w)(hf:t=false→WPX r ds P n y Q σ w):WPX r ds P n (.cond c x y) Q σ w:=by
 intro a hs
 cases t
 ·exact wpIn_cond_false (by rw[hs.eval];exact hc) (hf rfl a hs)
 ·exact wpIn_cond_true (by rw[hs.eval];exact hc) (ht rfl a hs)
theorem KU {c:Operand}{x y:Code}(hc:ev σ c=.bool true)(ht:WPX r ds P n x Q σ w):WPX r ds P n (.cond c x y) Q σ w:=QG hc (fun _=>ht) (fun h=>nomatch h)
theorem KI {c:Operand}{x y:Code}(hc:ev σ c=.bool false)(hf:WPX r ds P n y Q σ w):WPX r ds P n (.cond c x y) Q σ w:=QG hc (fun h=>nomatch h) (fun _=>hf)
theorem zao {id:Nat}{c:Code}(h:WPX r ds P n c (XY id Q) σ w):WPX r ds P n (.block id c) Q σ w:=by
 intro a hs
 refine wpIn_block (wpIn_mono (h a hs) ?_)
 rintro e a' w' ⟨σ',hs',hq⟩
 cases e<;>try exact⟨σ',hs',hq⟩
 case exit id'=>
  simp only[XY]at hq
  simp only[Exit.inBlock]
  split<;>rename_i hid
  ·rw[if_pos hid]at hq;exact⟨σ',hs',hq⟩
  ·rw[if_neg hid]at hq;exact⟨σ',hs',hq⟩
theorem zdm {c:Code}{kv:List (Nat×Value)}(hk:WZ σ kv)(h: ∀ρ,WPX r ds P n c Q (yo ρ kv) w):WPX r ds P n c Q σ w:=by
 rw[yZ hk];exact h σ
theorem zdc {o:Oper}{w:World}{K:Act→World→Prop}{Q':Exit→Act→World→Prop}(hnd:ZA o=true)(h:o.wp P a w K Q'):o.wpIn (FR r) 0 P a w K Q':=by
 unfold Oper.wp at h
 unfold Oper.wpIn
 refine⟨fun _ _=>trivial,?_⟩
 rw[Oper.semAt_eq _ _ _ (Va hnd)]
 generalize (execOp a.eval o).run P w=q at*
 cases q with
 |halt x w'=>cases x<;>exact h
 |ok x w'=>
  cases x<;>try exact h
  case enter f args=>exact⟨fun h=>(by cases h),KP h⟩
  case row row args=>
   refine⟨fun h=>(by cases h),fun c cs _=>?_⟩
   obtain⟨v,w',h1,h2⟩:=h c cs
   exact⟨v,w',h1,stepsIn_wide.2 h2⟩
  case round=>exact False.elim h
theorem XK {ops:Array Oper}{Q':Exit→Act→World→Prop}(hnd: ∀(i:Nat) (o:Oper),ops[i]? =some o→ZA o=true)(hQ: ¬LetsOut Q'): ∀(fuel:Nat) (listed:Array Bool) (a:Act) (w:World),wpAny P .any ops Q' fuel listed a w→wpAnyIn (FR r) 0 P .any ops Q' fuel listed a w
 |0,_,_,_,h=>h
 |fuel+1,listed,a,w,h=>by
  refine⟨h.1,fun i hi=>?_⟩
  have h1:=h.2 i hi
  unfold wpOp at h1
  unfold wpOpIn
  split
  ·rename_i ho
   simp only[ho]at h1
   exact XK hnd hQ fuel _ _ _ h1
  ·rename_i o ho
   simp only[ho]at h1
   split
   ·rename_i hw
    rw[if_pos hw]at h1
    rcases h1 with h1|h1
    ·exact Oper.wpIn_mono (fun a w hk=>XK hnd hQ fuel _ _ _ hk) (zdc (hnd _ _ ho) h1)
    ·exact(hQ h1.2).elim
   ·rename_i hw
    rw[if_neg hw]at h1
    exact⟨fun _ _=>trivial,XK hnd hQ fuel _ _ _ h1⟩
theorem zad {ops:List Oper}{id:Nat}(W:Nat→(Nat→Value)→World→Prop)(A:Nat→(Nat→Value)→Prop)(pre:List (List Nat))(ss:List Nat)(sees:List (Nat×Nat))(hm:P.follows .mixedOrders=true)(hd:(xI n ops&&ops.all ZA)=true)(hok:drawOk ops pre ops.length=true)
 (hkl:sees.length=ops.length) (hk:seesOk pre ss sees=true) (hsl:(ss.all fun s=>Nat.blt s ops.length)=true)
 (hW: ∀w0:World,w0.heap=w.heap→w0.os=w.os→w0.tape=w.tape→w0.output=w.output∧w.drawn≤w0.drawn→ ∀vals,W 0 vals w0)
 (hloc: ∀k vals vals' w,(∀s∈ss,vals' s=vals s)→W k vals w→W k vals' w)
 (hlocA: ∀i vals vals',(∀j,j=i∨j∈pre.getD i []→vals' j=vals j)→A i vals→A i vals')
 (hob:Uo P ops pre ss sees W A σ 0 ops)
 (hfin: ∀vals w',W ss.length vals w'→(∀j,j<ops.length→A j vals)→WPs P ops.toArray (Q .normal) [] (behind ops vals σ ops.length) w')
 (hQ: ∀σ w,¬Q .outgrown σ w:=by intro σ w h;exact h):
 WPX r [] P n (.region id ops.toArray true) Q σ w:=by
 intro a hs
 rw[Bool.and_eq_true]at hd
 have hf:=drawOk.fit hok
 have hz:dn (Array.replicate ops.toArray.size false)=fun _=>false:=by
  funext i
  simp[dn,Array.getElem?_replicate]
  split<;>rfl
 refine wpIn_mono (wpIn_region_any hm (XK (Q':=fun e a' w'=> ∃σ'',Sim n σ'' a'∧Q e σ'' w') (fun i o ho=>(List.all_eq_true.1 hd.2) o (List.mem_of_getElem? (by simpa using ho))) (by rintro⟨a0,w0,σ0,_,h0⟩;exact hQ _ _ h0) _ _ _ _ ?_)) (by rintro e a' w' ⟨σ',h1,h2⟩;exact⟨σ',.of h1,h2⟩)
 refine zbh (ss:=ss) (vals:=fun _=>undef) hf hd.1 hkl hk (fun s hs=>by
  have:=(List.all_eq_true.1 hsl) s hs;simpa[Nat.blt_eq]using this) hloc hlocA hob hfin _ _ a _ (by simp) ?_ ?_ ?_ ?_ ?_ ?_
 ·intro i hi;rw[hz]at hi;cases hi
 ·intro i hi;rw[hz]at hi;cases hi
 ·simp
 ·have:mixed ops (dn (Array.replicate ops.toArray.size false)) (fun _=>undef) σ=σ:=by
   funext t
   exact Zl fun j _=>by rw[hz]
  rw[this];exact hs.sim
 ·have:xV ss (dn (Array.replicate ops.toArray.size false))=0:=YL fun s _=>by rw[hz]
  rw[this];exact hW {w with drawn:=w.drawn+1} rfl rfl rfl ⟨rfl,Nat.le_succ _⟩ _
 ·intro i hi;rw[hz]at hi;cases hi
abbrev Uy (K:Env→World→Prop):ZW:=fun e σ w=>match e with
 | .normal=>K σ w
 |_=>False
theorem zaI {l p:Nat}{f:FuncId}{tm:Array Value}{v:Value}{assign body:Code}{R:Ending→World→Prop}(hs:tm.size=n∧ ∀i,tm.getD i undef=σ i)(hp:p<n)
 (h:WPX (some l) [] P n assign (Uy fun σ1 w1=> ∃w2,(Instr.beginRound l).run P w1=.ok () w2∧WPX (some l) [] P n body (Uy fun σ2 w3=> ∃v' w4,(Instr.endRound l none).run P w3=.ok v' w4∧R (.returned v') w4) σ1 w2) (upd σ p v) w):
 RoundIn (FR none) 0 P l f ((#[p].zip #[v]).foldl (fun t (p,v)=>t.setIfInBounds p v) tm) assign body w R:=by
 have hs':SimD [] n (upd σ p v) {tmps:=(#[p].zip #[v]).foldl (fun t (p,v)=>t.setIfInBounds p v) tm,defers:=[]}:=by
  have h1:SimD [] n σ {tmps:=tm,defers:=[]}:=⟨hs.1,rfl,hs.2⟩
  have h2:=h1.put (dst:=some p) (fun d hd=>by cases hd;exact hp) v
  have e:(#[p].zip #[v]).foldl (fun t (p,v)=>t.setIfInBounds p v) tm=tm.setIfInBounds p v:=by simp
  rw[e];exact h2
 refine roundIn_of_wpIn trivial (wpIn_mono (h _ hs') ?_)
 rintro e a' w' ⟨σ',hs'',hq⟩
 cases e<;>try exact hq.elim
 obtain⟨w2,hb,hq⟩:=hq
 refine⟨w2,hb,wpIn_mono (hq _ hs'') ?_⟩
 rintro e a'' w'' ⟨σ'',hs3,hq2⟩
 cases e<;>try exact hq2.elim
 exact hq2
def mkD (D:Nat):Deferred:={target:=.collected D,args:=#[]}
def WPZ (P:Program)(n:Nat)(c:Code)(Q:Nat→ZW)(σ:Env)(w:World):Prop:=
 ∀a,SimD [] n σ a→c.wpIn (FR none) 0 P (fun e a' w'=> ∃D σ',SimD [mkD D] n σ' a'∧Q D e σ' w') a w
theorem Qa {x y:Code}{Q:Nat→ZW}(h:WP P n x (Uy fun σ w=>WPZ P n y Q σ w) σ w):WPZ P n (.seq x y) Q σ w:=by
 intro a hs
 refine wpIn_seq (wpIn_mono (wpIn_wide.2 (h a hs.sim)) ?_)
 rintro e a' w' ⟨σ',hs',hq⟩
 cases e<;>try exact hq.elim
 exact hq _ (.of hs')
theorem zaT {x y:Code}{Q:Nat→ZW}(h:WPZ P n x (fun D=>Uy fun σ w=>WPX none [mkD D] P n y (Q D) σ w) σ w):WPZ P n (.seq x y) Q σ w:=by
 intro a hs
 refine wpIn_seq (wpIn_mono (h a hs) ?_)
 rintro e a' w' ⟨D,σ',hs',hq⟩
 cases e<;>try exact hq.elim
 exact wpIn_mono (hq _ hs') (by rintro e a'' w'' ⟨σ'',h1,h2⟩;exact⟨D,σ'',h1,h2⟩)
theorem zas {c:Code}{id:Nat}{Q:Nat→ZW}(h:WPZ P n c (fun D=>Uy (Q D .normal)) σ w):WPZ P n (.block id c) Q σ w:=by
 intro a hs
 refine wpIn_block (wpIn_mono (h a hs) ?_)
 rintro e a' w' ⟨D,σ',hs',hq⟩
 cases e<;>try exact hq.elim
 exact⟨D,σ',hs',hq⟩
theorem VL {g:Operand}{p:Tmp}{assign body:Code}{gf:FuncId}{lb:List Value}{Q:Nat→ZW}
 (hg:ev σ g=.func (.func gf) #[] lb.toArray) (eg: ∀args w,(callFunc gf args).run P w=.ok (.enter gf args) w)
 (h: ∀fn (tm:Array Value),(tm.size=n∧ ∀i,tm.getD i undef=σ i)→Ret P gf (.func (.yield (w.heap.size+1)) #[] #[]::lb) ((w.alloc (.deferred (some []))).alloc (.loop {state:=.ready,pending:=none,fn,tmps:=tm,params:=#[p],assign,body,defers:=w.heap.size}))
  (fun _ w2=> ∃w3,(Instr.endLoop (w.heap.size+1)).run P w2=.ok none w3∧Q w.heap.size .normal σ w3)):WPZ P n (.rangeFunc g #[p] assign body) Q σ w:=by
 intro a hs
 refine wpIn_rangeFunc ?_
 intro fn hfn
 have hs2:a.tmps.size=n∧ ∀i,a.tmps.getD i undef=σ i:=⟨hs.size,hs.get⟩
 refine⟨w.heap.size+1,[mkD w.heap.size],(w.alloc (.deferred (some []))).alloc (.loop {state:=.ready,pending:=none,fn,tmps:=a.tmps,params:=#[p],assign,body,defers:=w.heap.size}),{target:=.fn (.func gf) lb.toArray,args:=#[.func (.yield (w.heap.size+1)) #[] #[]]},(w.alloc (.deferred (some []))).alloc (.loop {state:=.ready,pending:=none,fn,tmps:=a.tmps,params:=#[p],assign,body,defers:=w.heap.size}),gf,
  #[.func (.yield (w.heap.size+1)) #[] #[]]++lb.toArray,(w.alloc (.deferred (some []))).alloc (.loop {state:=.ready,pending:=none,fn,tmps:=a.tmps,params:=#[p],assign,body,defers:=w.heap.size}),run_enterLoop_outer _ _ _ _ _,?_,fun _ _=>trivial,?_,fun h=>(by cases h),?_⟩
 ·simp only[resolve,hs.eval,hg]
  simp[go_sem]
  rfl
 ·simp[invoke,go_sem,eg]
 ·have h1:=h fn a.tmps hs2
  unfold Ret at h1
  rw[show(Value.func (.yield (w.heap.size+1)) #[] #[]::lb).toArray=#[.func (.yield (w.heap.size+1)) #[] #[]]++lb.toArray by simp]at h1
  refine CallsIn.mono (KP h1) ?_
  rintro e w2 ⟨v,rfl,w3,h3,h4⟩
  exact⟨none,w3,h3,w.heap.size,σ,⟨hs.size,by simp[hs.defers],hs.get⟩,h4⟩
theorem KM {f:FuncId}{fn:Func}{c:Code}{args:List Value}{w:World}{R:Value→World→Prop}
 (hf:P.funcs[f]? =some fn) (hb:fn.body=some c) (hn:Nat.ble args.length fn.ntmps=true)
 (h:WPZ P fn.ntmps c (fun D e σ w=>match e with
  | .normal| .ret=> ∃w',(Instr.takeDeferred D).run P w=.ok [] w'∧Xp P fn R .ret σ w'
  |_=>False) (zdM args) w):Ret P f args w R:=by
 have hn':args.length≤fn.ntmps:=Nat.le_of_ble_eq_true hn
 refine callsIn_wide.1 (callsIn_of_wp_marks (n:=0) hf hb trivial (wpIn_mono (h _ ⟨?_,rfl,fun i=>?_⟩) ?_))
 ·simp;omega
 ·simp only[zdM,Array.getD_eq_getD_getElem?,List.getD_eq_getElem?_getD]
  by_cases hi:i<args.length
  ·simp[Array.getElem?_append,hi]
  ·simp only[Array.getElem?_append,List.size_toArray,hi,if_false]
   rw[List.getElem?_eq_none (by omega)]
   simp only[Option.getD_none]
   rw[Array.getElem?_replicate]
   split<;>simp
 ·rintro e a' w' ⟨D,σ',hs',hq⟩
  have key: ∀w',(∃w'',(Instr.takeDeferred D).run P w'=.ok [] w''∧Xp P fn R .ret σ' w'')→LeavesInM Fence.wide 0 P fn a'.tmps (fun e w'=> ∃v,e=.returned v∧R v w') a'.defers .returning w':=by
   rintro w' ⟨w'',h1,v,hr,hR⟩
   rw[hs'.defers]
   exact⟨by simp,.inl ⟨D,w'',rfl,h1,v,hr _ hs'.get,v,rfl,hR⟩⟩
  cases e<;>try exact hq.elim
  case normal=>exact key _ hq
  case ret=>exact key _ hq
def Xl (b:Nat)(o:Obj):HP:=⟨fun w f=>w.heap[b]? =some o∧f b,fun⟨h1,h2⟩ hf=>⟨((hf b h2 (xD h1)).1).trans h1,(hf b h2 (xD h1)).2⟩⟩
def hard:Obj→Bool
 | .cells .. =>false
 |_=>true
variable {G:Nat→Prop}{W w':World}{As:List HP}{o o':Obj}{b:Nat}
theorem Sep.objNew (h:Sep G W As w)(hn:New w w' b o):Sep G W (Xl b o::As) w':=h.push hn.ext (f:=fun i=>i=b) ⟨hn.at_,rfl⟩ (fun i hi=>by have:=hn.eq;omega)
theorem Sep.obj (h:Sep G W As w){i:Nat}(hi:As[i]? =some (Xl b o)):w.heap[b]? =some o:=by
 obtain⟨f,h1,_⟩:=h.get hi;exact h1.1
theorem zbg {es:Obj}(hb:w.heap[b]? =some o)(ho:hard o=true):Chg (fun i=>i=b) w (w.putObj b o'):=by
 refine⟨rfl,rfl,rfl,by simp[World.putObj],fun i hi hne=>World.putObj_heap_other hne,?_,Nat.le_refl _⟩
 rintro i ⟨c,T,hc⟩
 have hne:i≠b:=fun e=>by subst e;rw[hb]at hc;cases hc;cases ho
 exact⟨c,T,by rw[World.putObj_heap_other hne];exact hc⟩
theorem Sep.objPut (h:Sep G W As w){i:Nat}(hi:As[i]? =some (Xl b o))(ho:hard o=true):Sep G W (As.set i (Xl b o')) (w.putObj b o'):=
 h.upd hi (fun f hA _=>⟨(zbg (es:=o) hA.1 ho).weak (fun j _ hj=>by subst hj;exact hA.2),f,⟨World.putObj_heap_same (xD hA.1),hA.2⟩,fun _ hb=>.inl hb⟩)
theorem Uq (w:World)(o:Obj):New w (w.alloc o) w.heap.size o:=New.mk' w o
end
end
section
open Go.RowKit Go.MapKept
def cA:Code→Code
 | .seq a _=>a
 | .rangeFunc _ _ a _=>a
 |c=>c
def cB:Code→Code
 | .seq _ b=>b
 | .block _ c=>c
 | .rangeFunc _ _ _ b=>b
 |c=>c
def zex (f:Func):Code:=f.body.getD .skip
section
variable {P:Program}{σ:Env}{w:World}{K:Value→World→Prop}{d:Option Tmp}{ty:TypeId}{pos:String}{af:Array Edge}{g:Option (Nat×Bool)}
variable {G:Nat→Prop}{W:World}{As:List HP}{m it clock:Nat}{es:Array MapEntry}{idx:List Nat}
def WK (it m:Nat)(es:Array MapEntry)(clock:Nat)(idx:List Nat):HP:=⟨fun w f=>f it∧ ∃seen,w.heap[it]? =some (.mapIter (some m) clock seen clock)∧idx.Nodup∧(∀j∈idx,j<es.size)∧seen.toList=idx.map fun j=>(es.toList[j]?.map (·.born)).getD 0,fun⟨h1,seen,h2,h3⟩ hf=>⟨(hf _ h1 (xD h2)).2,seen,((hf _ h1 (xD h2)).1).trans h2,h3⟩⟩
theorem zag {t kt et:TypeId}{x:Operand}(h:Sep G W As w)(hG:G m)(hm:W.heap[m]? =some (.map es clock))(hU:P.underlying t=some (.map kt et))(hx:ev σ x=.map (some m))
 (hk: ∀w1 it,Sep G W (WK it m es clock []::As) w1→K (.pointer (some ⟨it,0,none⟩)) w1):opV P ⟨d,.range t x,ty,pos,af,g⟩ σ w K:=by
 have hb:=(h.gb hG).trans hm
 have hn:=New.mk' w (.mapIter (some m) clock #[] clock)
 refine yB (v:=.pointer (some ⟨w.heap.size,0,none⟩)) (w':={w with heap:=w.heap.push (.mapIter (some m) clock #[] clock)}) ?_ (hk _ _ (h.push hn.ext (f:=fun i=>i=w.heap.size) ⟨rfl,#[],hn.at_,List.nodup_nil,by simp,rfl⟩ (fun i hi=>by omega)))
 have:=run_range_map (P:=P) w t kt et m es clock hU hb
 simp[execOp,hx,go_sem]
 rw[this];rfl
theorem zaX {x:Operand}(h:Sep G W (WK it m es clock idx::As) w)(hG:G m)(hm:W.heap[m]? =some (.map es clock))(hs:Stamped es clock)(hx:ev σ x=.pointer (some ⟨it,0,none⟩))
 (h0:List.Perm idx (List.range es.size)→K (.tuple #[.bool false]) w)
 (h1: ∀w1 j,j<es.size→idx.length<es.size→(idx++[j]).Nodup→Sep G W (WK it m es clock (idx++[j])::As) w1→ ∀u v,K (.tuple #[.bool true,u,v]) w1):opV P ⟨d,.next x false,ty,pos,af,g⟩ σ w K:=by
 have hb:=(h.gb hG).trans hm
 obtain⟨f0,⟨hf0,seen,hit,hn,hlt,hseen⟩,hfl,hT⟩:=h.take (i:=0) rfl
 have hmi:m≠it:=fun e=>(hfl it hf0).1 (e▸hG)
 rcases run_next_at (P:=P) w ty it m clock clock seen es clock hit hb hs.1 (Nat.le_refl _)with⟨hz,hr⟩|⟨e,hel,w1,hal,hr⟩
 ·refine yB (v:=.tuple #[.bool false]) (w':=w) (by simp[execOp,hx,hr,go_sem]) (h0 (zda hn hlt fun j hj=>?_))
  have hj':j<es.toList.length:=by simpa using hj
  have h2:=all_seen es seen hz _ (List.getElem_mem hj')
  have h3:(es.toList[j]).born∈seen.toList:=by simpa[Array.contains_iff_mem]using h2
  rw[hseen,List.mem_map]at h3
  obtain⟨i,hi,hbi⟩:=h3
  have hi':i<es.toList.length:=by simpa using hlt i hi
  rw[List.getElem?_eq_getElem hi']at hbi
  have h4:(es.toList[i]).born=(es.toList[j]).born:=hbi
  have h5:=List.pairwise_map.1 hs.2.1
  have:i=j:=by
   rcases Nat.lt_trichotomy i j with h|h|h
   ·exact absurd h4 (List.pairwise_iff_getElem.1 h5 i j hi' hj' h)
   ·exact h
   ·exact absurd h4.symm (List.pairwise_iff_getElem.1 h5 j i hj' hi' h)
  rwa [←this]
 ·obtain⟨hmem,hns⟩:=mem_left hel
  obtain⟨j,hj,rfl⟩:=List.getElem_of_mem hmem
  have hjl:j<es.size:=by simpa using hj
  have hji:j∉idx:=by
   intro h
   have:(es.toList[j]).born∈seen.toList:=by
    rw[hseen,List.mem_map]
    exact⟨j,h,by rw[List.getElem?_eq_getElem hj];rfl⟩
   have h3:seen.contains (es.toList[j]).born=true:=by
    have h4:(es.toList[j]).born∈seen:=by simpa using this
    simpa using h4
   rw[hns]at h3;cases h3
  have hnd:(idx++[j]).Nodup:=by
   rw[List.nodup_append]
   exact⟨hn,by simp,fun a ha b hb=>by simp at hb;subst hb;exact fun e=>hji (e▸ha)⟩
  have hall: ∀i∈idx++[j],i<es.size:=by
   intro i hi
   rcases List.mem_append.1 hi with h|h
   ·exact hlt i h
   ·simp at h;subst h;exact hjl
  have hle:=YS _ _ hnd hall
  have hw1:w1.heap=w.heap∧w1.os=w.os∧w1.tape=w.tape∧w1.output=w.output∧w.drawn≤w1.drawn:=by
   rcases hal with rfl|rfl
   ·exact⟨rfl,rfl,rfl,rfl,Nat.le_refl _⟩
   ·exact⟨rfl,rfl,rfl,rfl,Nat.le_succ _⟩
  have hlt2:=xD hit
  have hcell: ∀i,i≠it→(ChangeMaps.setBlock w1 it (.mapIter (some m) clock (seen.push (es.toList[j]).born) clock)).heap[i]? =w.heap[i]? :=by
   intro i hne
   show(w1.heap.setIfInBounds it _)[i]? =_
   rw[hw1.1]
   simp[Ne.symm hne]
  have hchg:Chg f0 w (ChangeMaps.setBlock w1 it (.mapIter (some m) clock (seen.push (es.toList[j]).born) clock)):=by
   refine⟨hw1.2.1,hw1.2.2.1,hw1.2.2.2.1,?_,fun i hi hne=>hcell i (fun e=>hne (e▸hf0)),?_,hw1.2.2.2.2⟩
   ·show _≤(w1.heap.setIfInBounds it _).size
    rw[hw1.1];simp
   ·rintro i ⟨c,T,hc⟩
    have hne:i≠it:=fun e=>by subst e;rw[hit]at hc;cases hc
    exact⟨c,T,by rw[hcell i hne];exact hc⟩
  refine yB (v:=.tuple #[.bool true,(es.toList[j]).key,(es.toList[j]).val]) (w':=ChangeMaps.setBlock w1 it (.mapIter (some m) clock (seen.push (es.toList[j]).born) clock)) (by simp[execOp,hx,hr,go_sem]) (h1 _ j hjl (by simp at hle;omega) hnd (hT _ (WK it m es clock (idx++[j])) f0 hchg ⟨hf0,seen.push (es.toList[j]).born,?_,hnd,hall,?_⟩ (fun _ hb=>.inl hb)) _ _)
  ·show(w1.heap.setIfInBounds it _)[it]? =_
   rw[hw1.1];simp[hlt2]
  ·rw[Array.toList_push,hseen,List.map_append,List.map_cons,List.map_nil,List.getElem?_eq_getElem hj];rfl
theorem zah {x:Operand}{j:Nat}(h:Sep G W (WK it m es clock (idx++[j])::As) w)(hG:G m)(hm:W.heap[m]? =some (.map es clock))(hs:Stamped es clock)(hx:ev σ x=.pointer (some ⟨it,0,none⟩))(hj:j<es.toList.length){v:Value}(hv:es.toList[j].val=v)
 (hk:K (.tuple #[es.toList[j].key,v]) w):opV P ⟨d,.entry x,ty,pos,af,g⟩ σ w K:=by
 subst hv
 have hb:=(h.gb hG).trans hm
 obtain⟨f0,⟨hf0,seen,hit,hn,hlt,hseen⟩,_⟩:=h.get (i:=0) rfl
 have hsn: ∃seen0:Array Nat,seen=seen0.push (es.toList[j]).born:=by
  refine⟨(idx.map fun j=>(es.toList[j]?.map (·.born)).getD 0).toArray,?_⟩
  apply Array.ext'
  rw[hseen,Array.toList_push,List.map_append,List.map_cons,List.map_nil,List.getElem?_eq_getElem hj];rfl
 obtain⟨seen0,rfl⟩:=hsn
 have hrun:=run_entry_at (P:=P) w it m clock seen0 es clock _ hit hb (List.getElem_mem hj) hs.2.1
 exact yB (v:=.tuple #[es.toList[j].key,es.toList[j].val]) (w':=w) (by simp[execOp,hx,hrun,go_sem]) hk
theorem zcq {x y:Operand}{ts:Array TypeId}{l:Nat}{rec:Loop}{v:Value}{p:Tmp}(hx:ev σ x=.func (.yield l) #[] #[])(hy:ev σ y=v)(hl:w.heap[l]? =some (.loop rec))(hp:rec.params=#[p])
 (h:RoundIn (FR none) 0 P l rec.fn ((#[p].zip #[v]).foldl (fun t (p,v)=>t.setIfInBounds p v) rec.tmps) rec.assign rec.body w (fun e w''=> ∃v,e=.returned v∧K v w'')):opX P ⟨d,.call ⟨.value x,#[y],ts⟩,ty,pos,af,g⟩ σ w K:=by
 have hr:=run_yield (P:=P) (args:=#[v]) hl (by simp[hp])
 have:(execOp (ev σ) ⟨d,.call ⟨.value x,#[y],ts⟩,ty,pos,af,g⟩).run P w=.ok (.round l rec.fn ((rec.params.zip #[v]).foldl (fun t (p,v)=>t.setIfInBounds p v) rec.tmps) rec.assign rec.body) w:=by
  simp[execOp,resolve,hx,Deferred.ofValue,invoke,hy,go_sem,hr]
 unfold opX
 rw[this,hp]
 exact h
end
end
section
open Go.Proofs Go.RowKit
section
variable {G:Nat→Prop}{W w:World}{Rs:List HP}
theorem zdr {l bm m clock:Nat}{es:Array MapEntry}{rec:Loop}{p:Tmp}{A:List Nat→HP}(hG:G m)(hm:W.heap[m]? =some (.map es clock))(hs:MapKept.Stamped es clock)(hp:rec.params=#[p])
 (hval: ∀j (hj:j<es.toList.length),∃(x:Ev) (vd:Value),es.toList[j].val=.agg (x.cells vd).toArray∧vd.oneCell'=true)
 (hY: ∀idx j (hj:j<es.toList.length) (v:Value) (Fr:List HP) (w:World),es.toList[j].val=v→idx.length<es.size→(idx++[j]).Nodup→Sep G W (A idx::Xl l (.loop rec)::Fr) w→RoundIn (FR none) 0 Tryz.prog l rec.fn ((#[p].zip #[v]).foldl (fun t (p,v)=>t.setIfInBounds p v) rec.tmps) rec.assign rec.body w (fun e w'=>e=.returned (.bool true)∧Sep G W (A (idx++[j])::Xl l (.loop rec)::Fr) w'))
 (hS0:Sep G W (A []::Xl l (.loop rec)::Blk bm #[.map (some m)] 116::Rs) w):
 Ret Tryz.prog 113 [.func (.yield l) #[] #[],.pointer (some ⟨bm,0,none⟩)] w (fun r w'=> ∃idx,List.Perm idx (List.range es.size)∧Sep G W (A idx::Xl l (.loop rec)::Blk bm #[.map (some m)] 116::Rs) w'):=by
 refine zm Tryz.func113 rfl rfl ?_
 refine za (R0 fun _=>st (lD (.map (some m)) kR rfl (zd (hS0.b2) rfl) (st (zag hS0 hG hm mR rfl ?_))))
 intro w1 it h
 refine zb (zu (yf (fun mq σ s=> ∃idx ρ,mq=es.size-idx.length∧σ=yo ρ [(0,.func (.yield l) #[] #[]),(6,Ix it 0)]∧Sep G W (WK it m es clock idx::A idx::Xl l (.loop rec)::Blk bm #[.map (some m)] 116::Rs) s) ⟨[],_,rfl,sSf,h⟩ ?_))
 rintro _ _ w2 ⟨idx,ρ,rfl,rfl,b⟩
 refine za (R0 fun _=>st (zaX b hG hm hs rfl ?_ ?_))
 intro hperm
 refine st (zl rfl rfl (zb (za (zf rfl (yh (zX (Qq Tryz.results113 ?_)))))))
 exact⟨idx,hperm,b.sel 4 [1,2,3] (yL _ _) rfl rfl⟩
 intro w3 j hj hlt hnd c u v
 have hj':j<es.toList.length:=by simpa using hj
 obtain⟨x,vd,hcv,hone⟩:=hval j hj'
 refine st (zl rfl rfl (zb (za (zg rfl (zp (zu (za (R0 fun _=>st (zah c hG hm hs rfl hj' hcv (st (zl rfl rfl (st (zv rT ?_)))))))))))))
 intro w4 b4 n
 have d:=c.new n
 refine stn (zr (v:=.agg (x.cells vd).toArray) lT rfl rfl (d.b0) (zZ ⟨rfl,rfl,rfl,hone,rfl,rfl,rfl,rfl,rfl,rfl,zj⟩) yqc rfl ?_)
 intro y o
 have f:=d.put (i:=0) rfl o
 refine zb (za (zdw (Wc kr (zea (mV (.func (.yield l) #[] #[]) (zea (ze pT lT rfl rfl (zi (f.b0)) ?_)))))))
 have g:Sep G W (A idx::Xl l (.loop rec)::Blk bm #[.map (some m)] 116::WK it m es clock (idx++[j])::Rs) y:=f.sel 5 [2,3,4,1] (yL _ _) rfl rfl
 refine stX (zcq (l:=l) (rec:=rec) (p:=p) (v:=.agg (x.cells vd).toArray) rfl rfl (g.obj (i:=1) rfl) hp (RoundIn.mono (hY idx j hj' _ _ _ hcv hlt hnd g) ?_))
 rintro e w6 ⟨rfl,q⟩
 refine⟨_,rfl,?_⟩
 refine zea (yw rfl (zdB (zf rfl (zp ?_))))
 exact⟨_,by simp;omega,idx++[j],_,rfl,sSf,q.sel 4 [3,0,1,2] (yL _ _) rfl rfl⟩
end
end
section
open Go.Proofs Go.RowKit
def Ys (f:Func):Code:=cB (cB (cA (cB (cB (zex f)))))
theorem JZ {G:Nat→Prop}{W w:World}{Fr:List HP}{l b6 bis bo:Nat}{fis:FuncId}{caps:List Value}{p:Ev→Bool}(hfis: ∀args w,(callFunc fis args).run Tryz.prog w=.ok (.enter fis args) w)(hIs: ∀{w:World} {Rs:List HP} {x:Ev} {dx0:Value} (hdx0:RdS W G dx0 x.deps) (ox:x.Ok),Sep G W Rs w→Ret Tryz.prog fis (.agg (x.cells dx0).toArray::caps) w (fun r w'=>r=(.bool (p x):Value)∧Sep G W Rs w')){x:Ev}{vd:Value}(hd:RdS W G vd x.deps)(ok:x.Ok){vo:Value}{M:List Ev}(hML:M.length≤1000000){ρ:Env}{K:Env→World→Prop}(hk: ∀σ' w' vo' M',M'=M++(if p x=true then[x]else[])→Sep G W (Blk bis #[.func (.func fis) #[] caps.toArray] 91::Blk bo #[vo'] 26::RowE (α:=Ev) own 44 vo' M'::Fr) w'→K σ' w')(hS0:Sep G W (Blk b6 (x.cells vd).toArray 44::Blk bis #[.func (.func fis) #[] caps.toArray] 91::Blk bo #[vo] 26::RowE (α:=Ev) own 44 vo M::Fr) w):WPX (some l) [] Tryz.prog 24 (cB (Ys mT)) (Uy K) (yo ρ [(3,.pointer (some ⟨bis,0,none⟩)),(5,.pointer (some ⟨bo,0,none⟩)),(6,.pointer (some ⟨b6,0,none⟩))]) w:=by
 have hr1:=hS0.row (i:=3) rfl
 refine zao ?_
 refine UI ?_
 refine Yb (by kernel_rfl) (fun _=>?_)
 refine st (ZB (v:=.func (.func fis) #[] caps.toArray) Tryz.isAgg91 rfl (zd (hS0.blk (i:=1) rfl) rfl) ?_)
 refine st (ze pT lT rfl rfl (zi (hS0.blk (i:=0) rfl)) ?_)
 refine st (zO (vals:=[.agg (x.cells vd).toArray]) (show _=(.func (.func fis) #[] caps.toArray:Value)from rfl) rfl hfis (hIs hd ok hS0) ?_)
 rintro _ w2 ⟨rfl,hS3⟩
 refine zb ?_
 cases hc4:p x
 ·skip
  refine KI rfl ?_
  refine zbR ?_
  have hS5:Sep G W ((Blk bis #[.func (.func fis) #[] caps.toArray] 91)::(Blk bo #[vo] 26)::(RowE own 44 vo M)::Fr) w2:=hS3.sel 4 [1,2,3] (yL _ _) rfl rfl
  exact hk _ _ _ _ (by simp only[*,Bool.false_eq_true,if_false,List.append_nil]) hS5
 ·skip
  refine KU rfl ?_
  refine zad (WF [fun vals wq=>Sep G W ((Blk b6 (x.cells vd).toArray 44)::(Blk bis #[.func (.func fis) #[] caps.toArray] 91)::(Blk bo #[vo] 26)::(RowE own 44 vo M)::Fr) wq,fun vals wq=> ∃v28,(vals 2=(.agg (x.cells v28).toArray:Value))∧Sep G W ((RowE own 3 v28 x.deps)::(Blk b6 (x.cells vd).toArray 44)::(Blk bis #[.func (.func fis) #[] caps.toArray] 91)::(Blk bo #[vo] 26)::(RowE own 44 vo M)::Fr) wq,fun vals wq=> ∃v28 b41,(vals 2=(.agg (x.cells v28).toArray:Value))∧(vals 3=((.slice (some ⟨b41,0,none⟩) 1 1):Value))∧Sep G W ((Blk b41 (x.cells v28).toArray 44)::(RowE own 3 v28 x.deps)::(Blk b6 (x.cells vd).toArray 44)::(Blk bis #[.func (.func fis) #[] caps.toArray] 91)::(Blk bo #[vo] 26)::(RowE own 44 vo M)::Fr) wq,fun vals wq=> ∃v28 b41 v54,(vals 2=(.agg (x.cells v28).toArray:Value))∧(vals 3=((.slice (some ⟨b41,0,none⟩) 1 1):Value))∧(vals 4=v54)∧Sep G W ((RowE own 44 v54 (M++[x]))::(Blk b6 (x.cells vd).toArray 44)::(Blk bis #[.func (.func fis) #[] caps.toArray] 91)::(Blk bo #[vo] 26)::Fr) wq,fun vals wq=> ∃v28 b41 v54,(vals 2=(.agg (x.cells v28).toArray:Value))∧(vals 3=((.slice (some ⟨b41,0,none⟩) 1 1):Value))∧(vals 4=v54)∧Sep G W ((RowE own 44 v54 (M++[x]))::(Blk b6 (x.cells vd).toArray 44)::(Blk bis #[.func (.func fis) #[] caps.toArray] 91)::(Blk bo #[v54] 26)::Fr) wq]) (AF [Vl 0 vo,Vl 1 (.agg (x.cells vd).toArray),fun _=>True,fun _=>True,fun _=>True,fun _=>True]) [[],[],[1],[1,2],[0,1,2,3],[0,1,2,3,4]] [2,3,4,5] [(0,2),(0,0),(0,0),(1,1),(2,2),(3,3)] (by kernel_rfl) (by kernel_rfl) (by kernel_rfl) rfl (by kernel_rfl) (by kernel_rfl) (fun _ h1 h2 h3 h4 _=>hS3.same h1 h2 h3 h4) ?_ (xd ⟨dA,dA,dT,dT,dT,dT,zj⟩) ⟨?_,?_,?_,?_,?_,?_,zj⟩ ?_
  ·intro k vals vals' w hv h
   have e: ∀j∈([2,3,4,5]:List Nat),vals' j=vals j:=hv
   match k,h with
   |0,h=>exact h
   |1,h=>exact(by simpa only[WF,List.getElem?_cons_zero,List.getElem?_cons_succ,e 2 (by decide)]using h)
   |2,h=>exact(by simpa only[WF,List.getElem?_cons_zero,List.getElem?_cons_succ,e 2 (by decide),e 3 (by decide)]using h)
   |3,h=>exact(by simpa only[WF,List.getElem?_cons_zero,List.getElem?_cons_succ,e 2 (by decide),e 3 (by decide),e 4 (by decide)]using h)
   |4,h=>exact(by simpa only[WF,List.getElem?_cons_zero,List.getElem?_cons_succ,e 2 (by decide),e 3 (by decide),e 4 (by decide)]using h)
   |_+5,_=>trivial
  ·intro k71 vals w72 h75 h76 hW74 hA73
   have hkk:=zaw h75 h76
   rcases hkk with rfl|rfl|rfl
   ·skip
    have hS77:Sep _ _ _ _:=hW74
    refine obl rfl ?_
    exact ZB (v:=vo) sT rfl (zd (hS77.blk (i:=2) rfl) rfl) (fun vals' hv _=>⟨rfl,hv⟩)
   ·skip
    obtain⟨v28,he32,hS78⟩:=hW74
    refine obl rfl ?_
    exact ZB (v:=vo) sT rfl (zd (hS78.blk (i:=3) rfl) rfl) (fun vals' hv _=>⟨rfl,hv⟩)
   ·skip
    obtain⟨v28,b41,he32,he44,hS79⟩:=hW74
    refine obl rfl ?_
    exact ZB (v:=vo) sT rfl (zd (hS79.blk (i:=4) rfl) rfl) (fun vals' hv _=>⟨rfl,hv⟩)
  ·intro k80 vals w81 h84 h85 hW83 hA82
   obtain rfl:k80=0:=Nat.le_antisymm h85 h84
   have hS86:Sep _ _ _ _:=hW83
   refine obl rfl ?_
   exact ze pT lT rfl rfl (zi (hS86.blk (i:=0) rfl)) (fun vals' hv _=>⟨rfl,hv⟩)
  ·intro k20 vals w21 h24 h25 hW23 hA22
   obtain rfl:k20=0:=Nat.le_antisymm h25 h24
   have hS26:Sep _ _ _ _:=hW23
   have e27:=hA22 1 (by decide)
   refine obl rfl ?_
   refine(zO (vals:=[.agg (x.cells vd).toArray]) rfl (yK ⟨e27,zj⟩) Tryz.call69 (Up (e:=x) hd ok hS26) ?_)
   rintro _ w29 ⟨v28,rfl,hS30⟩
   have hr31:=hS30.row (i:=0) rfl
   have hr31s:_*8≤_:=hr31.2
   intro vals' hv hv'
   refine⟨?_,zj⟩
   show ∃v28,(vals' 2=(.agg (x.cells v28).toArray:Value))∧Sep G W ((RowE own 3 v28 x.deps)::(Blk b6 (x.cells vd).toArray 44)::(Blk bis #[.func (.func fis) #[] caps.toArray] 91)::(Blk bo #[vo] 26)::(RowE own 44 vo M)::Fr) w29
   exact⟨v28,hv,hS30⟩
  ·intro k33 vals w34 h37 h38 hW36 hA35
   obtain rfl:k33=1:=Nat.le_antisymm h38 h37
   obtain⟨v28,he32,hS39⟩:=hW36
   refine obl rfl ?_
   refine(zL (k:=10) (parts':=[(0,.agg (x.cells v28).toArray)]) (c:=(x.cells v28).toArray) vT lT rT (by decide) (ZH ⟨rfl,he32,zj⟩) (by kernel_rfl) ?_)
   intro w42 b41 hn40
   have hS43:=hS39.new hn40
   intro vals' hv hv'
   refine⟨?_,zj⟩
   show ∃v28 b41,(vals' 2=(.agg (x.cells v28).toArray:Value))∧(vals' 3=((.slice (some ⟨b41,0,none⟩) 1 1):Value))∧Sep G W ((Blk b41 (x.cells v28).toArray 44)::(RowE own 3 v28 x.deps)::(Blk b6 (x.cells vd).toArray 44)::(Blk bis #[.func (.func fis) #[] caps.toArray] 91)::(Blk bo #[vo] 26)::(RowE own 44 vo M)::Fr) w42
   exact⟨v28,b41,(by rw[hv' 2 (by decide)];exact he32),hv,hS43⟩
  ·intro k45 vals w46 h49 h50 hW48 hA47
   obtain rfl:k45=2:=Nat.le_antisymm h50 h49
   obtain⟨v28,b41,he32,he44,hS51⟩:=hW48
   have e52:=hA47 0 (by decide)
   refine obl rfl ?_
   have hbk56:=hS51.blk (i:=0) rfl
   have hS57:Sep G W ((RowE own 44 vo M)::(RowE own 3 v28 x.deps)::(Blk b6 (x.cells vd).toArray 44)::(Blk bis #[.func (.func fis) #[] caps.toArray] 91)::(Blk bo #[vo] 26)::Fr) w46:=hS51.sel 6 [5,1,2,3,4] (yL _ _) rfl rfl
   refine(yx (src:=own) (bytes:=96) hS57 QF e52 he44 hbk56 (fun _ _ hN=>⟨_,rfl,RowE.soft hN,ok⟩) (by first|omega|(simp only[List.length_append,List.length_cons,List.length_nil,List.length_take,List.length_drop];omega)) rfl ?_)
   intro v54 w53 hS55
   have hr58:=hS55.row (i:=0) rfl
   have hr58s:_*96≤_:=hr58.2
   intro vals' hv hv'
   refine⟨?_,zj⟩
   show ∃v28 b41 v54,(vals' 2=(.agg (x.cells v28).toArray:Value))∧(vals' 3=((.slice (some ⟨b41,0,none⟩) 1 1):Value))∧(vals' 4=v54)∧Sep G W ((RowE own 44 v54 (M++[x]))::(Blk b6 (x.cells vd).toArray 44)::(Blk bis #[.func (.func fis) #[] caps.toArray] 91)::(Blk bo #[vo] 26)::Fr) w53
   exact⟨v28,b41,v54,(by rw[hv' 2 (by decide)];exact he32),(by rw[hv' 3 (by decide)];exact he44),hv,hS55⟩
  ·intro k60 vals w61 h64 h65 hW63 hA62
   obtain rfl:k60=3:=Nat.le_antisymm h65 h64
   obtain⟨v28,b41,v54,he32,he44,he59,hS66⟩:=hW63
   refine obl rfl ?_
   have hr69:=hS66.row (i:=0) rfl
   have hr69s:_*96≤_:=hr69.2
   refine(yr (v:=v54) nR rfl he59 (hS66.blk (i:=3) rfl) hr69.1.one rfl rfl ?_)
   intro w67 hp68
   have hS70:=hS66.pt3 hp68
   intro vals' hv hv'
   refine⟨?_,zj⟩
   show ∃v28 b41 v54,(vals' 2=(.agg (x.cells v28).toArray:Value))∧(vals' 3=((.slice (some ⟨b41,0,none⟩) 1 1):Value))∧(vals' 4=v54)∧Sep G W ((RowE own 44 v54 (M++[x]))::(Blk b6 (x.cells vd).toArray 44)::(Blk bis #[.func (.func fis) #[] caps.toArray] 91)::(Blk bo #[v54] 26)::Fr) w67
   exact⟨v28,b41,v54,(by rw[hv' 2 (by decide)];exact he32),(by rw[hv' 3 (by decide)];exact he44),(by rw[hv' 4 (by decide)];exact he59),hS70⟩
  intro vals w87 hW88 hA89
  obtain⟨v28,b41,v54,he32,he44,he59,hS90⟩:=hW88
  refine yd (kv:=[(3,.pointer (some ⟨bis,0,none⟩)),(5,.pointer (some ⟨bo,0,none⟩)),(6,.pointer (some ⟨b6,0,none⟩)),(13,.func (.func fis) #[] caps.toArray),(14,.agg (x.cells vd).toArray),(15,.bool true)]) ⟨rfl,rfl,rfl,rfl,rfl,rfl,zj⟩ (fun ρw87=>?_)
  refine zb ?_
  have hS91:Sep G W ((Blk bis #[.func (.func fis) #[] caps.toArray] 91)::(Blk bo #[v54] 26)::(RowE own 44 v54 (M++[x]))::Fr) w87:=hS90.sel 4 [2,3,0] (yL _ _) rfl rfl
  exact hk _ _ _ _ (by simp only[*,if_true]) hS91
end
section
open Go.Proofs Go.RowKit Go.Sort Go.Shelf
theorem zaR {w w':World}(h:Ext w w'): ∃q os,w'=grow (w.drewN q) os:=by
 obtain⟨hs,ht,hd,ho,hp⟩:=w
 obtain⟨hs',ht',hd',ho',hp'⟩:=w'
 refine⟨hd'-hd,(hs'.toList.drop hs.size).toArray,?_⟩
 have e1:ho'=ho:=h.os
 have e2:ht'=ht:=h.tape
 have e3:hp'=hp:=h.output
 have e4:hd≤hd':=h.drawn
 have e5:hs.size≤hs'.size:=h.size
 have e6: ∀b,b<hs.size→hs'[b]? =hs[b]? :=fun b hb=>h.block b hb (fun h=>h)
 have eh:hs'=hs++(hs'.toList.drop hs.size).toArray:=by
  apply Array.ext_getElem?
  intro i
  rw[Array.getElem?_append]
  split
  ·rename_i hi;exact e6 i hi
  ·rename_i hi
   simp only[List.getElem?_toArray,List.getElem?_drop,Array.getElem?_toList]
   rw[show hs.size+(i-hs.size)=i by omega]
 have ed:hd'=hd+(hd'-hd):=by omega
 subst e1 e2 e3
 simp only[grow,World.drewN]
 rw[←eh,←ed]
theorem zbm {P:Program}{α:Type}[Inhabited α]{g k:Nat}{cap:List Value}{enc:α→List Value}{cf:α→α→Int}{blk off size:Nat}{w:World}
 (h: ∀W (x y:α),(∃d:Array α,d.size=size∧ ∃m os,W=sortWorldK enc k w blk off m d os)→Ret P g ([.agg (enc x).toArray,.agg (enc y).toArray]++cap) W (fun r W'=>r=.int .i64 (cf x y)∧Ext W W')):CmpLays P g cap.toArray enc k cf blk off size w:=by
 intro m os dk hs x y
 have:=h _ x y ⟨dk,hs,m,os,rfl⟩
 unfold Ret at this
 have e:([Value.agg (enc x).toArray,Value.agg (enc y).toArray]++cap).toArray=#[.agg (enc x).toArray,.agg (enc y).toArray]++cap.toArray:=by simp
 rw[e]at this
 refine Calls.mono this ?_
 rintro e w' ⟨v,rfl,rfl,hx⟩
 exact⟨rfl,zaR hx⟩
theorem Wi {w:World}{b:Nat}{f:Array Value→Array Value}{c:Array Value}{T:TypeId}{fz:Nat×Nat}(h:w.heap[b]? =some (.cells c T fz)):(mapBlock w b f).heap[b]? =some (.cells (f c) T fz):=by
 unfold mapBlock
 simp[Array.getElem?_modify,h,onCells]
theorem YJ {w:World}{b i:Nat}{f:Array Value→Array Value}(h:i≠b):(mapBlock w b f).heap[i]? =w.heap[i]? :=by
 unfold mapBlock
 simp[Array.getElem?_modify,Ne.symm h]
theorem Yf {w:World}{b:Nat}{f:Array Value→Array Value}:(mapBlock w b f).heap.size=w.heap.size:=by
 unfold mapBlock;simp
theorem WS {α:Type}[Inhabited α]{enc:α→List Value}{k blk off m:Nat}{w:World}{d:Array α}{os:Array Obj}(hb:blk<w.heap.size):Chg (fun i=>i=blk) w (sortWorldK enc k w blk off m d os):=by
 unfold sortWorldK putRowK putRow
 have hs:w.heap.size≤(grow (mapBlock (Sort.ahead w m) blk (putCells id off (flatK enc k d))) os).heap.size:=by
  show _≤(_++os).size
  rw[Array.size_append,Yf]
  exact Nat.le_add_right _ _
 have hg: ∀i,i<w.heap.size→(grow (mapBlock (Sort.ahead w m) blk (putCells id off (flatK enc k d))) os).heap[i]? =(mapBlock (Sort.ahead w m) blk (putCells id off (flatK enc k d))).heap[i]? :=by
  intro i hi
  show(_++os)[i]? =_
  rw[Array.getElem?_append,if_pos (by rw[Yf];exact hi)]
 refine⟨rfl,rfl,rfl,hs,fun i hi hne=>?_,?_,Nat.le_add_right _ _⟩
 ·rw[hg i hi,YJ hne];rfl
 ·rintro i ⟨c,T,hc⟩
  have hi:=(Array.getElem?_eq_some_iff.1 hc).1
  by_cases h:i=blk
  ·subst h
   exact⟨_,T,by rw[hg i hi];exact Wi (w:=Sort.ahead w m) hc⟩
  ·exact⟨c,T,by rw[hg i hi,YJ h];exact hc⟩
theorem Qf {α:Type}[Inhabited α]{enc:α→List Value}{k blk off m:Nat}{w:World}{d:Array α}{os:Array Obj}{c:Array Value}{T:TypeId}(hb:w.heap[blk]? =some (.cells c T)):
 (sortWorldK enc k w blk off m d os).heap[blk]? =some (.cells (putCells id off (flatK enc k d) c) T):=by
 unfold sortWorldK putRowK putRow
 have hi:=(Array.getElem?_eq_some_iff.1 hb).1
 show(_++os)[blk]? =_
 rw[Array.getElem?_append,if_pos (by rw[Yf];exact hi)]
 exact Wi (w:=Sort.ahead w m) hb
theorem JF {α:Type}[Rep α]{w:World}{F:Nat→Prop}{enc:α→List Value}: ∀{L:List α},(∀x∈L,Rep.rd w F (enc x) x)→Els w F (L.map enc) L
 |[],_=>trivial
 |x::L,h=>⟨h x (List.mem_cons_self ..),JF fun y hy=>h y (List.mem_cons_of_mem _ hy)⟩
theorem KJ {α:Type}[Rep α][Inhabited α]{P:Program}{ρ:Ren}(L:SlLaysF0.n6 P ρ)(aE: ∀w,(isAgg (ρ.t 24)).run P w=.ok true w)(zE: ∀w,(sizeOf (ρ.t 24)).run P w=.ok (Rep.k α) w)
 {enc:α→List Value} (henc: ∀w F cs (x:α),Rep.rd w F cs x→cs=enc x) (hlen: ∀x,(enc x).length=Rep.k α) (hone: ∀x,∀u∈enc x,u.oneCell'=true) {cf:α→α→Int} (hO:SWO (ltOf cf)) {g:Nat} {cap:List Value} (eg: ∀args w,(callFunc g args).run P w=.ok (.enter g args) w)
 {T:TypeId} {lo:Nat} {w:World} {F:Nat→Prop} {v:Value} {l:List α} (ho:OwnS T lo w F v l)
 (hcmp: ∀W (x y:α),Ret P g ([.agg (enc x).toArray,.agg (enc y).toArray]++cap) W (fun r W'=>r=.int .i64 (cf x y)∧Ext W W'))
 (hre: ∀w' (x:α) (F:Nat→Prop) cs,Rep.rd w F cs x→Rep.rd w' F cs x) (hbs:l.length<4611686018427387904):
 Ret P (ρ.f 6) ([v,.func (.func g) #[] cap.toArray]) w (fun r w'=>r=.tuple #[]∧Chg (fun b=>v.ownBlock=some b) w w'∧ ∃l',l'.Perm l∧l'.Pairwise (fun a b=>ltOf cf b a=false)∧OwnS T lo w' F v l'):=by
 by_cases hne:l=[]
 ·subst hne
  obtain⟨a0,c0,rfl,_,_⟩:=ho.isSl
  have hc:=AnyF.slices_SortFunc_none L a0 c0 (.func (.func g) #[] cap.toArray) w
  unfold Ret
  refine Calls.mono hc ?_
  rintro e w' ⟨he,rfl⟩
  exact⟨.tuple #[],he,rfl,Chg.refl _ _,[],List.Perm.refl _,List.Pairwise.nil,ho⟩
 obtain⟨css,hE,hown⟩:=ho.css
 rcases hown.2 with⟨rfl,h0⟩|⟨gb,capn,cur,rfl,hg,hb,hn,hm,hs,ht⟩
 ·exact absurd (List.length_eq_zero_iff.1 h0) hne
 have hblk:=(Array.getElem?_eq_some_iff.1 hb).1
 have hcs: ∀i (h:i<l.length),CellsAt w gb (i*Rep.k α) (enc l[i])∧Rep.rd w F (enc l[i]) l[i]:=by
  intro i hi
  obtain⟨cs,hr,hc⟩:=hE.at_ i hi
  have e:=henc w F cs _ hr
  subst e
  refine⟨fun j hj=>?_,hr⟩
  have h3:=hc j hj
  rw[←ht,List.getElem?_take]at h3
  split at h3
  ·exact ZC hb (by simpa using h3)
  ·cases h3
 have kpos:0<Rep.k α:=Rep.kpos
 have hH:HoldsK enc (Rep.k α) w gb 0 l.toArray:=by
  intro j hj
  have hj':j<l.length*Rep.k α:=by simpa using hj
  have hd:j/Rep.k α<l.length:=(Nat.div_lt_iff_lt_mul kpos).2 hj'
  have hm':j%Rep.k α<(enc l[j/Rep.k α]).length:=by rw[hlen];exact Nat.mod_lt _ kpos
  have h1:=(hcs (j/Rep.k α) hd).1 (j%Rep.k α) hm'
  refine⟨?_,by simp[World.frozen?,hb]⟩
  rw[get_flatK _ _ _ _ (by simpa using hj'),Nat.zero_add]
  rw[show j/Rep.k α*Rep.k α+j%Rep.k α=j by rw[Nat.mul_comm];exact Nat.div_add_mod j (Rep.k α)]at h1
  rw[h1]
  have e1:l.toArray[j/Rep.k α]! =l[j/Rep.k α]:=by rw[getElem!_pos l.toArray (j/Rep.k α) (by simpa using hd)];simp
  have e2:(enc l[j/Rep.k α])[j%Rep.k α]! =(enc l[j/Rep.k α])[j%Rep.k α]:=getElem!_pos (enc l[j/Rep.k α]) (j%Rep.k α) hm'
  rw[e1,e2];rfl
 have hc:=AnyQ.slices_SortFunc L (Rep.k α) aE zE enc hlen hone cf hO g cap.toArray gb 0 capn l.toArray w eg (zbm fun W x y _=>hcmp W x y) hH hblk (by simpa using hbs)
 have ea:([Value.slice (some ⟨gb,0,none⟩) l.length capn,.func (.func g) #[] cap.toArray]).toArray=#[Value.slice (some ⟨gb,0,none⟩) l.toArray.size capn,.func (.func g) #[] cap.toArray]:=by simp
 unfold Ret
 rw[ea]
 refine Calls.mono hc ?_
 rintro e w' ⟨he,d',n,os,hp,hsd,hw⟩
 refine⟨.tuple #[],he,rfl,?_,d'.toList,?_,?_,?_⟩
 ·have hgo:(fun b=>(Value.slice (some ⟨gb,0,none⟩) l.length capn).ownBlock=some b)=fun b=>b=gb:=by funext b;simp[Value.ownBlock,eq_comm]
  rw[hgo,hw];exact WS hblk
 ·have h2:=hp.2.2
  have hsz:d'.size=l.length:=by simpa using hp.1
  simp at h2
  rwa [List.take_of_length_le (by simp[hsz])]at h2
 ·rw[List.pairwise_iff_getElem]
  intro i j hi hj hij
  have hsz:d'.size=l.length:=by simpa using hp.1
  have hi':i<d'.size:=by simpa using hi
  have hj':j<d'.size:=by simpa using hj
  have:=hsd i j (Nat.zero_le _) hij (by simpa[hsz]using hj')
  rw[getElem!_pos d' j hj',getElem!_pos d' i hi']at this
  simpa using this
 ·have hsz:d'.size=l.length:=by simpa using hp.1
  have hperm:d'.toList.Perm l:=by
   have h2:=hp.2.2
   simp at h2
   rwa [List.take_of_length_le (by simp[hsz])]at h2
  have hrd: ∀x∈d'.toList,Rep.rd w' F (enc x) x:=by
   intro x hx
   obtain⟨i,hi,rfl⟩:=List.getElem_of_mem (hperm.subset hx)
   exact hre w' _ F _ (hcs i hi).2
  have hE':Els w' F (d'.toList.map enc) d'.toList:=JF hrd
  have hfl:=hE'.flat
  have hlen':d'.toList.length=l.length:=by simpa using hsz
  have hcur:(putCells id 0 (flatK enc (Rep.k α) d') cur).size=cur.size:=by simp[putCells]
  have hchg:Chg (fun i=>i=gb) w w':=by rw[hw];exact WS hblk
  have hle:l.length*Rep.k α≤cur.size:=by rw[hs];exact Nat.mul_le_mul_right _ hn
  refine⟨⟨_,hE',by rw[hfl],.inr ⟨gb,capn,_,by rw[hlen'],hg,by rw[hw];exact Qf hb,by rw[hlen'];exact hn,hm,by rw[hcur];exact hs,?_⟩⟩,ho.apart,fun b hb'=>⟨Nat.lt_of_lt_of_le (ho.bound b hb').1 hchg.size,fun hl=>hchg.soft b ((ho.bound b hb').2 hl)⟩,by rw[hlen'];exact ho.small⟩
  refine List.ext_getElem? fun j=>?_
  rw[hlen',List.getElem?_take]
  split
  ·rename_i hj
   have hd:j/Rep.k α<d'.toList.length:=by rw[hlen'];exact(Nat.div_lt_iff_lt_mul kpos).2 hj
   obtain⟨cs,hr,hc⟩:=hE'.at_ (j/Rep.k α) hd
   have e:=henc w' F cs _ hr
   subst e
   have hm':j%Rep.k α<(enc (d'.toList[j/Rep.k α])).length:=by rw[hlen];exact Nat.mod_lt _ kpos
   have h1:=hc (j%Rep.k α) hm'
   rw[show j/Rep.k α*Rep.k α+j%Rep.k α=j by rw[Nat.mul_comm];exact Nat.div_add_mod j (Rep.k α)]at h1
   rw[h1]
   have hjc:j<cur.size:=by omega
   have hjk:j<d'.size*Rep.k α:=by rw[hsz];exact hj
   have hd2:j/Rep.k α<d'.size:=by simpa using hd
   rw[Array.getElem?_toList,Array.getElem?_eq_getElem (by rw[hcur];exact hjc)]
   simp only[putCells,Array.getElem_mapIdx,Nat.zero_le,true_and,Nat.zero_add,size_flatK,hjk,if_true,Nat.sub_zero,id]
   have e1:d'[j/Rep.k α]! =d'[j/Rep.k α]:=getElem!_pos d' (j/Rep.k α) hd2
   have e0:d'.toList[j/Rep.k α]=d'[j/Rep.k α]:=by simp
   rw[e0]at hm'
   have e2:(enc d'[j/Rep.k α])[j%Rep.k α]! =(enc d'[j/Rep.k α])[j%Rep.k α]:=getElem!_pos (enc d'[j/Rep.k α]) (j%Rep.k α) hm'
   rw[get_flatK _ _ _ _ hjk,e1,e2]
   simp
  ·rename_i hj
   rw[List.getElem?_eq_none (by rw[hfl,hlen'];omega)]
end
section
open Go.Proofs Go.Shelf
def QM:Go.Shelf.Ren:=⟨fun|6=>88|15=>115|14=>114|28=>137|29=>138|20=>129|21=>130|22=>131|23=>132|24=>133|25=>134|26=>135|27=>136|46=>148|47=>149|48=>150|49=>151|50=>152|57=>156|n=>n,fun|22=>26|24=>44|25=>148|3=>3|39=>162|0=>0|53=>185|55=>187|4=>4|46=>179|45=>178|50=>173|5=>5|9=>9|66=>190|70=>194|76=>198|77=>199|n=>n,fun|n=>n⟩
theorem zdq:Go.Proofs.SlLaysF0.n6 Tryz.prog QM:={
 mixed:=by kernel_rfl,
 f6:=⟨Tryz.f88.name,by decide,Tryz.func88.trans (congrArg some (by kernel_rfl))⟩,
 f14:=⟨Tryz.f114.name,by decide,Tryz.func114.trans (congrArg some (by kernel_rfl))⟩,
 f15:=Tryz.func115.trans (congrArg some (by kernel_rfl)),
 f20:=⟨Tryz.f129.name,by decide,Tryz.func129.trans (congrArg some (by kernel_rfl))⟩,
 f21:=⟨Tryz.f130.name,by decide,Tryz.func130.trans (congrArg some (by kernel_rfl))⟩,
 f22:=⟨Tryz.f131.name,by decide,Tryz.func131.trans (congrArg some (by kernel_rfl))⟩,
 f23:=⟨Tryz.f132.name,by decide,Tryz.func132.trans (congrArg some (by kernel_rfl))⟩,
 f24:=⟨Tryz.f133.name,by decide,Tryz.func133.trans (congrArg some (by kernel_rfl))⟩,
 f25:=⟨Tryz.f134.name,by decide,Tryz.func134.trans (congrArg some (by kernel_rfl))⟩,
 f26:=⟨Tryz.f135.name,by decide,Tryz.func135.trans (congrArg some (by kernel_rfl))⟩,
 f27:=⟨Tryz.f136.name,by decide,Tryz.func136.trans (congrArg some (by kernel_rfl))⟩,
 f28:=Tryz.func137.trans (congrArg some (by kernel_rfl)),
 f29:=Tryz.func138.trans (congrArg some (by kernel_rfl)),
 f46:=⟨Tryz.f148.name,by decide,Tryz.func148.trans (congrArg some (by kernel_rfl))⟩,
 f47:=Tryz.func149.trans (congrArg some (by kernel_rfl)),
 f48:=Tryz.func150.trans (congrArg some (by kernel_rfl)),
 f49:=⟨Tryz.f151.name,by decide,Tryz.func151.trans (congrArg some (by kernel_rfl))⟩,
 f50:=⟨Tryz.f152.name,by decide,Tryz.func152.trans (congrArg some (by kernel_rfl))⟩,
 f57:=⟨Tryz.f156.name,by decide,Tryz.func156.trans (congrArg some (by kernel_rfl))⟩,
 t0:=Tryz.underlying0,
 a0:=Tryz.isAgg0,
 z0:=Tryz.sizeOf0,
 v0:=Tryz.zeroValue0,
 t3:=Tryz.underlying3,
 a3:=kT,
 z3:=qT,
 v3:=oR,
 t4:=Tryz.underlying4,
 a4:=Tryz.isAgg4,
 z4:=Tryz.sizeOf4,
 v4:=Tryz.zeroValue4,
 t5:=Tryz.underlying5,
 a5:=Tryz.isAgg5,
 z5:=Tryz.sizeOf5,
 v5:=Tryz.zeroValue5,
 t9:=Tryz.underlying9,
 a9:=Tryz.isAgg9,
 z9:=Tryz.sizeOf9,
 v9:=Tryz.zeroValue9,
 t22:=vT,
 a22:=sT,
 z22:=nR,
 v22:=pR,
 t25:=Tryz.underlying148,
 a25:=Tryz.isAgg148,
 z25:=Tryz.sizeOf148,
 v25:=Tryz.zeroValue148,
 t39:=Tryz.underlying162,
 a39:=Tryz.isAgg162,
 z39:=Tryz.sizeOf162,
 v39:=Tryz.zeroValue162,
 t45:=Tryz.underlying178,
 a45:=Tryz.isAgg178,
 z45:=Tryz.sizeOf178,
 v45:=Tryz.zeroValue178,
 t46:=Tryz.underlying179,
 a46:=Tryz.isAgg179,
 z46:=Tryz.sizeOf179,
 v46:=Tryz.zeroValue179,
 t50:=Tryz.underlying173,
 a50:=Tryz.isAgg173,
 z50:=Tryz.sizeOf173,
 v50:=Tryz.zeroValue173,
 t53:=Tryz.underlying185,
 a53:=Tryz.isAgg185,
 z53:=Tryz.sizeOf185,
 v53:=Tryz.zeroValue185,
 t55:=Tryz.underlying187,
 a55:=Tryz.isAgg187,
 z55:=Tryz.sizeOf187,
 v55:=Tryz.zeroValue187,
 t66:=Tryz.underlying190,
 a66:=Tryz.isAgg190,
 z66:=Tryz.sizeOf190,
 v66:=Tryz.zeroValue190,
 t70:=Tryz.underlying194,
 a70:=Tryz.isAgg194,
 z70:=Tryz.sizeOf194,
 v70:=Tryz.zeroValue194,
 t76:=Tryz.underlying198,
 a76:=Tryz.isAgg198,
 z76:=Tryz.sizeOf198,
 v76:=Tryz.zeroValue198,
 t77:=Tryz.underlying199,
 a77:=Tryz.isAgg199,
 z77:=Tryz.sizeOf199,
 v77:=Tryz.zeroValue199
}
end
section
open Go.Proofs Go.RowKit Go.Sort Go.Shelf
theorem Qx {a:Ev}{da:Value}{b:Ev}{db:Value}(hS0:Sep G W Rs w):Ret Tryz.prog 89 [.agg (a.cells da).toArray,.agg (b.cells db).toArray] w (fun r w'=>r=(.int .i64 ((Yt a b)):Value)∧Sep G W Rs w'):=by
 refine zm Tryz.func89 rfl rfl ?_
 refine za (R0 fun _=>st (zT rfl ?_))
 intro w3 b2 aQ
 refine st (zT rfl ?_)
 intro w7 C aR
 refine st (aS (Iv 0) (zb (za ?_)))
 refine WD4 ((fun TT q=>WF [fun vals n=>Sep G W (q::TT) n,fun vals n=>(vals 4=(Iv ((xa a.lam b.lam)):Value))∧Sep G W (q::TT) n,fun vals n=>(vals 4=(Iv ((xa a.lam b.lam)):Value))∧(vals 11=(Iv ((xa a.origin b.origin)):Value))∧Sep G W (q::TT) n,fun vals n=>(vals 4=(Iv ((xa a.lam b.lam)):Value))∧(vals 11=(Iv ((xa a.origin b.origin)):Value))∧(vals 18=(Iv ((xa a.seq b.seq)):Value))∧Sep G W (q::TT) n,fun vals n=> ∃e,(vals 4=(Iv ((xa a.lam b.lam)):Value))∧(vals 11=(Iv ((xa a.origin b.origin)):Value))∧(vals 18=(Iv ((xa a.seq b.seq)):Value))∧(vals 19=((Iy e 3 3):Value))∧Sep G W ((Blk e #[Iv ((xa a.lam b.lam)),Iv ((xa a.origin b.origin)),Iv ((xa a.seq b.seq))] 3)::q::TT) n,fun vals n=> ∃e,(vals 4=(Iv ((xa a.lam b.lam)):Value))∧(vals 11=(Iv ((xa a.origin b.origin)):Value))∧(vals 18=(Iv ((xa a.seq b.seq)):Value))∧(vals 19=((Iy e 3 3):Value))∧(vals 20=(Iv ((orL [(xa a.lam b.lam),(xa a.origin b.origin),(xa a.seq b.seq)])):Value))∧Sep G W ((RowE own 3 (Iy e 3 3) [(xa a.lam b.lam),(xa a.origin b.origin),(xa a.seq b.seq)])::q::TT) n]) ((Blk b2 (a.cells da).toArray 44)::Rs) (Blk C (b.cells db).toArray 44)) (AF [Vl 0 (Ix b2 2),Vl 1 (Iv (a.lam)),Vl 2 (Ix C 2),Vl 3 (Iv (b.lam)),fun _=>True,Vl 5 (Ix b2 0),Vl 6 (Ix b2 0),Vl 7 (Iv (a.origin)),Vl 8 (Ix C 0),Vl 9 (Ix C 0),Vl 10 (Iv (b.origin)),fun _=>True,Vl 12 (Ix b2 0),Vl 13 (Ix b2 1),Vl 14 (Iv (a.seq)),Vl 15 (Ix C 0),Vl 16 (Ix C 1),Vl 17 (Iv (b.seq)),fun _=>True,fun _=>True,fun _=>True,Vl 21 (Iv ((orL [(xa a.lam b.lam),(xa a.origin b.origin),(xa a.seq b.seq)])))]) [[],[0],[],[2],(rg 4),[],[5],[5,6],[],[8],[8,9],(rg 11),[],[12],[12,13],[],[15],[15,16],(rg 18),(rg 19),(rg 20),(rg 21)] [4,11,18,19,20] [(0,0),(0,0),(0,0),(0,0),(0,0),(0,1),(0,1),(0,1),(0,1),(0,1),(0,1),(1,1),(0,2),(0,2),(0,2),(0,2),(0,2),(0,2),(2,2),(3,3),(4,4),(5,5)] ((hS0.new aQ).new aR) ⟨fun _ _ _ _ _ _ _=>obl rfl (xQ rfl dR),ob1 0 fun _ _ (N:Sep _ _ _ _) O=>obl rfl (lD (Iv (a.lam)) kT (O 0 dc) (zd (N.b1) rfl) dR),fun _ _ _ _ _ _ _=>obl rfl (xQ rfl dR),ob1 0 fun _ _ (P:Sep _ _ _ _) Q=>obl rfl (lD (Iv (b.lam)) kT (Q 2 dc) (zd (P.b0) rfl) dR),?_,fun _ _ _ _ _ _ _=>obl rfl (yA rfl dR),fun _ _ _ _ _ _ R=>obl rfl (xm (R 5 dc) dR),?_,fun _ _ _ _ _ _ _=>obl rfl (yA rfl dR),fun _ _ _ _ _ _ S=>obl rfl (xm (S 8 dc) dR),?_,?_,fun _ _ _ _ _ _ _=>obl rfl (yA rfl dR),fun _ _ _ _ _ _ T=>obl rfl (Za (T 12 dc) dR),?_,fun _ _ _ _ _ _ _=>obl rfl (yA rfl dR),fun _ _ _ _ _ _ U=>obl rfl (Za (U 15 dc) dR),?_,?_,?_,?_,?_,zj⟩ ?_
 refine ob1 0 fun vals _ (aB:Sep _ _ _ _) L=>(obl rfl ((zO (vals:=[Iv (a.lam),Iv (b.lam)]) rfl (yK ⟨(L 1 dc),(L 3 dc),zj⟩) lR (KS aB) ?_)))
 rintro _ w46 ⟨rfl,aC⟩
 exact fun j s h=>⟨(zG s aC),zj⟩
 refine fun t _ _ aD aE D E=>?_
 have hkk:=xz aD aE
 rcases hkk with rfl|rfl
 have V:=D
 exact obl rfl (lD (Iv (a.origin)) kT (E 6 dc) (zd (V.b1) rfl) dR)
 obtain⟨d,X⟩:=D
 exact obl rfl (lD (Iv (a.origin)) kT (E 6 dc) (zd (X.b1) rfl) dR)
 refine fun u _ _ aH aI F H=>?_
 have hkk:=xz aH aI
 rcases hkk with rfl|rfl
 have Y:=F
 exact obl rfl (lD (Iv (b.origin)) kT (H 9 dc) (zd (Y.b0) rfl) dR)
 obtain⟨d,Z⟩:=F
 exact obl rfl (lD (Iv (b.origin)) kT (H 9 dc) (zd (Z.b0) rfl) dR)
 refine ob1 1 fun vals _ aJ M=>?_
 obtain⟨d,aK⟩:=aJ
 refine obl rfl ((zO (vals:=[Iv (a.origin),Iv (b.origin)]) rfl (yK ⟨(M 7 dc),(M 10 dc),zj⟩) lR (KS aK) ?_))
 rintro _ w100 ⟨rfl,aa⟩
 exact fun j s h=>⟨(zG ((h 4 dc).trans d) (zG s aa)),zj⟩
 refine fun o _ _ aL aM x y=>?_
 have hkk:=zaw aL aM
 rcases hkk with rfl|rfl|rfl
 have ab:=x
 exact obl rfl (lD (Iv (a.seq)) kT (y 13 dc) (zd (ab.b1) rfl) dR)
 obtain⟨d,ac⟩:=x
 exact obl rfl (lD (Iv (a.seq)) kT (y 13 dc) (zd (ac.b1) rfl) dR)
 obtain⟨d,g,ad⟩:=x
 exact obl rfl (lD (Iv (a.seq)) kT (y 13 dc) (zd (ad.b1) rfl) dR)
 refine fun p _ _ aN aO z A=>?_
 have hkk:=zaw aN aO
 rcases hkk with rfl|rfl|rfl
 have ae:=z
 exact obl rfl (lD (Iv (b.seq)) kT (A 16 dc) (zd (ae.b0) rfl) dR)
 obtain⟨d,af⟩:=z
 exact obl rfl (lD (Iv (b.seq)) kT (A 16 dc) (zd (af.b0) rfl) dR)
 obtain⟨d,g,ag⟩:=z
 exact obl rfl (lD (Iv (b.seq)) kT (A 16 dc) (zd (ag.b0) rfl) dR)
 refine ob1 2 fun vals _ ah I=>?_
 obtain⟨d,g,ai⟩:=ah
 refine obl rfl ((zO (vals:=[Iv (a.seq),Iv (b.seq)]) rfl (yK ⟨(I 14 dc),(I 17 dc),zj⟩) lR (KS ai) ?_))
 rintro _ w154 ⟨rfl,aj⟩
 exact fun j s h=>⟨(zG ((h 4 dc).trans d) (zG ((h 11 dc).trans g) (zG s aj))),zj⟩
 refine ob1 3 fun _ _ ak _=>?_
 obtain⟨d,g,i,al⟩:=ak
 refine obl rfl ((zL (k:=1) (parts':=[(0,Iv ((xa a.lam b.lam))),(1,Iv ((xa a.origin b.origin))),(2,Iv ((xa a.seq b.seq)))]) (c:=#[Iv ((xa a.lam b.lam)),Iv ((xa a.origin b.origin)),Iv ((xa a.seq b.seq))]) nT qT oR dc (ZH ⟨rfl,d,rfl,g,rfl,i,zj⟩) kr ?_))
 intro w166 e am
 exact fun j s h=>⟨(exiA e (zG ((h 4 dc).trans d) (zG ((h 11 dc).trans g) (zG ((h 18 dc).trans i) (zG s (al.new am)))))),zj⟩
 refine ob1 4 fun vals _ an _=>?_
 obtain⟨e,d,g,i,m,ao⟩:=an
 refine obl rfl ?_
 have J:Sep _ _ ((RowE (α:=Int) own 3 (Iy e 3 3) [(xa a.lam b.lam),(xa a.origin b.origin),(xa a.seq b.seq)])::_) _:=Sep.blkRow (css:=[[Iv ((xa a.lam b.lam))],[Iv ((xa a.origin b.origin))],[Iv ((xa a.seq b.seq))]]) ao rfl ⟨fun _ _=>⟨rfl,(Qs a.lam b.lam)⟩,fun _ _=>⟨rfl,(Qs a.origin b.origin)⟩,fun _ _=>⟨rfl,(Qs a.seq b.seq)⟩,zj⟩ yqa (show 3≤maxLen by decide)
 have ap:=J.r0
 obtain⟨G178,aq,hB181,ar,au⟩:=J.lend
 have B:=RowE.rd aq
 refine(zO (vals:=[(Iy e 3 3)]) rfl (yK ⟨m,zj⟩) Tryz.call116 (Da_or (l:=[(xa a.lam b.lam),(xa a.origin b.origin),(xa a.seq b.seq)]) (vl:=(Iy e 3 3)) B ar) ?_)
 rintro _ w185 ⟨rfl,av⟩
 have aw:=au _ _ av
 exact fun j s h=>⟨(exiA e (zG ((h 4 dc).trans d) (zG ((h 11 dc).trans g) (zG ((h 18 dc).trans i) (zG ((h 19 dc).trans m) (zG s aw)))))),zj⟩
 refine ob1 5 fun _ _ ax _=>?_
 obtain⟨e,d,g,i,m,K,hS326⟩:=ax
 exact obl rfl (ya K dR)
 intro vals w327 ay az
 obtain⟨e,d,g,i,m,K,aA⟩:=ay
 have aP:=az 21 dc
 refine yd (kv:=[(0,.agg (a.cells da).toArray),(1,.agg (b.cells db).toArray),(2,Ix b2 0),(3,Ix C 0),(4,Iv ((orL [(xa a.lam b.lam),(xa a.origin b.origin),(xa a.seq b.seq)])))]) ⟨rfl,rfl,rfl,rfl,(by exact aP),zj⟩ (fun ρw327=>(zb (zo (zN Tryz.results89 (show _=(Iv ((orL [(xa a.lam b.lam),(xa a.origin b.origin),(xa a.seq b.seq)])):Value)from rfl) ?_))))
 refine⟨rfl,(aA.s3_)⟩
theorem zco {W:World}{a b:Ev}{da db:Value}:Ret Tryz.prog 89 [.agg (a.cells da).toArray,.agg (b.cells db).toArray] W (fun r W'=>r=.int .i64 (Yt a b)∧Ext W W'):=
 Ret.mono (Qx (Sep.start W)) (fun v w' ⟨h1,h2⟩=>⟨h1,h2.fin⟩)
abbrev EvP:=Ev×{v:Value//v.oneCell'=true}
instance:Inhabited EvP:=⟨(default,⟨.slice none 0 0,rfl⟩)⟩
def EvP.cells (s:EvP):List Value:=s.1.cells s.2.1
instance:Rep EvP where
 k:=10
 rd _ _ cs s:=cs=s.cells
 bytes:=96
 bpos:=by decide
 kpos:=by decide
 len h:=by rw[h];rfl
 one h:=by rw[h];rename_i s;exact zZ ⟨rfl,rfl,rfl,s.2.2,rfl,rfl,rfl,rfl,rfl,rfl,trivial⟩
 mono h _:=h
theorem Ul {w:World}{F:Nat→Prop}: ∀{css:List (List Value)} {l:List Ev},Els w F css l→ ∃ls:List EvP,ls.map (·.1)=l∧Els w F css ls∧ ∀s∈ls,RdS w F s.2.1 s.1.deps∧s.1.Ok
 |[],[],_=>⟨[],rfl,trivial,fun _ h=>by cases h⟩
 |cs::css,x::l,h=>by
  obtain⟨⟨d,e,h1,h2⟩,h3⟩:=h
  obtain⟨ls,h4,h5,h6⟩:=Ul h3
  refine⟨(x,⟨d,h1.sl.one⟩)::ls,by simp[h4],⟨e,h5⟩,fun s hs=>?_⟩
  rcases List.mem_cons.1 hs with rfl|hs
  ·exact⟨h1,h2⟩
  ·exact h6 s hs
 |[],_::_,h=>h.elim
 |_::_,[],h=>h.elim
theorem QP {w:World}{F:Nat→Prop}: ∀{css:List (List Value)} {ls:List EvP},Els w F css ls→(∀s∈ls,RdS w F s.2.1 s.1.deps∧s.1.Ok)→Els w F css (ls.map (·.1))
 |[],[],_,_=>trivial
 |cs::css,s::ls,h,hs=>by
  obtain⟨h1,h2⟩:=h
  have h3:=hs s (List.mem_cons_self ..)
  exact⟨⟨_,h1,h3.1,h3.2⟩,QP h2 (fun s hs'=>hs s (List.mem_cons_of_mem _ hs'))⟩
 |[],_::_,h,_=>h.elim
 |_::_,[],h,_=>h.elim
theorem Zi {a b:Ev}:Yt a b<0↔a.lam<b.lam∨a.lam=b.lam∧(a.origin<b.origin∨a.origin=b.origin∧a.seq<b.seq):=by
 unfold Yt orL orL orL orL xa
 by_cases h1:a.lam<b.lam<;>by_cases h2:b.lam<a.lam<;>by_cases h3:a.origin<b.origin<;>by_cases h4:b.origin<a.origin<;>by_cases h5:a.seq<b.seq<;>by_cases h6:b.seq<a.seq<;>simp only[h1,h2,h3,h4,h5,h6,if_true,if_false]<;>simp<;>omega
theorem zbI:SWO (ltOf fun a b:EvP=>Yt a.1 b.1):=by
 refine⟨fun x=>?_,fun x y z h1 h2=>?_,fun x y z h1 h2=>?_⟩
 ·simp only[ltOf,decide_eq_false_iff_not,Zi];omega
 ·simp only[ltOf,decide_eq_true_eq,Zi]at*;omega
 ·simp only[ltOf,decide_eq_false_iff_not,Zi]at*;omega
theorem zaq {v:Value}{l:List Ev}(hl:l.length<4611686018427387904)(hS:Sep G W (RowE (α:=Ev) own 44 v l::Rs) w):
 Ret Tryz.prog 88 [v,.func (.func 89) #[] #[]] w (fun r w'=> ∃l':List Ev,r=(.tuple #[]:Value)∧l'.Perm l∧l'.Pairwise (fun a b=> ¬Yt b a<0)∧Sep G W (RowE (α:=Ev) own 44 v l'::Rs) w'):=by
 obtain⟨f,hA,hfl,hT⟩:=hS.take (i:=0) rfl
 have ho:=RowE.toOwn hA
 obtain⟨⟨css,hE,hown⟩,ha,hB,hs⟩:=ho
 obtain⟨ls,rfl,hE2,hrd⟩:=Ul hE
 have ho2:OwnS 44 0 w (fun b=>(f b∧v.ownBlock≠some b)∧Soft w b) v ls:=⟨⟨css,hE2,by rw[List.length_map]at hown;exact hown⟩,ha,hB,by rw[List.length_map]at hs;exact hs⟩
 refine Ret.mono (KJ (α:=EvP) (enc:=EvP.cells) zdq pT lT (fun _ _ _ _ h=>h) (fun _=>rfl) (fun s=>zZ ⟨rfl,rfl,rfl,s.2.2,rfl,rfl,rfl,rfl,rfl,rfl,zj⟩) zbI (cap:=[]) Tryz.call89 ho2 (fun _ _ _=>zco) (fun _ _ _ _ h=>h) (by simpa using hl)) ?_
 rintro r w' ⟨rfl,hc,ls',hp,hso,ho3⟩
 refine⟨ls'.map (·.1),rfl,hp.map _,?_,?_⟩
 ·rw[List.pairwise_map]
  refine hso.imp fun{a b} h=>?_
  simpa[ltOf]using h
 ·obtain⟨⟨css',hE',hown'⟩,ha',hB',hs'⟩:=ho3
  have hF: ∀b,((f b∧v.ownBlock≠some b)∧Soft w b)→b<w.heap.size→w'.heap[b]? =w.heap[b]? ∧((f b∧v.ownBlock≠some b)∧Soft w b):=fun b hb hlt=>⟨hc.block b hlt hb.1.2,hb⟩
  have hr': ∀s∈ls',RdS w' (fun b=>(f b∧v.ownBlock≠some b)∧Soft w b) s.2.1 s.1.deps∧s.1.Ok:=fun s hs=>⟨(hrd s (hp.subset hs)).1.mono hF,(hrd s (hp.subset hs)).2⟩
  have ho4:OwnS (α:=Ev) 44 0 w' (fun b=>(f b∧v.ownBlock≠some b)∧Soft w b) v (ls'.map (·.1)):=⟨⟨css',QP hE' hr',by rw[List.length_map];exact hown'⟩,ha',hB',by rw[List.length_map];exact hs'⟩
  have hvf: ∀b,v.ownBlock=some b→f b:=by
   obtain⟨_,_,_,h3,_⟩:=hA
   exact h3
  exact hT w' _ f (hc.weak fun b _ hb=>hvf b hb) (RowE.ofOwn ho4 (fun b hb=>⟨hb.1.1,hc.soft b hb.2⟩) hvf) (fun _ hb=>.inl hb)
theorem zak {m:Nat}(hS0:Sep G W Rs w):Ret Tryz.prog 87 [.map (some m)] w (fun r w'=> ∃(bm:Nat),r=(.func (.func 113) #[] #[.pointer (some ⟨bm,0,none⟩)]:Value)∧Sep G W ((Blk bm #[.map (some m)] 116)::Rs) w'):=by
 refine zm Tryz.func87 rfl rfl ?_
 refine za (R0 fun _=>st (zT rfl ?_))
 intro w3 b2 a
 refine st (aS .nilFunc (zb (za (R0 fun _=>st (ZX rfl (st (aS (.func (.func 113) #[] #[Ix b2 0]) (zb (zo (zN Tryz.results87 (show _=(.func (.func 113) #[] #[Ix b2 0]:Value)from rfl) ?_))))))))))
 refine⟨b2,rfl,(hS0.new a)⟩
def idE (e:Ev):Int×Int:=(e.origin,e.seq)
def Srt (L:List Ev):Prop:=L.Pairwise fun a b=>Yt a b<0
theorem YY: ∀{L:List Ev} {x:Ev},(L.map idE).Nodup→x∈L→yp L (idE x)=some x
 |y::L,x,hn,hx=>by
  unfold yp
  rw[List.find?_cons]
  rcases List.mem_cons.1 hx with rfl|hx
  ·simp[idE]
  ·have hn2:=List.nodup_cons.1 (show(idE y::L.map idE).Nodup from hn)
   have hne: ¬(y.origin=(idE x).1∧y.seq=(idE x).2):=fun h=>hn2.1 (List.mem_map.2 ⟨x,hx,by unfold idE;rw[h.1,h.2];rfl⟩)
   rw[decide_eq_false hne]
   exact YY hn2.2 hx
theorem Kr {L:List Ev}{k:Int×Int}:(yp L k).isSome=true↔k∈L.map idE:=by
 constructor
 ·intro h
  obtain⟨x,hx⟩:=Option.isSome_iff_exists.1 h
  obtain⟨h1,h2,h3⟩:=XD hx
  exact List.mem_map.2 ⟨x,h1,by unfold idE;rw[h2,h3]⟩
 ·intro h
  cases hg:yp L k with
  |some x=>rfl
  |none=>
   obtain⟨x,hx,rfl⟩:=List.mem_map.1 h
   exfalso
   unfold yp at hg
   rw[List.find?_eq_none]at hg
   exact hg x hx (by simp[idE])
theorem zbu {κ β:Type}[DecidableEq κ]{R:List (κ×β)}{k:κ}:(yT R k).isSome=true↔k∈R.map (·.1):=by
 unfold yT
 rw[Option.isSome_map,List.find?_isSome]
 constructor
 ·rintro⟨p,hp,hk⟩
  exact List.mem_map.2 ⟨p,hp,by simpa using hk⟩
 ·intro h
  obtain⟨p,hp,rfl⟩:=List.mem_map.1 h
  exact⟨p,hp,by simp⟩
theorem QJ {κ β:Type}[DecidableEq κ]: ∀{R:List (κ×β)} {p:κ×β},(R.map (·.1)).Nodup→p∈R→yT R p.1=some p.2
 |q::R,p,hn,hp=>by
  unfold yT
  rw[List.find?_cons]
  rcases List.mem_cons.1 hp with rfl|hp
  ·simp
  ·have hn2:=List.nodup_cons.1 (show(q.1::R.map (·.1)).Nodup from hn)
   have hne: ¬q.1=p.1:=fun h=>hn2.1 (List.mem_map.2 ⟨p,hp,h.symm⟩)
   rw[decide_eq_false hne]
   exact QJ hn2.2 hp
theorem VI {l:List Ev}: ∀{S:List Ev},l.Perm S→S.Pairwise (fun a b=>Yt a b<0)→l.Pairwise (fun a b=> ¬Yt b a<0)→l=S:=by
 induction l with
 |nil=>intro S hp _ _;exact(List.nil_perm.1 hp).symm
 |cons a l ih=>
  intro S hp hS hl
  cases S with
  |nil=>exact absurd hp.length_eq (by simp)
  |cons s S=>
   rw[List.pairwise_cons]at hS hl
   have ha:a∈s::S:=hp.subset (List.mem_cons_self ..)
   have hs:s∈a::l:=hp.symm.subset (List.mem_cons_self ..)
   have e:a=s:=by
    rcases List.mem_cons.1 ha with h|h
    ·exact h
    ·rcases List.mem_cons.1 hs with h2|h2
     ·exact h2.symm
     ·exact absurd (hS.1 a h) (hl.1 s h2)
   subst e
   rw[ih ((List.perm_cons a).1 hp) hS.2 hl.2]
def Yy (R:List ((Int×Int)×Value))(L:List Ev)(j:Nat):Ev:=(yp L ((R[j]?.map (·.1)).getD default)).getD default
section
variable {G:Nat→Prop}{W w:World}{Rs:List HP}{m n clock:Nat}{L:List Ev}{R:List ((Int×Int)×Value)}{es:Array MapEntry}
theorem SetR.place (h:SetR W G m R L)(hn:(R.map (·.1)).Nodup)(he:EntsV xB es.toList R){j:Nat}(hj:j<es.toList.length): ∃vd,es.toList[j].val=.agg ((Yy R L j).cells vd).toArray∧(Yy R L j).Ok∧RdS W G vd (Yy R L j).deps:=by
 obtain⟨p,hp,hk,hv⟩:=he.at_ (List.getElem?_eq_getElem hj)
 obtain⟨x,vd,h1,h2,h3,h4,_⟩:=h.at_ p.1
 have hl:=QJ hn (List.mem_of_getElem? hp)
 rw[hl]at h2
 have e:Yy R L j=x:=by unfold Yy;rw[hp,h1];rfl
 rw[e]
 exact⟨vd,hv.trans h2,h3,h4⟩
theorem SetR.perm (h:SetR W G m R L)(hn:(R.map (·.1)).Nodup)(hid:(L.map idE).Nodup):((List.range R.length).map (Yy R L)).Perm L:=by
 have h1:(R.map (·.1)).Perm (L.map idE):=(List.perm_ext_iff_of_nodup hn hid).2 fun k=>by
  rw[←zbu,←Kr]
  obtain⟨x,vd,_,_,_,_,h5⟩:=h.at_ k
  rw[h5]
 have h2:=h1.map (fun k=>(yp L k).getD default)
 have e1:(L.map idE).map (fun k=>(yp L k).getD default)=L:=by
  rw[List.map_map]
  conv=>rhs;rw[←List.map_id L]
  refine List.map_congr_left fun x hx=>?_
  show(yp L (idE x)).getD default=id x
  rw[YY hid hx];rfl
 rw[e1]at h2
 have e2:(List.range R.length).map (Yy R L)=(R.map (·.1)).map (fun k=>(yp L k).getD default):=by
  refine List.ext_getElem (by simp) (fun i h3 h4=>?_)
  simp at h3
  simp[Yy,h3]
 rw[e2];exact h2
end
def zdW (bis bo:Nat)(fis:FuncId)(caps:List Value)(p:Ev→Bool)(f:Nat→Ev)(idx:List Nat):HP:=Ex1 fun vo=>Star [Blk bis #[.func (.func fis) #[] caps.toArray] 91,Blk bo #[vo] 26,RowE (α:=Ev) own 44 vo ((idx.map f).filter p)]
theorem Jy {b:Nat}{n:Nat}{L:List Ev}(hb:(SetO b n L).p W G){fis:FuncId}{caps:List Value}{p:Ev→Bool}(hfis: ∀args w,(callFunc fis args).run Tryz.prog w=.ok (.enter fis args) w)(hIs: ∀{w:World} {Rs:List HP} {x:Ev} {dx0:Value} (hdx0:RdS W G dx0 x.deps) (ox:x.Ok),Sep G W Rs w→Ret Tryz.prog fis (.agg (x.cells dx0).toArray::caps) w (fun r w'=>r=(.bool (p x):Value)∧Sep G W Rs w'))(hS0:Sep G W Rs w)(hid:(L.map idE).Nodup)(hsr:Srt L)(hL:L.length≤1000000):Ret Tryz.prog 54 [.pointer (some ⟨b,0,none⟩),.func (.func fis) #[] caps.toArray] w (fun r w'=> ∃(v:Value),r=(v:Value)∧Sep G W ((RowE (α:=Ev) own 44 v (L.filter p))::Rs) w'):=by
 obtain⟨vv,m,R,hbk,hvv,hr⟩:=SetO.sh hb
 obtain⟨es,clock,hes,hst,hent,hclk⟩:=hr.is
 have hnR:(R.map (·.1)).Nodup:=IsMap.nodup hr.is
 have hlen:es.size=R.length:=by have:=hent.len;simpa using this
 have hpl:=hr.perm hnR hid
 have hRL:R.length=L.length:=by have:=hpl.length_eq;simpa using this
 refine KM (args:=[.pointer (some ⟨b,0,none⟩),.func (.func fis) #[] caps.toArray]) Tryz.func54 rfl rfl ?_
 refine Qa ?_
 refine yy (by kernel_rfl) (fun _=>?_)
 refine st (zT (v:=.func (.func fis) #[] caps.toArray) rfl ?_)
 intro w1 bis hn1
 have hS1:=hS0.new hn1
 refine st (ya (v:=(.slice none 0 0)) rfl ?_)
 refine zb ?_
 refine Qa ?_
 refine yy (by kernel_rfl) (fun _=>?_)
 refine st (zv pR ?_)
 intro w2 bo hn2
 have hS2:=hS1.new hn2
 refine zb ?_
 refine zaT ?_
 refine Qa ?_
 refine yy (by kernel_rfl) (fun _=>?_)
 refine st (yg (v:=.pointer (some ⟨b,0,none⟩)) rfl ?_)
 refine st (zx (b:=b) (o:=0) rfl ?_)
 refine st (Wx rfl ?_)
 refine st (ZB (v:=.map (some m)) kR rfl (zd (hS2.gblk hbk) rfl) ?_)
 refine st (zO (f:=87) (vals:=[.map (some m)]) (cap:=[]) rfl rfl Tryz.call87 (zak hS2) ?_)
 rintro _ w3 ⟨bm,rfl,hS3⟩
 refine zb ?_
 refine zas ?_
 refine VL (gf:=113) (lb:=[.pointer (some ⟨bm,0,none⟩)]) rfl Tryz.call113 ?_
 intro fn tm htm
 have hS4:=(hS3.objNew (Uq w3 (.deferred (some [])))).objNew (Uq _ (.loop {state:=.ready,pending:=none,fn,tmps:=tm,params:=#[12],assign:=cA (Ys mT),body:=cB (Ys mT),defers:=w3.heap.size}))
 rw[show(w3.alloc (.deferred (some []))).heap.size=w3.heap.size+1 from World.size_alloc ..]at hS4
 have hS5:=hS4.rowNil (α:=Ev) own 44
 have hS6:=Sep.closeStar (Bs:=[Blk bis #[.func (.func fis) #[] caps.toArray] 91,Blk bo #[.slice none 0 0] 26,RowE (α:=Ev) own 44 (.slice none 0 0) []]) (hS5.sel 6 [5,4,0,1,3,2] (yL _ _) rfl rfl)
 have hS7:Sep G W (zdW bis bo fis caps p (Yy R L) []::_) _:=Sep.closeEx (A:=fun vo=>Star [Blk bis #[.func (.func fis) #[] caps.toArray] 91,Blk bo #[vo] 26,RowE (α:=Ev) own 44 vo ((([]:List Nat).map (Yy R L)).filter p)]) (.slice none 0 0) hS6
 refine Ret.mono (zdr (A:=zdW bis bo fis caps p (Yy R L)) hr.gm hes hst rfl (fun j hj=>?_) ?_ hS7) ?_
 ·obtain⟨vd,h1,_,h3⟩:=hr.place hnR hent hj
  exact⟨_,vd,h1,h3.sl.one⟩
 ·intro idx j hj v Fr w8 hv hlt hnd hS8
  obtain⟨vd,hcv,hok,hrd⟩:=hr.place hnR hent hj
  rw[hcv]at hv
  subst hv
  refine zaI (n:=24) htm (by decide) ?_
  refine Yb (by kernel_rfl) (fun _=>?_)
  refine st (zv rT ?_)
  intro w9 b6 hn9
  have hS9:=hS8.new hn9
  refine stn (zr (v:=.agg ((Yy R L j).cells vd).toArray) (c':=((Yy R L j).cells vd).toArray) lT rfl rfl (hS9.blk (i:=0) rfl) (zZ ⟨rfl,rfl,rfl,hrd.sl.one,rfl,rfl,rfl,rfl,rfl,rfl,zj⟩) (xJ rfl) rfl ?_)
  intro w10 hp10
  have hS10:=hS9.put (i:=0) rfl hp10
  refine zb ?_
  refine⟨_,run_beginRound (hS10.obj (i:=2) rfl) rfl,?_⟩
  have hS11:=hS10.objPut (i:=2) (o':=.loop {state:=.busy,pending:=none,fn,tmps:=tm,params:=#[12],assign:=cA (Ys mT),body:=cB (Ys mT),defers:=w3.heap.size}) rfl rfl
  obtain⟨vo,hS12⟩:=(hS11.sel 3 [1,0,2] (yL _ _) rfl rfl).openEx
  have hS13:=hS12.openStar
  have hS14:=hS13.sel 5 [3,0,1,2,4] (yL _ _) rfl rfl
  refine zdm (kv:=[(3,.pointer (some ⟨bis,0,none⟩)),(5,.pointer (some ⟨bo,0,none⟩)),(6,.pointer (some ⟨b6,0,none⟩))]) ⟨rfl,rfl,rfl,zj⟩ (fun ρ=>JZ hfis hIs hrd hok ?_ ?_ hS14)
  ·have:=List.length_filter_le p (idx.map (Yy R L))
   rw[List.length_map]at this
   omega
  ·intro σ' w15 vo' M' hM hS15
   refine⟨_,_,run_endRound none (hS15.obj (i:=3) rfl),rfl,?_⟩
   have hS16:=hS15.objPut (i:=3) (o':=.loop {state:=.ready,pending:=none,fn,tmps:=tm,params:=#[12],assign:=cA (Ys mT),body:=cB (Ys mT),defers:=w3.heap.size}) rfl rfl
   have hM2:M'=((idx++[j]).map (Yy R L)).filter p:=by
    rw[hM,List.map_append,List.filter_append,List.map_cons,List.map_nil,List.filter_cons,List.filter_nil]
   rw[hM2]at hS16
   have hS17:=Sep.closeStar (Bs:=[Blk bis #[.func (.func fis) #[] caps.toArray] 91,Blk bo #[vo'] 26,RowE (α:=Ev) own 44 vo' (((idx++[j]).map (Yy R L)).filter p)]) hS16
   exact Sep.closeEx (A:=fun vo=>Star [Blk bis #[.func (.func fis) #[] caps.toArray] 91,Blk bo #[vo] 26,RowE (α:=Ev) own 44 vo (((idx++[j]).map (Yy R L)).filter p)]) vo' hS17
 ·rintro _ w9 ⟨idx,hperm,hS9⟩
  refine⟨_,run_endLoop (hS9.obj (i:=1) rfl) (by simp),?_⟩
  have hS10:=hS9.objPut (i:=1) (o':=.loop {state:=.exhausted,pending:=none,fn,tmps:=tm,params:=#[12],assign:=cA (Ys mT),body:=cB (Ys mT),defers:=w3.heap.size}) rfl rfl
  obtain⟨vo,hS11⟩:=hS10.openEx
  have hS12:=hS11.openStar
  have hS13:=hS12.sel 6 [2,1,5] (yL _ _) rfl rfl
  have hpf:((idx.map (Yy R L)).filter p).Perm (L.filter p):=by
   have h1:=(hperm.map (Yy R L))
   rw[hlen]at h1
   exact(h1.trans hpl).filter p
  refine UI ?_
  refine Yb (by kernel_rfl) (fun _=>?_)
  refine st (ZB (v:=vo) sT rfl (zd (hS13.blk (i:=1) rfl) rfl) ?_)
  refine st (zO (f:=88) (vals:=[vo,.func (.func 89) #[] #[]]) (cap:=[]) rfl rfl Tryz.call88 (zaq (by have h1:=hpf.length_eq;have h2:=List.length_filter_le p L;omega) hS13) ?_)
  rintro _ w14 ⟨l',rfl,hp',hso',hS14⟩
  refine zb ?_
  refine UI ?_
  refine Yb (by kernel_rfl) (fun _=>?_)
  refine st (ZB (v:=vo) sT rfl (zd (hS14.blk (i:=1) rfl) rfl) ?_)
  refine st (ya (v:=vo) rfl ?_)
  refine zb ?_
  refine zdK ?_
  refine⟨_,run_takeDeferred (hS14.obj (i:=2) rfl),zN Tryz.results54 (show _=(vo:Value)from rfl) ⟨vo,rfl,?_⟩⟩
  have hS15:=hS14.objPut (i:=2) (o':=.deferred none) rfl rfl
  have hl':l'=L.filter p:=VI (hp'.trans hpf) (hsr.filter p) hso'
  rw[hl']at hS15
  exact hS15.sel 3 [0] (yL _ _) rfl rfl
end
section
open Go.Proofs Go.RowKit
def ZK (key:Int)(e:Ev):Bool:=(!decide (key=0))&&decide (e.key=key)
def yP (L:List Ev)(key:Int):Option Ev:=L.find? (ZK key)
def DepO (d:Value)(l:List Int):HP:=⟨fun w f=>RdS w (fun b=>f b∧Soft w b) d l,fun h hf=>h.mono fun b hb hlt=>⟨(hf b hb.1 hlt).1,(hf b hb.1 hlt).2,hb.2.keep (hf b hb.1 hlt).1⟩⟩
theorem DepO.rd {d:Value}{l:List Int}{w:World}{f:Nat→Prop}(h:(DepO d l).p w f):RdS w f d l:=RdS.weak h (fun _ _ hb=>hb.1)
section
variable {G:Nat→Prop}{W w:World}{As:List HP}{T:TypeId}{v:Value}{l:List Ev}
theorem Sep.depo (h:Sep G W (RowE (α:=Ev) own T v l::As) w){i:Nat}(hi:i<l.length): ∃d,CellsAt w (sb v) (so v+i*10) ((l.getD i default).cells d)∧(l.getD i default).Ok∧Sep G W (DepO d (l.getD i default).deps::As) w:=by
 obtain⟨f,hA,hfl,hT⟩:=h.take (i:=0) rfl
 obtain⟨cs,hc,he⟩:=RowE.elem hA hi
 rw[←zK default hi]at he
 obtain⟨d,rfl,hd,ho⟩:=he
 refine⟨d,hc,ho,hT w _ f (Chg.refl _ _) ?_ (fun _ hb=>.inl hb)⟩
 exact RdS.weak hd (fun b _ hb=>hb)
theorem Sep.depSl {d:Value}{l:List Int}(h:Sep G W As w){i:Nat}(hi:As[i]? =some (DepO d l)):IsSl d l.length:=by
 obtain⟨f,h1,_⟩:=h.get hi;exact h1.sl
theorem Sep.depoNil (h:Sep G W As w):Sep G W (DepO (.slice none 0 0) []::As) w:=h.push (Chg.refl _ _) (f:=fun _=>False) (RdS.nil _ _) (fun _ h=>h.elim)
end
theorem zdy {e:Ev}{de0:Value}(hde0:RdS W G de0 e.deps)(oe:e.Ok)(hS0:Sep G W Rs w):Ret Tryz.prog 55 [.agg (e.cells de0).toArray] w (fun r w'=>r=(.bool true:Value)∧Sep G W Rs w'):=by
 refine zm Tryz.func55 rfl rfl ?_
 refine za (R0 fun _=>st (zT rfl ?_))
 intro w3 b2 a
 refine st (aS (.bool false) (zb (za (R0 fun _=>st (aS (.bool true) (zb (zo (zN Tryz.results55 (show _=(.bool true:Value)from rfl) ?_))))))))
 refine⟨rfl,((hS0.new a).s1_)⟩
theorem zdo {e:Ev}{de0:Value}(hde0:RdS W G de0 e.deps)(oe:e.Ok){bx:Nat}{key:Int}(hbx:(Blk bx #[.int .i64 key] 3).p W G)(hS0:Sep G W Rs w):Ret Tryz.prog 77 [.agg (e.cells de0).toArray,.pointer (some ⟨bx,0,none⟩)] w (fun r w'=>r=(.bool (ZK key e):Value)∧Sep G W Rs w'):=by
 refine zm Tryz.func77 rfl rfl ?_
 refine za (R0 fun _=>st (zT rfl ?_))
 intro w3 b2 g
 have d:=hS0.new g
 refine st (aS (.bool false) (zb (za (zy kr (st (lD (Iv key) kT rfl (zd (d.gblk hbx) rfl) (st (yj rfl rfl (st (mV (.bool (!decide (key=0))) (stc (V:=Ix b2 9) rfl rfl (fun h=>?_) ?_)))))))))))
 exact YV rfl rflB
 refine stc (V:=Iv (e.key)) rfl rfl (fun f=>?_) ?_
 exact lD (Iv (e.key)) kT (ifpC f) (zd (d.b0) rfl) rflB
 refine stc (V:=Iv key) rfl rfl (fun i=>?_) ?_
 exact lD (Iv key) kT rfl (zd (d.gblk hbx) rfl) rflB
 refine stc (V:=.bool (decide (e.key=key))) rfl rfl (fun c=>?_) ?_
 exact zR (ifpC c) (ifpC c) rflB
 refine st (zF rfl (fun hbp=>(ifpC hbp)) (st (aS (.bool ((!decide (key=0))&&(decide (e.key=key)))) (zb (zo (zN Tryz.results77 (show _=(.bool ((!decide (key=0))&&(decide (e.key=key))):Value)from rfl) ?_))))))
 refine⟨rfl,(d.s1_)⟩
theorem KY {b:Nat}{n:Nat}{L:List Ev}(hb:(SetO b n L).p W G)(hS0:Sep G W Rs w)(hid:(L.map idE).Nodup)(hsr:Srt L)(hL:L.length≤1000000):Ret Tryz.prog 16 [.pointer (some ⟨b,0,none⟩)] w (fun r w'=> ∃(v:Value),r=(v:Value)∧Sep G W ((RowE (α:=Ev) own 44 v L)::Rs) w'):=by
 refine zm Tryz.func16 rfl rfl ?_
 obtain⟨vv1,m2,R3,hb4,e,hr6⟩:=SetO.sh hb
 refine za (R0 fun _=>st (aS Iz (zb (za (R0 fun _=>st (mV (Ix b 0) (st (cL qR (Jy (p:=fun _=>true) (caps:=[]) hb Tryz.call55 (fun f g h=>zdy f g h) hS0 hid hsr hL) ?_))))))))
 rintro c w9 ⟨_,rfl,a⟩
 have d:=a.r0
 refine st (aS c (zb (zo (zN Tryz.results16 (show _=(c:Value)from rfl) ?_))))
 rw[List.filter_eq_self.2 (fun _ _=>rfl)]at a
 refine⟨c,rfl,a⟩
end
section
open Go.Proofs Go.RowKit
theorem zbd {L:List Ev}{key:Int}(h:((L.filter (ZK key)).length:Nat)=0):yP L key=none:=by
 have h1:=List.length_eq_zero_iff.1 h
 unfold yP
 rw[←List.head?_filter,h1];rfl
theorem zaP {L:List Ev}{key:Int}(h:0<(L.filter (ZK key)).length):yP L key=some ((L.filter (ZK key)).getD 0 default):=by
 unfold yP
 rw[←List.head?_filter]
 cases hl:L.filter (ZK key)with
 |nil=>rw[hl]at h;exact absurd h (Nat.lt_irrefl 0)
 |cons x l=>rfl
theorem zbG {b:Nat}{n:Nat}{L:List Ev}(hb:(SetO b n L).p W G){key:Int}(hkey:InR key)(hS0:Sep G W Rs w)(hid:(L.map idE).Nodup)(hsr:Srt L)(hL:L.length≤1000000):Ret Tryz.prog 35 [.pointer (some ⟨b,0,none⟩),.int .i64 (key)] w (fun r w'=> ∃(d:Value),r=(.tuple #[.agg (((yP L key).getD default).cells d).toArray,.bool (yP L key).isSome]:Value)∧Sep G W ((DepO d (((yP L key).getD default).deps))::Rs) w'):=by
 refine zm Tryz.func35 rfl rfl ?_
 let S:=((⟨0,0,0,[],0,0,0,0,0,0⟩:Ev).cells Iz)
 obtain⟨vv1,m2,R3,hb4,K,hr6⟩:=SetO.sh hb
 refine za (R0 fun _=>st (zT rfl ?_))
 intro w10 t M
 refine st (zv rT ?_)
 intro w14 l u
 refine st (aS (.bool false) (zb (za (R0 fun _=>st (mV (Ix b 0) (st (ZX rfl ?_)))))))
 obtain⟨G17,x,y,z,m⟩:=(((hS0.new M).new u).mv1).lend
 refine st (cL qR (Jy (p:=ZK key) (caps:=[Ix t 0]) (HP.base hb y) Tryz.call77 (fun N O P=>zdo N O x P) z hid hsr hL) ?_)
 rintro h w24 ⟨_,rfl,c⟩
 have f:=c.r0
 refine st (aS h (zb (za (za (R0 fun _=>st (mV h (st (zS vT rfl f.1 (st (zR rfl rfl (zb ?_)))))))))))
 cases e:decide ((((L.filter (ZK key)).length:Nat):Int)=0)
 have e:=fD e
 refine zf rfl (zp (za (R0 fun _=>st (mV h ?_))))
 have A:0<(L.filter (ZK key)).length:=bo
 refine st (zn (k:=10) vT lT rfl f.1 rfl A ?_)
 have B:0<(L.filter (ZK key)).length:=by omega
 obtain⟨j,C,ok31,g⟩:=c.depo B
 refine st (ze pT lT rfl rfl C ?_)
 have s:=(DepO.rd (Sep.get g (i:=0) rfl).choose_spec.1).sl
 refine stn (zr (v:=.agg (((L.filter (ZK key)).gd 0).cells j).toArray) lT rfl rfl (g.b1) (zZ ⟨rfl,rfl,rfl,s.one,rfl,rfl,rfl,rfl,rfl,rfl,zj⟩) yqc rfl ?_)
 intro Q D
 have o:=g.pt1 D
 refine st (aS (.bool true) (zb (zo (xY (b:=l) rR pT lT rfl rfl (zi (o.b1)) (show _=(.bool true:Value)from rfl) ?_))))
 have E:=m _ _ o
 have F:Sep G W ((DepO j (((L.filter (ZK key)).gd 0).deps))::Rs) Q:=E.sel 3 [1] (yL _ _) rfl rfl
 rw[zaP (L:=L) (key:=key) (by omega)]
 refine⟨j,?_,F⟩
 rfl
 have e:=tD e
 refine zg rfl (za (R0 fun _=>?_))
 refine st (zQ (parts':=[]) (v:=.agg S.toArray) rfl (by simp+zetaDelta [Instr.build,Instr.fill,go_sem,ZZ]) (stn (zr (v:=.agg S.toArray) lT rfl rfl (c.b1) (zZ ⟨rfl,rfl,rfl,rfl,rfl,rfl,rfl,rfl,rfl,rfl,zj⟩) yqc rfl ?_)))
 intro R H
 have q:=c.pt1 H
 refine st (aS (.bool false) (zb (zo (xY (b:=l) rR pT lT rfl rfl (zi (q.b1)) (show _=(.bool false:Value)from rfl) ?_))))
 have I:=m _ _ q
 have J:Sep G W ((DepO Iz [])::(Blk t #[Iv key] 3)::(RowE (α:=Ev) own 44 h (L.filter (ZK key)))::(Blk l S.toArray 44)::Rs) R:=I.depoNil
 rw[zbd (L:=L) (key:=key) (by omega)]
 refine⟨(Iz),?_,(J.s4_a)⟩
 rfl
def xE (e:Ev):List Ev→List Ev
 |[]=>[e]
 |x::l=>if ltE e x=true then e::x::l else x::xE e l
def zcc (n:Nat)(L:List Ev)(e:Ev):Bool:=(List.range n).all (xW L e)
def ZE (n:Nat)(L:List Ev)(e:Ev):Int:=if yE e n≠0 then yE e n else if(yp L (e.origin,e.seq)).isSome=true then 16 else if e.seq≠((ZD L e.origin.toNat:Nat):Int)+1 then 9 else if zcc n L e=true then 0 else 9
def addL (n:Nat)(L:List Ev)(e:Ev):List Ev:=if ZE n L e=0 then xE e L else L
section
variable {n:Nat}{L:List Ev}{e:Ev}
theorem JK (h: ¬yE e n=0):ZE n L e=yE e n:=by unfold ZE;rw[if_pos h]
theorem Jq (h:yE e n=0)(h2:(yp L (e.origin,e.seq)).isSome=true):ZE n L e=16:=by unfold ZE;rw[if_neg (by simpa using h),if_pos h2]
theorem Ju (h:yE e n=0)(h2:(yp L (e.origin,e.seq)).isSome=false)(h3: ¬e.seq=((ZD L e.origin.toNat:Nat):Int)+1):ZE n L e=9:=by unfold ZE;rw[if_neg (by simpa using h),if_neg (by rw[h2];decide),if_pos h3]
theorem Jn (h:yE e n=0)(h2:(yp L (e.origin,e.seq)).isSome=false)(h3:e.seq=((ZD L e.origin.toNat:Nat):Int)+1){k:Nat}(hk:k<n)(h4:xW L e k=false):ZE n L e=9:=by
 unfold ZE
 rw[if_neg (by simpa using h),if_neg (by rw[h2];decide),if_neg (by simpa using h3),if_neg (fun h5=>?_)]
 have:=(List.all_eq_true.1 h5) k (List.mem_range.2 hk)
 rw[h4]at this;cases this
theorem Vu (h:yE e n=0)(h2:(yp L (e.origin,e.seq)).isSome=false)(h3:e.seq=((ZD L e.origin.toNat:Nat):Int)+1)(h4: ∀i,i<n→xW L e i=true):ZE n L e=0:=by
 unfold ZE
 rw[if_neg (by simpa using h),if_neg (by rw[h2];decide),if_neg (by simpa using h3),if_pos (show zcc n L e=true from List.all_eq_true.2 fun i hi=>h4 i (List.mem_range.1 hi))]
theorem ZY (h: ¬ZE n L e=0):addL n L e=L:=if_neg h
theorem Vq (h:ZE n L e=0):addL n L e=xE e L:=if_pos h
theorem Zq (h:yE e n=0):(0≤e.origin∧e.origin<n)∧(1≤e.seq∧1≤e.lam)∧e.deps.length=n∧e.deps.getD e.origin.toNat 0=e.seq-1:=by
 unfold yE at h
 split at h
 ·cases h
 ·rename_i h1
  split at h
  ·cases h
  ·rename_i h2
   have h1':(((((decide (e.origin<0)||decide ((n:Int)≤e.origin))||decide (min e.seq e.lam<1))||decide (min e.agg e.key<0))|| !decide (((e.deps.length:Nat):Int)=n))||Yp e.deps)=false:=by simpa using h1
   simp only[Bool.or_eq_false_iff,decide_eq_false_iff_not,Bool.not_eq_false',decide_eq_true_eq]at h1'
   have h2':e.deps.getD e.origin.toNat 0=e.seq-1:=by simpa using h2
   obtain⟨⟨⟨⟨⟨a1,a2⟩,a3⟩,a4⟩,a5⟩,a6⟩:=h1'
   exact⟨⟨by omega,by omega⟩,⟨by omega,by omega⟩,by omega,h2'⟩
theorem insE_perm: ∀{L:List Ev},(xE e L).Perm (e::L)
 |[]=>List.Perm.refl _
 |x::l=>by
  unfold xE
  split
  ·exact List.Perm.refl _
  ·exact((insE_perm (L:=l)).cons x).trans (List.Perm.swap ..)
theorem Km:(xE e L).length=L.length+1:=insE_perm.length_eq
theorem Wv {o:Nat}:ZD L o≤L.length:=List.length_filter_le ..
theorem Qd {o:Nat}:ZD (xE e L) o=ZD L o+if e.origin=(o:Int)then 1 else 0:=by
 unfold ZD
 rw[((insE_perm (e:=e) (L:=L)).filter _).length_eq,List.filter_cons]
 by_cases h:e.origin=(o:Int)
 ·rw[if_pos (by simpa using h),if_pos h];rfl
 ·rw[if_neg (by simpa using h),if_neg h];rfl
theorem JG (h0:0≤e.origin)(h1:e.origin<n):(zw n L).set e.origin.toNat (((ZD L e.origin.toNat:Nat):Int)+1)=zw n (xE e L):=by
 refine List.ext_getElem (by simp[zw]) (fun i h2 h3=>?_)
 simp only[List.length_set,xM]at h2
 rw[List.getElem_set]
 simp only[zw,List.getElem_map,List.getElem_range]
 rw[Qd]
 by_cases h:e.origin.toNat=i
 ·rw[if_pos h,if_pos (by omega),←h];omega
 ·rw[if_neg h,if_neg (by omega)];omega
theorem zbD {A B:List Ev}(h:A.Perm B):zP A=zP B:=by
 unfold zP
 induction h with
 |nil=>rfl
 |cons x _ ih=>simp only[List.foldr_cons,ih]
 |swap x y l=>simp only[List.foldr_cons];omega
 |trans _ _ h1 h2=>exact h1.trans h2
theorem zdb:max (zP L) e.lam=zP (xE e L):=by rw[zbD insE_perm];rfl
theorem QY (h:(yp L (e.origin,e.seq)).isSome=false):YF (yp L) (e.origin,e.seq) e=yp (xE e L):=by
 funext k
 unfold YF
 induction L with
 |nil=>
  simp only[xE,yp,List.find?_cons,List.find?_nil]
  obtain⟨a,b⟩:=k
  by_cases hk:(e.origin,e.seq)=(a,b)
  ·rw[if_pos hk];cases hk;simp
  ·rw[if_neg hk];simp only[Prod.mk.injEq]at hk;simp[hk]
 |cons x l ih=>
  have hx: ¬(x.origin=e.origin∧x.seq=e.seq)∧(yp l (e.origin,e.seq)).isSome=false:=by
   unfold yp at h
   rw[List.find?_cons]at h
   by_cases hx:x.origin=e.origin∧x.seq=e.seq
   ·rw[decide_eq_true hx]at h;cases h
   ·rw[decide_eq_false hx]at h;exact⟨hx,h⟩
  obtain⟨a,b⟩:=k
  have ih:=ih hx.2
  simp only[xE]
  by_cases hlt:ltE e x=true
  ·rw[if_pos hlt]
   by_cases hk:(e.origin,e.seq)=(a,b)
   ·rw[if_pos hk];cases hk;simp[yp]
   ·rw[if_neg hk];simp only[Prod.mk.injEq]at hk;simp[yp,hk]
  ·rw[if_neg hlt]
   unfold yp at ih⊢
   rw[List.find?_cons,List.find?_cons]
   by_cases hxa:x.origin=a∧x.seq=b
   ·have hk: ¬(e.origin,e.seq)=(a,b):=fun hk=>by cases hk;exact hx.1 hxa
    rw[if_neg hk,decide_eq_true hxa]
   ·rw[decide_eq_false hxa];exact ih
end
end
end Go.Proofs.YtbcdijeggfoabaaGreatDoor
