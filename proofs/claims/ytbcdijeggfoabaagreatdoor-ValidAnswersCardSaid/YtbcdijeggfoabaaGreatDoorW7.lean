import Derived.Test.YtbcdijeggfoabaaGreatDoorW6
import Derived.Test.YtbcdijeggfoabaaGreatDoorW1
import Derived.Test.YtbcdijeggfoabaaGreatDoorW2
set_option linter.unusedSimpArgs false
set_option linter.unusedVariables false
set_option linter.unusedSectionVars false
set_option linter.deprecated false
open Go.Proofs.Tryz renaming isAgg3→kT,sizeOf44→lT,underlying42→mT,sizeOf25→nT,isAgg42→oT,results27→pT,underlying26→qT,isAgg44→rT,sizeOf106→sT,isAgg25→tT,sizeOf3→uT,sizeOf74→vT,isAgg72→wT,zeroValue44→kR,isAgg22→lR,underlying22→mR,isAgg23→nR,call80→oR,results41→pR,underlying104→qR,isAgg106→rR,sizeOf143→sR,underlying23→tR,sizeOf112→uR,underlying72→vR,results5→wR,isAgg41→kY,sizeOf41→lY,results34→mY,call81→nY,zeroValue106→oY,isAgg104→pY,zeroValue25→qY,zeroValue74→rY
namespace Go.Proofs.YtbcdijeggfoabaaGreatDoor
variable {G:Nat→Prop}{W w:World}{Rs:List HP}
section
set_option maxRecDepth 8000
set_option maxHeartbeats 4000000
open Go.Proofs Go.RowKit
def KK (e:Ev)(n:Int):Prop:=(0≤e.origin∧e.origin<n∧(e.deps.length:Int)=n∧1≤e.seq)∧ ∀i,i<e.deps.length→0≤e.deps.getD i 0
theorem zbQ {α:Type}[Inhabited α]{P:α→Prop}{l:List α}{x:α}(h: ∀i,i<l.length→P (l.getD i default))(hx:P x): ∀i,i<(l++[x]).length→P ((l++[x]).getD i default):=by
 intro i hi
 rcases Nat.lt_or_ge i l.length with h1|h1
 ·have e:(l++[x]).getD i default=l.getD i default:=by rw[List.getD_eq_getElem?_getD,List.getD_eq_getElem?_getD,List.getElem?_append_left h1]
  rw[e];exact h i h1
 ·have e:i=l.length:=by rw[List.length_append,List.length_singleton]at hi;omega
  subst e
  rw[List.getD_eq_getElem?_getD,List.getElem?_append_right (Nat.le_refl _),Nat.sub_self];exact hx
theorem zcx {d:Dcl}{dd0:Value}(hdd0:RdS W G dd0 d.types){dd1:Value}(hdd1:RdS W G dd1 d.projs)(od:d.Ok)(hS0:Sep G W Rs w):Ret Tryz.prog 5 [.agg (d.cells dd0 dd1).toArray] w (fun r w'=> ∃(b:Bool),r=(.bool b:Value)∧(b=true→DclOk d∧zaA d)∧Sep G W Rs w'):=by
 refine zi Tryz.func5 rfl rfl ?_
 refine za (R0 fun _=>st (zM rfl ?_))
 intro w3 b2 m
 have h:=hS0.new m
 refine st (aS (.bool false) (zb (za (zA kr (st (zh tT nT rfl rfl (CellsAt.all (h.b0)) (st (cL Tryz.call25 (zds hdd0 hdd1 od h) ?_))))))))
 rintro _ w6 ⟨i,rfl,f⟩
 refine st (yB rfl (st (mV (.bool (!i)) (stc (V:=.agg (d.cells dd0 dd1).toArray) rfl rfl (fun n=>?_) ?_))))
 have o:=n
 exact zh tT nT rfl rfl (CellsAt.all (f.b0)) ⟨rfl,rfl⟩
 cases e: !i
 refine stx rfl rfl (stx rfl rfl (st (yw rfl rfl (st (aS (.bool false) (zb (zk (zG wR rfl ?_))))))))
 refine⟨false,rfl,?_,(f.s1_)⟩
 intro j
 cases j
 refine sty rfl rfl (cL Tryz.call26 (zcg hdd0 hdd1 od f) ?_)
 rintro _ w15 ⟨c,rfl,hin13,g,l⟩
 refine sty rfl rfl (zR rfl rfl (st (yz rfl rfl (st (aS (.bool (decide (c=0))) (zb (zk (zG wR rfl ?_))))))))
 refine⟨decide (c=0),rfl,?_,(l.s1_)⟩
 intro j
 exact g (by simpa using j)
theorem zaw {e:Ev}{de0:Value}(hde0:RdS W G de0 e.deps)(oe:e.Ok){n:Int}(hn:InR n)(hS0:Sep G W Rs w):Ret Tryz.prog 27 [.agg (e.cells de0).toArray,.int .i64 (n)] w (fun r w'=> ∃(c:Int),r=(.int .i64 (c):Value)∧(InR c)∧(c=0→KK e n)∧Sep G W Rs w'):=by
 refine zi Tryz.func27 rfl rfl ?_
 refine za (R0 fun _=>st (zM rfl ?_))
 intro w3 b2 bi
 have f:=hS0.new bi
 refine st (aS (Iv 0) (zb (za (za (zA kr (st (yp rfl (st (xa rfl (st (lD (Iv (e.origin)) kT rfl (zd (f.b0) rfl) (st (zC rfl rfl (st (mV (.bool (decide (e.origin<0))) (stc (V:=Ix b2 0) rfl rfl (fun bj=>?_) ?_))))))))))))))))
 exact yp rfl ⟨rfl,rfl⟩
 refine stc (V:=Ix b2 0) rfl rfl (fun aE=>?_) ?_
 exact xa (if_pos aE) ⟨rfl,rfl⟩
 refine stc (V:=Iv (e.origin)) rfl rfl (fun aF=>?_) ?_
 exact lD (Iv (e.origin)) kT (if_pos aF) (zd (f.b0) rfl) ⟨rfl,rfl⟩
 refine stc (V:=Iv n) rfl rfl (fun aG=>?_) ?_
 exact mV (Iv n) ⟨rfl,rfl⟩
 refine stc (V:=.bool (decide (n≤e.origin))) rfl rfl (fun p=>?_) ?_
 exact yR (if_pos p) (if_pos p) ⟨rfl,rfl⟩
 refine st (zt rfl (fun hbp=>(if_pos hbp)) (st (mV (.bool ((decide (e.origin<0))||(decide (n≤e.origin)))) (stc (V:=Ix b2 0) rfl rfl (fun aH=>?_) ?_))))
 have aI:=aH
 exact yp rfl ⟨rfl,rfl⟩
 refine stc (V:=Ix b2 1) rfl rfl (fun K=>?_) ?_
 have aJ:=K
 exact xE (if_pos K) ⟨rfl,rfl⟩
 refine stc (V:=Iv (e.seq)) rfl rfl (fun L=>?_) ?_
 have aK:=L
 exact lD (Iv (e.seq)) kT (if_pos L) (zd (f.b0) rfl) ⟨rfl,rfl⟩
 refine stc (V:=.bool (decide (e.seq<1))) rfl rfl (fun M=>?_) ?_
 have aL:=M
 exact zC (if_pos M) rfl ⟨rfl,rfl⟩
 refine st (zt rfl (fun hbp=>(if_pos hbp)) (st (mV (.bool (((decide (e.origin<0))||(decide (n≤e.origin)))||(decide (e.seq<1)))) (stc (V:=Ix b2 2) rfl rfl (fun aM=>?_) ?_))))
 have aN:=aM
 exact xC rfl ⟨rfl,rfl⟩
 refine stc (V:=Iv (e.lam)) rfl rfl (fun N=>?_) ?_
 have aO:=N
 exact lD (Iv (e.lam)) kT (if_pos N) (zd (f.b0) rfl) ⟨rfl,rfl⟩
 refine stc (V:=.bool (decide (e.lam<1))) rfl rfl (fun O=>?_) ?_
 have aP:=O
 exact zC (if_pos O) rfl ⟨rfl,rfl⟩
 refine st (zt rfl (fun hbp=>(if_pos hbp)) (st (mV (.bool ((((decide (e.origin<0))||(decide (n≤e.origin)))||(decide (e.seq<1)))||(decide (e.lam<1)))) (stc (V:=Ix b2 5) rfl rfl (fun aQ=>?_) ?_))))
 have aR:=aQ
 exact ZC rfl ⟨rfl,rfl⟩
 refine stc (V:=Iv (e.agg)) rfl rfl (fun P=>?_) ?_
 have aT:=P
 exact lD (Iv (e.agg)) kT (if_pos P) (zd (f.b0) rfl) ⟨rfl,rfl⟩
 refine stc (V:=.bool (decide (e.agg<0))) rfl rfl (fun Q=>?_) ?_
 have aU:=Q
 exact zC (if_pos Q) rfl ⟨rfl,rfl⟩
 refine st (zt rfl (fun hbp=>(if_pos hbp)) (st (mV (.bool (((((decide (e.origin<0))||(decide (n≤e.origin)))||(decide (e.seq<1)))||(decide (e.lam<1)))||(decide (e.agg<0)))) (stc (V:=Ix b2 9) rfl rfl (fun aV=>?_) ?_))))
 have aW:=aV
 exact YV rfl ⟨rfl,rfl⟩
 refine stc (V:=Iv (e.key)) rfl rfl (fun R=>?_) ?_
 have aX:=R
 exact lD (Iv (e.key)) kT (if_pos R) (zd (f.b0) rfl) ⟨rfl,rfl⟩
 refine stc (V:=.bool (decide (e.key<0))) rfl rfl (fun S=>?_) ?_
 have aY:=S
 exact zC (if_pos S) rfl ⟨rfl,rfl⟩
 refine st (zt rfl (fun hbp=>(if_pos hbp)) (st (mV (.bool ((((((decide (e.origin<0))||(decide (n≤e.origin)))||(decide (e.seq<1)))||(decide (e.lam<1)))||(decide (e.agg<0)))||(decide (e.key<0)))) (stc (V:=Ix b2 3) rfl rfl (fun aZ=>?_) ?_))))
 have ba:=aZ
 exact yQ rfl ⟨rfl,rfl⟩
 refine stc (V:=de0) rfl rfl (fun T=>?_) ?_
 have bb:=T
 try simp only[zf]at bb
 exact lD de0 oT (if_pos T) (zd (f.b0) rfl) ⟨rfl,rfl⟩
 refine stc (V:=Iw e.deps.length) rfl rfl (fun U=>?_) ?_
 have bc:=U
 try simp only[zf]at bc
 exact zJ mT (if_pos U) hde0.sl ⟨rfl,rfl⟩
 refine stc (V:=Iv n) rfl rfl (fun bd=>?_) ?_
 have be:=bd
 try simp only[zf]at be
 exact mV (Iv n) ⟨rfl,rfl⟩
 refine stc (V:=.bool (!decide (((e.deps.length:Nat):Int)=n))) rfl rfl (fun q=>?_) ?_
 have bf:=q
 try simp only[zf]at bf
 exact yn (if_pos q) (if_pos q) ⟨rfl,rfl⟩
 refine st (zt rfl (fun hbp=>(if_pos hbp)) (zb ?_))
 cases X:((((((decide (e.origin<0))||(decide (n≤e.origin)))||(decide (e.seq<1)))||(decide (e.lam<1)))||(decide (e.agg<0)))||(decide (e.key<0)))||(!decide (((e.deps.length:Nat):Int)=n))
 try simp only[zf]at X
 refine ze rfl (zl (za (za (R0 fun _=>st (aS (Iv 0) (zb (zn (zZ (fun mq σ wq=> ∃k ρ,mq=e.deps.length-k∧σ=yd ρ [(1,Iv n),(2,Ix b2 0),(5,Iw k)]∧(k≤e.deps.length)∧(∀i,i<k→0≤e.deps.getD i 0)∧Sep G W ((Blk b2 (e.cells de0).toArray 44)::Rs) wq) ⟨0,_,rfl,sSf,Nat.zero_le _,(fun i h=>absurd h (Nat.not_lt_zero i)),f⟩ ?_))))))))
 rintro m53 σ54 w52 ⟨k,ρl1,rfl,rfl,hkk,hm,m⟩
 refine za (za (R0 fun _=>st (mV (Iw k) (st (mV (Iv n) (st (zC rfl rfl (zb ?_))))))))
 cases o:decide (((k:Nat):Int)<n)
 have o:=fD o
 refine ze rfl (ya (zS (za (za ?_))))
 refine WD4 (WF [fun vals wq=>Sep G W ((Blk b2 (e.cells de0).toArray 44)::Rs) wq]) (AF [Vl 0 (Ix b2 3),Vl 1 (de0),Vl 2 (Ix b2 0),Vl 3 (Ix b2 0),Vl 4 (Iv (e.origin)),Vl 5 (Ix (sb de0) (so de0+e.origin.toNat*1)),Vl 6 (Iv ((e.deps.getD e.origin.toNat 0))),Vl 7 (Ix b2 0),Vl 8 (Ix b2 1),Vl 9 (Iv (e.seq)),Vl 10 (Iv (e.seq-1)),Vl 11 (.bool (!decide ((e.deps.getD e.origin.toNat 0)=(e.seq-1))))]) [[],[0],[],[2],[2,3],(rg 5),(rg 6),[],[7],[7,8],[7,8,9],(rg 11)] [] [(0,0),(0,0),(0,0),(0,0),(0,0),(0,0),(0,0),(0,0),(0,0),(0,0),(0,0),(0,0)] m ⟨fun _ _ _ _ _ _ _=>obl rfl (yQ rfl dR),ob1 0 fun _ _ (ac:Sep _ _ _ _) ad=>obl rfl (lD de0 oT (ad 0 dc) (zd (ac.b0) rfl) dR),fun _ _ _ _ _ _ _=>obl rfl (yp rfl dR),fun _ _ _ _ _ _ ae=>obl rfl (xa (ae 2 dc) dR),ob1 0 fun _ _ (af:Sep _ _ _ _) ag=>obl rfl (lD (Iv (e.origin)) kT (ag 3 dc) (zd (af.b0) rfl) dR),?_,?_,fun _ _ _ _ _ _ _=>obl rfl (yp rfl dR),fun _ _ _ _ _ _ ah=>obl rfl (xE (ah 7 dc) dR),ob1 0 fun _ _ (ai:Sep _ _ _ _) aj=>obl rfl (lD (Iv (e.seq)) kT (aj 8 dc) (zd (ai.b0) rfl) dR),?_,ob1 0 fun _ _ _ s=>obl rfl (yn (s 6 dc) (s 10 dc) dR),trivial⟩ ?_
 refine ob1 0 fun _ _ _ t=>(obl rfl ?_)
 have hi196:e.origin.toNat<e.deps.length:=bo
 exact zr (k:=1) (i:=e.origin) mT uT (t 1 dc) hde0.sl (t 4 dc) ⟨by omega,by omega⟩ dR
 refine ob1 0 fun _ _ (ak:Sep _ _ _ _) al=>(obl rfl ?_)
 have u:e.origin.toNat<e.deps.length:=bo
 obtain⟨Y,hxe205⟩:=hde0.intD u
 have Z:=ak.cells Y (hde0.foot (ne_of_lt u))
 exact lD (Iv ((e.deps.getD e.origin.toNat 0))) kT (al 5 dc) (Z.get (j:=0) rfl) dR
 refine ob1 0 fun _ _ _ am=>(obl rfl ?_)
 have an:InR (e.seq-1):=(by have J:=oe.seq;omega)
 exact YU (r:=e.seq-1) (k:=.i64) (a:=e.seq) (b:=1) (am 9 (by decide)) rfl (by rw[show(e.seq-1:Int)=e.seq-1 from rfl];exact zF an) dR
 intro vals w247 ao ap
 have d:=ao
 have bh:=ap 11 dc
 refine zT (kv:=[(1,Iv n),(2,Ix b2 0),(5,Iw k),(45,Iw k),(46,Iv n),(47,.bool false),(67,.bool (!decide ((e.deps.getD e.origin.toNat 0)=(e.seq-1))))]) ⟨rfl,rfl,rfl,rfl,rfl,rfl,(by exact bh),trivial⟩ (fun ρw247=>(zb ?_))
 cases g: !decide ((e.deps.getD e.origin.toNat 0)=(e.seq-1))
 have g:=zQ g
 refine ze rfl (zl (za (za (zA kr (st (xw rfl (st (lD (Iv (e.op)) kT rfl (zd (d.b0) rfl) (st (zC rfl rfl (st (mV (.bool (decide (e.op<1))) (stc (V:=Ix b2 7) rfl rfl (fun aq=>?_) ?_)))))))))))))
 exact xw rfl ⟨rfl,rfl⟩
 refine stc (V:=Iv (e.op)) rfl rfl (fun x=>?_) ?_
 exact lD (Iv (e.op)) kT (if_pos x) (zd (d.b0) rfl) ⟨rfl,rfl⟩
 refine stc (V:=.bool (decide (5<e.op))) rfl rfl (fun y=>?_) ?_
 exact yT (if_pos y) rfl ⟨rfl,rfl⟩
 refine st (zt rfl (fun hbp=>(if_pos hbp)) (zb ?_))
 cases z:(decide (e.op<1))||(decide (5<e.op))
 refine ze rfl (zl (za (za (zA kr (st (xr rfl (st (lD (Iv (e.typ)) kT rfl (zd (d.b0) rfl) (st (zC rfl rfl (st (mV (.bool (decide (e.typ<0))) (stc (V:=Ix b2 4) rfl rfl (fun ar=>?_) ?_)))))))))))))
 exact xr rfl ⟨rfl,rfl⟩
 refine stc (V:=Iv (e.typ)) rfl rfl (fun A=>?_) ?_
 exact lD (Iv (e.typ)) kT (if_pos A) (zd (d.b0) rfl) ⟨rfl,rfl⟩
 refine stc (V:=.bool (decide (7<e.typ))) rfl rfl (fun B=>?_) ?_
 exact yT (if_pos B) rfl ⟨rfl,rfl⟩
 refine st (zt rfl (fun hbp=>(if_pos hbp)) (st (mV (.bool ((decide (e.typ<0))||(decide (7<e.typ)))) (stc (V:=Ix b2 6) rfl rfl (fun au=>?_) ?_))))
 have av:=au
 exact xt rfl ⟨rfl,rfl⟩
 refine stc (V:=Iv (e.field)) rfl rfl (fun C=>?_) ?_
 have aw:=C
 exact lD (Iv (e.field)) kT (if_pos C) (zd (d.b0) rfl) ⟨rfl,rfl⟩
 refine stc (V:=.bool (decide (e.field<0))) rfl rfl (fun D=>?_) ?_
 have ax:=D
 exact zC (if_pos D) rfl ⟨rfl,rfl⟩
 refine st (zt rfl (fun hbp=>(if_pos hbp)) (st (mV (.bool (((decide (e.typ<0))||(decide (7<e.typ)))||(decide (e.field<0)))) (stc (V:=Ix b2 6) rfl rfl (fun ay=>?_) ?_))))
 have az:=ay
 exact xt rfl ⟨rfl,rfl⟩
 refine stc (V:=Iv (e.field)) rfl rfl (fun E=>?_) ?_
 have aA:=E
 exact lD (Iv (e.field)) kT (if_pos E) (zd (d.b0) rfl) ⟨rfl,rfl⟩
 refine stc (V:=.bool (decide (7<e.field))) rfl rfl (fun F=>?_) ?_
 have aB:=F
 exact yT (if_pos F) rfl ⟨rfl,rfl⟩
 refine st (zt rfl (fun hbp=>(if_pos hbp)) (zb ?_))
 cases H:(((decide (e.typ<0))||(decide (7<e.typ)))||(decide (e.field<0)))||(decide (7<e.field))
 refine ze rfl (zl (za (R0 fun _=>st (aS (Iv 0) (zb (zk (zG pT rfl ?_)))))))
 refine⟨0,rfl,?_,?_,(d.s1_)⟩
 decide
 intro J
 exact⟨⟨by omega,by omega,by omega,by omega⟩,fun i hi=>hm i om⟩
 refine zg rfl (za (R0 fun _=>st (aS (Iv 8) (zb (zk (zG pT rfl ?_))))))
 refine⟨8,rfl,?_,?_,(d.s1_)⟩
 decide
 intro J
 omega
 refine zg rfl (za (R0 fun _=>st (aS (Iv 2) (zb (zk (zG pT rfl ?_))))))
 refine⟨2,rfl,?_,?_,(d.s1_)⟩
 decide
 intro J
 omega
 have g:=zz g
 refine zg rfl (za (R0 fun _=>st (aS (Iv 9) (zb (zk (zG pT rfl ?_))))))
 refine⟨9,rfl,?_,?_,(d.s1_)⟩
 decide
 intro J
 omega
 have o:=tD o
 refine zg rfl (zl (za (zn (za (R0 fun _=>st (yQ rfl (st (lD de0 oT rfl (zd (m.b0) rfl) (st (mV (Iw k) ?_))))))))))
 have aC:k<e.deps.length:=bo
 refine st (zj mT uT rfl hde0.sl rfl aC ?_)
 have I:k<e.deps.length:=bo
 obtain⟨aa,hxe284⟩:=hde0.intD I
 have ab:=m.cells aa (hde0.foot (ne_of_lt I))
 refine st (lD (Iv ((e.deps.getD k 0))) kT rfl (ab.get (j:=0) rfl) (st (zC rfl rfl (zb ?_))))
 cases l:decide ((e.deps.getD k 0)<0)
 have l:=fD l
 refine ze rfl (zl (R0 fun _=>st (mV (Iw k) ?_)))
 have aD:InR ((k+1:Nat):Int):=bo
 refine st (zP (r:=((k+1:Nat):Int)) (k:=.i64) (a:=((k:Nat):Int)) (b:=1) rfl rfl (by rw[show(((k:Nat):Int)+1:Int)=((k+1:Nat):Int)from bo];exact zF aD) (st (aS (Iw (k+1)) (zb ?_))))
 exact⟨_,by omega,k+1,_,rfl,sSf,by omega,(yL hm om),m⟩
 have l:=tD l
 refine zg rfl (za (R0 fun _=>st (aS (Iv 1) (zb (zk (zG pT rfl ?_))))))
 refine⟨1,rfl,?_,?_,(m.s1_)⟩
 decide
 intro J
 omega
 refine zg rfl (za (R0 fun _=>st (aS (Iv 1) (zb (zk (zG pT rfl ?_))))))
 refine⟨1,rfl,?_,?_,(f.s1_)⟩
 decide
 intro J
 omega
theorem zbH {n:Int}(hn:InR n){vl:Value}{l:List Ev}(hl:RdS W G vl l)(hS0:Sep G W Rs w):Ret Tryz.prog 8 [.int .i64 (n),vl] w (fun r w'=> ∃(v:Value) (l2:List Ev),r=(v:Value)∧(l2.length≤60)∧(∀i,i<l2.length→KK (l2.getD i default) n)∧Sep G W ((RowE (α:=Ev) (shr G W) 44 v l2)::Rs) w'):=by
 have hls:_*96≤_:=hl.small
 refine zi Tryz.func8 rfl rfl ?_
 refine za (R0 fun _=>st (aS (Iz) (zb (za (R0 fun _=>st (aS (Iz) (zb (za (za (R0 fun _=>st (aS (Iv 0) (zb (zn ?_)))))))))))))
 have aa:Sep G W ((RowE (α:=Ev) (shr G W) 44 (Iz) ([]:List Ev))::Rs) w:=hS0.rowNil (shr G W) 44
 refine zZ (fun mq σ wq=> ∃k vo l2 ρ,mq=l.length-k∧σ=yd ρ [(0,Iv n),(1,vl),(5,vo),(6,Iw k)]∧(k≤l.length)∧(l2.length≤60)∧(∀i,i<l2.length→KK (l2.getD i default) n)∧Sep G W ((RowE (shr G W) 44 vo l2)::Rs) wq) ⟨0,(Iz),[],_,rfl,sSf,Nat.zero_le _,Nat.zero_le _,(fun i h=>absurd h (Nat.not_lt_zero i)),aa⟩ ?_
 rintro m3 σ4 w2 ⟨k,vo,l2,ρl1,rfl,rfl,hkk,u,hft,g⟩
 let ac:=zN W (sb vl) (so vl+k*10+3)
 have J:=g.r0
 have hr6s:_*96≤_:=J.2
 refine za (za (zA kr (st (mV (Iw k) (st (mV vl (st (zJ qT rfl hl.sl (st (zC rfl rfl (st (mV (.bool (decide (((k:Nat):Int)<((l.length:Nat):Int)))) (stc (V:=vo) rfl rfl (fun ab=>?_) ?_)))))))))))))
 have hl8:=tD ab
 exact mV vo ⟨rfl,rfl⟩
 refine stc (V:=Iw l2.length) rfl rfl (fun K=>?_) ?_
 have hl10:=tD K
 exact zJ qT (if_pos K) J.1 ⟨rfl,rfl⟩
 refine stc (V:=.bool (decide (((l2.length:Nat):Int)<60))) rfl rfl (fun x=>?_) ?_
 have hl12:=tD x
 exact zC (if_pos x) rfl ⟨rfl,rfl⟩
 refine st (zy rfl (fun hbp=>(if_pos hbp)) (zb ?_))
 cases y:(decide (((k:Nat):Int)<((l.length:Nat):Int)))&&(decide (((l2.length:Nat):Int)<60))
 try simp only[zf]at y
 refine ze rfl (ya (zS (za (R0 fun _=>st (mV vo (st (aS vo (zb (zk (zG Tryz.results8 rfl ?_))))))))))
 refine⟨vo,l2,rfl,?_,?_,g⟩
 exact u
 exact hft
 try simp only[zf]at y
 refine zg rfl (zl (za (zn (za (zA kr (st (mV vl (st (mV (Iw k) ?_)))))))))
 have M:k<l.length:=bo
 refine st (zj qT lT rfl hl.sl rfl M (st (yQ rfl ?_)))
 have m:k<l.length:=bo
 obtain⟨o,d,q⟩:=hl.evD m
 have hsm17:((l.getD k default).deps).length*8≤140737488355328:=d.small
 have D:=g.cells o (hl.foot (ne_of_lt m))
 refine st (lD ac oT rfl (D.get (j:=3) rfl) (st (zJ mT rfl d.sl (st (mV (Iv n) (st (zR rfl rfl (st (mV (.bool (decide (((((l.getD k default).deps).length:Nat):Int)=n))) (stc (V:=vl) rfl rfl (fun N=>?_) ?_))))))))))
 have hl20:=tD N
 exact mV vl ⟨rfl,rfl⟩
 refine stc (V:=Iw k) rfl rfl (fun O=>?_) ?_
 have hl22:=tD O
 exact mV (Iw k) ⟨rfl,rfl⟩
 refine stc (V:=Ix (sb vl) (so vl+k*10)) rfl rfl (fun s=>?_) ?_
 have hl24:=tD s
 have Q:k<l.length:=bo
 exact zj qT lT (if_pos s) hl.sl (if_pos s) Q ⟨rfl,rfl⟩
 refine stc (V:=.agg ((l.getD k default).cells ac).toArray) rfl rfl (fun z=>?_) ?_
 have hl27:=tD z
 have E:=g.cells o (hl.foot (ne_of_lt m))
 exact zh rT lT rfl (if_pos z) E ⟨rfl,rfl⟩
 refine stc (V:=Iv n) rfl rfl (fun R=>?_) ?_
 have hl31:=tD R
 exact mV (Iv n) ⟨rfl,rfl⟩
 cases f:decide (((((l.getD k default).deps).length:Nat):Int)=n)
 have hg32r:=f
 have f:=fD f
 refine stx rfl rfl (stx rfl rfl (st (yw rfl rfl (zb (ze rfl (zl (R0 fun _=>st (mV (Iw k) ?_))))))))
 have S:InR ((k+1:Nat):Int):=bo
 refine st (zP (r:=((k+1:Nat):Int)) (k:=.i64) (a:=((k:Nat):Int)) (b:=1) rfl rfl (by rw[show(((k:Nat):Int)+1:Int)=((k+1:Nat):Int)from bo];exact zF S) (st (aS (Iw (k+1)) (zb ?_))))
 exact⟨_,by omega,k+1,vo,l2,_,rfl,sSf,by omega,u,hft,g⟩
 have f:=tD f
 refine sty rfl rfl (cL Tryz.call27 (zaw d q hn g) ?_)
 rintro _ w37 ⟨A,rfl,hc935,F,t⟩
 refine sty rfl rfl (zR rfl rfl (st (yz rfl rfl (zb ?_))))
 cases p:decide (A=0)
 have p:=fD p
 refine ze rfl (zl (R0 fun _=>st (mV (Iw k) ?_)))
 have T:InR ((k+1:Nat):Int):=bo
 refine st (zP (r:=((k+1:Nat):Int)) (k:=.i64) (a:=((k:Nat):Int)) (b:=1) rfl rfl (by rw[show(((k:Nat):Int)+1:Int)=((k+1:Nat):Int)from bo];exact zF T) (st (aS (Iw (k+1)) (zb ?_))))
 exact⟨_,by omega,k+1,vo,l2,_,rfl,sSf,by omega,u,hft,t⟩
 have p:=tD p
 refine zg rfl (R0 fun _=>st (mV vo (st (mV vl (st (mV (Iw k) ?_))))))
 have U:k<l.length:=bo
 refine st (zj qT lT rfl hl.sl rfl U ?_)
 have H:=t.cells o (hl.foot (ne_of_lt m))
 refine st (zh rT lT rfl rfl H (st (zI (k:=10) (parts':=[(0,.agg ((l.getD k default).cells ac).toArray)]) (c:=((l.getD k default).cells ac).toArray) qT lT kR dc rfl kr ?_)))
 intro w46 b45 X
 have B:=t.new X
 have I:=B.b0
 refine st (yj ((B.s2_b).emp1) UP rfl rfl I (fun _ _ _=>(show _ from⟨_,rfl,d,q⟩)) yqb rfl ?_)
 intro L w48 C
 have Y:=C.r0
 refine st (aS L (zb (R0 fun _=>st (mV (Iw k) ?_))))
 have Z:InR ((k+1:Nat):Int):=bo
 refine st (zP (r:=((k+1:Nat):Int)) (k:=.i64) (a:=((k:Nat):Int)) (b:=1) rfl rfl (by rw[show(((k:Nat):Int)+1:Int)=((k+1:Nat):Int)from bo];exact zF Z) (st (aS (Iw (k+1)) (zb ?_))))
 exact⟨_,by omega,k+1,L,(l2++[(l.getD k default)]),_,rfl,sSf,by omega,(by rw[List.length_append,List.length_singleton];omega),(zbQ (P:=fun e=>KK e n) hft (F (by omega))),C⟩
theorem Zx {a:Ev}{da0:Value}(hda0:RdS W G da0 a.deps)(oa:a.Ok){b:Ev}{db0:Value}(hdb0:RdS W G db0 b.deps)(ob:b.Ok)(hS0:Sep G W Rs w):Ret Tryz.prog 13 [.agg (a.cells da0).toArray,.agg (b.cells db0).toArray] w (fun r w'=>r=(.bool (decide (a=b)):Value)∧Sep G W Rs w'):=by
 have hda0s:_*8≤_:=hda0.small
 have hdb0s:_*8≤_:=hdb0.small
 refine zi Tryz.func13 rfl rfl ?_
 refine za (R0 fun _=>st (zM rfl ?_))
 intro w3 b2 aX
 refine st (zM rfl ?_)
 intro w7 g aY
 have d:=(hS0.new aX).new aY
 refine st (aS (.bool false) (zb (za (zA kr (st (yp rfl (st (zh kY lY rfl rfl (CellsAt.sub (CellsAt.all (d.b1)) 0 rfl) (st (yp rfl (st (zh kY lY rfl rfl (CellsAt.sub (CellsAt.all (d.b0)) 0 rfl) (st (YE zdn rfl rfl (st (mV (.bool (decide (a.origin=b.origin∧a.seq=b.seq))) (stc (V:=Ix b2 2) rfl rfl (fun aZ=>?_) ?_)))))))))))))))))
 have hl10:=tD aZ
 exact xC rfl ⟨rfl,rfl⟩
 refine stc (V:=Iv (a.lam)) rfl rfl (fun q=>?_) ?_
 have hl12:=tD q
 exact lD (Iv (a.lam)) kT (if_pos q) (zd (d.b1) rfl) ⟨rfl,rfl⟩
 refine stc (V:=Ix g 2) rfl rfl (fun M=>?_) ?_
 have hl14:=tD M
 exact xC rfl ⟨rfl,rfl⟩
 refine stc (V:=Iv (b.lam)) rfl rfl (fun s=>?_) ?_
 have hl16:=tD s
 exact lD (Iv (b.lam)) kT (if_pos s) (zd (d.b0) rfl) ⟨rfl,rfl⟩
 refine stc (V:=.bool (decide (a.lam=b.lam))) rfl rfl (fun h=>?_) ?_
 have hl18:=tD h
 exact zR (if_pos h) (if_pos h) ⟨rfl,rfl⟩
 refine st (zy rfl (fun hbp=>(if_pos hbp)) (st (mV (.bool ((decide (a.origin=b.origin∧a.seq=b.seq))&&(decide (a.lam=b.lam)))) (stc (V:=Ix b2 3) rfl rfl (fun N=>?_) ?_))))
 have O:=N
 try simp only[zf]at O
 exact yQ rfl ⟨rfl,rfl⟩
 refine stc (V:=da0) rfl rfl (fun t=>?_) ?_
 have P:=t
 try simp only[zf]at P
 exact lD da0 oT (if_pos t) (zd (d.b1) rfl) ⟨rfl,rfl⟩
 refine stc (V:=Ix g 3) rfl rfl (fun Q=>?_) ?_
 have R:=Q
 try simp only[zf]at R
 exact yQ rfl ⟨rfl,rfl⟩
 refine stc (V:=db0) rfl rfl (fun u=>?_) ?_
 have S:=u
 try simp only[zf]at S
 exact lD db0 oT (if_pos u) (zd (d.b0) rfl) ⟨rfl,rfl⟩
 refine zcK (V:=.bool (decide (a.deps=b.deps))) (fun _ wq=>Sep G W ((Blk g (b.cells db0).toArray 44)::(Blk b2 (a.cells da0).toArray 44)::Rs) wq) d rfl rfl (fun i=>?_) (fun w31 c=>?_)
 have T:=i
 try simp only[zf]at T
 refine(zH (f:=52) (vals:=[da0,db0]) (cap:=[]) rfl (yE ⟨(if_pos i),(if_pos i),trivial⟩) Tryz.call52 (QW hda0 hdb0 d) ?_)
 rintro _ w29 ⟨rfl,U⟩
 exact⟨rfl,U⟩
 refine st (zy rfl (fun hbp=>(if_pos hbp)) (st (mV (.bool (((decide (a.origin=b.origin∧a.seq=b.seq))&&(decide (a.lam=b.lam)))&&(decide (a.deps=b.deps)))) (stc (V:=Ix b2 4) rfl rfl (fun X=>?_) ?_))))
 have Y:=X
 try simp only[zf]at Y
 exact xr rfl ⟨rfl,rfl⟩
 refine stc (V:=Iv (a.typ)) rfl rfl (fun x=>?_) ?_
 have Z:=x
 try simp only[zf]at Z
 exact lD (Iv (a.typ)) kT (if_pos x) (zd (c.b1) rfl) ⟨rfl,rfl⟩
 refine stc (V:=Ix g 4) rfl rfl (fun aa=>?_) ?_
 have ab:=aa
 try simp only[zf]at ab
 exact xr rfl ⟨rfl,rfl⟩
 refine stc (V:=Iv (b.typ)) rfl rfl (fun y=>?_) ?_
 have ac:=y
 try simp only[zf]at ac
 exact lD (Iv (b.typ)) kT (if_pos y) (zd (c.b0) rfl) ⟨rfl,rfl⟩
 refine stc (V:=.bool (decide (a.typ=b.typ))) rfl rfl (fun j=>?_) ?_
 have ad:=j
 try simp only[zf]at ad
 exact zR (if_pos j) (if_pos j) ⟨rfl,rfl⟩
 refine st (zy rfl (fun hbp=>(if_pos hbp)) (st (mV (.bool ((((decide (a.origin=b.origin∧a.seq=b.seq))&&(decide (a.lam=b.lam)))&&(decide (a.deps=b.deps)))&&(decide (a.typ=b.typ)))) (stc (V:=Ix b2 5) rfl rfl (fun ae=>?_) ?_))))
 have af:=ae
 try simp only[zf]at af
 exact ZC rfl ⟨rfl,rfl⟩
 refine stc (V:=Iv (a.agg)) rfl rfl (fun z=>?_) ?_
 have ag:=z
 try simp only[zf]at ag
 exact lD (Iv (a.agg)) kT (if_pos z) (zd (c.b1) rfl) ⟨rfl,rfl⟩
 refine stc (V:=Ix g 5) rfl rfl (fun ah=>?_) ?_
 have ai:=ah
 try simp only[zf]at ai
 exact ZC rfl ⟨rfl,rfl⟩
 refine stc (V:=Iv (b.agg)) rfl rfl (fun A=>?_) ?_
 have aj:=A
 try simp only[zf]at aj
 exact lD (Iv (b.agg)) kT (if_pos A) (zd (c.b0) rfl) ⟨rfl,rfl⟩
 refine stc (V:=.bool (decide (a.agg=b.agg))) rfl rfl (fun l=>?_) ?_
 have ak:=l
 try simp only[zf]at ak
 exact zR (if_pos l) (if_pos l) ⟨rfl,rfl⟩
 refine st (zy rfl (fun hbp=>(if_pos hbp)) (st (mV (.bool (((((decide (a.origin=b.origin∧a.seq=b.seq))&&(decide (a.lam=b.lam)))&&(decide (a.deps=b.deps)))&&(decide (a.typ=b.typ)))&&(decide (a.agg=b.agg)))) (stc (V:=Ix b2 6) rfl rfl (fun al=>?_) ?_))))
 have am:=al
 try simp only[zf]at am
 exact xt rfl ⟨rfl,rfl⟩
 refine stc (V:=Iv (a.field)) rfl rfl (fun B=>?_) ?_
 have an:=B
 try simp only[zf]at an
 exact lD (Iv (a.field)) kT (if_pos B) (zd (c.b1) rfl) ⟨rfl,rfl⟩
 refine stc (V:=Ix g 6) rfl rfl (fun ao=>?_) ?_
 have ap:=ao
 try simp only[zf]at ap
 exact xt rfl ⟨rfl,rfl⟩
 refine stc (V:=Iv (b.field)) rfl rfl (fun C=>?_) ?_
 have aq:=C
 try simp only[zf]at aq
 exact lD (Iv (b.field)) kT (if_pos C) (zd (c.b0) rfl) ⟨rfl,rfl⟩
 refine stc (V:=.bool (decide (a.field=b.field))) rfl rfl (fun m=>?_) ?_
 have ar:=m
 try simp only[zf]at ar
 exact zR (if_pos m) (if_pos m) ⟨rfl,rfl⟩
 refine st (zy rfl (fun hbp=>(if_pos hbp)) (st (mV (.bool ((((((decide (a.origin=b.origin∧a.seq=b.seq))&&(decide (a.lam=b.lam)))&&(decide (a.deps=b.deps)))&&(decide (a.typ=b.typ)))&&(decide (a.agg=b.agg)))&&(decide (a.field=b.field)))) (stc (V:=Ix b2 7) rfl rfl (fun au=>?_) ?_))))
 have av:=au
 try simp only[zf]at av
 exact xw rfl ⟨rfl,rfl⟩
 refine stc (V:=Iv (a.op)) rfl rfl (fun D=>?_) ?_
 have aw:=D
 try simp only[zf]at aw
 exact lD (Iv (a.op)) kT (if_pos D) (zd (c.b1) rfl) ⟨rfl,rfl⟩
 refine stc (V:=Ix g 7) rfl rfl (fun ax=>?_) ?_
 have ay:=ax
 try simp only[zf]at ay
 exact xw rfl ⟨rfl,rfl⟩
 refine stc (V:=Iv (b.op)) rfl rfl (fun E=>?_) ?_
 have az:=E
 try simp only[zf]at az
 exact lD (Iv (b.op)) kT (if_pos E) (zd (c.b0) rfl) ⟨rfl,rfl⟩
 refine stc (V:=.bool (decide (a.op=b.op))) rfl rfl (fun n=>?_) ?_
 have aA:=n
 try simp only[zf]at aA
 exact zR (if_pos n) (if_pos n) ⟨rfl,rfl⟩
 refine st (zy rfl (fun hbp=>(if_pos hbp)) (st (mV (.bool (((((((decide (a.origin=b.origin∧a.seq=b.seq))&&(decide (a.lam=b.lam)))&&(decide (a.deps=b.deps)))&&(decide (a.typ=b.typ)))&&(decide (a.agg=b.agg)))&&(decide (a.field=b.field)))&&(decide (a.op=b.op)))) (stc (V:=Ix b2 8) rfl rfl (fun aB=>?_) ?_))))
 have aC:=aB
 try simp only[zf]at aC
 exact xF rfl ⟨rfl,rfl⟩
 refine stc (V:=Iv (a.arg)) rfl rfl (fun F=>?_) ?_
 have aD:=F
 try simp only[zf]at aD
 exact lD (Iv (a.arg)) kT (if_pos F) (zd (c.b1) rfl) ⟨rfl,rfl⟩
 refine stc (V:=Ix g 8) rfl rfl (fun aE=>?_) ?_
 have aF:=aE
 try simp only[zf]at aF
 exact xF rfl ⟨rfl,rfl⟩
 refine stc (V:=Iv (b.arg)) rfl rfl (fun H=>?_) ?_
 have aG:=H
 try simp only[zf]at aG
 exact lD (Iv (b.arg)) kT (if_pos H) (zd (c.b0) rfl) ⟨rfl,rfl⟩
 refine stc (V:=.bool (decide (a.arg=b.arg))) rfl rfl (fun o=>?_) ?_
 have aH:=o
 try simp only[zf]at aH
 exact zR (if_pos o) (if_pos o) ⟨rfl,rfl⟩
 refine st (zy rfl (fun hbp=>(if_pos hbp)) (st (mV (.bool ((((((((decide (a.origin=b.origin∧a.seq=b.seq))&&(decide (a.lam=b.lam)))&&(decide (a.deps=b.deps)))&&(decide (a.typ=b.typ)))&&(decide (a.agg=b.agg)))&&(decide (a.field=b.field)))&&(decide (a.op=b.op)))&&(decide (a.arg=b.arg)))) (stc (V:=Ix b2 9) rfl rfl (fun aI=>?_) ?_))))
 have aJ:=aI
 try simp only[zf]at aJ
 exact YV rfl ⟨rfl,rfl⟩
 refine stc (V:=Iv (a.key)) rfl rfl (fun I=>?_) ?_
 have aK:=I
 try simp only[zf]at aK
 exact lD (Iv (a.key)) kT (if_pos I) (zd (c.b1) rfl) ⟨rfl,rfl⟩
 refine stc (V:=Ix g 9) rfl rfl (fun aL=>?_) ?_
 have aM:=aL
 try simp only[zf]at aM
 exact YV rfl ⟨rfl,rfl⟩
 refine stc (V:=Iv (b.key)) rfl rfl (fun J=>?_) ?_
 have aN:=J
 try simp only[zf]at aN
 exact lD (Iv (b.key)) kT (if_pos J) (zd (c.b0) rfl) ⟨rfl,rfl⟩
 refine stc (V:=.bool (decide (a.key=b.key))) rfl rfl (fun p=>?_) ?_
 have aO:=p
 try simp only[zf]at aO
 exact zR (k:=.i64) (a:=a.key) (b:=b.key) (if_pos p) (if_pos p) ⟨rfl,rfl⟩
 refine st (zy (b:=(((((((decide (a.origin=b.origin∧a.seq=b.seq))&&(decide (a.lam=b.lam)))&&(decide (a.deps=b.deps)))&&(decide (a.typ=b.typ)))&&(decide (a.agg=b.agg)))&&(decide (a.field=b.field)))&&(decide (a.op=b.op)))&&(decide (a.arg=b.arg))) (b':=decide (a.key=b.key)) rfl (fun hbp=>(if_pos hbp)) (st (aS (.bool (((((((((decide (a.origin=b.origin∧a.seq=b.seq))&&(decide (a.lam=b.lam)))&&(decide (a.deps=b.deps)))&&(decide (a.typ=b.typ)))&&(decide (a.agg=b.agg)))&&(decide (a.field=b.field)))&&(decide (a.op=b.op)))&&(decide (a.arg=b.arg)))&&(decide (a.key=b.key)))) (zb (zk (zG Tryz.results13 (show _=(.bool (((((((((decide (a.origin=b.origin∧a.seq=b.seq))&&(decide (a.lam=b.lam)))&&(decide (a.deps=b.deps)))&&(decide (a.typ=b.typ)))&&(decide (a.agg=b.agg)))&&(decide (a.field=b.field)))&&(decide (a.op=b.op)))&&(decide (a.arg=b.arg)))&&(decide (a.key=b.key))):Value)from rfl) ?_))))))
 refine⟨?_,(c.s2_)⟩
 congr 1
 rw[Bool.eq_iff_iff]
 simp only[Bool.and_eq_true,decide_eq_true_eq,Ev.eq_iff]
 constructor
 rintro⟨⟨⟨⟨⟨⟨⟨⟨L,h3⟩,h4⟩,h5⟩,h6⟩,h7⟩,h8⟩,h9⟩,K⟩;exact⟨L.1,L.2,h3,h4,h5,h6,h7,h8,h9,K⟩
 rintro⟨L,h2,h3,h4,h5,h6,h7,h8,h9,K⟩;exact⟨⟨⟨⟨⟨⟨⟨⟨⟨L,h2⟩,h3⟩,h4⟩,h5⟩,h6⟩,h7⟩,h8⟩,h9⟩,K⟩
def xx (d:Dcl)(c:Cmd):Int:=if((decide (c.cagg<0)||decide (c.ckey<0))||decide (c.expect< -1))=true then 1 else yV d c.ctyp c.cfield c.cop c.carg
def yg (a b:List Int):List Int:=(List.range (max a.length b.length)).map fun i=>max (yu a ((i:Nat):Int)) (yu b ((i:Nat):Int))
theorem XB (a b:List Int):(yg a b).length=max a.length b.length:=by unfold yg;rw[List.length_map,List.length_range]
theorem UQ {a b:List Int}{k:Nat}(h:k<max a.length b.length):(yg a b).getD k 0=max (yu a ((k:Nat):Int)) (yu b ((k:Nat):Int)):=by
 unfold yg
 rw[zB _ (by rw[List.length_map,List.length_range];exact h),List.getElem_map,List.getElem_range]
def evN (o:Int)(v:List Int)(lam:Int):Int:=if((decide (o<0)||decide (((v.length:Nat):Int)≤o))||decide (lam<0))=true then 1 else if(decide (yu v o=9223372036854775807)||decide (lam=9223372036854775807))=true then 13 else 0
def ev0:Ev:=⟨0,0,0,[],0,0,0,0,0,0⟩
def evY (c:Cmd)(o:Int)(v:List Int)(lam:Int):Ev:=⟨o,yu v o+1,lam+1,yg v [],c.ctyp,c.cagg,c.cfield,c.cop,c.carg,c.ckey⟩
def evE (c:Cmd)(o:Int)(v:List Int)(lam:Int):Ev:=if evN o v lam=0 then evY c o v lam else ev0
theorem Ui:ev0.Ok:=by constructor<;>decide
theorem zdw {c:Cmd}{o lam:Int}{v:List Int}(oc:c.Ok)(ho:InR o)(hv:InR (yu v o))(hl:InR lam):(evE c o v lam).Ok:=by
 unfold evE
 split
 ·rename_i h
  unfold evN at h
  split at h
  ·cases h
  split at h
  ·cases h
  rename_i h2
  simp only[Bool.or_eq_true,decide_eq_true_eq,not_or]at h2
  exact⟨ho,show InR (_+1) by omega,show InR (lam+1) by omega,oc.ctyp,oc.cagg,oc.cfield,oc.cop,oc.carg,oc.ckey⟩
 ·exact Ui
theorem zaj {d:Dcl}{dd0:Value}(hdd0:RdS W G dd0 d.types){dd1:Value}(hdd1:RdS W G dd1 d.projs)(od:d.Ok){c:Cmd}(oc:c.Ok)(hKN:RdS W G (.slice (some ⟨0,0,none⟩) 6 6) kindsL)(hS0:Sep G W Rs w):Ret Tryz.prog 34 [.agg (d.cells dd0 dd1).toArray,.agg (c.cells).toArray] w (fun r w'=>r=(.int .i64 (xx d c):Value)∧Sep G W Rs w'):=by
 have hdd0s:_*24≤_:=hdd0.small
 have hdd1s:_*40≤_:=hdd1.small
 have hKNs:_*8≤_:=hKN.small
 refine zi Tryz.func34 rfl rfl ?_
 refine za (R0 fun _=>st (zM rfl ?_))
 intro w3 b2 t
 refine st (zM rfl ?_)
 intro w7 u x
 have e:=(hS0.new t).new x
 refine st (aS (Iv 0) (zb (za (za (zA kr (st (Xw rfl (st (lD (Iv (c.cagg)) kT rfl (zd (e.b0) rfl) (st (zC rfl rfl (st (mV (.bool (decide (c.cagg<0))) (stc (V:=Ix u 6) rfl rfl (fun y=>?_) ?_))))))))))))))
 have hl10:=fD y
 exact Xm rfl ⟨rfl,rfl⟩
 refine stc (V:=Iv (c.ckey)) rfl rfl (fun i=>?_) ?_
 have hl12:=fD i
 exact lD (Iv (c.ckey)) kT (if_pos i) (zd (e.b0) rfl) ⟨rfl,rfl⟩
 refine stc (V:=.bool (decide (c.ckey<0))) rfl rfl (fun j=>?_) ?_
 have hl14:=fD j
 exact zC (if_pos j) rfl ⟨rfl,rfl⟩
 refine st (zt rfl (fun hbp=>(if_pos hbp)) (st (mV (.bool ((decide (c.cagg<0))||(decide (c.ckey<0)))) (stc (V:=Ix u 5) rfl rfl (fun n=>?_) ?_))))
 have o:=n
 try simp only[zf]at o
 exact Yo rfl ⟨rfl,rfl⟩
 refine stc (V:=Iv (c.expect)) rfl rfl (fun l=>?_) ?_
 have p:=l
 try simp only[zf]at p
 exact lD (Iv (c.expect)) kT (if_pos l) (zd (e.b0) rfl) ⟨rfl,rfl⟩
 refine stc (V:=.bool (decide (c.expect<(-1)))) rfl rfl (fun m=>?_) ?_
 have q:=m
 try simp only[zf]at q
 exact zC (k:=.i64) (a:=c.expect) (b:= -1) (if_pos m) rfl ⟨rfl,rfl⟩
 refine st (zt (b:=(decide (c.cagg<0))||(decide (c.ckey<0))) (b':=decide (c.expect<(-1))) rfl (fun hbp=>(if_pos hbp)) (zb ?_))
 cases g:((decide (c.cagg<0))||(decide (c.ckey<0)))||(decide (c.expect<(-1)))
 have h:=g
 try simp only[zf]at g
 refine ze rfl (zl (za (R0 fun _=>st (zh (k:=2) tT nT rfl rfl (CellsAt.all (e.b1)) (st (Yc rfl (st (lD (Iv (c.ctyp)) kT rfl (zd (e.b0) rfl) (st (Xp rfl (st (lD (Iv (c.cfield)) kT rfl (zd (e.b0) rfl) (st (Xz rfl (st (lD (Iv (c.cop)) kT rfl (zd (e.b0) rfl) (st (YS rfl (st (lD (Iv (c.carg)) kT rfl (zd (e.b0) rfl) (st (cL Tryz.call76 (zca (d:=d) (ty:=c.ctyp) (f:=c.cfield) (op:=c.cop) (arg:=c.carg) hdd0 hdd1 od oc.ctyp oc.cfield oc.cop oc.carg hKN e) ?_))))))))))))))))))))))
 rintro _ w22 ⟨rfl,s⟩
 refine st (aS (Iv (yV d c.ctyp c.cfield c.cop c.carg)) (zb (zk (zG mY (show _=(Iv (yV d c.ctyp c.cfield c.cop c.carg):Value)from rfl) ?_))))
 refine⟨?_,(s.s2_)⟩
 unfold xx
 simp only[h,if_true,if_false,Bool.false_eq_true,↓reduceIte]
 have h:=g
 try simp only[zf]at g
 refine zg rfl (za (R0 fun _=>st (aS (Iv 1) (zb (zk (zG mY (show _=(Iv 1:Value)from rfl) ?_))))))
 refine⟨?_,(e.s2_)⟩
 unfold xx
 simp only[h,if_true,if_false,Bool.false_eq_true,↓reduceIte]
theorem KB {va:Value}{a:List Int}(ha:RdS W G va a){vb:Value}{b:List Int}(hb:RdS W G vb b)(hS0:Sep G W Rs w):Ret Tryz.prog 81 [va,vb] w (fun r w'=> ∃(v:Value),r=(v:Value)∧Sep G W ((RowE (α:=Int) own 3 v (yg a b))::Rs) w'):=by
 have has:_*8≤_:=ha.small
 have hbs:_*8≤_:=hb.small
 refine zi Tryz.func81 rfl rfl ?_
 refine za (R0 fun _=>st (aS (Iz) (zb (za (R0 fun _=>st (aS (Iz) (zb (za (za (R0 fun _=>st (mV va (st (zJ mT rfl ha.sl (st (mV vb (st (zJ mT rfl hb.sl (st (Yj rfl rfl (st (mV (Iv 0) (zb (zn ?_)))))))))))))))))))))))
 have u:Sep G W ((RowE (α:=Int) own 3 (Iz) ([]:List Int))::Rs) w:=hS0.rowNil own 3
 refine zZ (fun mq σ y=> ∃k vo ρ,mq=(max a.length b.length)-k∧σ=yd ρ [(0,va),(1,vb),(4,(Iz)),(11,Iv (max ((a.length:Nat):Int) ((b.length:Nat):Int))),(12,Iw k),(5,vo)]∧(k≤(max a.length b.length))∧Sep G W ((RowE own 3 vo ((yg a b).take k))::Rs) y) ⟨0,(Iz),_,rfl,sSf,Nat.zero_le _,u⟩ ?_
 rintro m3 σ4 w2 ⟨k,vo,ρl1,rfl,rfl,hkk,f⟩
 have x:=f.r0
 have hr6s:_*8≤_:=x.2
 refine za (R0 fun _=>st (zC rfl rfl (zb (za ?_))))
 cases g:decide (((k:Nat):Int)<(max ((a.length:Nat):Int) ((b.length:Nat):Int)))
 have g:=fD g
 refine ze rfl (ya (zS (za (R0 fun _=>st (mV vo (st (aS vo (zb (zk (zG Tryz.results81 rfl ?_))))))))))
 have hk9:k=max a.length b.length:=by omega
 rw[List.take_of_length_le (by rw[XB];omega)]at f
 refine⟨vo,rfl,f⟩
 have g:=tD g
 refine zg rfl (zl (za (zn (za (R0 fun _=>st (mV (Iw k) (st (aS (Iw k) (zb (R0 fun _=>st (mV vo (st (mV va (st (mV (Iw k) (st (cL oR (Ua (v:=a) (vv:=va) (o:=((k:Nat):Int)) ha om f) ?_)))))))))))))))))
 rintro _ w9 ⟨rfl,hg8,l⟩
 refine st (mV vb (st (mV (Iw k) (st (cL oR (Ua (v:=b) (vv:=vb) (o:=((k:Nat):Int)) hb om l) ?_)))))
 rintro _ w12 ⟨rfl,hg11,m⟩
 refine st (Yj (k:=.i64) (a:=yu a ((k:Nat):Int)) (b:=yu b ((k:Nat):Int)) rfl rfl (st (zI (k:=1) (parts':=[(0,Iv (max (yu a ((k:Nat):Int)) (yu b ((k:Nat):Int))))]) (c:=#[Iv (max (yu a ((k:Nat):Int)) (yu b ((k:Nat):Int)))]) mT uT Tryz.zeroValue3 dc rfl kr ?_)))
 intro w16 b15 p
 have h:=m.new p
 have i:=h.b0
 refine st (yj (src:=own) (bytes:=8) (x1:=max (yu a ((k:Nat):Int)) (yu b ((k:Nat):Int))) ((h.s2_b).emp1) VR rfl rfl i (fun _ _ _=>(show _ from⟨rfl,(by have h1:InR (yu a ((k:Nat):Int)):=(by omega);have h2:InR (yu b ((k:Nat):Int)):=(by omega);omega)⟩)) yqb rfl ?_)
 intro j w18 e
 have q:=e.r0
 refine st (aS j (zb (R0 fun _=>?_)))
 have s:InR ((k+1:Nat):Int):=bo
 refine st (zP (r:=((k+1:Nat):Int)) (k:=.i64) (a:=((k:Nat):Int)) (b:=1) rfl rfl (by rw[show(((k:Nat):Int)+1:Int)=((k+1:Nat):Int)from bo];exact zF s) (st (mV (Iw (k+1)) (zb ?_))))
 have t:((yg a b).take (k+1))=((yg a b).take k)++[max (yu a ((k:Nat):Int)) (yu b ((k:Nat):Int))]:=(by rw[List.take_getD (by rw[XB];omega),UQ (by omega)])
 rw[←t]at e
 exact⟨_,by omega,k+1,j,_,rfl,sSf,by omega,e⟩
theorem UZ {c:Cmd}(oc:c.Ok){o:Int}(ho:InR o){vv:Value}{v:List Int}(hv:RdS W G vv v){lam:Int}(hlam:InR lam)(hS0:Sep G W Rs w):Ret Tryz.prog 41 [.agg (c.cells).toArray,.int .i64 (o),vv,.int .i64 (lam)] w (fun r w'=> ∃(vd:Value),r=(.tuple #[.agg ((evE c o v lam).cells vd).toArray,.int .i64 ((evN o v lam))]:Value)∧Sep G W ((RowE (α:=Int) own 3 vd ((evE c o v lam).deps))::Rs) w'):=by
 have hvs:_*8≤_:=hv.small
 refine zi (args:=[.agg (c.cells).toArray,Iv o,vv,Iv lam]) Tryz.func41 rfl rfl ?_
 refine za (R0 fun _=>st (zM (v:=.agg (c.cells).toArray) rfl ?_))
 intro w3 b2 cj
 refine st (zq kR ?_)
 intro w7 b6 ck
 have az:=(hS0.new cj).new ck
 refine st (aS (Iv 0) (zb (za (za (zA kr (st (mV (Iv o) (st (zC (k:=.i64) (a:=o) (b:=0) rfl rfl (st (mV (.bool (decide (o<0))) (stc (V:=Iv o) rfl rfl (fun cl=>?_) ?_))))))))))))
 have hl10:=fD cl
 exact mV (Iv o) ⟨rfl,rfl⟩
 refine stc (V:=vv) rfl rfl (fun bR=>?_) ?_
 have hl12:=fD bR
 exact mV vv ⟨rfl,rfl⟩
 refine stc (V:=Iw v.length) rfl rfl (fun aA=>?_) ?_
 have hl14:=fD aA
 exact zJ (n:=v.length) mT (if_pos aA) hv.sl ⟨rfl,rfl⟩
 refine stc (V:=.bool (decide (((v.length:Nat):Int)≤o))) rfl rfl (fun af=>?_) ?_
 have hl16:=fD af
 exact yR (k:=.i64) (a:=o) (b:=((v.length:Nat):Int)) (if_pos af) (if_pos af) ⟨rfl,rfl⟩
 refine st (zt (b:=decide (o<0)) (b':=decide (((v.length:Nat):Int)≤o)) rfl (fun hbp=>(if_pos hbp)) (st (mV (.bool ((decide (o<0))||(decide (((v.length:Nat):Int)≤o)))) (stc (V:=Iv lam) rfl rfl (fun bS=>?_) ?_))))
 have bT:=bS
 try simp only[zf]at bT
 exact mV (Iv lam) ⟨rfl,rfl⟩
 refine stc (V:=.bool (decide (lam<0))) rfl rfl (fun aB=>?_) ?_
 have bU:=aB
 try simp only[zf]at bU
 exact zC (k:=.i64) (a:=lam) (b:=0) (if_pos aB) rfl ⟨rfl,rfl⟩
 refine st (zt (b:=(decide (o<0))||(decide (((v.length:Nat):Int)≤o))) (b':=decide (lam<0)) rfl (fun hbp=>(if_pos hbp)) (zb ?_))
 cases L:((decide (o<0))||(decide (((v.length:Nat):Int)≤o)))||(decide (lam<0))
 have q:=L
 try simp only[zf]at L
 refine ze rfl (zl (za (R0 fun _=>st (mV vv (st (mV (Iv o) (st (cL oR (Ua (v:=v) (vv:=vv) (o:=o) hv ho az) ?_))))))))
 rintro _ w23 ⟨rfl,hg22,ag⟩
 refine st (aS (Iv (yu v o)) (zb (za (za (zA kr (st (mV (Iv (yu v o)) (st (zR (k:=.i64) (a:=yu v o) (b:=9223372036854775807) rfl rfl (st (mV (.bool (decide ((yu v o)=9223372036854775807))) (stc (V:=Iv lam) rfl rfl (fun bV=>?_) ?_))))))))))))
 have hl26:=fD bV
 exact mV (Iv lam) ⟨rfl,rfl⟩
 refine stc (V:=.bool (decide (lam=9223372036854775807))) rfl rfl (fun aC=>?_) ?_
 have hl28:=fD aC
 exact zR (k:=.i64) (a:=lam) (b:=9223372036854775807) (if_pos aC) rfl ⟨rfl,rfl⟩
 refine st (zt (b:=decide ((yu v o)=9223372036854775807)) (b':=decide (lam=9223372036854775807)) rfl (fun hbp=>(if_pos hbp)) (zb ?_))
 cases M:(decide ((yu v o)=9223372036854775807))||(decide (lam=9223372036854775807))
 have N:=M
 try simp only[zf]at M
 refine ze rfl (zl (za ?_))
 refine WD6 ((fun TT Q=>WF [fun vals O=>Sep G W (Q::TT) O,fun vals O=> ∃(d:Value),(vals 3=(d:Value))∧Sep G W ((RowE (α:=Int) own 3 d (yg v ([]:List Int)))::Q::TT) O,fun vals O=> ∃(e:Nat),(vals 17=(Ix e 0:Value))∧Sep G W ((Blk e #[Iv 0,Iv 0,Iv 0,(Iz),Iv 0,Iv 0,Iv 0,Iv 0,Iv 0,Iv 0] 44)::Q::TT) O,fun vals O=> ∃(d:Value) (e:Nat),(vals 3=(d:Value))∧(vals 17=(Ix e 0:Value))∧Sep G W ((Blk e #[Iv 0,Iv 0,Iv 0,(Iz),Iv 0,Iv 0,Iv 0,Iv 0,Iv 0,Iv 0] 44)::(RowE (α:=Int) own 3 d (yg v ([]:List Int)))::Q::TT) O,fun _ _=>True,fun _ _=>True,fun _ _=>True,fun vals O=> ∃(d:Value) (e:Nat),(vals 3=(d:Value))∧(vals 17=(Ix e 0:Value))∧Sep G W ((Blk e ((⟨0,0,lam+1,yg v [],c.ctyp,c.cagg,c.cfield,c.cop,c.carg,c.ckey⟩:Ev).cells d).toArray 44)::(RowE (α:=Int) own 3 d (yg v ([]:List Int)))::Q::TT) O]) ((Blk b2 (c.cells).toArray 49)::Rs) (Blk b6 #[Iv 0,Iv 0,Iv 0,(Iz),Iv 0,Iv 0,Iv 0,Iv 0,Iv 0,Iv 0] 44)) (AF [Vl 0 (Iv lam),Vl 1 (Iv (lam+1)),Vl 2 (vv),fun _=>True,Vl 4 (Ix b2 0),Vl 5 (Iv (c.ctyp)),Vl 6 (Ix b2 1),Vl 7 (Iv (c.cagg)),Vl 8 (Ix b2 2),Vl 9 (Iv (c.cfield)),Vl 10 (Ix b2 3),Vl 11 (Iv (c.cop)),Vl 12 (Ix b2 4),Vl 13 (Iv (c.carg)),Vl 14 (Ix b2 6),Vl 15 (Iv (c.ckey)),fun vals=> ∀(d:Value),vals 3=(d:Value)→vals 16=(.agg ((⟨0,0,lam+1,yg v [],c.ctyp,c.cagg,c.cfield,c.cop,c.carg,c.ckey⟩:Ev).cells d).toArray:Value),fun _=>True,fun _=>True]) [[],[0],[],[2],[],[4],[],[6],[],[8],[],[10],[],[12],[],[14],(rg 16),[],(rg 18)] [3,17,18] [(rg 4),(rg 4),[0,2],[0,2],(rg 4),(rg 4),(rg 4),(rg 4),(rg 4),(rg 4),(rg 4),(rg 4),(rg 4),(rg 4),(rg 4),(rg 4),[1,3],[0,1],[3]] ag ⟨fun _ _ _ _ _ _=>obl rfl (mV (Iv lam) dR),?_,fun _ _ _ _ _ _=>obl rfl (mV vv dR),?_,fun _ _ _ _ _ _=>obl rfl (Yc rfl dR),?_,fun _ _ _ _ _ _=>obl rfl (Xw rfl dR),?_,fun _ _ _ _ _ _=>obl rfl (Xp rfl dR),?_,fun _ _ _ _ _ _=>obl rfl (Xz rfl dR),?_,fun _ _ _ _ _ _=>obl rfl (YS rfl dR),?_,fun _ _ _ _ _ _=>obl rfl (Xm rfl dR),?_,?_,?_,?_,trivial⟩ ?_ (hlocA:=yX ⟨dA,dA,dA,dT,dA,dA,dA,dA,dA,dA,dA,dA,dA,dA,dA,dA,fun vals l hv h=>fun d K=>(hv 16 (.inl rfl)).trans (h d ((hv 3 (.inr dc)).symm.trans K)),dT,dT,trivial⟩)
 intro bW vals w180 aD s t
 have R:bW∈[0,1,2,3]:=aD
 simp only[yt]at R
 rcases R with rfl|rfl|rfl|rfl
 have hS184:Sep _ _ _ _:=s
 refine obl rfl ?_
 have aE:InR (lam+1):=by omega
 exact zP (r:=lam+1) (k:=.i64) (a:=lam) (b:=1) (t 0 dc) rfl (zF aE) dR
 obtain⟨d,i,hS187⟩:=s
 refine obl rfl ?_
 have aF:InR (lam+1):=by omega
 exact zP (r:=lam+1) (k:=.i64) (a:=lam) (b:=1) (t 0 dc) rfl (zF aF) dR
 obtain⟨e,g,hS190⟩:=s
 refine obl rfl ?_
 have aG:InR (lam+1):=by omega
 exact zP (r:=lam+1) (k:=.i64) (a:=lam) (b:=1) (t 0 dc) rfl (zF aG) dR
 obtain⟨d,e,i,g,hS193⟩:=s
 refine obl rfl ?_
 have aH:InR (lam+1):=by omega
 exact zP (r:=lam+1) (k:=.i64) (a:=lam) (b:=1) (t 0 dc) rfl (zF aH) dR
 intro bX vals w202 aI ah ai
 have S:bX∈[0,2]:=aI
 simp only[yt]at S
 rcases S with rfl|rfl
 have aJ:Sep _ _ _ _:=ah
 refine obl rfl ((zH (f:=81) (vals:=[vv,(Iz)]) (cap:=[]) rfl (yE ⟨(ai 2 dc),rfl,trivial⟩) nY (KB (a:=v) (va:=vv) (b:=([]:List Int)) (vb:=(Iz)) hv (RdS.nil _ _) aJ) ?_))
 rintro d w209 ⟨_,rfl,aj⟩
 have aK:=aj.r0
 have hr211s:_*8≤_:=aK.2
 exact fun l hv m=>⟨(exiA d (zx hv aj)),trivial⟩
 obtain⟨e,g,aL⟩:=ah
 refine obl rfl ((zH (f:=81) (vals:=[vv,(Iz)]) (cap:=[]) rfl (yE ⟨(ai 2 dc),rfl,trivial⟩) nY (KB (a:=v) (va:=vv) (b:=([]:List Int)) (vb:=(Iz)) hv (RdS.nil _ _) aL) ?_))
 rintro d w215 ⟨_,rfl,ak⟩
 have aM:=ak.r0
 have hr217s:_*8≤_:=aM.2
 exact fun l hv m=>⟨(exiA d (exiA e (zx hv (zx ((m 17 dc).trans g) (ak.mv1))))),trivial⟩
 intro bY vals w225 aN u x
 have T:bY∈[0,1,2,3]:=aN
 simp only[yt]at T
 rcases T with rfl|rfl|rfl|rfl
 have aO:Sep _ _ _ _:=u
 exact obl rfl (lD (Iv (c.ctyp)) kT (x 4 dc) (zd (aO.b1) rfl) dR)
 obtain⟨d,i,aP⟩:=u
 exact obl rfl (lD (Iv (c.ctyp)) kT (x 4 dc) (zd (aP.b2) rfl) dR)
 obtain⟨e,g,aQ⟩:=u
 exact obl rfl (lD (Iv (c.ctyp)) kT (x 4 dc) (zd (aQ.b2) rfl) dR)
 obtain⟨d,e,i,g,aR⟩:=u
 exact obl rfl (lD (Iv (c.ctyp)) kT (x 4 dc) (zd (aR.b3) rfl) dR)
 intro bZ vals w243 aT y z
 have U:bZ∈[0,1,2,3]:=aT
 simp only[yt]at U
 rcases U with rfl|rfl|rfl|rfl
 have aU:Sep _ _ _ _:=y
 exact obl rfl (lD (Iv (c.cagg)) kT (z 6 dc) (zd (aU.b1) rfl) dR)
 obtain⟨d,i,aV⟩:=y
 exact obl rfl (lD (Iv (c.cagg)) kT (z 6 dc) (zd (aV.b2) rfl) dR)
 obtain⟨e,g,aW⟩:=y
 exact obl rfl (lD (Iv (c.cagg)) kT (z 6 dc) (zd (aW.b2) rfl) dR)
 obtain⟨d,e,i,g,aX⟩:=y
 exact obl rfl (lD (Iv (c.cagg)) kT (z 6 dc) (zd (aX.b3) rfl) dR)
 intro ca vals w261 aY A B
 have X:ca∈[0,1,2,3]:=aY
 simp only[yt]at X
 rcases X with rfl|rfl|rfl|rfl
 have aZ:Sep _ _ _ _:=A
 exact obl rfl (lD (Iv (c.cfield)) kT (B 8 dc) (zd (aZ.b1) rfl) dR)
 obtain⟨d,i,ba⟩:=A
 exact obl rfl (lD (Iv (c.cfield)) kT (B 8 dc) (zd (ba.b2) rfl) dR)
 obtain⟨e,g,bb⟩:=A
 exact obl rfl (lD (Iv (c.cfield)) kT (B 8 dc) (zd (bb.b2) rfl) dR)
 obtain⟨d,e,i,g,bc⟩:=A
 exact obl rfl (lD (Iv (c.cfield)) kT (B 8 dc) (zd (bc.b3) rfl) dR)
 intro cb vals w279 bd C D
 have Y:cb∈[0,1,2,3]:=bd
 simp only[yt]at Y
 rcases Y with rfl|rfl|rfl|rfl
 have be:Sep _ _ _ _:=C
 exact obl rfl (lD (Iv (c.cop)) kT (D 10 dc) (zd (be.b1) rfl) dR)
 obtain⟨d,i,bf⟩:=C
 exact obl rfl (lD (Iv (c.cop)) kT (D 10 dc) (zd (bf.b2) rfl) dR)
 obtain⟨e,g,bg⟩:=C
 exact obl rfl (lD (Iv (c.cop)) kT (D 10 dc) (zd (bg.b2) rfl) dR)
 obtain⟨d,e,i,g,bh⟩:=C
 exact obl rfl (lD (Iv (c.cop)) kT (D 10 dc) (zd (bh.b3) rfl) dR)
 intro cc vals w297 bi E F
 have Z:cc∈[0,1,2,3]:=bi
 simp only[yt]at Z
 rcases Z with rfl|rfl|rfl|rfl
 have bj:Sep _ _ _ _:=E
 exact obl rfl (lD (Iv (c.carg)) kT (F 12 dc) (zd (bj.b1) rfl) dR)
 obtain⟨d,i,bk⟩:=E
 exact obl rfl (lD (Iv (c.carg)) kT (F 12 dc) (zd (bk.b2) rfl) dR)
 obtain⟨e,g,bl⟩:=E
 exact obl rfl (lD (Iv (c.carg)) kT (F 12 dc) (zd (bl.b2) rfl) dR)
 obtain⟨d,e,i,g,bm⟩:=E
 exact obl rfl (lD (Iv (c.carg)) kT (F 12 dc) (zd (bm.b3) rfl) dR)
 intro cd vals w315 bn H I
 have aa:cd∈[0,1,2,3]:=bn
 simp only[yt]at aa
 rcases aa with rfl|rfl|rfl|rfl
 have bp:Sep _ _ _ _:=H
 exact obl rfl (lD (Iv (c.ckey)) kT (I 14 dc) (zd (bp.b1) rfl) dR)
 obtain⟨d,i,bq⟩:=H
 exact obl rfl (lD (Iv (c.ckey)) kT (I 14 dc) (zd (bq.b2) rfl) dR)
 obtain⟨e,g,br⟩:=H
 exact obl rfl (lD (Iv (c.ckey)) kT (I 14 dc) (zd (br.b2) rfl) dR)
 obtain⟨d,e,i,g,bs⟩:=H
 exact obl rfl (lD (Iv (c.ckey)) kT (I 14 dc) (zd (bs.b3) rfl) dR)
 intro ce vals w328 bt al j
 have ab:ce∈[1,3]:=bt
 simp only[yt]at ab
 rcases ab with rfl|rfl
 obtain⟨d,i,bu⟩:=al
 refine obl rfl ?_
 have am:=bu.r0
 have hr341s:_*8≤_:=am.2
 refine zL (parts':=[(1,Iv (lam+1)),(2,d),(3,Iv (c.ctyp)),(4,Iv (c.cagg)),(5,Iv (c.cfield)),(6,Iv (c.cop)),(7,Iv (c.carg)),(8,Iv (c.ckey))]) (v:=.agg ((⟨0,0,lam+1,yg v [],c.ctyp,c.cagg,c.cfield,c.cop,c.carg,c.ckey⟩:Ev).cells d).toArray) (Zi ⟨rfl,(j 1 (by decide)),rfl,i,rfl,(j 5 (by decide)),rfl,(j 7 (by decide)),rfl,(j 9 (by decide)),rfl,(j 11 (by decide)),rfl,(j 13 (by decide)),rfl,(j 15 (by decide)),trivial⟩) (by obtain⟨_,_,bv,_⟩:=am.1;rw[show d=Value.slice _ _ _ from bv];simp[Instr.build,Instr.fill,go_sem,Ev.cells,ev0]) (fun l hv m=>⟨rfl,?_⟩)
 intro cf K
 rw[m 3 (by decide)]at K;cases i.symm.trans K
 exact hv
 obtain⟨d,e,i,g,bw⟩:=al
 refine obl rfl ?_
 have an:=bw.r1
 have hr351s:_*8≤_:=an.2
 refine zL (parts':=[(1,Iv (lam+1)),(2,d),(3,Iv (c.ctyp)),(4,Iv (c.cagg)),(5,Iv (c.cfield)),(6,Iv (c.cop)),(7,Iv (c.carg)),(8,Iv (c.ckey))]) (v:=.agg ((⟨0,0,lam+1,yg v [],c.ctyp,c.cagg,c.cfield,c.cop,c.carg,c.ckey⟩:Ev).cells d).toArray) (Zi ⟨rfl,(j 1 (by decide)),rfl,i,rfl,(j 5 (by decide)),rfl,(j 7 (by decide)),rfl,(j 9 (by decide)),rfl,(j 11 (by decide)),rfl,(j 13 (by decide)),rfl,(j 15 (by decide)),trivial⟩) (by obtain⟨_,_,bx,_⟩:=an.1;rw[show d=Value.slice _ _ _ from bx];simp[Instr.build,Instr.fill,go_sem,Ev.cells,ev0]) (fun l hv m=>⟨rfl,?_⟩)
 intro cf K
 rw[m 3 (by decide)]at K;cases i.symm.trans K
 exact hv
 intro cg vals w353 bz ao hA354
 have ac:cg∈[0,1]:=bz
 simp only[yt]at ac
 rcases ac with rfl|rfl
 have bA:Sep _ _ _ _:=ao
 refine obl rfl ((zq kR ?_))
 intro w360 e bB
 exact fun l hv m=>⟨(exiA e (zx hv (bA.new bB))),trivial⟩
 obtain⟨d,i,bC⟩:=ao
 refine obl rfl ((zq kR ?_))
 intro w365 e bD
 exact fun l hv m=>⟨(exiA d (exiA e (zx ((m 3 dc).trans i) (zx hv (bC.new bD))))),trivial⟩
 intro ch vals w368 bE bF bG
 have ad:ch∈[3]:=bE
 simp only[yt]at ad
 subst ad
 obtain⟨d,e,i,g,P⟩:=bF
 let ay:=((⟨0,0,lam+1,yg v [],c.ctyp,c.cagg,c.cfield,c.cop,c.carg,c.ckey⟩:Ev).cells d)
 refine obl rfl ?_
 have ci:vals 16=(.agg ay.toArray:Value):=bG 16 dc d i
 have ap:=P.r1
 have hr376s:_*8≤_:=ap.2
 refine(zp (v:=.agg ay.toArray) (c':=ay.toArray) lT g ci (P.b0) (zX ⟨rfl,rfl,rfl,ap.1.one,rfl,rfl,rfl,rfl,rfl,rfl,trivial⟩) yqc rfl ?_)
 intro w374 bH
 exact fun l hv m=>⟨(exiA d (exiA e (zx ((m 3 dc).trans i) (zx ((m 17 dc).trans g) (P.pt0 bH))))),trivial⟩
 intro vals w378 bI hA380
 obtain⟨d,e,i,g,aq⟩:=bI
 refine zT (kv:=[(0,.agg (c.cells).toArray),(1,Iv o),(2,vv),(3,Iv lam),(4,Ix b2 0),(8,Ix b6 0),(9,Iv 0),(12,Iv o),(13,.bool (decide (o<0))),(14,.bool (decide (o<0))),(19,.bool ((decide (o<0))||(decide (((v.length:Nat):Int)≤o)))),(20,.bool ((decide (o<0))||(decide (((v.length:Nat):Int)≤o)))),(23,.bool false),(25,vv),(26,Iv o),(27,Iv (yu v o)),(10,Iv (yu v o)),(28,Iv (yu v o)),(29,.bool (decide ((yu v o)=9223372036854775807))),(30,.bool (decide ((yu v o)=9223372036854775807))),(33,.bool false),(11,Ix e 0)]) ⟨rfl,rfl,rfl,rfl,rfl,rfl,rfl,rfl,rfl,rfl,rfl,rfl,rfl,rfl,rfl,rfl,rfl,rfl,rfl,rfl,rfl,(by exact g),trivial⟩ (fun ρw378=>(zb (za (R0 fun _=>st (mV (Iv o) (st (mV (Iv (yu v o)) ?_)))))))
 have bJ:InR ((yu v o)+1):=by omega
 refine st (zP (r:=(yu v o)+1) (k:=.i64) (a:=yu v o) (b:=1) rfl rfl (zF bJ) (st (yp rfl (st (xa rfl ?_)))))
 refine stn (ym (v:=Iv o) (c:=[Iv ((⟨0,0,lam+1,yg v [],c.ctyp,c.cagg,c.cfield,c.cop,c.carg,c.ckey⟩:Ev).origin),Iv ((⟨0,0,lam+1,yg v [],c.ctyp,c.cagg,c.cfield,c.cop,c.carg,c.ckey⟩:Ev).seq),Iv ((⟨0,0,lam+1,yg v [],c.ctyp,c.cagg,c.cfield,c.cop,c.carg,c.ckey⟩:Ev).lam),d,Iv ((⟨0,0,lam+1,yg v [],c.ctyp,c.cagg,c.cfield,c.cop,c.carg,c.ckey⟩:Ev).typ),Iv ((⟨0,0,lam+1,yg v [],c.ctyp,c.cagg,c.cfield,c.cop,c.carg,c.ckey⟩:Ev).agg),Iv ((⟨0,0,lam+1,yg v [],c.ctyp,c.cagg,c.cfield,c.cop,c.carg,c.ckey⟩:Ev).field),Iv ((⟨0,0,lam+1,yg v [],c.ctyp,c.cagg,c.cfield,c.cop,c.carg,c.ckey⟩:Ev).op),Iv ((⟨0,0,lam+1,yg v [],c.ctyp,c.cagg,c.cfield,c.cop,c.carg,c.ckey⟩:Ev).arg),Iv ((⟨0,0,lam+1,yg v [],c.ctyp,c.cagg,c.cfield,c.cop,c.carg,c.ckey⟩:Ev).key)]) (c':=[Iv o,Iv ((⟨0,0,lam+1,yg v [],c.ctyp,c.cagg,c.cfield,c.cop,c.carg,c.ckey⟩:Ev).seq),Iv ((⟨0,0,lam+1,yg v [],c.ctyp,c.cagg,c.cfield,c.cop,c.carg,c.ckey⟩:Ev).lam),d,Iv ((⟨0,0,lam+1,yg v [],c.ctyp,c.cagg,c.cfield,c.cop,c.carg,c.ckey⟩:Ev).typ),Iv ((⟨0,0,lam+1,yg v [],c.ctyp,c.cagg,c.cfield,c.cop,c.carg,c.ckey⟩:Ev).agg),Iv ((⟨0,0,lam+1,yg v [],c.ctyp,c.cagg,c.cfield,c.cop,c.carg,c.ckey⟩:Ev).field),Iv ((⟨0,0,lam+1,yg v [],c.ctyp,c.cagg,c.cfield,c.cop,c.carg,c.ckey⟩:Ev).op),Iv ((⟨0,0,lam+1,yg v [],c.ctyp,c.cagg,c.cfield,c.cop,c.carg,c.ckey⟩:Ev).arg),Iv ((⟨0,0,lam+1,yg v [],c.ctyp,c.cagg,c.cfield,c.cop,c.carg,c.ckey⟩:Ev).key)]) uT rfl rfl (aq.b0) rfl rfl rfl ?_)
 intro w383 bK
 have ar:=aq.pt0 bK
 refine st (yp rfl (st (xE rfl ?_)))
 refine stn (ym (v:=Iv ((yu v o)+1)) (c:=[Iv o,Iv ((⟨0,0,lam+1,yg v [],c.ctyp,c.cagg,c.cfield,c.cop,c.carg,c.ckey⟩:Ev).seq),Iv ((⟨0,0,lam+1,yg v [],c.ctyp,c.cagg,c.cfield,c.cop,c.carg,c.ckey⟩:Ev).lam),d,Iv ((⟨0,0,lam+1,yg v [],c.ctyp,c.cagg,c.cfield,c.cop,c.carg,c.ckey⟩:Ev).typ),Iv ((⟨0,0,lam+1,yg v [],c.ctyp,c.cagg,c.cfield,c.cop,c.carg,c.ckey⟩:Ev).agg),Iv ((⟨0,0,lam+1,yg v [],c.ctyp,c.cagg,c.cfield,c.cop,c.carg,c.ckey⟩:Ev).field),Iv ((⟨0,0,lam+1,yg v [],c.ctyp,c.cagg,c.cfield,c.cop,c.carg,c.ckey⟩:Ev).op),Iv ((⟨0,0,lam+1,yg v [],c.ctyp,c.cagg,c.cfield,c.cop,c.carg,c.ckey⟩:Ev).arg),Iv ((⟨0,0,lam+1,yg v [],c.ctyp,c.cagg,c.cfield,c.cop,c.carg,c.ckey⟩:Ev).key)]) (c':=[Iv o,Iv ((yu v o)+1),Iv ((⟨0,0,lam+1,yg v [],c.ctyp,c.cagg,c.cfield,c.cop,c.carg,c.ckey⟩:Ev).lam),d,Iv ((⟨0,0,lam+1,yg v [],c.ctyp,c.cagg,c.cfield,c.cop,c.carg,c.ckey⟩:Ev).typ),Iv ((⟨0,0,lam+1,yg v [],c.ctyp,c.cagg,c.cfield,c.cop,c.carg,c.ckey⟩:Ev).agg),Iv ((⟨0,0,lam+1,yg v [],c.ctyp,c.cagg,c.cfield,c.cop,c.carg,c.ckey⟩:Ev).field),Iv ((⟨0,0,lam+1,yg v [],c.ctyp,c.cagg,c.cfield,c.cop,c.carg,c.ckey⟩:Ev).op),Iv ((⟨0,0,lam+1,yg v [],c.ctyp,c.cagg,c.cfield,c.cop,c.carg,c.ckey⟩:Ev).arg),Iv ((⟨0,0,lam+1,yg v [],c.ctyp,c.cagg,c.cfield,c.cop,c.carg,c.ckey⟩:Ev).key)]) uT rfl rfl (ar.b0) rfl rfl rfl ?_)
 intro w386 bL
 have J:=ar.pt0 bL
 refine zb (za (R0 fun _=>st (zh (k:=10) rT lT rfl rfl (CellsAt.all (J.b0)) ?_)))
 have au:=J.r1
 have hr391s:_*8≤_:=au.2
 refine stn (zp (v:=.agg ((⟨o,(yu v o)+1,(⟨0,0,lam+1,yg v [],c.ctyp,c.cagg,c.cfield,c.cop,c.carg,c.ckey⟩:Ev).lam,yg v [],(⟨0,0,lam+1,yg v [],c.ctyp,c.cagg,c.cfield,c.cop,c.carg,c.ckey⟩:Ev).typ,(⟨0,0,lam+1,yg v [],c.ctyp,c.cagg,c.cfield,c.cop,c.carg,c.ckey⟩:Ev).agg,(⟨0,0,lam+1,yg v [],c.ctyp,c.cagg,c.cfield,c.cop,c.carg,c.ckey⟩:Ev).field,(⟨0,0,lam+1,yg v [],c.ctyp,c.cagg,c.cfield,c.cop,c.carg,c.ckey⟩:Ev).op,(⟨0,0,lam+1,yg v [],c.ctyp,c.cagg,c.cfield,c.cop,c.carg,c.ckey⟩:Ev).arg,(⟨0,0,lam+1,yg v [],c.ctyp,c.cagg,c.cfield,c.cop,c.carg,c.ckey⟩:Ev).key⟩:Ev).cells d).toArray) (c':=((⟨o,(yu v o)+1,(⟨0,0,lam+1,yg v [],c.ctyp,c.cagg,c.cfield,c.cop,c.carg,c.ckey⟩:Ev).lam,yg v [],(⟨0,0,lam+1,yg v [],c.ctyp,c.cagg,c.cfield,c.cop,c.carg,c.ckey⟩:Ev).typ,(⟨0,0,lam+1,yg v [],c.ctyp,c.cagg,c.cfield,c.cop,c.carg,c.ckey⟩:Ev).agg,(⟨0,0,lam+1,yg v [],c.ctyp,c.cagg,c.cfield,c.cop,c.carg,c.ckey⟩:Ev).field,(⟨0,0,lam+1,yg v [],c.ctyp,c.cagg,c.cfield,c.cop,c.carg,c.ckey⟩:Ev).op,(⟨0,0,lam+1,yg v [],c.ctyp,c.cagg,c.cfield,c.cop,c.carg,c.ckey⟩:Ev).arg,(⟨0,0,lam+1,yg v [],c.ctyp,c.cagg,c.cfield,c.cop,c.carg,c.ckey⟩:Ev).key⟩:Ev).cells d).toArray) lT rfl rfl (J.b2) (zX ⟨rfl,rfl,rfl,au.1.one,rfl,rfl,rfl,rfl,rfl,rfl,trivial⟩) yqc rfl ?_)
 intro w389 bM
 have av:=J.pt2 bM
 refine st (aS (Iv 0) (zb (zk (xD (b:=b6) pR rT lT rfl rfl (CellsAt.all (av.b2)) (show _=(Iv 0:Value)from rfl) ?_))))
 have p:evN o v lam=0:=by unfold evN;simp only[q,N,if_true,if_false,Bool.false_eq_true,↓reduceIte]
 have ae:evE c o v lam=(⟨o,(yu v o)+1,(⟨0,0,lam+1,yg v [],c.ctyp,c.cagg,c.cfield,c.cop,c.carg,c.ckey⟩:Ev).lam,yg v [],(⟨0,0,lam+1,yg v [],c.ctyp,c.cagg,c.cfield,c.cop,c.carg,c.ckey⟩:Ev).typ,(⟨0,0,lam+1,yg v [],c.ctyp,c.cagg,c.cfield,c.cop,c.carg,c.ckey⟩:Ev).agg,(⟨0,0,lam+1,yg v [],c.ctyp,c.cagg,c.cfield,c.cop,c.carg,c.ckey⟩:Ev).field,(⟨0,0,lam+1,yg v [],c.ctyp,c.cagg,c.cfield,c.cop,c.carg,c.ckey⟩:Ev).op,(⟨0,0,lam+1,yg v [],c.ctyp,c.cagg,c.cfield,c.cop,c.carg,c.ckey⟩:Ev).arg,(⟨0,0,lam+1,yg v [],c.ctyp,c.cagg,c.cfield,c.cop,c.carg,c.ckey⟩:Ev).key⟩:Ev):=by unfold evE;exact if_pos p
 rw[ae,p]
 refine⟨d,?_,(av.s4_b)⟩
 rfl
 have N:=M
 try simp only[zf]at M
 refine zg rfl (za (yq (by kernel_rfl) (fun _=>(st (zL (parts':=[]) (v:=.agg (ev0.cells (Iz)).toArray) rfl (by simp+zetaDelta [Instr.build,Instr.fill,go_sem,Ev.cells,ev0]) (stn (zp (v:=.agg (ev0.cells (Iz)).toArray) (c':=(ev0.cells (Iz)).toArray) lT rfl rfl (ag.b0) (zX ⟨rfl,rfl,rfl,rfl,rfl,rfl,rfl,rfl,rfl,rfl,trivial⟩) yqc rfl ?_)))))))
 intro w394 bN
 have aw:=ag.pt0 bN
 refine st (aS (Iv 13) (zb (zk (xD (b:=b6) pR rT lT rfl rfl (CellsAt.all (aw.b0)) (show _=(Iv 13:Value)from rfl) ?_))))
 have bO:Sep _ _ ((RowE (α:=Int) own 3 (Iz) ([]:List Int))::_) _:=aw.rowNil own 3
 have p:evN o v lam=13:=by unfold evN;simp only[q,N,if_true,if_false,Bool.false_eq_true,↓reduceIte]
 have ae:evE c o v lam=ev0:=by unfold evE;exact if_neg (by rw[p];decide)
 rw[ae,p]
 refine⟨(Iz),?_,(bO.s3_a)⟩
 rfl
 have q:=L
 try simp only[zf]at L
 refine zg rfl (za (yq (by kernel_rfl) (fun _=>(st (zL (parts':=[]) (v:=.agg (ev0.cells (Iz)).toArray) rfl (by simp+zetaDelta [Instr.build,Instr.fill,go_sem,Ev.cells,ev0]) (stn (zp (v:=.agg (ev0.cells (Iz)).toArray) (c':=(ev0.cells (Iz)).toArray) lT rfl rfl (az.b0) (zX ⟨rfl,rfl,rfl,rfl,rfl,rfl,rfl,rfl,rfl,rfl,trivial⟩) yqc rfl ?_)))))))
 intro w399 bP
 have ax:=az.pt0 bP
 refine st (aS (Iv 1) (zb (zk (xD (b:=b6) pR rT lT rfl rfl (CellsAt.all (ax.b0)) (show _=(Iv 1:Value)from rfl) ?_))))
 have bQ:Sep _ _ ((RowE (α:=Int) own 3 (Iz) ([]:List Int))::_) _:=ax.rowNil own 3
 have p:evN o v lam=1:=by unfold evN;simp only[q,if_true,if_false,Bool.false_eq_true,↓reduceIte]
 have ae:evE c o v lam=ev0:=by unfold evE;exact if_neg (by rw[p];decide)
 rw[ae,p]
 refine⟨(Iz),?_,(bQ.s3_a)⟩
 rfl
end
section
open Go.RowKit
structure TypS where
 v:Value
 deriving Inhabited
structure TypS.Ok (e:TypS):Prop where
 one:e.v.oneCell'=true
def TypS.cells (e:TypS):List Value:=[e.v]
instance:Rep TypS where
 k:=1
 rd _ _ cs x:=cs=x.cells∧x.Ok
 bytes:=24
 bpos:=by decide
 kpos:=by decide
 len h:=by rw[h.1];rfl
 one h:=by rw[h.1];exact zX ⟨h.2.one,trivial⟩
 mono h _:=h
instance:Flat TypS:=⟨fun h=>h⟩
def FldRows (Ti:TypeId):List TypS→List Typ→List HP
 |s::sh,c::l=>RowE (α:=Fld) own Ti s.v c.fields::FldRows Ti sh l
 |_,_=>[]
theorem FldRows.get {Ti:TypeId}: ∀{sh:List TypS} {l:List Typ} {i:Nat},i<sh.length→i<l.length→(FldRows Ti sh l)[i]? =some (RowE (α:=Fld) own Ti (sh.getD i default).v (l.getD i default).fields)
 |_::_,_::_,0,_,_=>rfl
 |_::_,_::_,i+1,h1,h2=>by
  have:=FldRows.get (Ti:=Ti) (i:=i) (by simpa using h1) (by simpa using h2)
  simpa[FldRows]using this
 |[],_,i,h,_=>absurd h (Nat.not_lt_zero i)
 |_::_,[],i,_,h=>absurd h (Nat.not_lt_zero i)
theorem FldRows.set {Ti:TypeId}: ∀{sh:List TypS} {l:List Typ} (i:Nat) (c:Typ),FldRows Ti sh (l.set i c)=if i<sh.length∧i<l.length then(FldRows Ti sh l).set i (RowE (α:=Fld) own Ti (sh.getD i default).v c.fields)else FldRows Ti sh l
 |[],[],_,_=>by simp[FldRows]
 |_::_,_::_,0,_=>by simp[FldRows]
 |_::sh,_::l,i+1,c=>by
  simp only[List.set_cons_succ,FldRows]
  rw[FldRows.set i c]
  by_cases h:i<sh.length∧i<l.length
  ·rw[if_pos h,if_pos (by simpa using h)];simp
  ·rw[if_neg h,if_neg (by simpa using h)]
 |[],_::_,i,_=>by cases i<;>simp[FldRows]
 |_::_,[],_,_=>by simp[FldRows]
theorem FldRows.snoc {Ti:TypeId}: ∀{sh:List TypS} {l:List Typ} (s:TypS) (c:Typ),sh.length=l.length→FldRows Ti (sh++[s]) (l++[c])=FldRows Ti sh l++[RowE (α:=Fld) own Ti s.v c.fields]
 |[],[],_,_,_=>rfl
 |_::sh,_::l,s,c,h=>by simp only[List.cons_append,FldRows];rw[FldRows.snoc s c (by simpa using h)]
 |[],_::_,_,_,h=>by simp at h
 |_::_,[],_,_,h=>by simp at h
section
variable {G:Nat→Prop}{W w:World}{As:List HP}{T Ti:TypeId}{v:Value}{sh:List TypS}{l:List Typ}
def TypW (v:Value)(T Ti:TypeId)(l:List Typ):HP:=Ex1 fun sh:List TypS=>Jq (sh.length=l.length) (Star [RowE (α:=TypS) own T v sh,Star (FldRows Ti sh l)])
theorem TypW.open (h:Sep G W (TypW v T Ti l::As) w): ∃sh:List TypS,sh.length=l.length∧Sep G W (RowE (α:=TypS) own T v sh::Star (FldRows Ti sh l)::As) w:=by
 obtain⟨sh,h1⟩:=h.openEx
 obtain⟨h2,h3⟩:=h1.openAnd
 exact⟨sh,h2,h3.openStar⟩
theorem TypW.mk (h:Sep G W (RowE (α:=TypS) own T v sh::Star (FldRows Ti sh l)::As) w)(hn:sh.length=l.length):Sep G W (TypW v T Ti l::As) w:=
 Sep.closeEx (A:=fun sh:List TypS=>Jq (sh.length=l.length) (Star [RowE (α:=TypS) own T v sh,Star (FldRows Ti sh l)])) sh (Sep.closeAnd hn (Sep.closeStar (Bs:=[RowE (α:=TypS) own T v sh,Star (FldRows Ti sh l)]) h))
theorem TypW.rowP {f:Nat→Prop}(h:(TypW v T Ti l).p w f):(RowE (α:=Typ) own T v l).p w f:=by
 obtain⟨sh,hlen,hA⟩:=h
 obtain⟨fs,q1,q2⟩:=hA
 obtain⟨⟨css,hE,hown,hrow,hsm⟩,hf0⟩:=q1 0 _ rfl
 obtain⟨hSt,hf1⟩:=q1 1 _ rfl
 have q2':=q2 0 1 (by simp) (by simp) (by simp)
 have hcl:=hE.length
 refine⟨css,EP.of_at (by omega) (fun i h1 h2=>?_),by rw[←hlen];exact hown,fun b hb=>(hf0 b (hrow b hb)).1,by rw[←hlen];exact hsm⟩
 have hs:i<sh.length:=by omega
 have hcs:css[i]=sh[i].cells:=(EP.at2 hE i h1 hs).1
 have hr:(RowE (α:=Fld) own Ti (sh.getD i default).v (l.getD i default).fields).p w (fs 1):=Star.at_ hSt (FldRows.get hs h2)
 have hsoft:=RowE.soft hr
 rw[zB _ hs,zB _ h2]at hsoft
 refine⟨sh[i].v,?_,hsoft.mono (fun b hb hlt=>⟨rfl,⟨(hf1 b hb.1).1,fun e=>q2' b (hrow b e) hb.1⟩,hb.2⟩),⟨⟩⟩
 rw[hcs];rfl
theorem TypW.row (h:Sep G W (TypW v T Ti l::As) w):Sep G W (RowE (α:=Typ) own T v l::As) w:=h.impl (i:=0) rfl (fun _=>TypW.rowP)
theorem Sep.typSl (h:Sep G W As w){i:Nat}(hi:As[i]? =some (TypW v T Ti l)):IsSl v l.length:=by
 obtain⟨f,h1,_⟩:=h.get hi
 exact RowE.isSl (TypW.rowP h1)
theorem TypW.snoc {vf:Value}{c:Typ}(hlen:sh.length=l.length)(h:Sep G W (RowE (α:=TypS) own T v (sh++[⟨vf⟩])::Star (FldRows Ti sh l)::RowE (α:=Fld) own Ti vf c.fields::As) w):Sep G W (TypW v T Ti (l++[c])::As) w:=by
 have h1:Sep G W (RowE (α:=Fld) own Ti vf c.fields::Star (FldRows Ti sh l)::RowE (α:=TypS) own T v (sh++[⟨vf⟩])::As) w:=h.sel 3 [2,1,0] (Nat.le_add_left _ _) rfl rfl
 have h2:=h1.snocStar
 rw[←FldRows.snoc ⟨vf⟩ c hlen]at h2
 exact TypW.mk (h2.sel 2 [1,0] (Nat.le_add_left _ _) rfl rfl) (by rw[List.length_append,List.length_append,hlen];rfl)
theorem TypW.nil (h:Sep G W As w):Sep G W (TypW (.slice none 0 0) T Ti []::As) w:=TypW.mk (sh:=[]) (h.nilStar.rowNil own T) rfl
end
end
section
set_option maxRecDepth 8000
set_option maxHeartbeats 4000000
open Go.Proofs Go.RowKit
theorem Qm {f:Fld}{df0:Value}(hdf0:RdS W G df0 f.moves)(of:f.Ok)(hS0:Sep G W Rs w):Ret Tryz.prog 123 [.agg (f.cells df0).toArray] w (fun r w'=> ∃(v:Value),r=(.agg (f.cells v).toArray:Value)∧Sep G W ((RowE (α:=Mv) own 143 v f.moves)::Rs) w'):=by
 have hdf0s:_*32≤_:=hdf0.small
 refine zi (args:=[.agg (f.cells df0).toArray]) Tryz.func123 rfl rfl ?_
 refine za (R0 fun _=>st (zM (v:=.agg (f.cells df0).toArray) rfl ?_))
 intro w3 b2 H
 refine st (zq oY ?_)
 intro w7 x I
 refine zb (za (R0 fun _=>st (aS (Iz) (zb (za (za (R0 fun _=>st (aS (Iv 0) (zb (zn ?_))))))))))
 have J:Sep _ _ ((RowE (α:=Mv) own 143 (Iz) ([]:List Mv))::_) _:=((hS0.new H).new I).rowNil own 143
 refine zZ (fun mq σ K=> ∃(k:Nat) (vo:Value) (ρ:Env),mq=f.moves.length-k∧σ=yd ρ [(1,Ix b2 0),(2,Ix x 0),(4,Iw k),(3,vo)]∧(k≤f.moves.length)∧Sep G W ((RowE (α:=Mv) own 143 vo (f.moves.take k))::(Blk x #[Iv 0,Iv 0,.bool false,(Iz)] 106)::(Blk b2 (f.cells df0).toArray 106)::Rs) K) ⟨0,(Iz),_,rfl,sSf,Nat.zero_le _,J⟩ ?_
 rintro m11 σ12 w10 ⟨k,vo,ρl1,rfl,rfl,hkk,d⟩
 have y:=d.r0
 have hr14s:_*32≤_:=y.2
 refine za (za (R0 fun _=>st (mV (Iw k) (st (yF rfl (st (lD df0 pY rfl (zd (d.b2) rfl) (st (zJ (n:=f.moves.length) qR rfl hdf0.sl (st (zC (k:=.i64) (a:=((k:Nat):Int)) (b:=((f.moves.length:Nat):Int)) rfl rfl (zb ?_))))))))))))
 cases e:decide (((k:Nat):Int)<((f.moves.length:Nat):Int))
 have e:=fD e
 have hkn:k=f.moves.length:=by omega
 rw[hkn,List.take_of_length_le (Nat.le_refl f.moves.length)]at d
 have g:=d.r0
 have hr16s:_*32≤_:=g.2
 refine ze rfl (ya (zS (za (R0 fun _=>st (mV vo (st (yF rfl (stn (ym (v:=vo) (c:=[Iv (f.kind),Iv (f.policy),.bool (f.floor),df0]) (c':=[Iv (f.kind),Iv (f.policy),.bool (f.floor),vo]) Tryz.sizeOf104 rfl rfl (d.b2) g.1.one rfl rfl ?_)))))))))
 intro w17 z
 have ok19:Fld.Ok f:=⟨(show InR (f.kind)from of.kind),(show InR (f.policy)from of.policy)⟩
 have h:=d.pt2 z
 refine zb (za (R0 fun _=>st (zh (k:=4) rR sT rfl rfl (CellsAt.all (h.b2)) (stn (zp (v:=.agg (f.cells vo).toArray) (c':=(f.cells vo).toArray) sT rfl rfl (h.b1) (zX ⟨rfl,rfl,rfl,g.1.one,trivial⟩) yqc rfl ?_)))))
 intro w21 A
 have l:=h.pt1 A
 refine zb (zk (Ve (b:=x) Tryz.results123 rR sT rfl rfl (CellsAt.all (l.b1)) ?_))
 refine⟨vo,rfl,(l.s3_a)⟩
 have e:=tD e
 refine zg rfl (zl (za (zn (R0 fun _=>st (mV vo (st (yF rfl (st (lD df0 pY rfl (zd (d.b2) rfl) (st (mV (Iw k) ?_)))))))))))
 have B:k<f.moves.length:=bo
 refine st (zj (k:=4) (i:=k) qR sR rfl hdf0.sl rfl B ?_)
 have m:k<f.moves.length:=bo
 obtain⟨q,o⟩:=hdf0.mvD m
 have s:=d.cells q (hdf0.foot (ne_of_lt m))
 refine st (zh (k:=4) Tryz.isAgg143 sR rfl rfl s (st (zI (k:=4) (parts':=[(0,.agg ((f.moves.getD k default).cells).toArray)]) (c:=((f.moves.getD k default).cells).toArray) qR sR Tryz.zeroValue143 dc rfl kr ?_)))
 intro w31 b30 C
 have p:=d.new C
 have t:=p.b0
 refine st (yj (src:=own) (bytes:=32) (x1:=(f.moves.getD k default)) ((p.s4_bcd).emp1) Kt rfl rfl t (fun _ _ _=>(show _ from⟨rfl,o⟩)) yqb rfl ?_)
 intro u w33 j
 have D:=j.r0
 have hr39s:_*32≤_:=D.2
 refine st (aS u (zb (R0 fun _=>st (mV (Iw k) ?_))))
 have E:InR ((k+1:Nat):Int):=bo
 refine st (zP (r:=((k+1:Nat):Int)) (k:=.i64) (a:=((k:Nat):Int)) (b:=1) rfl rfl (by rw[show(((k:Nat):Int)+1:Int)=((k+1:Nat):Int)from bo];exact zF E) (st (aS (Iw (k+1)) (zb ?_))))
 have F:(f.moves.take (k+1))=(f.moves.take k)++[(f.moves.getD k default)]:=(List.take_getD om)
 rw[←F]at j
 exact⟨_,by omega,k+1,u,_,rfl,sSf,by omega,j⟩
theorem Qo {d:Dcl}{dd0:Value}(hdd0:RdS W G dd0 d.types){dd1:Value}(hdd1:RdS W G dd1 d.projs)(od:d.Ok)(hS0:Sep G W Rs w):Ret Tryz.prog 96 [.agg (d.cells dd0 dd1).toArray] w (fun r w'=> ∃(v1:Value) (v2:Value),r=(.agg (d.cells v1 v2).toArray:Value)∧Sep G W ((TypW v1 74 106 d.types)::(RowE (α:=Prj) own 112 v2 d.projs)::Rs) w'):=by
 have hdd0s:_*24≤_:=hdd0.small
 have hdd1s:_*40≤_:=hdd1.small
 refine zi (args:=[.agg (d.cells dd0 dd1).toArray]) Tryz.func96 rfl rfl ?_
 refine za (R0 fun _=>st (zM (v:=.agg (d.cells dd0 dd1).toArray) rfl ?_))
 intro w3 b2 cu
 refine st (zq qY ?_)
 intro w7 E cv
 refine zb (za (R0 fun _=>st (zq qY ?_)))
 intro w11 u cw
 refine zb (za (za (R0 fun _=>st (aS (Iv 0) (zb (zn ?_))))))
 have cg:Sep _ _ ((TypW (Iz) 74 106 [])::_) _:=TypW.nil (T:=74) (Ti:=106) (((hS0.new cu).new cv).new cw)
 refine zZ (fun mq σ s=> ∃(k:Nat) (vo:Value) (ρ:Env),mq=d.types.length-k∧σ=yd ρ [(1,Ix b2 0),(2,Ix E 0),(3,Ix u 0),(4,Iw k)]∧(k≤d.types.length)∧Sep G W ((TypW vo 74 106 (d.types.take k))::(Blk u #[vo,(Iz)] 25)::(Blk E #[(Iz),(Iz)] 25)::(Blk b2 (d.cells dd0 dd1).toArray 25)::Rs) s) ⟨0,(Iz),_,rfl,sSf,Nat.zero_le _,cg⟩ ?_
 rintro m15 σ16 w14 ⟨k,vo,ρl1,rfl,rfl,hkk,M⟩
 refine za (za (R0 fun _=>st (mV (Iw k) (st (yC rfl (st (lD dd0 lR rfl (zd (M.b3) rfl) (st (zJ (n:=d.types.length) mR rfl hdd0.sl (st (zC (k:=.i64) (a:=((k:Nat):Int)) (b:=((d.types.length:Nat):Int)) rfl rfl (zb ?_))))))))))))
 cases N:decide (((k:Nat):Int)<((d.types.length:Nat):Int))
 have N:=fD N
 have hkn:k=d.types.length:=by omega
 rw[hkn,List.take_of_length_le (Nat.le_refl d.types.length)]at M
 refine ze rfl (ya (zS (za (za (R0 fun _=>st (aS (Iv 0) (zb (zn ?_))))))))
 have ch:Sep _ _ ((RowE (α:=Prj) own 112 (Iz) ([]:List Prj))::_) _:=M.rowNil own 112
 refine zZ (fun mq σ s=> ∃(k:Nat) (vp:Value) (ρ:Env),mq=d.projs.length-k∧σ=yd ρ [(1,Ix b2 0),(2,Ix E 0),(3,Ix u 0),(7,Iw k)]∧(k≤d.projs.length)∧Sep G W ((RowE (α:=Prj) own 112 vp (d.projs.take k))::(TypW vo 74 106 d.types)::(Blk u #[vo,vp] 25)::(Blk E #[(Iz),(Iz)] 25)::(Blk b2 (d.cells dd0 dd1).toArray 25)::Rs) s) ⟨0,(Iz),_,rfl,sSf,Nat.zero_le _,ch⟩ ?_
 rintro m21 σ22 w20 ⟨k,vp,ρl2,rfl,rfl,hkk,y⟩
 have ci:=y.r0
 have hr24s:_*40≤_:=ci.2
 refine za (za (R0 fun _=>st (mV (Iw k) (st (ZP rfl (st (lD dd1 nR rfl (zd (y.b4) rfl) (st (zJ (n:=d.projs.length) tR rfl hdd1.sl (st (zC (k:=.i64) (a:=((k:Nat):Int)) (b:=((d.projs.length:Nat):Int)) rfl rfl (zb ?_))))))))))))
 cases O:decide (((k:Nat):Int)<((d.projs.length:Nat):Int))
 have O:=fD O
 have hkn:k=d.projs.length:=by omega
 rw[hkn,List.take_of_length_le (Nat.le_refl d.projs.length)]at y
 have aM:=y.r0
 have hr26s:_*40≤_:=aM.2
 refine ze rfl (ya (zS (za (R0 fun _=>st (zh (k:=2) tT nT rfl rfl (CellsAt.all (y.b2)) (stn (zp (v:=.agg (d.cells vo vp).toArray) (c':=(d.cells vo vp).toArray) nT rfl rfl (y.b3) (zX ⟨(y.typSl (i:=1) rfl).one,aM.1.one,trivial⟩) yqc rfl ?_)))))))
 intro cx cj
 have aN:=y.pt3 cj
 refine zb (zk (Ve (b:=E) Tryz.results96 tT nT rfl rfl (CellsAt.all (aN.b3)) ?_))
 have ck:Sep G W ((TypW vo 74 106 d.types)::(RowE (α:=Prj) own 112 vp d.projs)::Rs) cx:=aN.sel 5 [1,0] (Nat.le_add_left _ _) rfl rfl
 refine⟨vo,vp,rfl,ck⟩
 have O:=tD O
 refine zg rfl (zl (za (zn ?_)))
 refine WD4 ((fun TT L C aO=>WF [fun vals s=>Sep G W (L::C::aO::TT) s,fun vals s=> ∃(x:Nat),(vals 7=((Iy x 1 1):Value))∧Sep G W ((Blk x ((d.projs.getD k default).cells).toArray 112)::L::C::aO::TT) s,fun vals s=> ∃(x:Nat) (h:Value),(vals 7=((Iy x 1 1):Value))∧(vals 8=(h:Value))∧Sep G W ((RowE (α:=Prj) own 112 h ((d.projs.take k)++[(d.projs.getD k default)]))::C::aO::TT) s,fun vals s=> ∃(x:Nat) (h:Value),(vals 7=((Iy x 1 1):Value))∧(vals 8=(h:Value))∧Sep G W ((RowE (α:=Prj) own 112 h ((d.projs.take k)++[(d.projs.getD k default)]))::C::(Blk u (d.cells vo h).toArray 25)::TT) s]) ((Blk E #[(Iz),(Iz)] 25)::(Blk b2 (d.cells dd0 dd1).toArray 25)::Rs) (RowE (α:=Prj) own 112 vp (d.projs.take k)) (TypW vo 74 106 d.types) (Blk u #[vo,vp] 25)) (AF [Vl 0 (Ix u 1),Vl 1 (vp),Vl 2 (Ix b2 1),Vl 3 (dd1),Vl 4 (Iw k),Vl 5 (Ix (sb dd1) (so dd1+k*5)),Vl 6 (.agg ((d.projs.getD k default).cells).toArray),fun _=>True,fun _=>True,Vl 9 (Ix u 1),fun _=>True]) [[],[0],[],[2],[],[2,3,4],[2,3,4,5],[2,3,4,5,6],(rg 8),(rg 9),(rg 10)] [7,8,10] [(0,1),(0,1),(0,0),(0,0),(0,0),(0,0),(0,0),(0,0),(1,1),(2,2),(2,2)] y ⟨fun _ _ _ _ _ _ _=>obl rfl (ZP rfl dR),?_,fun _ _ _ _ _ _ _=>obl rfl (ZP rfl dR),ob1 0 fun _ _ (bc:Sep _ _ _ _) bd=>obl rfl (lD dd1 nR (bd 2 dc) (zd (bc.b4) rfl) dR),fun _ _ _ _ _ _ _=>obl rfl (mV (Iw k) dR),?_,?_,?_,?_,fun _ _ _ _ _ _ _=>obl rfl (ZP rfl dR),?_,trivial⟩ ?_
 refine fun P _ _ cl cm af ag=>?_
 have hkk:=xk cl cm
 rcases hkk with rfl|rfl
 have be:Sep _ _ _ _:=af
 exact obl rfl (lD vp nR (ag 0 dc) (zd (be.b2) rfl) dR)
 obtain⟨x,D,bf⟩:=af
 exact obl rfl (lD vp nR (ag 0 dc) (zd (bf.b3) rfl) dR)
 refine ob1 0 fun _ _ _ ah=>(obl rfl ?_)
 have bg:k<d.projs.length:=bo
 exact zj (k:=5) (i:=k) tR uR (ah 3 dc) hdd1.sl (ah 4 dc) bg dR
 refine ob1 0 fun _ _ (bh:Sep _ _ _ _) bi=>(obl rfl ?_)
 have ai:k<d.projs.length:=bo
 obtain⟨aP,hoke190⟩:=hdd1.prjD ai
 have aQ:=bh.cells aP (hdd1.foot (ne_of_lt ai))
 exact zh (k:=5) Tryz.isAgg112 uR rfl (bi 5 dc) aQ dR
 refine ob1 0 fun _ _ (cn:Sep _ _ _ _) co=>(obl rfl ((zI (k:=5) (parts':=[(0,.agg ((d.projs.getD k default).cells).toArray)]) (c:=((d.projs.getD k default).cells).toArray) tR uR Tryz.zeroValue112 dc (Zi ⟨rfl,(co 6 dc),trivial⟩) kr ?_)))
 intro w96 x cp
 exact fun A H t=>⟨(exiA x (zx H (cn.new cp))),trivial⟩
 refine ob1 1 fun _ _ bj bk=>?_
 obtain⟨x,D,aj⟩:=bj
 refine obl rfl ?_
 have aR:=aj.b0
 have ak:=(aj.s6_bcdef).emp1
 have al:k<d.projs.length:=bo
 obtain⟨aT,aI⟩:=hdd1.prjD al
 have hcw115:=ak.cells aT (hdd1.foot (ne_of_lt al))
 refine(yj (src:=own) (bytes:=40) (x1:=(d.projs.getD k default)) ak el23 (bk 1 (by decide)) D aR (fun _ _ _=>(show _ from⟨rfl,aI⟩)) yqb rfl ?_)
 intro h w107 am
 have bl:=am.r0
 have hr116s:_*40≤_:=bl.2
 exact fun A H t=>⟨(exiA x (exiA h (zx ((t 7 dc).trans D) (zx H am)))),trivial⟩
 refine ob1 2 fun _ _ bm bn=>?_
 obtain⟨x,h,D,Q,R⟩:=bm
 refine obl rfl ?_
 have an:=R.r0
 have hr134s:_*40≤_:=an.2
 refine(ym (v:=h) (c:=[vo,vp]) (c':=[vo,h]) Tryz.sizeOf23 (bn 9 dc) Q (R.b2) an.1.one rfl rfl ?_)
 intro w132 bp
 exact fun A H t=>⟨(exiA x (exiA h (zx ((t 7 dc).trans D) (zx ((t 8 dc).trans Q) (R.pt2 bp))))),trivial⟩
 intro vals w199 bq hA201
 obtain⟨x,h,D,Q,ao⟩:=bq
 refine zT (kv:=[(1,Ix b2 0),(2,Ix E 0),(3,Ix u 0),(7,Iw k),(48,Iw k),(49,Ix b2 1),(50,dd1),(51,Iw d.projs.length),(52,.bool true)]) sEv (fun ρw199=>(zb (R0 fun _=>st (mV (Iw k) ?_))))
 have br:InR ((k+1:Nat):Int):=bo
 refine st (zP (r:=((k+1:Nat):Int)) (k:=.i64) (a:=((k:Nat):Int)) (b:=1) rfl rfl (by rw[show(((k:Nat):Int)+1:Int)=((k+1:Nat):Int)from bo];exact zF br) (st (aS (Iw (k+1)) (zb ?_))))
 have bs:(d.projs.take (k+1))=(d.projs.take k)++[(d.projs.getD k default)]:=(List.take_getD om)
 rw[←bs]at ao
 exact⟨_,by omega,k+1,h,_,rfl,sSf,by omega,ao⟩
 have N:=tD N
 refine zg rfl (zl (za (zn (za (R0 fun _=>?_)))))
 have ok205:Typ.Ok (⟨[]⟩:Typ):=⟨⟩
 refine st (zL (parts':=[]) (v:=.agg ((⟨[]⟩:Typ).cells (Iz)).toArray) rfl (by simp[Instr.build,Instr.fill,Ev.cells,go_sem,Mv.cells,Fld.cells,Typ.cells,Prj.cells,Dcl.cells,Cel.cells,AskR.cells,CelS.cells,Ev.cells,Ent.cells,Sta.cells,Cmd.cells]) (st (zq rY ?_)))
 intro w208 z bt
 have ap:=M.new bt
 refine stn (zp (v:=.agg ((⟨[]⟩:Typ).cells (Iz)).toArray) (c':=((⟨[]⟩:Typ).cells (Iz)).toArray) vT rfl rfl (ap.b0) (zX ⟨rfl,trivial⟩) yqc rfl ?_)
 intro w210 bu
 refine zb (za (za (R0 fun _=>st (aS (Iv 0) (zb (zn ?_))))))
 have bv:Sep _ _ ((RowE (α:=Fld) own 106 (Iz) ([]:List Fld))::_) _:=(ap.pt0 bu).rowNil own 106
 refine zZ (fun mq σ s=> ∃(q:Nat) (vq:Value) (ρ:Env),mq=((d.types.getD k default).fields).length-q∧σ=yd ρ [(1,Ix b2 0),(2,Ix E 0),(3,Ix u 0),(4,Iw k),(5,Ix z 0),(6,Iw q)]∧(q≤((d.types.getD k default).fields).length)∧Sep G W ((RowE (α:=Fld) own 106 vq (((d.types.getD k default).fields).take q))::(Blk z #[vq] 74)::(TypW vo 74 106 (d.types.take k))::(Blk u #[vo,(Iz)] 25)::(Blk E #[(Iz),(Iz)] 25)::(Blk b2 (d.cells dd0 dd1).toArray 25)::Rs) s) ⟨0,(Iz),_,rfl,sSf,Nat.zero_le _,bv⟩ ?_
 rintro m215 σ216 w214 ⟨q,vq,ρl3,rfl,rfl,hkq,o⟩
 have bw:=o.r0
 have hr218s:_*48≤_:=bw.2
 refine za (za (R0 fun _=>st (mV (Iw q) (st (yC rfl (st (lD dd0 lR rfl (zd (o.b5) rfl) (st (mV (Iw k) ?_)))))))))
 have bx:k<d.types.length:=bo
 refine st (zj (k:=1) (i:=k) mR vT rfl hdd0.sl rfl bx (st (yS rfl ?_)))
 have S:k<d.types.length:=bo
 obtain⟨ab,g,hoke220⟩:=hdd0.typD S
 have hsm222:((d.types.getD k default).fields).length*48≤140737488355328:=g.small
 have aU:=o.cells ab (hdd0.foot (ne_of_lt S))
 refine st (lD (zN W (sb dd0) (so dd0+k*1+0)) wT rfl (aU.get (j:=0) rfl) (st (zJ (n:=((d.types.getD k default).fields).length) vR rfl g.sl (st (zC (k:=.i64) (a:=((q:Nat):Int)) (b:=((((d.types.getD k default).fields).length:Nat):Int)) rfl rfl (zb ?_))))))
 cases F:decide (((q:Nat):Int)<((((d.types.getD k default).fields).length:Nat):Int))
 have F:=fD F
 have hkn:q=((d.types.getD k default).fields).length:=by omega
 rw[hkn,List.take_of_length_le (Nat.le_refl ((d.types.getD k default).fields).length)]at o
 have aq:=o.r0
 have hr225s:_*48≤_:=aq.2
 refine ze rfl (ya (zS (R0 fun _=>st (yC rfl (st (lD vo lR rfl (zd (o.b3) rfl) ?_))))))
 have ok226:Typ.Ok (d.types.getD k default):=⟨⟩
 refine st (zh (k:=1) Tryz.isAgg74 vT rfl rfl (CellsAt.all (o.b1)) (st (zI (k:=1) (parts':=[(0,.agg ((d.types.getD k default).cells vq).toArray)]) (c:=((d.types.getD k default).cells vq).toArray) mR vT rY dc rfl kr ?_)))
 intro cq cr bz
 obtain⟨ar,ac,bA⟩:=TypW.open ((o.new bz).mv3)
 have I:Sep G W ((RowE (α:=TypS) own 74 vo ar)::(Star (FldRows 106 ar (d.types.take k)))::(Blk cr ((d.types.getD k default).cells vq).toArray 74)::(RowE (α:=Fld) own 106 vq ((d.types.getD k default).fields))::(Blk z #[vq] 74)::(Blk u #[vo,(Iz)] 25)::(Blk E #[(Iz),(Iz)] 25)::(Blk b2 (d.cells dd0 dd1).toArray 25)::Rs) cq:=bA
 have bB:=I.r0
 have hr235s:_*24≤_:=bB.2
 have aJ:=ac
 rw[List.length_take]at aJ
 have aV:=I.b2
 refine st (yj (src:=own) (bytes:=24) (x1:=(⟨vq⟩:TypS)) ((I.s8_abdefgh).emp1) el22 rfl rfl aV (fun _ _ _=>(show _ from⟨rfl,⟨aq.1.one⟩⟩)) yqb rfl ?_)
 intro U w236 au
 have bC:=au.r0
 have hr242s:_*24≤_:=bC.2
 have V:Sep _ _ ((TypW U 74 106 ((d.types.take k)++[(d.types.getD k default)]))::_) _:=TypW.snoc (c:=(d.types.getD k default)) ac au
 refine st (yC rfl (stn (ym (v:=U) (c:=[vo,(Iz)]) (c':=[U,(Iz)]) Tryz.sizeOf22 rfl rfl (V.b2) (V.typSl (i:=0) rfl).one rfl rfl ?_)))
 intro w244 bD
 refine zb (R0 fun _=>st (mV (Iw k) ?_))
 have bE:InR ((k+1:Nat):Int):=bo
 refine st (zP (r:=((k+1:Nat):Int)) (k:=.i64) (a:=((k:Nat):Int)) (b:=1) rfl rfl (by rw[show(((k:Nat):Int)+1:Int)=((k+1:Nat):Int)from bo];exact zF bE) (st (aS (Iw (k+1)) (zb ?_))))
 have av:=(V.pt2 bD).s5_acde
 have bF:d.types.take (k+1)=((d.types.take k)++[(d.types.getD k default)]):=(List.take_getD om)
 rw[←bF]at av
 exact⟨_,by omega,k+1,U,_,rfl,sSf,by omega,av⟩
 have F:=tD F
 refine zg rfl (zl (za (zn ?_)))
 refine WD4 ((fun TT L C=>WF [fun vals s=>Sep G W (L::C::TT) s,fun vals s=> ∃(e:Value),(vals 11=(.agg ((((d.types.getD k default).fields).getD q default).cells e).toArray:Value))∧Sep G W ((RowE (α:=Mv) own 143 e ((((d.types.getD k default).fields).getD q default).moves))::L::C::TT) s,fun vals s=> ∃(e:Value) (l:Nat),(vals 11=(.agg ((((d.types.getD k default).fields).getD q default).cells e).toArray:Value))∧(vals 12=((Iy l 1 1):Value))∧Sep G W ((Blk l ((((d.types.getD k default).fields).getD q default).cells e).toArray 106)::(RowE (α:=Mv) own 143 e ((((d.types.getD k default).fields).getD q default).moves))::L::C::TT) s,fun vals s=> ∃(e:Value) (l:Nat) (m:Value),(vals 11=(.agg ((((d.types.getD k default).fields).getD q default).cells e).toArray:Value))∧(vals 12=((Iy l 1 1):Value))∧(vals 13=(m:Value))∧Sep G W ((RowE (α:=Fld) own 106 m ((((d.types.getD k default).fields).take q)++[(((d.types.getD k default).fields).getD q default)]))::C::TT) s,fun vals s=> ∃(e:Value) (l:Nat) (m:Value),(vals 11=(.agg ((((d.types.getD k default).fields).getD q default).cells e).toArray:Value))∧(vals 12=((Iy l 1 1):Value))∧(vals 13=(m:Value))∧Sep G W ((RowE (α:=Fld) own 106 m ((((d.types.getD k default).fields).take q)++[(((d.types.getD k default).fields).getD q default)]))::(Blk z #[m] 74)::TT) s]) ((TypW vo 74 106 (d.types.take k))::(Blk u #[vo,(Iz)] 25)::(Blk E #[(Iz),(Iz)] 25)::(Blk b2 (d.cells dd0 dd1).toArray 25)::Rs) (RowE (α:=Fld) own 106 vq (((d.types.getD k default).fields).take q)) (Blk z #[vq] 74)) (AF [Vl 0 (Ix z 0),Vl 1 (vq),Vl 2 (Ix b2 0),Vl 3 (dd0),Vl 4 (Iw k),Vl 5 (Ix (sb dd0) (so dd0+k*1)),Vl 6 (Ix (sb dd0) (so dd0+k*1)),Vl 7 ((zN W (sb dd0) (so dd0+k*1+0))),Vl 8 (Iw q),Vl 9 (Ix (sb (zN W (sb dd0) (so dd0+k*1+0))) (so (zN W (sb dd0) (so dd0+k*1+0))+q*4)),Vl 10 (.agg ((((d.types.getD k default).fields).getD q default).cells (zN W (sb (zN W (sb dd0) (so dd0+k*1+0))) (so (zN W (sb dd0) (so dd0+k*1+0))+q*4+3))).toArray),fun _=>True,fun _=>True,fun _=>True,Vl 14 (Ix z 0),fun _=>True]) [[],[0],[],[2],[],[2,3,4],[2,3,4,5],[2,3,4,5,6],[],[2,3,4,5,6,7,8],[2,3,4,5,6,7,8,9],[2,3,4,5,6,7,8,9,10],[2,3,4,5,6,7,8,9,10,11],(rg 13),(rg 14),(rg 15)] [11,12,13,15] [(0,2),(0,2),(0,0),(0,0),(0,0),(0,0),(0,0),(0,0),(0,0),(0,0),(0,0),(0,0),(1,1),(2,2),(3,3),(3,3)] o ⟨fun _ _ _ _ _ _ _=>obl rfl (yS rfl dR),?_,fun _ _ _ _ _ _ _=>obl rfl (yC rfl dR),ob1 0 fun _ _ (bG:Sep _ _ _ _) bH=>obl rfl (lD dd0 lR (bH 2 dc) (zd (bG.b5) rfl) dR),fun _ _ _ _ _ _ _=>obl rfl (mV (Iw k) dR),?_,fun _ _ _ _ _ _ bI=>obl rfl (yS (bI 5 dc) dR),?_,fun _ _ _ _ _ _ _=>obl rfl (mV (Iw q) dR),?_,?_,?_,?_,?_,fun _ _ _ _ _ _ _=>obl rfl (yS rfl dR),?_,trivial⟩ ?_
 refine fun J _ _ cs ct X Y=>?_
 have hkk:=JP cs ct
 rcases hkk with rfl|rfl|rfl
 have bJ:Sep _ _ _ _:=X
 exact obl rfl (lD vq wT (Y 0 dc) (zd (bJ.b1) rfl) dR)
 obtain⟨e,p,bK⟩:=X
 exact obl rfl (lD vq wT (Y 0 dc) (zd (bK.b2) rfl) dR)
 obtain⟨e,l,p,B,bL⟩:=X
 exact obl rfl (lD vq wT (Y 0 dc) (zd (bL.b3) rfl) dR)
 refine ob1 0 fun _ _ _ aw=>(obl rfl ?_)
 have bM:k<d.types.length:=bo
 exact zj (k:=1) (i:=k) mR vT (aw 3 dc) hdd0.sl (aw 4 dc) bM dR
 refine ob1 0 fun _ _ (bN:Sep _ _ _ _) bO=>(obl rfl ?_)
 have aW:=bN.cells ab (hdd0.foot (ne_of_lt S))
 exact lD (zN W (sb dd0) (so dd0+k*1+0)) wT (bO 6 dc) (aW.get (j:=0) rfl) dR
 refine ob1 0 fun _ _ _ ax=>(obl rfl ?_)
 have bP:q<((d.types.getD k default).fields).length:=bo
 exact zj (k:=4) (i:=q) vR sT (ax 7 dc) g.sl (ax 8 dc) bP dR
 refine ob1 0 fun _ _ (bQ:Sep _ _ _ _) bR=>(obl rfl ?_)
 have ay:q<((d.types.getD k default).fields).length:=bo
 obtain⟨aX,ad,hoke494⟩:=g.fldD ay
 have hsm496:((((d.types.getD k default).fields).getD q default).moves).length*32≤140737488355328:=ad.small
 have aY:=bQ.cells aX (g.foot (ne_of_lt ay))
 exact zh (k:=4) rR sT rfl (bR 9 dc) aY dR
 refine ob1 0 fun vals _ (az:Sep _ _ _ _) bS=>(obl rfl ?_)
 have aA:q<((d.types.getD k default).fields).length:=bo
 obtain⟨aZ,K,aK⟩:=g.fldD aA
 have hsm349:((((d.types.getD k default).fields).getD q default).moves).length*32≤140737488355328:=K.small
 have hcw350:=az.cells aZ (g.foot (ne_of_lt aA))
 refine(zH (f:=123) (vals:=[.agg ((((d.types.getD k default).fields).getD q default).cells (zN W (sb (zN W (sb dd0) (so dd0+k*1+0))) (so (zN W (sb dd0) (so dd0+k*1+0))+q*4+3))).toArray]) (cap:=[]) rfl (yE ⟨(bS 10 dc),trivial⟩) Tryz.call123 (Qm (f:=(((d.types.getD k default).fields).getD q default)) K aK az) ?_)
 rintro _ w352 ⟨e,rfl,aB⟩
 have bT:=aB.r0
 have hr354s:_*32≤_:=bT.2
 exact fun A H t=>⟨(exiA e (zx H aB)),trivial⟩
 refine ob1 1 fun _ _ bU _=>?_
 obtain⟨e,p,bV⟩:=bU
 refine obl rfl ((zI (k:=4) (parts':=[(0,.agg ((((d.types.getD k default).fields).getD q default).cells e).toArray)]) (c:=((((d.types.getD k default).fields).getD q default).cells e).toArray) vR sT oY dc (Zi ⟨rfl,p,trivial⟩) kr ?_))
 intro w365 l bW
 exact fun A H t=>⟨(exiA e (exiA l (zx ((t 11 dc).trans p) (zx H (bV.new bW))))),trivial⟩
 refine ob1 2 fun _ _ bX bY=>?_
 obtain⟨e,l,p,B,aC⟩:=bX
 refine obl rfl ?_
 have ba:=aC.b0
 have aD:=aC.s8_cbdefgh
 have aE:q<((d.types.getD k default).fields).length:=bo
 obtain⟨bb,ae,aL⟩:=g.fldD aE
 have hsm383:((((d.types.getD k default).fields).getD q default).moves).length*32≤140737488355328:=ae.small
 have hcw384:=aD.cells bb (g.foot (ne_of_lt aE))
 refine(yj (src:=own) (bytes:=48) (x1:=(((d.types.getD k default).fields).getD q default)) aD el72 (bY 1 (by decide)) B ba (fun _ _ hN=>⟨_,rfl,RowE.soft hN,aL⟩) yqb rfl ?_)
 intro m w376 aF
 have bZ:=aF.r0
 have hr385s:_*48≤_:=bZ.2
 exact fun A H t=>⟨(exiA e (exiA l (exiA m (zx ((t 11 dc).trans p) (zx ((t 12 dc).trans B) (zx H aF)))))),trivial⟩
 refine ob1 3 fun _ _ ca cb=>?_
 obtain⟨e,l,m,p,B,Z,aa⟩:=ca
 refine obl rfl ?_
 have aG:=aa.r0
 have hr403s:_*48≤_:=aG.2
 refine(ym (v:=m) (c:=[vq]) (c':=[m]) Tryz.sizeOf72 (cb 14 dc) Z (aa.b1) aG.1.one rfl rfl ?_)
 intro w401 cc
 exact fun A H t=>⟨(exiA e (exiA l (exiA m (zx ((t 11 dc).trans p) (zx ((t 12 dc).trans B) (zx ((t 13 dc).trans Z) (aa.pt1 cc))))))),trivial⟩
 intro vals w504 cd hA506
 obtain⟨e,l,m,p,B,Z,aH⟩:=cd
 refine zT (kv:=[(1,Ix b2 0),(2,Ix E 0),(3,Ix u 0),(4,Iw k),(5,Ix z 0),(6,Iw q),(16,Iw q),(17,Ix b2 0),(18,dd0),(19,Iw k),(20,Ix (sb dd0) (so dd0+k*1)),(21,Ix (sb dd0) (so dd0+k*1)),(22,(zN W (sb dd0) (so dd0+k*1+0))),(23,Iw (((d.types.getD k default).fields).length)),(24,.bool true)]) sEv (fun ρw504=>(zb (R0 fun _=>st (mV (Iw q) ?_))))
 have ce:InR ((q+1:Nat):Int):=bo
 refine st (zP (r:=((q+1:Nat):Int)) (k:=.i64) (a:=((q:Nat):Int)) (b:=1) rfl rfl (by rw[show(((q:Nat):Int)+1:Int)=((q+1:Nat):Int)from bo];exact zF ce) (st (aS (Iw (q+1)) (zb ?_))))
 have cf:(((d.types.getD k default).fields).take (q+1))=(((d.types.getD k default).fields).take q)++[(((d.types.getD k default).fields).getD q default)]:=(List.take_getD om)
 rw[←cf]at aH
 exact⟨_,by omega,q+1,m,_,rfl,sSf,by omega,aH⟩
def rJ (d:Dcl)(e:Ev)(x:Ent):Bool:=on3 (e.typ,e.agg,e.field) x&&xf ((xX d e.typ).fields.getD e.field.toNat default) x.ev e
theorem Yd {p:Ent→Bool}{q:Ev→Bool}: ∀(T:List Ent),((T.filter p).map (·.ev)).find? q=(T.find? (fun x=>p x&&q x.ev)).map (·.ev)
 |[]=>rfl
 |x::T=>by
  have ih:=Yd (p:=p) (q:=q) T
  rw[List.filter_cons,List.find?_cons]
  cases hp:p x with
  |false=>simp[ih]
  |true=>
   simp only[if_true,List.map_cons,List.find?_cons,Bool.true_and]
   cases hq:q x.ev with
   |true=>rfl
   |false=>exact ih
theorem Qc {r:Ent→Bool}: ∀{T:List Ent} {j:Nat},j<T.length→r (T.getD j default)=true→(∀j',j'<j→r (T.getD j' default)=false)→T.find? r=some (T.getD j default)
 |[],j,hj,_,_=>absurd hj (Nat.not_lt_zero j)
 |x::T,0,_,h1,_=>by have h1:r x=true:=h1;rw[List.find?_cons,h1];rfl
 |x::T,j+1,hj,h1,h0=>by
  have hx:r x=false:=h0 0 (Nat.succ_pos _)
  rw[List.find?_cons,hx]
  exact Qc (by simpa using hj) h1 (fun i hi=>h0 (i+1) (by omega))
theorem zbJ {r:Ent→Bool}{T:List Ent}(h: ∀j,j<T.length→r (T.getD j default)=false):T.find? r=none:=by
 rw[List.find?_eq_none]
 intro x hx
 obtain⟨i,hi,rfl⟩:=List.getElem_of_mem hx
 have:=h i hi
 rw[zB _ hi]at this
 rw[this];decide
theorem KJ {d:Dcl}{l:List Ev}: ∀{i:Nat},i<l.length→(zD d l).getD i default=yA d ((zD d l).take i) (l.getD i default):=by
 induction l using YA with
 |h0=>intro i hi;exact absurd hi (Nat.not_lt_zero i)
 |h1 l e ih=>
  intro i hi
  rw[Zp]
  have hl:=ZL d l
  rw[List.length_append,List.length_singleton]at hi
  rcases Nat.lt_or_ge i l.length with h|h
  ·rw[List.getD_eq_getElem?_getD,List.getElem?_append_left (by omega),←List.getD_eq_getElem?_getD,ih h,List.take_append_of_le_length (by omega)]
   congr 1
   rw[List.getD_eq_getElem?_getD,List.getD_eq_getElem?_getD,List.getElem?_append_left h]
  ·have e1:i=l.length:=by omega
   subst e1
   rw[List.getD_eq_getElem?_getD,List.getElem?_append_right (by omega),hl,Nat.sub_self,List.take_append_of_le_length (by omega),List.take_of_length_le (by omega)]
   show yA d (zD d l) e=_
   congr 1
   rw[List.getD_eq_getElem?_getD,List.getElem?_append_right (Nat.le_refl _),Nat.sub_self];rfl
theorem zcU {d:Dcl}{l:List Ev}{i:Nat}(h:i<l.length):((zD d l).getD i default).ev=l.getD i default:=by rw[KJ h];rfl
theorem JF (d:Dcl)(l:List Ev)(n:Nat):zD d (l.take n)=(zD d l).take n:=by
 induction l using YA with
 |h0=>rw[List.take_nil,show zD d []=[]from rfl,List.take_nil]
 |h1 l e ih=>
  rcases Nat.lt_or_ge l.length n with h|h
  ·rw[List.take_of_length_le (by rw[List.length_append,List.length_singleton];omega),List.take_of_length_le (by rw[ZL,List.length_append,List.length_singleton];omega)]
  ·rw[List.take_append_of_le_length h,ih,Zp,List.take_append_of_le_length (by rw[ZL];exact h)]
theorem zck {d:Dcl}{ty ag:Int}(l:List Ev)(h: ¬yh (ty,ag) (zD d l)=0):0≤ty∧ty<d.types.length:=by
 induction l using YA with
 |h0=>exact absurd rfl h
 |h1 l e ih=>
  rw[Zp,Zm]at h
  split at h
  ·rename_i hx
   unfold onL at hx
   simp only[Bool.and_eq_true,Bool.not_eq_true',decide_eq_true_eq]at hx
   obtain⟨hv,ht,ha⟩:=hx
   obtain⟨hf,hm⟩:=Xy (d:=d) (L:=zD d l) (e:=e) hv
   obtain⟨f1,f2,_⟩:=Yb hf
   have ht':e.typ=ty:=ht
   subst ht'
   exact⟨f1,f2⟩
  ·exact ih h
theorem onL_raw {a b:Int}{x:Ent}:onL (a,b) x=(((!x.void)&&decide (x.ev.typ=a))&&decide (x.ev.agg=b)):=by
 unfold onL;cases x.void<;>simp[Bool.and_comm,Bool.decide_and]
theorem ver_t {k:Int×Int}{L:List Ent}{j:Nat}(hj:j<L.length)(h:onL k (L.getD j default)=true):yh k (L.take (j+1))=yh k (L.take j)+1:=by
 have e:L.take (j+1)=L.take j++[L.getD j default]:=by rw[List.take_add_one,List.getElem?_eq_getElem hj,List.getD_eq_getElem?_getD,List.getElem?_eq_getElem hj];rfl
 rw[e,Zm,if_pos h]
theorem ver_f {k:Int×Int}{L:List Ent}{j:Nat}(hj:j<L.length)(h:onL k (L.getD j default)=false):yh k (L.take (j+1))=yh k (L.take j):=by
 have e:L.take (j+1)=L.take j++[L.getD j default]:=by rw[List.take_add_one,List.getElem?_eq_getElem hj,List.getD_eq_getElem?_getD,List.getElem?_eq_getElem hj];rfl
 rw[e,Zm,h];rfl
end
end Go.Proofs.YtbcdijeggfoabaaGreatDoor
