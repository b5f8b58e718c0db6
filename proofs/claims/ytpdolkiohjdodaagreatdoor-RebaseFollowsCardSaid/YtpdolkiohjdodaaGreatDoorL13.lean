import Derived.Test.YtpdolkiohjdodaaGreatDoorL12
set_option maxRecDepth 8000
set_option maxHeartbeats 4000000
set_option linter.unusedSimpArgs false
set_option linter.unusedVariables false
set_option linter.unusedSectionVars false
set_option linter.deprecated false
open Go.Proofs.Tryz renaming isAgg3→kT,underlying26→lT,sizeOf57→mT,underlying42→nT,sizeOf55→oT,isAgg26→pT,isAgg25→qT,sizeOf25→rT,sizeOf48→sT,zeroValue48→tT,isAgg23→uT,underlying23→vT,sizeOf73→wT,isAgg48→kR,isAgg52→lR,sizeOf52→mR,call12→nR,call68→oR,isAgg55→pR,call69→qR,call45→rR,call50→sR,isAgg73→tR,results47→uR,isAgg46→vR,underlying46→wR,isAgg53→kY,call23→lY,sizeOf3→mY,underlying27→nY,call19→oY,call6→pY,results3→qY,sizeOf38→rY,call20→sY,call21→tY
namespace Go.Proofs.YtpdolkiohjdodaaGreatDoor
variable {G:Nat→Prop}{W w:World}{Rs:List HP}
section
open Go.Proofs Go.RowKit
theorem JF {b:Nat}{d:Dcl}{every:Nat}{evs:List Ev}{vl:Value}{l:List Ev}(hl:RdS W G vl l)(hS0:Sep G W ((RBase b d every evs)::Rs) w)(hfew:evs.length≤1000):Ret Tryz.prog 14 [.pointer (some ⟨b,0,none⟩),vl] w (fun r w'=>r=(.int .i64 (((l.length-yL every l evs):Nat):Int):Value)∧Sep G W ((RBase b d every l)::Rs) w'):=by
 have hls:_*96≤_:=hl.small
 refine zk (args:=[Ix b 0,vl]) Tryz.func14 rfl rfl ?_
 obtain⟨bL,m,q,j,bT⟩:=RBase.open hS0
 have X:Sep G W ((Blk b #[m,q,Iw every,j] 96)::(RowE (α:=Typ) own 83 m d.types)::(RowE (α:=Prj) own 73 q d.projs)::(RowE (α:=Ev) own 55 j evs)::Rs) w:=bT
 have bU:=X.r1
 have hr6s:_*24≤_:=bU.2
 have bV:=X.r2
 have hr7s:_*40≤_:=bV.2
 have bW:=X.r3
 have hr8s:_*96≤_:=bW.2
 refine za (R0 fun _=>st (aS (Iv 0) (zb (za ?_))))
 obtain⟨ah,bM,Y,bN,bO⟩:=(X.mv3).lend
 have s:=RowE.rd bM
 have hrd16s:_*96≤_:=s.small
 refine R0 fun _=>st (aS (Iv 0) (zb (za (zu (yd (fun mq σ wq=> ∃(p:Nat) (ρ:Env),mq=l.length-p∧σ=yg ρ [(0,Ix b 0),(1,vl),(4,Iv 0),(5,Iw p)]∧(p≤l.length∧p≤evs.length)∧(∀i,i<p→Zt (l.getD i default) (evs.getD i default))∧Sep ah w ((Blk b #[m,q,Iw every,j] 96)::(RowE (α:=Typ) own 83 m d.types)::(RowE (α:=Prj) own 73 q d.projs)::Rs) wq) ⟨0,_,rfl,sSf,⟨yc _,yc _⟩,(fun i h=>absurd h (yO i)),bN⟩ ?_)))))
 rintro m18 σ19 w17 ⟨p,ρl1,rfl,rfl,hpl,hsm,bP⟩
 refine za (za ?_)
 refine WD4 (WF [fun vals wq=>Sep ah w ((Blk b #[m,q,Iw every,j] 96)::(RowE (α:=Typ) own 83 m d.types)::(RowE (α:=Prj) own 73 q d.projs)::Rs) wq]) (AF [Vl 0 (Iw p),Vl 1 vl,Vl 2 (Iw l.length),Vl 3 (.bool (decide (((p:Nat):Int)<((l.length:Nat):Int)))),Vl 4 (.bool (decide (((p:Nat):Int)<((l.length:Nat):Int)))),Vl 5 (if(decide (((p:Nat):Int)<((l.length:Nat):Int)))=true then Iw p else undef),Vl 6 (if(decide (((p:Nat):Int)<((l.length:Nat):Int)))=true then Ix b 0 else undef),Vl 7 (if(decide (((p:Nat):Int)<((l.length:Nat):Int)))=true then Ix b 0 else undef),Vl 8 (if(decide (((p:Nat):Int)<((l.length:Nat):Int)))=true then Ix b 3 else undef),Vl 9 (if(decide (((p:Nat):Int)<((l.length:Nat):Int)))=true then j else undef),Vl 10 (if(decide (((p:Nat):Int)<((l.length:Nat):Int)))=true then Iw evs.length else undef),Vl 11 (if(decide (((p:Nat):Int)<((l.length:Nat):Int)))=true then .bool (decide (((p:Nat):Int)<((evs.length:Nat):Int)))else undef),Vl 12 (.bool ((decide (((p:Nat):Int)<((l.length:Nat):Int)))&&(decide (((p:Nat):Int)<((evs.length:Nat):Int))))),Vl 13 (.bool ((decide (((p:Nat):Int)<((l.length:Nat):Int)))&&(decide (((p:Nat):Int)<((evs.length:Nat):Int))))),Vl 14 (if((decide (((p:Nat):Int)<((l.length:Nat):Int)))&&(decide (((p:Nat):Int)<((evs.length:Nat):Int))))=true then vl else undef),Vl 15 (if((decide (((p:Nat):Int)<((l.length:Nat):Int)))&&(decide (((p:Nat):Int)<((evs.length:Nat):Int))))=true then Iw p else undef),Vl 16 (if((decide (((p:Nat):Int)<((l.length:Nat):Int)))&&(decide (((p:Nat):Int)<((evs.length:Nat):Int))))=true then Ix (sb vl) (so vl+p*10)else undef),Vl 17 (if((decide (((p:Nat):Int)<((l.length:Nat):Int)))&&(decide (((p:Nat):Int)<((evs.length:Nat):Int))))=true then Ix (sb vl) (so vl+p*10)else undef),Vl 18 (if((decide (((p:Nat):Int)<((l.length:Nat):Int)))&&(decide (((p:Nat):Int)<((evs.length:Nat):Int))))=true then .agg #[Iv ((l.getD p default).origin),Iv ((l.getD p default).seq)]else undef),Vl 19 (if((decide (((p:Nat):Int)<((l.length:Nat):Int)))&&(decide (((p:Nat):Int)<((evs.length:Nat):Int))))=true then Ix b 0 else undef),Vl 20 (if((decide (((p:Nat):Int)<((l.length:Nat):Int)))&&(decide (((p:Nat):Int)<((evs.length:Nat):Int))))=true then Ix b 0 else undef),Vl 21 (if((decide (((p:Nat):Int)<((l.length:Nat):Int)))&&(decide (((p:Nat):Int)<((evs.length:Nat):Int))))=true then Ix b 3 else undef),Vl 22 (if((decide (((p:Nat):Int)<((l.length:Nat):Int)))&&(decide (((p:Nat):Int)<((evs.length:Nat):Int))))=true then j else undef),Vl 23 (if((decide (((p:Nat):Int)<((l.length:Nat):Int)))&&(decide (((p:Nat):Int)<((evs.length:Nat):Int))))=true then Iw p else undef),Vl 24 (if((decide (((p:Nat):Int)<((l.length:Nat):Int)))&&(decide (((p:Nat):Int)<((evs.length:Nat):Int))))=true then Ix (sb j) (so j+p*10)else undef),Vl 25 (if((decide (((p:Nat):Int)<((l.length:Nat):Int)))&&(decide (((p:Nat):Int)<((evs.length:Nat):Int))))=true then Ix (sb j) (so j+p*10)else undef),Vl 26 (if((decide (((p:Nat):Int)<((l.length:Nat):Int)))&&(decide (((p:Nat):Int)<((evs.length:Nat):Int))))=true then .agg #[Iv ((evs.getD p default).origin),Iv ((evs.getD p default).seq)]else undef),Vl 27 (if((decide (((p:Nat):Int)<((l.length:Nat):Int)))&&(decide (((p:Nat):Int)<((evs.length:Nat):Int))))=true then .bool (decide ((l.getD p default).origin=(evs.getD p default).origin∧(l.getD p default).seq=(evs.getD p default).seq))else undef),Vl 28 (.bool (((decide (((p:Nat):Int)<((l.length:Nat):Int)))&&(decide (((p:Nat):Int)<((evs.length:Nat):Int))))&&(decide ((l.getD p default).origin=(evs.getD p default).origin∧(l.getD p default).seq=(evs.getD p default).seq))))]) [[],[],[1],[0,1,2],(rg 4),(rg 5),(rg 5),[0,1,2,3,4,6],[0,1,2,3,4,6,7],[0,1,2,3,4,6,7,8],[0,1,2,3,4,6,7,8,9],(rg 11),(rg 12),(rg 13),(rg 14),(rg 14),(rg 16),(rg 17),(rg 18),(rg 14),[0,1,2,3,4,5,6,7,8,9,10,11,12,13,19],[0,1,2,3,4,5,6,7,8,9,10,11,12,13,19,20],[0,1,2,3,4,5,6,7,8,9,10,11,12,13,19,20,21],(rg 14),[0,1,2,3,4,5,6,7,8,9,10,11,12,13,19,20,21,22,23],[0,1,2,3,4,5,6,7,8,9,10,11,12,13,19,20,21,22,23,24],[0,1,2,3,4,5,6,7,8,9,10,11,12,13,19,20,21,22,23,24,25],(rg 27),(rg 28)] [] [(0,0),(0,0),(0,0),(0,0),(0,0),(0,0),(0,0),(0,0),(0,0),(0,0),(0,0),(0,0),(0,0),(0,0),(0,0),(0,0),(0,0),(0,0),(0,0),(0,0),(0,0),(0,0),(0,0),(0,0),(0,0),(0,0),(0,0),(0,0),(0,0)] bP ⟨fun _ _ _ _ _ _ _=>obl rfl (mV (Iw p) dR),fun _ _ _ _ _ _ _=>obl rfl (mV vl dR),ob1 0 fun _ _ _ aK=>obl rfl (zF (n:=l.length) lT (aK 1 dc) (zS hl Y).sl dR),ob1 0 fun _ _ _ ai=>obl rfl (zL (k:=.i64) (a:=((p:Nat):Int)) (b:=((l.length:Nat):Int)) (ai 0 dc) (ai 2 dc) dR),fun _ _ _ _ _ _ aL=>obl rfl (zN (v:=.bool (decide (((p:Nat):Int)<((l.length:Nat):Int)))) (aL 3 dc) dR),?_,?_,?_,?_,?_,?_,?_,fun _ _ _ _ _ _ aj=>obl rfl (zv (b:=decide (((p:Nat):Int)<((l.length:Nat):Int))) (b':=decide (((p:Nat):Int)<((evs.length:Nat):Int))) (aj 4 dc) (fun hbp=>(zn (aj 11 dc) (ifpC hbp))) dR),fun _ _ _ _ _ _ aM=>obl rfl (zN (v:=.bool ((decide (((p:Nat):Int)<((l.length:Nat):Int)))&&(decide (((p:Nat):Int)<((evs.length:Nat):Int))))) (aM 12 dc) dR),?_,?_,?_,?_,?_,?_,?_,?_,?_,?_,?_,?_,?_,?_,fun _ _ _ _ _ _ ak=>obl rfl (zv (b:=(decide (((p:Nat):Int)<((l.length:Nat):Int)))&&(decide (((p:Nat):Int)<((evs.length:Nat):Int)))) (b':=decide ((l.getD p default).origin=(evs.getD p default).origin∧(l.getD p default).seq=(evs.getD p default).seq)) (ak 13 dc) (fun hbp=>(zn (ak 27 dc) (ifpC hbp))) dR),zl⟩ ?_
 refine fun _ _ _ _ _ _ aN=>(zJ rfl rfl (aN 4 dc) (fun M=>?_) zZ)
 have hl351:=tD M
 exact mV (Iw p) (zY M)
 refine fun _ _ _ _ _ _ aO=>(zJ rfl rfl (aO 4 dc) (fun N=>?_) zZ)
 have hl360:=tD N
 exact mV (Ix b 0) (zY N)
 refine fun _ _ _ _ _ _ al=>(zJ rfl rfl (al 4 dc) (fun z=>?_) zZ)
 have hl370:=tD z
 exact zj (b:=b) (o:=0) (zn (al 6 dc) (ifpC z)) (zY z)
 refine fun _ _ _ _ _ _ am=>(zJ rfl rfl (am 4 dc) (fun A=>?_) zZ)
 have hl380:=tD A
 exact Yy (zn (am 7 dc) (ifpC A)) (zY A)
 refine ob1 0 fun _ _ (aP:Sep _ _ _ _) an=>(zJ rfl rfl (an 4 dc) (fun B=>?_) zZ)
 have hl391:=tD B
 exact lD j pT (zn (an 8 dc) (ifpC B)) (zd (aP.b0) rfl) (zY B)
 refine ob1 0 fun _ _ _ ao=>(zJ rfl rfl (ao 4 dc) (fun C=>?_) zZ)
 have hl402:=tD C
 exact zF (n:=evs.length) lT (zn (ao 9 dc) (ifpC C)) s.sl (zY C)
 refine ob1 0 fun _ _ _ Z=>(zJ rfl rfl (Z 4 dc) (fun t=>?_) zZ)
 have hl414:=tD t
 exact zL (k:=.i64) (a:=((p:Nat):Int)) (b:=((evs.length:Nat):Int)) (zn (Z 5 dc) (ifpC t)) (zn (Z 10 dc) (ifpC t)) (zY t)
 refine fun _ _ _ _ _ _ aQ=>(zJ rfl rfl (aQ 13 dc) (fun O=>?_) zZ)
 have aR:=O
 try simp only[zh]at aR
 exact mV vl (zY O)
 refine fun _ _ _ _ _ _ aT=>(zJ rfl rfl (aT 13 dc) (fun P=>?_) zZ)
 have aU:=P
 try simp only[zh]at aU
 exact mV (Iw p) (zY P)
 refine ob1 0 fun _ _ _ aa=>(zJ rfl rfl (aa 13 dc) (fun u=>?_) zZ)
 have aV:=u
 try simp only[zh]at aV
 have aW:p<l.length:=bo
 exact zg (k:=10) (i:=p) lT oT (zn (aa 14 dc) (ifpC u)) (zS hl Y).sl (zn (aa 15 dc) (ifpC u)) aW (zY u)
 refine fun _ _ _ _ _ _ ap=>(zJ rfl rfl (ap 13 dc) (fun D=>?_) zZ)
 have aX:=D
 try simp only[zh]at aX
 exact xc (zn (ap 16 dc) (ifpC D)) (zY D)
 refine ob1 0 fun _ _ (aY:Sep _ _ _ _) aq=>(zJ rfl rfl (aq 13 dc) (fun E=>?_) zZ)
 have aZ:=E
 try simp only[zh]at aZ
 have ar:p<l.length:=bo
 obtain⟨aD,af,hoke482⟩:=(zS hl Y).evD ar
 have hsm484:((l.getD p default).deps).length*8≤140737488355328:=af.small
 have aE:=aY.cells aD ((zS hl Y).foot (ne_of_lt ar))
 exact zi (k:=2) (cs:=[Iv ((l.getD p default).origin),Iv ((l.getD p default).seq)]) lR mR rfl (zn (aq 17 dc) (ifpC E)) (CellsAt.sub aE 0 (cs2:=[Iv ((l.getD p default).origin),Iv ((l.getD p default).seq)]) rfl) (zY E)
 refine fun _ _ _ _ _ _ ba=>(zJ rfl rfl (ba 13 dc) (fun Q=>?_) zZ)
 have bb:=Q
 try simp only[zh]at bb
 exact mV (Ix b 0) (zY Q)
 refine fun _ _ _ _ _ _ au=>(zJ rfl rfl (au 13 dc) (fun F=>?_) zZ)
 have bc:=F
 try simp only[zh]at bc
 exact zj (b:=b) (o:=0) (zn (au 19 dc) (ifpC F)) (zY F)
 refine fun _ _ _ _ _ _ av=>(zJ rfl rfl (av 13 dc) (fun H=>?_) zZ)
 have bd:=H
 try simp only[zh]at bd
 exact Yy (zn (av 20 dc) (ifpC H)) (zY H)
 refine ob1 0 fun _ _ (be:Sep _ _ _ _) aw=>(zJ rfl rfl (aw 13 dc) (fun I=>?_) zZ)
 have bf:=I
 try simp only[zh]at bf
 exact lD j pT (zn (aw 21 dc) (ifpC I)) (zd (be.b0) rfl) (zY I)
 refine fun _ _ _ _ _ _ bg=>(zJ rfl rfl (bg 13 dc) (fun R=>?_) zZ)
 have bh:=R
 try simp only[zh]at bh
 exact mV (Iw p) (zY R)
 refine ob1 0 fun _ _ _ ab=>(zJ rfl rfl (ab 13 dc) (fun x=>?_) zZ)
 have bi:=x
 try simp only[zh]at bi
 have bj:p<evs.length:=bo
 exact zg (k:=10) (i:=p) lT oT (zn (ab 22 dc) (ifpC x)) s.sl (zn (ab 23 dc) (ifpC x)) bj (zY x)
 refine fun _ _ _ _ _ _ ax=>(zJ rfl rfl (ax 13 dc) (fun J=>?_) zZ)
 have bk:=J
 try simp only[zh]at bk
 exact xc (zn (ax 24 dc) (ifpC J)) (zY J)
 refine ob1 0 fun _ _ (bl:Sep _ _ _ _) ay=>(zJ rfl rfl (ay 13 dc) (fun K=>?_) zZ)
 have bm:=K
 try simp only[zh]at bm
 have az:p<evs.length:=bo
 obtain⟨aF,ag,hoke569⟩:=s.evD az
 have hsm571:((evs.getD p default).deps).length*8≤140737488355328:=ag.small
 have aG:=bl.cells aF (s.foot (ne_of_lt az))
 exact zi (k:=2) (cs:=[Iv ((evs.getD p default).origin),Iv ((evs.getD p default).seq)]) lR mR rfl (zn (ay 25 dc) (ifpC K)) (CellsAt.sub aG 0 (cs2:=[Iv ((evs.getD p default).origin),Iv ((evs.getD p default).seq)]) rfl) (zY K)
 refine ob1 0 fun _ _ _ ac=>(zJ rfl rfl (ac 13 dc) (fun y=>?_) zZ)
 have bn:=y
 try simp only[zh]at bn
 exact ZM (e:=decide ((l.getD p default).origin=(evs.getD p default).origin∧(l.getD p default).seq=(evs.getD p default).seq)) (xs:=#[Iv ((l.getD p default).origin),Iv ((l.getD p default).seq)]) (ys:=#[Iv ((evs.getD p default).origin),Iv ((evs.getD p default).seq)]) KK (zn (ac 18 dc) (ifpC y)) (zn (ac 26 dc) (ifpC y)) (zY y)
 intro vals w593 bp bq
 have S:Sep _ _ _ _:=bp
 have bQ:=bq 28 dc
 refine yi (kv:=[(0,Ix b 0),(1,vl),(4,Iv 0),(5,Iw p),(35,.bool (((decide (((p:Nat):Int)<((l.length:Nat):Int)))&&(decide (((p:Nat):Int)<((evs.length:Nat):Int))))&&(decide ((l.getD p default).origin=(evs.getD p default).origin∧(l.getD p default).seq=(evs.getD p default).seq))))]) ⟨rfl,rfl,rfl,rfl,(by exact bQ),zl⟩ (fun ρw593=>(zb ?_))
 cases T:((decide (((p:Nat):Int)<((l.length:Nat):Int)))&&(decide (((p:Nat):Int)<((evs.length:Nat):Int))))&&(decide ((l.getD p default).origin=(evs.getD p default).origin∧(l.getD p default).seq=(evs.getD p default).seq))
 have V:=T
 try simp only[zh]at T
 have aH:YD l evs=p:=Vv hpl.1 hpl.2 hsm (fun h1 h2 h3=>by
  have h9:=V
  rw[decide_eq_true (show(p:Int)<((l.length:Nat):Int) by omega),decide_eq_true (show(p:Int)<((evs.length:Nat):Int) by omega),Bool.true_and,Bool.true_and]at h9
  exact fD h9 h3)
 have hdm9:p/every*every≤p:=Nat.div_mul_le_self ..
 have hdq9:p/every≤p:=Nat.div_le_self ..
 have hdz9:(0:Int)≤((p/every:Nat):Int):=Int.natCast_nonneg _
 have hdy9:(0:Int)≤((p/every*every:Nat):Int):=Int.natCast_nonneg _
 refine ze rfl (ye (zT (za (R0 fun _=>st (mV (Iw p) (st (aS (Iw p) (zb (za (za (R0 fun _=>st (mV (Iw p) (st (mV (Ix b 0) (st (zj (b:=b) (o:=0) rfl (st (Yy rfl (st (lD j pT rfl (zd (S.b0) rfl) (st (zF (n:=evs.length) lT rfl s.sl (st (zL (k:=.i64) (a:=((p:Nat):Int)) (b:=((evs.length:Nat):Int)) rfl rfl (zb (Yn (fun σ wq=> ∃(L:Nat) (ρ:Env),σ=yg ρ [(0,Ix b 0),(1,vl),(4,Iv 0),(6,Iw L)]∧(L=yL every l evs∧L≤l.length)∧Sep ah w ((Blk b #[m,q,Iw every,j] 96)::(RowE (α:=Typ) own 83 m d.types)::(RowE (α:=Prj) own 73 q d.projs)::Rs) wq) ?_ ?_))))))))))))))))))))))))))
 cases U:decide (((p:Nat):Int)<((evs.length:Nat):Int))
 have U:=fD U
 refine ze rfl (zr ?_)
 exact⟨rfl,p,_,yC ⟨(show _=(Ix b 0:Value)from rfl),(show _=(vl:Value)from rfl),(show _=(Iv 0:Value)from rfl),(show _=(Iw p:Value)from rfl),zl⟩,⟨(Qr aH om).symm,by omega⟩,S⟩
 have U:=tD U
 refine zf rfl ?_
 refine WD4 (WF [fun vals wq=>Sep ah w ((Blk b #[m,q,Iw every,j] 96)::(RowE (α:=Typ) own 83 m d.types)::(RowE (α:=Prj) own 73 q d.projs)::Rs) wq]) (AF [Vl 0 (Iw p),Vl 1 (Ix b 0),Vl 2 (Ix b 0),Vl 3 (Ix b 2),Vl 4 (Iw every),Vl 5 (Iw (p/every)),Vl 6 (Ix b 0),Vl 7 (Ix b 0),Vl 8 (Ix b 2),Vl 9 (Iw every),Vl 10 (Iw ((p/every)*every)),Vl 11 (Iw ((p/every)*every))]) [[],[],[1],[1,2],[1,2,3],(rg 5),[],[6],[6,7],[6,7,8],(rg 10),(rg 11)] [] [(0,0),(0,0),(0,0),(0,0),(0,0),(0,0),(0,0),(0,0),(0,0),(0,0),(0,0),(0,0)] S ⟨fun _ _ _ _ _ _ _=>obl rfl (mV (Iw p) dR),fun _ _ _ _ _ _ _=>obl rfl (mV (Ix b 0) dR),fun _ _ _ _ _ _ br=>obl rfl (zj (b:=b) (o:=0) (br 1 (by decide)) dR),fun _ _ _ _ _ _ bs=>obl rfl (JX (bs 2 (by decide)) dR),ob1 0 fun _ _ (bt:Sep _ _ _ _) bu=>obl rfl (lD (Iw every) kT (bu 3 (by decide)) (zd (bt.b0) rfl) dR),ob1 0 fun _ _ _ aA=>obl rfl (Ke (r:=((p/every:Nat):Int)) (aA 0 (by decide)) (aA 4 (by decide)) (by omega) (by rw[show Int.tdiv (((p:Nat):Int)) (((every:Nat):Int))=((p/every:Nat):Int)from(Int.ofNat_tdiv _ _).symm];exact zz (by omega)) dR),fun _ _ _ _ _ _ _=>obl rfl (mV (Ix b 0) dR),fun _ _ _ _ _ _ bv=>obl rfl (zj (b:=b) (o:=0) (bv 6 (by decide)) dR),fun _ _ _ _ _ _ bw=>obl rfl (JX (bw 7 (by decide)) dR),ob1 0 fun _ _ (bx:Sep _ _ _ _) bz=>obl rfl (lD (Iw every) kT (bz 8 (by decide)) (zd (bx.b0) rfl) dR),?_,fun _ _ _ _ _ _ bA=>obl rfl (zM (v:=Iw ((p/every)*every)) (bA 10 (by decide)) dR),zl⟩ ?_
 refine ob1 0 fun _ _ _ aB=>(obl rfl ?_)
 have bB:InR (((p/every)*every:Nat):Int):=bo
 exact Ul (r:=(((p/every)*every:Nat):Int)) (k:=.i64) (a:=((p/every:Nat):Int)) (b:=((every:Nat):Int)) (aB 5 (by decide)) (aB 9 (by decide)) (by rw[show(((p/every:Nat):Int)*((every:Nat):Int):Int)=(((p/every)*every:Nat):Int)from bo];exact zz bB) dR
 intro vals w776 bC bD
 have bE:Sep _ _ _ _:=bC
 have bR:=bD 11 dc
 refine yi (kv:=[(0,Ix b 0),(1,vl),(4,Iv 0),(5,Iw p),(35,.bool false),(38,Iw p),(6,Iw ((p/every)*every)),(39,Iw p),(40,Ix b 0),(41,Ix b 0),(42,Ix b 3),(43,j),(44,Iw evs.length),(45,.bool true)]) ⟨rfl,rfl,rfl,rfl,rfl,rfl,(by exact bR),rfl,rfl,rfl,rfl,rfl,rfl,rfl,zl⟩ (fun ρw776=>(zb ?_))
 exact⟨rfl,p/every*every,_,yC ⟨(show _=(Ix b 0:Value)from rfl),(show _=(vl:Value)from rfl),(show _=(Iv 0:Value)from rfl),(show _=(Iw ((p/every)*every):Value)from rfl),zl⟩,⟨(VT aH om).symm,by omega⟩,bE⟩
 rintro _ w781 ⟨L,ρj1,rfl,bX,bF⟩
 refine za ?_
 have bG:=bO _ _ bF
 refine R0 fun _=>st (mV (Ix b 0) (st (mV vl (st (cL nR (XK (l:=l) (vl:=vl) hl bG) ?_)))))
 rintro aJ w785 ⟨_,rfl,ad⟩
 have aC:=ad.r0
 have hr787s:_*96≤_:=aC.2
 refine st (zj (b:=b) (o:=0) rfl (st (Yy rfl (stn (ym (v:=aJ) (c:=[m,q,Iw every,j]) (c':=[m,q,Iw every,aJ]) Tryz.sizeOf26 rfl rfl (ad.b2) aC.1.one rfl rfl ?_)))))
 intro bS bH
 refine zb (za (R0 fun _=>st (mV vl (st (zF (n:=l.length) lT rfl hl.sl (st (mV (Iw L) ?_)))))))
 have bI:InR ((l.length-L:Nat):Int):=bo
 refine st (ZN (r:=((l.length-L:Nat):Int)) (k:=.i64) (a:=((l.length:Nat):Int)) (b:=((L:Nat):Int)) rfl rfl (by rw[show(((l.length:Nat):Int)-((L:Nat):Int):Int)=((l.length-L:Nat):Int)from bo];exact zz bI) (st (aS (Iw (l.length-L)) (zb (zp (zU Tryz.results14 (show _=(Iw (l.length-L):Value)from rfl) ?_))))))
 have bJ:Sep G W ((RBase b d every l)::(RowE (α:=Ev) own 55 j evs)::Rs) bS:=RBase.close (d:=d) (every:=every) (evs:=l) bL ((ad.pt2 bH).s5_cdeab)
 refine⟨?_,(bJ.s2_a)⟩
 rw[bX.1]
 have V:=T
 try simp only[zh]at T
 refine zf rfl (zr (zu (R0 fun _=>st (mV (Iw p) ?_))))
 have bK:InR ((p+1:Nat):Int):=bo
 refine st (zR (r:=((p+1:Nat):Int)) (k:=.i64) (a:=((p:Nat):Int)) (b:=1) rfl rfl (by rw[show(((p:Nat):Int)+1:Int)=((p+1:Nat):Int)from bo];exact zz bK) (st (aS (Iw (p+1)) (zb ?_))))
 exact⟨_,by omega,p+1,_,rfl,sSf,⟨by omega,by omega⟩,(xe hsm (by have h9:=V;simp only[Bool.and_eq_true,decide_eq_true_eq]at h9;exact h9.2)),S⟩
theorem WT (d:Dcl)(l:List Ev):Ran d (zq d l):=⟨l,rfl⟩
theorem Vi {d:Dcl}{dd0:Value}(hdd0:RdS W G dd0 d.types){dd1:Value}(hdd1:RdS W G dd1 d.projs)(od:d.Ok){vl:Value}{l:List Ev}(hl:RdS W G vl l)(hS0:Sep G W Rs w)(hd:DclOk d)(hfew:l.length≤1000):Ret Tryz.prog 45 [.agg (d.cells dd0 dd1).toArray,vl] w (fun r w'=> ∃(b:Nat),r=(.pointer (some ⟨b,0,none⟩):Value)∧Sep G W ((RefV b d (zq d l))::Rs) w'):=by
 refine zk Tryz.func45 rfl rfl ?_
 refine za (R0 fun _=>st (zW rfl ?_))
 intro w3 b2 B
 have u:=hS0.new B
 refine st (aS (.pointer none) (zb (za (R0 fun _=>st (zi qT rT rfl rfl (zo (u.b0)) (st (cL oR (WS hdd0 hdd1 od u) ?_)))))))
 rintro _ w6 ⟨g,rfl,C⟩
 refine st (aS (Ix g 0) (zb (za (za (R0 fun _=>st (aS (Iv 0) (zb (zu (yd (fun mq σ D=> ∃k ρ,mq=l.length-k∧σ=yg ρ [(1,vl),(2,Ix b2 0),(5,Ix g 0),(6,Iw k)]∧(k≤l.length)∧Sep G W ((RefV g d (zq d (l.take k)))::(Blk b2 (d.cells dd0 dd1).toArray 25)::Rs) D) ⟨0,_,rfl,sSf,yc _,C⟩ ?_)))))))))
 rintro m9 σ10 w8 ⟨k,ρl1,rfl,rfl,hkk,h⟩
 refine za (za (R0 fun _=>st (mV (Iw k) (st (mV vl (st (zF lT rfl hl.sl (st (zL rfl rfl (zb ?_))))))))))
 cases f:decide (((k:Nat):Int)<((l.length:Nat):Int))
 have f:=fD f
 refine ze rfl (ye (zT (za (R0 fun _=>st (mV (Ix g 0) (st (aS (Ix g 0) (zb (zp (zU Tryz.results45 (show _=(Ix g 0:Value)from rfl) ?_))))))))))
 have j:=h.s2_a
 have hkn:k=l.length:=by omega
 rw[hkn,List.take_length]at j
 refine⟨g,rfl,j⟩
 have f:=tD f
 refine zf rfl (zr (za (zu (R0 fun _=>st (mV (Ix g 0) (st (mV vl (st (mV (Iw k) ?_)))))))))
 have x:k<l.length:=bo
 refine st (zg (k:=10) lT oT rfl hl.sl rfl x ?_)
 have m:k<l.length:=bo
 obtain⟨s,c,o⟩:=hl.evD m
 have t:=h.cells s (hl.foot (ne_of_lt m))
 refine st (zi pR oT rfl rfl t (st (cL qR (UZ c o h hd (⟨_,rfl⟩) ((by rw[xp,List.length_take];omega))) ?_)))
 rintro _ w21 ⟨v19,rfl,hok20,p⟩
 have y:=p.r1
 refine zb (R0 fun _=>st (mV (Iw k) ?_))
 have z:InR ((k+1:Nat):Int):=bo
 refine st (zR (r:=((k+1:Nat):Int)) rfl rfl (by rw[show(((k:Nat):Int)+1:Int)=((k+1:Nat):Int)from bo];exact zz z) (st (aS (Iw (k+1)) (zb ?_))))
 have q:=p.s3_ac
 have A:(zq d (l.take (k+1)))=((zq d (l.take k))++[ya d (zq d (l.take k)) (l.gd k)]):=(XU om)
 rw[←A]at q
 exact⟨_,by omega,k+1,_,rfl,sSf,by omega,q⟩
theorem Qx {b:Nat}{d:Dcl}{every:Nat}{evs:List Ev}(hb:(RBase b d every evs).p W G){ty:Int}(hty:InR ty){no:Int}(hno:InR no)(hS0:Sep G W Rs w)(hd:DclOk d)(hfew:evs.length≤1000):Ret Tryz.prog 21 [.pointer (some ⟨b,0,none⟩),.int .i64 (ty),.int .i64 (no)] w (fun r w'=> ∃(v:Value),r=(.tuple #[.agg ((yA d (ty,no) (zq d evs)).cells v).toArray,.bool ((zm d (zq d evs) (ty,no)).isSome)]:Value)∧Sep G W ((RowE (α:=Cel) own 105 v (stL d (ty,no) (zq d evs)))::Rs) w'):=by
 refine zk (args:=[Ix b 0,Iv ty,Iv no]) Tryz.func21 rfl rfl ?_
 obtain⟨hev1,t,u,x,aj,ak,al,am⟩:=RBase.sh hb
 have hsm9:d.types.length*24≤140737488355328:=ak.small
 have hsm10:d.projs.length*40≤140737488355328:=al.small
 have hsm11:evs.length*96≤140737488355328:=am.small
 refine za (R0 fun _=>st (zB tT ?_))
 intro w14 y an
 refine st (aS (.bool false) (zb (za ?_)))
 refine WD4 ((fun F=>WF [fun vals s=>Sep G W (F::Rs) s,fun vals s=> ∃(c:Nat),(vals 8=(Ix c 0:Value))∧Sep G W ((RefV c d (zq d evs))::F::Rs) s,fun vals s=> ∃(c:Nat) (a:Value),(vals 8=(Ix c 0:Value))∧(vals 11=(.tuple #[.agg ((yA d (ty,no) (zq d evs)).cells a).toArray,.bool ((zm d (zq d evs) (ty,no)).isSome)]:Value))∧Sep G W ((RefV c d (zq d evs))::(RowE (α:=Cel) own 105 a (stL d (ty,no) (zq d evs)))::F::Rs) s,fun vals s=> ∃(c:Nat) (a:Value),(vals 8=(Ix c 0:Value))∧(vals 11=(.tuple #[.agg ((yA d (ty,no) (zq d evs)).cells a).toArray,.bool ((zm d (zq d evs) (ty,no)).isSome)]:Value))∧Sep G W ((RefV c d (zq d evs))::(RowE (α:=Cel) own 105 a (stL d (ty,no) (zq d evs)))::(Blk y ((yA d (ty,no) (zq d evs)).cells a).toArray 48)::Rs) s]) (Blk y #[Iv 0,(Iz)] 48)) (AF [Vl 0 (Ix b 0),Vl 1 (Ix b 0),Vl 2 (Ix b 0),Vl 3 (.agg (d.cells t u).toArray),Vl 4 (Ix b 0),Vl 5 (Ix b 0),Vl 6 (Ix b 3),Vl 7 x,fun _=>True,Vl 9 (Iv ty),Vl 10 (Iv no),fun _=>True,fun vals=> ∀(a:Value),vals 11=(.tuple #[.agg ((yA d (ty,no) (zq d evs)).cells a).toArray,.bool ((zm d (zq d evs) (ty,no)).isSome)]:Value)→vals 12=(.agg ((yA d (ty,no) (zq d evs)).cells a).toArray:Value),Vl 13 (.bool ((zm d (zq d evs) (ty,no)).isSome)),fun _=>True,Vl 15 (.bool ((zm d (zq d evs) (ty,no)).isSome))]) [[],[0],[0,1],[0,1,2],[],[4],[4,5],[4,5,6],(rg 8),[],[],(rg 11),(rg 12),(rg 12),(rg 14),(rg 15)] [8,11,14] [(0,0),(0,0),(0,0),(0,0),(0,0),(0,0),(0,0),(0,0),(0,0),(0,1),(0,1),(1,1),(2,2),(2,2),(2,2),(3,3)] (hS0.new an) ⟨fun _ _ _ _ _ _ _=>obl rfl (mV (Ix b 0) dR),fun _ _ _ _ _ _ I=>obl rfl (zj (b:=b) (o:=0) (I 0 dc) dR),fun _ _ _ _ _ _ J=>obl rfl (Vg (J 1 dc) dR),?_,fun _ _ _ _ _ _ _=>obl rfl (mV (Ix b 0) dR),fun _ _ _ _ _ _ K=>obl rfl (zj (b:=b) (o:=0) (K 4 dc) dR),fun _ _ _ _ _ _ L=>obl rfl (Yy (L 5 dc) dR),ob1 0 fun _ _ (M:Sep _ _ _ _) N=>obl rfl (lD x pT (N 6 dc) (zd (M.gblk aj) rfl) dR),?_,fun _ _ _ _ _ _ _=>obl rfl (mV (Iv ty) dR),fun _ _ _ _ _ _ _=>obl rfl (mV (Iv no) dR),?_,?_,?_,?_,fun _ _ _ _ _ _ O=>obl rfl (zM (v:=.bool ((zm d (zq d evs) (ty,no)).isSome)) (O 13 dc) dR),zl⟩ ?_ (hlocA:=xv ⟨dA,dA,dA,dA,dA,dA,dA,dA,dT,dA,dA,dT,fun vals j n h=>fun a z=>(n 12 (.inl rfl)).trans (h a ((n 11 (.inr dc)).symm.trans z)),dA,dT,dA,zl⟩)
 refine ob1 0 fun _ _ (P:Sep _ _ _ _) Q=>(obl rfl ?_)
 have ok190:Dcl.Ok d:=⟨⟩
 exact zi (k:=2) (cs:=[t,u]) qT rT rfl (Q 2 dc) (CellsAt.sub (zo (P.gblk aj)) 0 (cs2:=[t,u]) rfl) dR
 refine ob1 0 fun vals _ (ao:Sep _ _ _ _) H=>(obl rfl ((zV (f:=45) (vals:=[.agg (d.cells t u).toArray,x]) (cap:=[]) rfl (yM ⟨(H 3 dc),(H 7 dc),zl⟩) rR (Vi (d:=d) (l:=evs) (vl:=x) ak al (⟨⟩:Dcl.Ok d) am ao hd hfew) ?_)))
 rintro _ w83 ⟨c,rfl,ap⟩
 exact fun j n m=>⟨(exiA c (zA n ap)),zl⟩
 refine ob1 1 fun vals _ R A=>?_
 obtain⟨c,g,S⟩:=R
 refine obl rfl ?_
 obtain⟨G107,B,hB110,T,U⟩:=S.lend
 obtain⟨vt113,vp114,ve115,hb116,V,X,Y⟩:=RefV.sh B
 have hsm120:d.types.length*24≤140737488355328:=V.small
 have hsm121:d.projs.length*40≤140737488355328:=X.small
 have hsm122:(zq d evs).length*120≤140737488355328:=Y.small
 refine(zV (f:=50) (vals:=[Ix c 0,Iv ty,Iv no]) (cap:=[]) rfl (yM ⟨g,(A 9 (by decide)),(A 10 (by decide)),zl⟩) sR (Xn (ty:=ty) (no:=no) B (by omega) (by omega) T hd ((WT _ _)) ((by rw[xp];omega))) ?_)
 rintro _ w124 ⟨a,rfl,C⟩
 have Z:=C.r0
 have hr126s:_*32≤_:=Z.2
 have aa:=U _ _ C
 exact fun j n m=>⟨(exiA c (exiA a (zA ((m 8 dc).trans g) (zA n aa)))),zl⟩
 refine ob1 2 fun _ _ ab _=>?_
 obtain⟨c,a,g,e,hS237⟩:=ab
 refine obl rfl (zH (vs:=[.agg ((yA d (ty,no) (zq d evs)).cells a).toArray,.bool ((zm d (zq d evs) (ty,no)).isSome)]) (i:=0) (v:=.agg ((yA d (ty,no) (zq d evs)).cells a).toArray) e rfl (fun j n m=>⟨rfl,?_⟩))
 intro v123q z
 rw[m 11 (by decide)]at z;cases e.symm.trans z
 exact n
 refine ob1 2 fun _ _ ac _=>?_
 obtain⟨c,a,g,e,hS244⟩:=ac
 exact obl rfl (zH (vs:=[.agg ((yA d (ty,no) (zq d evs)).cells a).toArray,.bool ((zm d (zq d evs) (ty,no)).isSome)]) (i:=1) (v:=.bool ((zm d (zq d evs) (ty,no)).isSome)) e rfl dR)
 refine ob1 2 fun vals _ ad ae=>?_
 obtain⟨c,a,g,e,q⟩:=ad
 let p:=(yA d (ty,no) (zq d evs)).cells a
 have aq:vals 12=(.agg p.toArray:Value):=ae 12 dc a e
 refine obl rfl ?_
 have D:=q.r1
 have hr153s:_*32≤_:=D.2
 refine(zw (v:=.agg p.toArray) (c':=p.toArray) sT rfl aq (q.b2) (yo ⟨rfl,D.1.one,zl⟩) yqc rfl ?_)
 intro w151 af
 exact fun j n m=>⟨(exiA c (exiA a (zA ((m 8 dc).trans g) (zA ((m 11 dc).trans e) (q.pt2 af))))),zl⟩
 intro vals ar ag ah
 obtain⟨c,a,g,e,E⟩:=ag
 have au:=ah 15 dc
 refine yi (kv:=[(0,Ix b 0),(1,Iv ty),(2,Iv no),(6,Ix y 0),(7,.bool ((zm d (zq d evs) (ty,no)).isSome))]) ⟨rfl,rfl,rfl,rfl,(by exact au),zl⟩ (fun ρw252=>(zb (zp (ZT (b:=y) Tryz.results21 kR sT rfl rfl (zo (E.b2)) (show _=(.bool ((zm d (zq d evs) (ty,no)).isSome):Value)from rfl) ?_))))
 have ai:Sep G W ((RowE (α:=Cel) own 105 a (stL d (ty,no) (zq d evs)))::Rs) ar:=E.sel 3 [1] (xW _ _) rfl rfl
 refine⟨a,rfl,ai⟩
theorem Kk {b:Nat}{d:Dcl}{every:Nat}{evs:List Ev}(hb:(RBase b d every evs).p W G)(hS0:Sep G W Rs w)(hd:DclOk d)(hfew:evs.length≤1000):Ret Tryz.prog 18 [.pointer (some ⟨b,0,none⟩)] w (fun r w'=> ∃(v:Value),r=(v:Value)∧Sep G W ((RowE (α:=Ent) own 57 v (zq d evs))::Rs) w'):=by
 refine zk (args:=[Ix b 0]) Tryz.func18 rfl rfl ?_
 obtain⟨hev1,m,n,q,R,S,T,U⟩:=RBase.sh hb
 have hsm9:d.types.length*24≤140737488355328:=S.small
 have hsm10:d.projs.length*40≤140737488355328:=T.small
 have hsm11:evs.length*96≤140737488355328:=U.small
 refine za (R0 fun _=>st (aS Iz (zb (za ?_))))
 refine WD4 (WF [fun vals x=>Sep G W Rs x,fun vals x=> ∃(c:Nat),(vals 8=(Ix c 0:Value))∧Sep G W ((RefV c d (zq d evs))::Rs) x,fun vals x=> ∃(c:Nat) (a:Value),(vals 8=(Ix c 0:Value))∧(vals 9=(a:Value))∧Sep G W ((RefV c d (zq d evs))::(RowE (α:=Ent) own 57 a (zq d evs))::Rs) x]) (AF [Vl 0 (Ix b 0),Vl 1 (Ix b 0),Vl 2 (Ix b 0),Vl 3 (.agg (d.cells m n).toArray),Vl 4 (Ix b 0),Vl 5 (Ix b 0),Vl 6 (Ix b 3),Vl 7 q,fun _=>True,fun _=>True,fun vals=> ∀(a:Value),vals 9=(a:Value)→vals 10=(a:Value)]) [[],[0],[0,1],[0,1,2],[],[4],[4,5],[4,5,6],(rg 8),(rg 9),(rg 10)] [8,9] [(0,0),(0,0),(0,0),(0,0),(0,0),(0,0),(0,0),(0,0),(0,0),(1,1),(2,2)] hS0 ⟨fun _ _ _ _ _ _ _=>obl rfl (mV (Ix b 0) dR),fun _ _ _ _ _ _ A=>obl rfl (zj (b:=b) (o:=0) (A 0 dc) dR),fun _ _ _ _ _ _ B=>obl rfl (Vg (B 1 dc) dR),?_,fun _ _ _ _ _ _ _=>obl rfl (mV (Ix b 0) dR),fun _ _ _ _ _ _ C=>obl rfl (zj (b:=b) (o:=0) (C 4 dc) dR),fun _ _ _ _ _ _ D=>obl rfl (Yy (D 5 dc) dR),ob1 0 fun _ _ (E:Sep _ _ _ _) F=>obl rfl (lD q pT (F 6 dc) (zd (E.gblk R) rfl) dR),?_,?_,?_,zl⟩ ?_ (hlocA:=xv ⟨dA,dA,dA,dA,dA,dA,dA,dA,dT,dT,fun vals g j h=>fun a s=>(j 10 (.inl rfl)).trans (h a ((j 9 (.inr dc)).symm.trans s)),zl⟩)
 refine ob1 0 fun _ _ (H:Sep _ _ _ _) I=>(obl rfl ?_)
 have ok146:Dcl.Ok d:=⟨⟩
 exact zi (k:=2) (cs:=[m,n]) qT rT rfl (I 2 dc) (CellsAt.sub (zo (H.gblk R)) 0 (cs2:=[m,n]) rfl) dR
 refine ob1 0 fun vals _ (V:Sep _ _ _ _) y=>(obl rfl ((zV (f:=45) (vals:=[.agg (d.cells m n).toArray,q]) (cap:=[]) rfl (yM ⟨(y 3 dc),(y 7 dc),zl⟩) rR (Vi (d:=d) (l:=evs) (vl:=q) S T (⟨⟩:Dcl.Ok d) U V hd hfew) ?_)))
 rintro _ w79 ⟨c,rfl,X⟩
 exact fun g j t=>⟨(exiA c (zA j X)),zl⟩
 refine ob1 1 fun vals _ Y _=>?_
 obtain⟨c,i,Z⟩:=Y
 refine obl rfl ?_
 obtain⟨G89,z,hB92,aa,ab⟩:=Z.lend
 obtain⟨vt95,vp96,ve97,hb98,ac,J,K⟩:=RefV.sh z
 have hsm102:d.types.length*24≤140737488355328:=ac.small
 have hsm103:d.projs.length*40≤140737488355328:=J.small
 have hsm104:(zq d evs).length*120≤140737488355328:=K.small
 refine(zV (f:=46) (vals:=[Ix c 0]) (cap:=[]) rfl (yM ⟨i,zl⟩) Tryz.call46 (Uk z aa) ?_)
 rintro a w106 ⟨_,rfl,u⟩
 have L:=u.r0
 have hr108s:_*120≤_:=L.2
 have M:=ab _ _ u
 exact fun g j t=>⟨(exiA c (exiA a (zA ((t 8 dc).trans i) (zA j M)))),zl⟩
 refine ob1 2 fun _ _ N _=>?_
 obtain⟨c,a,i,e,hS181⟩:=N
 refine obl rfl (zM (v:=a) e (fun g j t=>⟨rfl,?_⟩))
 intro v105q s
 rw[t 9 (by decide)]at s;cases e.symm.trans s
 exact j
 intro vals w182 O P
 obtain⟨c,a,i,e,Q⟩:=O
 have ad:vals 10=(a:Value):=P 10 dc a e
 refine yi (kv:=[(0,Ix b 0),(2,a)]) ⟨rfl,(by exact ad),zl⟩ (fun ρw182=>(zb (zp (zU Tryz.results18 (show _=(a:Value)from rfl) ?_))))
 refine⟨a,rfl,(Q.s2_b)⟩
theorem zcQ {d:Dcl}{p:Prj}{L:List Ent}{e:Ev}(hp:0≤p.pby)(h:(zm d L (e.typ,e.agg)).isSome=false∨(((stL d (e.typ,e.agg) L).length:Nat):Int)≤p.pby):WK d p L e=0:=by
 unfold WK
 rw[if_neg]
 intro hlt
 rcases h with h|h
 ·by_cases hv:yu (e.typ,e.agg) L=0
  ·rw[(ZH (d:=d) hv).2.2,List.length_nil]at hlt;omega
  ·rw[(Xw (d:=d) hv).1]at h;cases h
 ·omega
theorem zcb {d:Dcl}{p:Prj}{L:List Ent}{e:Ev}(h:((zm d L (e.typ,e.agg)).isSome&&decide (p.pby<(((stL d (e.typ,e.agg) L).length:Nat):Int)))=true):WK d p L e=((stL d (e.typ,e.agg) L).getD p.pby.toNat default).n:=by
 unfold WK
 rw[if_pos]
 rw[Bool.and_eq_true,decide_eq_true_eq]at h
 exact h.2
set_option maxHeartbeats 8000000 in
theorem zbS {b:Nat}{d:Dcl}{every:Nat}{evs:List Ev}(hb:(RBase b d every evs).p W G){q:Int}(hq:InR q)(hS0:Sep G W Rs w)(hd:DclOk d)(hfew:evs.length≤1000)(hp:Xj d):Ret Tryz.prog 47 [.pointer (some ⟨b,0,none⟩),.int .i64 (q)] w (fun r w'=> ∃(v:Value),r=(v:Value)∧Sep G W ((RowE (α:=Row) own 70 v (xd d evs q))::Rs) w'):=by
 refine zk (args:=[Ix b 0,Iv q]) Tryz.func47 rfl rfl ?_
 let bw:=(d.projs.getD q.toNat default).cells
 obtain⟨hev1,aT,C,aU,D,aV,x,E⟩:=RBase.sh hb
 have hsm9:d.types.length*24≤140737488355328:=aV.small
 have hsm10:d.projs.length*40≤140737488355328:=x.small
 have hsm11:evs.length*96≤140737488355328:=E.small
 refine za (R0 fun _=>st (aS Iz (zb (za (za (zG kr (st (mV (Iv q) (st (zL (k:=.i64) (a:=q) (b:=0) rfl rfl (st (mV (.bool (decide (q<0))) (stc (V:=Iv q) rfl rfl (fun aW=>?_) ?_)))))))))))))
 have hl13:=fD aW
 exact mV (Iv q) rflB
 refine stc (V:=Ix b 0) rfl rfl (fun aX=>?_) ?_
 have hl15:=fD aX
 exact mV (Ix b 0) rflB
 refine stc (V:=Ix b 0) rfl rfl (fun U=>?_) ?_
 have hl17:=fD U
 exact zj (b:=b) (o:=0) (ifpC U) rflB
 refine stc (V:=Ix b 0) rfl rfl (fun X=>?_) ?_
 have hl19:=fD X
 exact Vg (ifpC X) rflB
 refine stc (V:=Ix b 1) rfl rfl (fun Y=>?_) ?_
 have hl21:=fD Y
 exact xO (ifpC Y) rflB
 refine stc (V:=C) rfl rfl (fun Z=>?_) ?_
 have hl23:=fD Z
 exact lD C uT (ifpC Z) (zd (hS0.gblk D) rfl) rflB
 refine stc (V:=Iw d.projs.length) rfl rfl (fun aa=>?_) ?_
 have hl25:=fD aa
 exact zF (n:=d.projs.length) vT (ifpC aa) x.sl rflB
 refine stc (V:=.bool (decide (((d.projs.length:Nat):Int)≤q))) rfl rfl (fun I=>?_) ?_
 have hl27:=fD I
 exact xw (k:=.i64) (a:=q) (b:=((d.projs.length:Nat):Int)) (ifpC I) (ifpC I) rflB
 refine st (zC (b:=decide (q<0)) (b':=decide (((d.projs.length:Nat):Int)≤q)) rfl (fun hbp=>(ifpC hbp)) (zb ?_))
 cases J:(decide (q<0))||(decide (((d.projs.length:Nat):Int)≤q))
 have hc28r:=J
 try simp only[zh]at J
 refine ze rfl (zr (za (R0 fun _=>st (mV (Ix b 0) (st (zj (b:=b) (o:=0) rfl (st (Vg rfl (st (xO rfl (st (lD C uT rfl (zd (hS0.gblk D) rfl) (st (mV (Iv q) ?_))))))))))))))
 have hi29:q.toNat<d.projs.length:=bo
 refine st (zx (k:=5) (i:=q) vT wT rfl x.sl rfl ⟨by omega,by omega⟩ ?_)
 have ab:q.toNat<d.projs.length:=bo
 obtain⟨ay,ac⟩:=x.prjD ab
 have az:=hS0.cells ay (x.foot (ne_of_lt ab))
 refine st (zi (k:=5) tR wT rfl rfl az (st (zB Tryz.zeroValue73 ?_)))
 intro w35 m aY
 have ad:=hS0.new aY
 refine stn (zw (v:=.agg bw.toArray) (c':=bw.toArray) wT rfl rfl (ad.b0) (yo ⟨rfl,rfl,rfl,rfl,rfl,zl⟩) yqc rfl ?_)
 intro w37 aZ
 have ae:=ad.pt0 aZ
 refine zb (za ?_)
 have af:VN (d.projs.getD q.toNat default):=hp.2 q.toNat om
 have hby9:0≤(d.projs.getD q.toNat default).pby:=af.1
 refine R0 fun _=>st (zi (k:=5) tR wT rfl rfl (zo (ae.b0)) (st (cL Tryz.call71 (Je (p:=(d.projs.getD q.toNat default)) ac ae) ?_)))
 rintro _ w41 ⟨f,rfl,ag⟩
 refine st (aS (Ix f 0) (zb (za (R0 fun _=>st (mV (Ix b 0) (st (zj (b:=b) (o:=0) rfl (st (Vg rfl ?_)))))))))
 have ba:Dcl.Ok d:=⟨⟩
 refine st (zi (k:=2) (cs:=[aT,C]) qT rT rfl rfl (CellsAt.sub (zo (ag.gblk D)) 0 (cs2:=[aT,C]) rfl) (st (cL oR (WS (d:=d) aV x ba ag) ?_)))
 rintro _ w45 ⟨g,rfl,bb⟩
 refine st (aS (Ix g 0) (zb (za (za (R0 fun _=>st (aS (Iv 0) (zb (zu (yd (fun mq σ wq=> ∃(k:Nat) (ρ:Env),mq=evs.length-k∧σ=yg ρ [(0,Ix b 0),(4,(Iz)),(5,Ix m 0),(6,Ix f 0),(7,Ix g 0),(8,Iw k)]∧(k≤evs.length)∧Sep G W ((RefV g d (zq d (evs.take k)))::(RefO f (d.projs.getD q.toNat default) (Zj d (evs.take k) (d.projs.getD q.toNat default)))::(Blk m ((d.projs.getD q.toNat default).cells).toArray 73)::Rs) wq) ⟨0,_,rfl,sSf,yc _,bb⟩ ?_)))))))))
 rintro m48 σ49 bt ⟨k,ρl1,rfl,rfl,hkk,s⟩
 refine za (za (R0 fun _=>st (mV (Iw k) (st (mV (Ix b 0) (st (zj (b:=b) (o:=0) rfl (st (Yy rfl (st (lD aU pT rfl (zd (s.gblk D) rfl) (st (zF (n:=evs.length) lT rfl E.sl (st (zL (k:=.i64) (a:=((k:Nat):Int)) (b:=((evs.length:Nat):Int)) rfl rfl (zb ?_))))))))))))))))
 cases u:decide (((k:Nat):Int)<((evs.length:Nat):Int))
 have hc51r:=u
 have u:=fD u
 have hkn:k=evs.length:=by omega
 rw[hkn,List.take_length]at s
 have bd:Sep G W ((RefV g d (zq d evs))::(RefO f (d.projs.getD q.toNat default) (Zj d evs (d.projs.getD q.toNat default)))::(Blk m bw.toArray 73)::Rs) bt:=s
 refine ze rfl (ye (zT (za (R0 fun _=>st (mV (Ix f 0) (st (cL Tryz.call73 (Kg (bd.mv1)) ?_)))))))
 rintro ah w55 ⟨_,rfl,ai⟩
 have be:=ai.r1
 have hr57s:_*24≤_:=be.2
 refine st (aS ah (zb (zp (zU uR (show _=(ah:Value)from rfl) ?_))))
 have K:xd d evs q=Zj d evs (d.projs.getD q.toNat default):=by unfold xd;rw[ifnC (by omega)]
 rw[K]
 refine⟨ah,rfl,(ai.s4_b)⟩
 have u:=tD u
 refine zf rfl (zr (za (zu (za (R0 fun _=>st (mV (Ix g 0) (st (mV (Ix b 0) (st (zj (b:=b) (o:=0) rfl (st (Yy rfl (st (lD aU pT rfl (zd (s.gblk D) rfl) (st (mV (Iw k) ?_))))))))))))))))
 have bf:k<evs.length:=bo
 refine st (zg (k:=10) (i:=k) lT oT rfl E.sl rfl bf ?_)
 have aj:k<evs.length:=bo
 obtain⟨aA,y,ak⟩:=E.evD aj
 have hsm62:((evs.getD k default).deps).length*8≤140737488355328:=y.small
 have aB:=s.cells aA (E.foot (ne_of_lt aj))
 refine st (zi (k:=10) pR oT rfl rfl aB (st (cL qR (UZ (e:=(evs.getD k default)) y ak s hd ((WT _ _)) ((by rw[xp,List.length_take];omega))) ?_)))
 rintro _ w66 ⟨z,rfl,B,al⟩
 let bv:=(ya d (zq d (evs.take k)) (evs.getD k default)).cells z
 have am:=al.r1
 have hr68s:_*8≤_:=am.2
 refine st (zB Tryz.zeroValue57 ?_)
 intro w71 F bg
 have an:=al.new bg
 refine stn (zw (v:=.agg bv.toArray) (c':=bv.toArray) mT rfl rfl (an.b0) (yo ⟨rfl,rfl,rfl,am.1.one,rfl,rfl,rfl,rfl,rfl,rfl,rfl,rfl,rfl,zl⟩) yqc rfl ?_)
 intro bu bh
 have ao:=an.pt0 bh
 refine zb (za ?_)
 have bi:(zq d (evs.take (k+1)))=((zq d (evs.take k))++[ya d (zq d (evs.take k)) (evs.getD k default)]):=XU om
 rw[←bi]at ao
 have L:Sep G W ((Blk F bv.toArray 57)::(RefV g d (zq d (evs.take (k+1))))::(RowE (α:=Int) own 3 z ((evs.getD k default).deps))::(RefO f (d.projs.getD q.toNat default) (Zj d (evs.take k) (d.projs.getD q.toNat default)))::(Blk m bw.toArray 73)::Rs) bu:=ao
 refine R0 fun _=>st (aS (Iv 0) (zb (za (R0 fun _=>st (mV (Ix g 0) (st (xt rfl (st (xr rfl (st (lD (Iv ((ya d (zq d (evs.take k)) (evs.getD k default)).ev.typ)) kT rfl (zd (L.b0) rfl) (st (xt rfl (st (Zl rfl (st (lD (Iv ((ya d (zq d (evs.take k)) (evs.getD k default)).ev.agg)) kT rfl (zd (L.b0) rfl) ?_)))))))))))))))))
 obtain⟨G78,ap,hB81,bj,bk⟩:=(L.mv1).lend
 obtain⟨vt84,vp85,ve86,hb87,bl,bm,bn⟩:=RefV.sh ap
 have hsm91:d.types.length*24≤140737488355328:=bl.small
 have hsm92:d.projs.length*40≤140737488355328:=bm.small
 have hsm93:(zq d (evs.take (k+1))).length*120≤140737488355328:=bn.small
 refine st (cL sR (Xn (ty:=(ya d (zq d (evs.take k)) (evs.getD k default)).ev.typ) (no:=(ya d (zq d (evs.take k)) (evs.getD k default)).ev.agg) ap B.ev.typ B.ev.agg bj hd ((WT _ _)) ((by rw[xp,List.length_take];omega))) ?_)
 rintro _ w95 ⟨l,rfl,aq⟩
 let bc:=(yA d (((ya d (zq d (evs.take k)) (evs.getD k default)).ev.typ),((ya d (zq d (evs.take k)) (evs.getD k default)).ev.agg)) (zq d (evs.take (k+1)))).cells l
 have ar:=aq.r0
 have hr97s:_*32≤_:=ar.2
 have bp:=bk _ _ aq
 refine st (mV (.tuple #[.agg bc.toArray,.bool ((zm d (zq d (evs.take (k+1))) (((ya d (zq d (evs.take k)) (evs.getD k default)).ev.typ),((ya d (zq d (evs.take k)) (evs.getD k default)).ev.agg))).isSome)]) (st (zH (vs:=[.agg bc.toArray,.bool ((zm d (zq d (evs.take (k+1))) (((ya d (zq d (evs.take k)) (evs.getD k default)).ev.typ),((ya d (zq d (evs.take k)) (evs.getD k default)).ev.agg))).isSome)]) (i:=0) (v:=.agg bc.toArray) rfl rfl ?_)))
 refine st (zH (vs:=[.agg bc.toArray,.bool ((zm d (zq d (evs.take (k+1))) (((ya d (zq d (evs.take k)) (evs.getD k default)).ev.typ),((ya d (zq d (evs.take k)) (evs.getD k default)).ev.agg))).isSome)]) (i:=1) (v:=.bool ((zm d (zq d (evs.take (k+1))) (((ya d (zq d (evs.take k)) (evs.getD k default)).ev.typ),((ya d (zq d (evs.take k)) (evs.getD k default)).ev.agg))).isSome)) rfl rfl (st (zB tT ?_)))
 intro w101 au bq
 have N:=bp.new bq
 refine stn (zw (v:=.agg bc.toArray) (c':=bc.toArray) sT rfl rfl (N.b0) (yo ⟨rfl,ar.1.one,zl⟩) yqc rfl ?_)
 intro br aC
 refine st (aS (.bool ((zm d (zq d (evs.take (k+1))) (((ya d (zq d (evs.take k)) (evs.getD k default)).ev.typ),((ya d (zq d (evs.take k)) (evs.getD k default)).ev.agg))).isSome)) (zb (za (za ?_))))
 obtain⟨bs,aD,hB110,c,aE⟩:=((N.pt0 aC).mv2).lend
 have h:=RowE.rd aD
 have hrd113s:_*32≤_:=h.small
 refine zG kr (st (mV (.bool ((zm d (zq d (evs.take (k+1))) (((ya d (zq d (evs.take k)) (evs.getD k default)).ev.typ),((ya d (zq d (evs.take k)) (evs.getD k default)).ev.agg))).isSome)) (st (mV (.bool ((zm d (zq d (evs.take (k+1))) (((ya d (zq d (evs.take k)) (evs.getD k default)).ev.typ),((ya d (zq d (evs.take k)) (evs.getD k default)).ev.agg))).isSome)) (stc (V:=Ix m 3) rfl rfl (fun hb114=>?_) ?_)))))
 exact Wb rfl rflB
 refine stc (V:=Iv ((d.projs.getD q.toNat default).pby)) rfl rfl (fun aF=>?_) ?_
 exact lD (Iv ((d.projs.getD q.toNat default).pby)) kT (ifpC aF) (zd (c.b5) rfl) rflB
 refine stc (V:=Ix au 1) rfl rfl (fun hb118=>?_) ?_
 exact xl rfl rflB
 refine stc (V:=l) rfl rfl (fun aG=>?_) ?_
 exact lD l vR (ifpC aG) (zd (c.b0) rfl) rflB
 refine stc (V:=Iw ((stL d (((ya d (zq d (evs.take k)) (evs.getD k default)).ev.typ),((ya d (zq d (evs.take k)) (evs.getD k default)).ev.agg)) (zq d (evs.take (k+1)))).length)) rfl rfl (fun aH=>?_) ?_
 exact zF (n:=(stL d (((ya d (zq d (evs.take k)) (evs.getD k default)).ev.typ),((ya d (zq d (evs.take k)) (evs.getD k default)).ev.agg)) (zq d (evs.take (k+1)))).length) wR (ifpC aH) h.sl rflB
 refine stc (V:=.bool (decide (((d.projs.getD q.toNat default).pby)<(((stL d (((ya d (zq d (evs.take k)) (evs.getD k default)).ev.typ),((ya d (zq d (evs.take k)) (evs.getD k default)).ev.agg)) (zq d (evs.take (k+1)))).length:Nat):Int)))) rfl rfl (fun O=>?_) ?_
 exact zL (k:=.i64) (a:=(d.projs.getD q.toNat default).pby) (b:=(((stL d (((ya d (zq d (evs.take k)) (evs.getD k default)).ev.typ),((ya d (zq d (evs.take k)) (evs.getD k default)).ev.agg)) (zq d (evs.take (k+1)))).length:Nat):Int)) (ifpC O) (ifpC O) rflB
 refine st (zv (b:=(zm d (zq d (evs.take (k+1))) (((ya d (zq d (evs.take k)) (evs.getD k default)).ev.typ),((ya d (zq d (evs.take k)) (evs.getD k default)).ev.agg))).isSome) (b':=decide (((d.projs.getD q.toNat default).pby)<(((stL d (((ya d (zq d (evs.take k)) (evs.getD k default)).ev.typ),((ya d (zq d (evs.take k)) (evs.getD k default)).ev.agg)) (zq d (evs.take (k+1)))).length:Nat):Int))) rfl (fun hbp=>(ifpC hbp)) (zb ?_))
 refine Yn (fun σ wq=> ∃(A:Int) (ρ:Env),σ=yg ρ [(0,Ix b 0),(4,(Iz)),(5,Ix m 0),(6,Ix f 0),(7,Ix g 0),(8,Iw k),(9,Ix F 0),(10,Iv A)]∧(A=(WK d (d.projs.getD q.toNat default) (zq d (evs.take (k+1))) (evs.getD k default))∧InR A)∧Sep bs br ((Blk au bc.toArray 48)::(RefV g d (zq d (evs.take (k+1))))::(Blk F bv.toArray 57)::(RowE (α:=Int) own 3 z ((evs.getD k default).deps))::(RefO f (d.projs.getD q.toNat default) (Zj d (evs.take k) (d.projs.getD q.toNat default)))::(Blk m bw.toArray 73)::Rs) wq) ?_ ?_
 cases t:((zm d (zq d (evs.take (k+1))) (((ya d (zq d (evs.take k)) (evs.getD k default)).ev.typ),((ya d (zq d (evs.take k)) (evs.getD k default)).ev.agg))).isSome)&&(decide (((d.projs.getD q.toNat default).pby)<(((stL d (((ya d (zq d (evs.take k)) (evs.getD k default)).ev.typ),((ya d (zq d (evs.take k)) (evs.getD k default)).ev.agg)) (zq d (evs.take (k+1)))).length:Nat):Int)))
 try simp only[zh]at t
 refine ze rfl (zr ?_)
 exact⟨rfl,0,_,yC ⟨(show _=(Ix b 0:Value)from rfl),(show _=((Iz):Value)from rfl),(show _=(Ix m 0:Value)from rfl),(show _=(Ix f 0:Value)from rfl),(show _=(Ix g 0:Value)from rfl),(show _=(Iw k:Value)from rfl),(show _=(Ix F 0:Value)from rfl),(show _=(Iv 0:Value)from rfl),zl⟩,⟨(zcQ (hp.2 q.toNat om).1 t).symm,dc⟩,c⟩
 try simp only[zh]at t
 refine zf rfl (R0 fun _=>st (xl rfl (st (lD l vR rfl (zd (c.b0) rfl) (st (Wb rfl (st (lD (Iv ((d.projs.getD q.toNat default).pby)) kT rfl (zd (c.b5) rfl) ?_))))))))
 have hi127:((d.projs.getD q.toNat default).pby).toNat<(stL d (((ya d (zq d (evs.take k)) (evs.getD k default)).ev.typ),((ya d (zq d (evs.take k)) (evs.getD k default)).ev.agg)) (zq d (evs.take (k+1)))).length:=bo
 refine st (zx (k:=2) (i:=(d.projs.getD q.toNat default).pby) wR Tryz.sizeOf105 rfl h.sl rfl ⟨by omega,by omega⟩ (st (yZ rfl ?_)))
 have P:((d.projs.getD q.toNat default).pby).toNat<(stL d (((ya d (zq d (evs.take k)) (evs.getD k default)).ev.typ),((ya d (zq d (evs.take k)) (evs.getD k default)).ev.agg)) (zq d (evs.take (k+1)))).length:=bo
 obtain⟨av,M,S⟩:=h.celD P
 have hsm130:(((stL d (((ya d (zq d (evs.take k)) (evs.getD k default)).ev.typ),((ya d (zq d (evs.take k)) (evs.getD k default)).ev.agg)) (zq d (evs.take (k+1)))).getD (((d.projs.getD q.toNat default).pby).toNat) default).set).length*8≤140737488355328:=M.small
 have aw:=c.cells av (h.foot (ne_of_lt P))
 refine st (lD (Iv (((stL d (((ya d (zq d (evs.take k)) (evs.getD k default)).ev.typ),((ya d (zq d (evs.take k)) (evs.getD k default)).ev.agg)) (zq d (evs.take (k+1)))).getD (((d.projs.getD q.toNat default).pby).toNat) default).n)) kT rfl (aw.get (j:=0) rfl) (st (aS (Iv (((stL d (((ya d (zq d (evs.take k)) (evs.getD k default)).ev.typ),((ya d (zq d (evs.take k)) (evs.getD k default)).ev.agg)) (zq d (evs.take (k+1)))).getD (((d.projs.getD q.toNat default).pby).toNat) default).n)) (zb ?_))))
 exact⟨rfl,((stL d (((ya d (zq d (evs.take k)) (evs.getD k default)).ev.typ),((ya d (zq d (evs.take k)) (evs.getD k default)).ev.agg)) (zq d (evs.take (k+1)))).getD (((d.projs.getD q.toNat default).pby).toNat) default).n,_,yC ⟨(show _=(Ix b 0:Value)from rfl),(show _=((Iz):Value)from rfl),(show _=(Ix m 0:Value)from rfl),(show _=(Ix f 0:Value)from rfl),(show _=(Ix g 0:Value)from rfl),(show _=(Iw k:Value)from rfl),(show _=(Ix F 0:Value)from rfl),(show _=(Iv (((stL d (((ya d (zq d (evs.take k)) (evs.getD k default)).ev.typ),((ya d (zq d (evs.take k)) (evs.getD k default)).ev.agg)) (zq d (evs.take (k+1)))).getD (((d.projs.getD q.toNat default).pby).toNat) default).n):Value)from rfl),zl⟩,⟨(zcb (by simpa using t)).symm,S.n⟩,c⟩
 rintro _ w132 ⟨A,ρj1,rfl,ax,aI⟩
 have Q:=aE _ _ aI
 refine R0 fun _=>st (mV (Ix f 0) (st (zi (k:=13) Tryz.isAgg57 mT rfl rfl (zo (Q.b3)) (st (mV (Iv A) ?_)))))
 obtain⟨G136,aJ,hB139,aK,aL⟩:=(Q.mv4).lend
 have H:=RowE.rd aJ
 have hrd142s:_*8≤_:=H.small
 refine st (cL Tryz.call72 (JA (e:=(ya d (zq d (evs.take k)) (evs.getD k default))) (reg:=A) H B ax.2 (aK.mv4) ((JM (by rw[List.length_take];omega))) ((Nat.le_trans (VP ..) (by rw[List.length_take];omega)))) ?_)
 rintro _ w146 ⟨aM,rfl,T,aN⟩
 have aO:=aL _ _ aN
 refine zb (R0 fun _=>st (mV (Iw k) ?_))
 have aP:InR ((k+1:Nat):Int):=bo
 refine st (zR (r:=((k+1:Nat):Int)) (k:=.i64) (a:=((k:Nat):Int)) (b:=1) rfl rfl (by rw[show(((k:Nat):Int)+1:Int)=((k+1:Nat):Int)from bo];exact zz aP) (st (aS (Iw (k+1)) (zb ?_))))
 have R:=aO.s7_ebg
 have aQ:(Zj d (evs.take (k+1)) (d.projs.getD q.toNat default))=aM:=(QK om af ax.1 T).symm
 rw[←aQ]at R
 exact⟨_,by omega,k+1,_,rfl,sSf,by omega,R⟩
 try simp only[zh]at J
 refine zf rfl (za (R0 fun _=>st (aS Iz (zb (zp (zU uR (show _=((Iz):Value)from rfl) ?_))))))
 have aR:Sep G W ((RowE (α:=Row) own 70 Iz ([]:List Row))::Rs) w:=hS0.rowNil own 70
 have K:xd d evs q=[]:=by unfold xd;rw[ifpC (by omega)]
 rw[K]
 refine⟨(Iz),rfl,aR⟩
theorem Ki (d:Dcl)(l:List Ev)(i:Int):(xd d l i).length≤l.length:=by
 unfold xd
 split
 ·exact Nat.zero_le _
 ·exact VP ..
theorem UN {b:Nat}{d:Dcl}{every:Nat}{evs:List Ev}{yb:Nat}(hyb:(RBase yb d every evs).p W G){n:Nat}(hn:n≤1000)(hS0:Sep G W ((BaseO b d every evs)::Rs) w)(hd:DclOk d)(hfew:evs.length≤1000)(hp:Xj d):Ret Tryz.prog 19 [.pointer (some ⟨b,0,none⟩),.pointer (some ⟨yb,0,none⟩),.int .i64 ((n:Nat):Int)] w (fun r w'=>r=(.bool true:Value)∧Sep G W ((BaseO b d every evs)::Rs) w'):=by
 refine zk (args:=[Ix b 0,Ix yb 0,Iw n]) Tryz.func19 rfl rfl ?_
 refine za ?_
 obtain⟨hev1,vt2,vp3,ve4,hb5,H,I,J⟩:=RBase.sh hyb
 have hsm9:d.types.length*24≤140737488355328:=H.small
 have hsm10:d.projs.length*40≤140737488355328:=I.small
 have hsm11:evs.length*96≤140737488355328:=J.small
 refine R0 fun _=>st (aS (.bool false) (zb (za (za (R0 fun _=>st (aS (Iv (-1)) (zb (zu (yd (fun mq σ L=> ∃(c:Int) (ρ:Env),mq=(n+1-c).toNat∧σ=yg ρ [(0,Ix b 0),(1,Ix yb 0),(2,Iw n),(6,.bool false),(7,Iv c)]∧(-1≤c∧c≤((n:Nat):Int)+1)∧Sep G W ((BaseO b d every evs)::Rs) L) ⟨(-1),_,rfl,sSf,⟨by omega,by omega⟩,hS0⟩ ?_)))))))))
 rintro m13 σ14 w12 ⟨c,ρl1,rfl,rfl,hp9,i⟩
 refine za (za (R0 fun _=>st (mV (Iv c) (st (mV (Iw n) (st (zaZ (k:=.i64) (a:=c) (b:=((n:Nat):Int)) rfl rfl (zb ?_))))))))
 cases e:decide (c≤((n:Nat):Int))
 have hc16r:=e
 have e:=fD e
 refine ze rfl (ye (zT (za (R0 fun _=>st (aS (.bool true) (zb (zp (zU Tryz.results19 (show _=(.bool true:Value)from rfl) ?_))))))))
 refine⟨rfl,i⟩
 have e:=tD e
 refine zf rfl (zr (za (zu (za (R0 fun _=>st (mV (Ix b 0) (st (mV (Iv c) (st (cL Tryz.call31 (Uz (q:=c) om i hfew) ?_))))))))))
 rintro f w18 ⟨_,rfl,j⟩
 have o:=j.r1
 have hr20s:_*24≤_:=o.2
 refine st (aS f (zb (za (za (R0 fun _=>st (mV f (st (mV (Ix yb 0) (st (mV (Iv c) (st (cL Tryz.call47 (zbS (q:=c) hyb om j hd hfew hp) ?_))))))))))))
 rintro K w22 ⟨_,rfl,l⟩
 have s:=l.r0
 have hr24s:_*24≤_:=s.2
 obtain⟨G26,t,hB29,u,v⟩:=(l.mv2).lend
 have g:=RowE.rd t
 have hrd32s:_*24≤_:=g.small
 obtain⟨G33,x,y,z,A⟩:=u.lend
 have h:=RowE.rd x
 have hrd39s:_*24≤_:=h.small
 refine st (cL Tryz.call30 (Vu (a:=(xd d evs c)) (va:=f) (b:=(xd d evs c)) (vb:=K) (zS g y) h z) ?_)
 rintro _ w40 ⟨rfl,B⟩
 have C:=A _ _ B
 have D:=v _ _ C
 refine st (yH (a:=decide ((xd d evs c)=(xd d evs c))) rfl ?_)
 have m:(!(decide ((xd d evs c)=(xd d evs c))))=false:=(by simp)
 rw[m]
 refine zb (ze rfl (zr (R0 fun _=>st (mV f (st (cL Tryz.call48 (zat D ((Nat.le_trans (Ki ..) om))) ?_))))))
 rintro _ w45 ⟨rfl,E⟩
 refine zb (R0 fun _=>st (mV (Iv c) ?_))
 have F:InR (c+1):=om
 refine st (zR (r:=c+1) (k:=.i64) (a:=c) (b:=1) rfl rfl (by rw[show(c+1:Int)=c+1 from rfl];exact zz F) (st (aS (Iv (c+1)) (zb ?_))))
 exact⟨_,by omega,c+1,_,rfl,sSf,⟨by omega,by omega⟩,(E.s2_b)⟩
end
section
open Go.RowKit
structure EntS where
 origin:Int
 seq:Int
 lam:Int
 dv:Value
 typ:Int
 agg:Int
 field:Int
 op:Int
 arg:Int
 key:Int
 void:Bool
 byO:Int
 byS:Int
 deriving Inhabited
structure EntS.Ok (e:EntS):Prop where
 origin:InR e.origin
 seq:InR e.seq
 lam:InR e.lam
 one:e.dv.oneCell'=true
 typ:InR e.typ
 agg:InR e.agg
 field:InR e.field
 op:InR e.op
 arg:InR e.arg
 key:InR e.key
 byO:InR e.byO
 byS:InR e.byS
def EntS.cells (e:EntS):List Value:=[.int .i64 e.origin,.int .i64 e.seq,.int .i64 e.lam,e.dv,.int .i64 e.typ,.int .i64 e.agg,.int .i64 e.field,.int .i64 e.op,.int .i64 e.arg,.int .i64 e.key,.bool e.void,.int .i64 e.byO,.int .i64 e.byS]
instance:Rep EntS where
 k:=13
 rd _ _ cs x:=cs=x.cells∧x.Ok
 bytes:=120
 bpos:=by decide
 kpos:=by decide
 len h:=by rw[h.1];rfl
 one h:=by rw[h.1];exact yo ⟨rfl,rfl,rfl,h.2.one,rfl,rfl,rfl,rfl,rfl,rfl,rfl,rfl,rfl,trivial⟩
 mono h _:=h
instance:Flat EntS:=⟨fun h=>h⟩
theorem KQ {w:World}{F:Nat→Prop}: ∀{css:List (List Value)} {l:List Ent},EP (fun cs x=>Rep.rd w F cs x) css l→ ∃ps:List EntS,ps.length=l.length∧EP (fun cs (s:EntS)=>cs=s.cells∧s.Ok) css ps∧ ∀i,i<l.length→RdS w F (ps.getD i default).dv (l.getD i default).ev.deps
 |[],[],_=>⟨[],rfl,trivial,fun i h=>absurd h (Nat.not_lt_zero i)⟩
 |cs::css,x::l,h=>by
  obtain⟨ps,h1,h2,h3⟩:=KQ h.2
  obtain⟨d,hc,hd,ho⟩:=h.1
  have o:=ho.ev
  refine⟨⟨x.ev.origin,x.ev.seq,x.ev.lam,d,x.ev.typ,x.ev.agg,x.ev.field,x.ev.op,x.ev.arg,x.ev.key,x.void,x.byO,x.byS⟩::ps,by simp[h1],⟨⟨hc,⟨o.origin,o.seq,o.lam,hd.sl.one,o.typ,o.agg,o.field,o.op,o.arg,o.key,ho.byO,ho.byS⟩⟩,h2⟩,fun i hi=>?_⟩
  cases i with
  |zero=>exact hd
  |succ i=>exact h3 i (by simpa using hi)
 |[],_::_,h=>h.elim
 |_::_,[],h=>h.elim
theorem Sep.entML {G:Nat→Prop}{W w:World}{As:List HP}{T:TypeId}{v:Value}{l:List Ent}(h:Sep G W (RowE (α:=Ent) own T v l::As) w): ∃(ps:List EntS) (f0:Nat→Prop),ps.length=l.length∧(∀i,i<l.length→RdS w f0 (ps.getD i default).dv (l.getD i default).ev.deps)∧Sep G W (RowE (α:=EntS) own T v ps::ML w f0 noX::As) w:=by
 obtain⟨f,hA,hl,hT⟩:=h.take (i:=0) rfl
 obtain⟨css,hE,hown,hrow,hsm⟩:=hA
 obtain⟨ps,h1,h2,h3⟩:=KQ (F:=fun b=>(f b∧v.ownBlock≠some b)∧Soft w b) hE
 refine⟨ps,fun b=>(f b∧v.ownBlock≠some b)∧Soft w b,h1,h3,?_⟩
 have hB:(Star [RowE (α:=EntS) own T v ps,ML w (fun b=>(f b∧v.ownBlock≠some b)∧Soft w b) noX]).p w f:=by
  refine⟨fun i b=>(i=0∧v.ownBlock=some b)∨(i=1∧(f b∧v.ownBlock≠some b)∧Soft w b),fun i A hA=>?_,fun i j hi hj hne b hb hb2=>?_⟩
  ·match i,hA with
   |0,hA=>
    obtain rfl:=Option.some.inj hA
    refine⟨⟨css,h2.mono (fun cs x h=>h),by rw[h1];exact hown,fun b hb=>.inl ⟨rfl,hb⟩,by rw[h1];exact hsm⟩,fun b hb=>?_⟩
    rcases hb with⟨_,hb⟩|⟨h,_⟩
    ·exact⟨hrow b hb,(hown.lt b hb).2⟩
    ·cases h
   |1,hA=>
    obtain rfl:=Option.some.inj hA
    refine⟨fun b hb=>⟨.inr ⟨rfl,hb⟩,hb.2,fun o v hv=>⟨v,hv,.inr (.inl rfl)⟩⟩,fun b hb=>?_⟩
    rcases hb with⟨h,_⟩|⟨_,hb⟩
    ·cases h
    ·exact⟨hb.1.1,by obtain⟨c,T,hc⟩:=hb.2;exact xx hc⟩
   |i+2,hA=>simp at hA
  ·rcases hb with⟨e,hb⟩|⟨e,hb⟩<;>rcases hb2 with⟨e2,hb2⟩|⟨e2,hb2⟩
   ·exact hne (e.trans e2.symm)
   ·exact hb2.1.2 hb
   ·exact hb.1.2 hb2
   ·exact hne (e.trans e2.symm)
 exact(hT w _ f (Chg.refl _ _) hB (fun _ h=>.inl h)).openStar
end
section
open Go.Proofs Go.RowKit
theorem VG {w0:World}{f0:Nat→Prop}{vl:Value}{l:List Ev}(hl9:RdS w0 f0 vl l)(hS0:Sep G W ((ML w0 f0 noX)::Rs) w):Ret Tryz.prog 15 [vl] w (fun r w'=>r=(.tuple #[]:Value)∧Sep G W Rs w'):=by
 have hl9s:_*96≤_:=hl9.small
 refine zk (args:=[vl]) Tryz.func15 rfl rfl ?_
 refine za (R0 fun _=>st (aS (Iv 0) (zb (zu (yd (fun mq σ I=> ∃(k:Nat) (ρ:Env),mq=l.length-k∧σ=yg ρ [(0,vl),(2,Iw k)]∧(k≤l.length)∧Sep G W ((ML w0 f0 noX)::Rs) I) ⟨0,_,rfl,sSf,yc _,hS0⟩ ?_)))))
 rintro m2 σ3 w1 ⟨k,ρl1,rfl,rfl,hkk,e⟩
 refine za (za (R0 fun _=>st (mV (Iw k) (st (mV vl (st (zF (n:=l.length) lT rfl hl9.sl (st (zL (k:=.i64) (a:=((k:Nat):Int)) (b:=((l.length:Nat):Int)) rfl rfl (zb ?_))))))))))
 cases d:decide (((k:Nat):Int)<((l.length:Nat):Int))
 have d:=fD d
 refine ze rfl (ye (zT (YY Tryz.results15 ?_)))
 refine⟨rfl,(e.s1_)⟩
 have d:=tD d
 refine zf rfl (zr (za (zu (za (R0 fun _=>st (mV vl (st (mV (Iw k) ?_))))))))
 have H:k<l.length:=bo
 refine st (zg (k:=10) (i:=k) lT oT rfl hl9.sl rfl H (st (xQ rfl ?_)))
 have q:k<l.length:=bo
 obtain⟨s,c,_⟩:=hl9.evD q
 refine st (lD (zP w0 (sb vl) (so vl+k*10+3)) kY rfl (e.mlHead (i:=0) rfl (hl9.foot (ne_of_lt q)) s (j:=3) rfl (fun h=>h) (IsSl.num c.sl)) (st (cL lY (Wl c e) ?_)))
 rintro _ w10 ⟨rfl,t⟩
 refine zb (za (R0 fun _=>st (mV vl (st (mV (Iw k) ?_)))))
 have v:k<l.length:=bo
 refine st (zg (k:=10) (i:=k) lT oT rfl hl9.sl rfl v (st (Ur rfl ?_)))
 have f:k<l.length:=bo
 obtain⟨m,hde14_0,_⟩:=hl9.evD f
 refine stn (Xh (b:=sb vl) (o:=so vl+k*10+2) (u:=Iv 77) (us:=[Iv 77]) (X':=noX) t mY rfl (hl9.foot (ne_of_lt f)) rfl rfl (yo ⟨rfl,zl⟩) (CellsAt.sub m 2 (cs2:=[Iv ((l.getD k default).lam)]) rfl) rfl (Nat.zero_lt_succ _) (fun x y z A B=>.inr (MildAll.at_ (show MildAll [Iv ((l.getD k default).lam)] [Iv 77]from⟨MildV.num dc,zl⟩) x y z A B)) (fun _ _ h=>h) ?_)
 intro w13 C
 refine zb (R0 fun _=>st (mV vl (st (mV (Iw k) ?_))))
 have D:k<l.length:=bo
 refine st (zg (k:=10) (i:=k) lT oT rfl hl9.sl rfl D (st (xu rfl ?_)))
 have g:k<l.length:=bo
 obtain⟨p,hde19_0,_⟩:=hl9.evD g
 refine stn (Xh (b:=sb vl) (o:=so vl+k*10+8) (u:=Iv (-7)) (us:=[Iv (-7)]) (X':=noX) C mY rfl (hl9.foot (ne_of_lt g)) rfl rfl (yo ⟨rfl,zl⟩) (CellsAt.sub p 8 (cs2:=[Iv ((l.getD k default).arg)]) rfl) rfl (Nat.zero_lt_succ _) (fun x y z A B=>.inr (MildAll.at_ (show MildAll [Iv ((l.getD k default).arg)] [Iv (-7)]from⟨MildV.num dc,zl⟩) x y z A B)) (fun _ _ h=>h) ?_)
 intro w18 E
 refine zb (R0 fun _=>st (mV (Iw k) ?_))
 have F:InR ((k+1:Nat):Int):=bo
 refine st (zR (r:=((k+1:Nat):Int)) (k:=.i64) (a:=((k:Nat):Int)) (b:=1) rfl rfl (by rw[show(((k:Nat):Int)+1:Int)=((k+1:Nat):Int)from bo];exact zz F) (st (aS (Iw (k+1)) (zb ?_))))
 exact⟨_,by omega,k+1,_,rfl,sSf,by omega,E⟩
set_option maxHeartbeats 8000000 in
theorem Ww {d:Dcl}{dd0:Value}(hdd0:RdS W G dd0 d.types){dd1:Value}(hdd1:RdS W G dd1 d.projs)(od:d.Ok){n:Int}(hn:InR n){every:Int}(hevery:InR every){vl:Value}{l:List Ev}(hl:RdS W G vl l){vt:Value}{t:List Trn}(ht:RdS W G vt t)(hKN:RdS W G (.slice (some ⟨0,0,none⟩) 6 6) kindsL)(hS0:Sep G W Rs w):Ret Tryz.prog 3 [.agg (d.cells dd0 dd1).toArray,.int .i64 (n),.int .i64 (every),vl,vt] w (fun r w'=>r=(.bool true:Value)∧Sep G W Rs w'):=by
 have hdd0s:_*24≤_:=hdd0.small
 have hdd1s:_*40≤_:=hdd1.small
 have hls:_*96≤_:=hl.small
 have hts:_*32≤_:=ht.small
 have hKNs:_*8≤_:=hKN.small
 refine zk (args:=[.agg (d.cells dd0 dd1).toArray,Iv n,Iv every,vl,vt]) Tryz.func3 rfl rfl ?_
 refine za (R0 fun _=>st (zW (v:=.agg (d.cells dd0 dd1).toArray) rfl ?_))
 intro w3 b2 gv
 let dv:=Blk b2 (d.cells dd0 dd1).toArray 25
 have fj:=hS0.new gv
 refine st (aS (.bool false) (zb (za (za (R0 fun _=>st (zi (k:=2) qT rT rfl rfl (zo (fj.b0)) (st (cL Tryz.call5 (zbT (d:=d) hdd0 hdd1 od fj) ?_))))))))
 rintro _ w7 ⟨b5,rfl,gx,fk⟩
 refine st (yH (a:=b5) rfl (zb ?_))
 cases be: !b5
 have hc9r:=be
 try simp only[zh]at be
 have Q:=gx (by simpa using be)
 refine ze rfl (zr (za (R0 fun _=>st (mV (Iv n) ?_))))
 refine st (cL Tryz.call8 (Un (x:=n) (n:=64) hn yqf fk) ?_)
 rintro _ w12 ⟨ag,rfl,hq11,fl⟩
 have bY:InR ((1+ag:Nat):Int):=bo
 refine st (zR (r:=((1+ag:Nat):Int)) (k:=.i64) (a:=1) (b:=((ag:Nat):Int)) rfl rfl (by rw[show(1+((ag:Nat):Int):Int)=((1+ag:Nat):Int)from bo];exact zz bY) (st (mV vl (st (cL Tryz.call7 (zcs (n:=((1+ag:Nat):Int)) (l:=l) (vl:=vl) bY hl fl) ?_)))))
 rintro ad bZ ⟨_,bf,rfl,ho4017,bg,ca⟩
 have fm:=ca.r0
 have hr21s:_*96≤_:=fm.2
 refine st (aS ad (zb (za ?_)))
 obtain⟨cb,fn,K,cc,fo⟩:=ca.lend
 have bh:=RowE.rdB fn K
 have hrd28s:_*96≤_:=bh.small
 refine R0 fun _=>st (zi (k:=2) qT rT rfl rfl (zo (cc.b0)) (st (mV (Iv every) (st (cL Tryz.call9 (UX (d:=d) (every:=every) (zS hdd0 K) (zS hdd1 K) od hevery (zS hKN K) cc (Q.1)) ?_)))))
 rintro _ w32 ⟨I,J,rfl,hev31,cd⟩
 refine st (aS (Ix I 0) (zb (za (R0 fun _=>st (zi (k:=2) qT rT rfl rfl (zo (cd.b1)) (st (mV (Iv every) (st (cL Tryz.call10 (zdT (d:=d) (every:=every) (zS hdd0 K) (zS hdd1 K) od hevery cd) ?_)))))))))
 rintro _ gy ⟨O,fp,rfl,hev36,fq⟩
 refine st (aS (Ix O 0) (zb (za (za ?_))))
 have hpl8:d.projs.length≤8:=Q.2.1
 obtain rfl:J=fp:=by omega
 have fr:Sep cb bZ ((RBase O d J ([]:List Ev))::(BaseO I d J ([]:List Ev))::dv::Rs) gy:=fq
 refine R0 fun _=>st (mV (Ix I 0) (st (VM (b:=I) (o:=0) Tryz.underlying32 rfl (zb (ze rfl (zr (za (za (R0 fun _=>st (aS (Iv 0) (zb (zu (yd (fun mq σ P=> ∃(k:Nat) (E9:List Ev) (ρ:Env),mq=t.length-k∧σ=yg ρ [(3,ad),(4,vt),(5,Ix b2 0),(10,.bool false),(11,Ix I 0),(12,Ix O 0),(13,Iw k)]∧(k≤t.length)∧(∀x∈E9,x∈bf)∧(E9.length≤40)∧Sep cb bZ ((BaseO I d J E9)::(RBase O d J E9)::(Blk b2 (d.cells dd0 dd1).toArray 25)::Rs) P) ⟨0,[],_,rfl,sSf,yc _,(fun _ h=>absurd h List.not_mem_nil),yc _,(fr.mv1)⟩ ?_)))))))))))))
 rintro m42 σ43 w41 ⟨k,E9,ρl1,rfl,rfl,hkk,gz,hEl9,ba⟩
 refine za (za (zG kr (st (mV (Iw k) (st (mV vt (st (zF (n:=t.length) nY rfl (zS ht K).sl (st (zL (k:=.i64) (a:=((k:Nat):Int)) (b:=((t.length:Nat):Int)) rfl rfl (st (mV (.bool (decide (((k:Nat):Int)<((t.length:Nat):Int)))) (stc (V:=Iw k) rfl rfl (fun fs=>?_) ?_)))))))))))))
 have hl46:=tD fs
 exact mV (Iw k) rflB
 refine stc (V:=.bool (decide (((k:Nat):Int)<20))) rfl rfl (fun ce=>?_) ?_
 have hl48:=tD ce
 exact zL (k:=.i64) (a:=((k:Nat):Int)) (b:=20) (ifpC ce) rfl rflB
 refine st (zv (b:=decide (((k:Nat):Int)<((t.length:Nat):Int))) (b':=decide (((k:Nat):Int)<20)) rfl (fun hbp=>(ifpC hbp)) (zb ?_))
 cases bb:(decide (((k:Nat):Int)<((t.length:Nat):Int)))&&(decide (((k:Nat):Int)<20))
 have hc49r:=bb
 try simp only[zh]at bb
 refine ze rfl (ye (zT (za ?_)))
 obtain⟨G51,cf,cg,ch,ft⟩:=(ba.mv1).lend
 obtain⟨hev57,vt58,vp59,ve60,hb61,fu,fv,fw⟩:=RBase.sh cf
 have hsm65:d.types.length*24≤140737488355328:=fu.small
 have hsm66:d.projs.length*40≤140737488355328:=fv.small
 have hsm67:E9.length*96≤140737488355328:=fw.small
 refine zG kr (st (mV (Ix I 0) (st (mV (Ix O 0) (st (xO rfl (st (lD dd1 uT rfl (zd (ch.b1) rfl) (st (zF (n:=d.projs.length) vT rfl (zS (zS hdd1 K) cg).sl ?_))))))))))
 refine st (cL oY (UN (n:=d.projs.length) cf yqf ch (Q.1) om (Q.2)) ?_)
 rintro _ w68 ⟨rfl,fx⟩
 refine st (mV (.bool true) (sty rfl rfl (cL pY (VZ (zS (zS hKN K) cg) fx) ?_)))
 rintro _ w70 ⟨rfl,fy⟩
 refine st (yE (v:=.bool true) rfl rfl (st (aS (.bool true) (zb (zp (zU qY (show _=(.bool true:Value)from rfl) ?_))))))
 have fz:=ft _ _ fy
 have fA:=fo _ _ fz
 refine⟨rfl,(fA.s4_)⟩
 try simp only[zh]at bb
 refine zf rfl (zr (za (zu (za (R0 fun _=>st (mV ad (st (mV vt (st (mV (Iw k) ?_))))))))))
 have fB:k<t.length:=bo
 refine st (zg (k:=4) (i:=k) nY rY rfl (zS ht K).sl rfl fB ?_)
 have bc:k<t.length:=bo
 obtain⟨bi,ay⟩:=(zS ht K).trn bc
 rw[←zI default bc]at bi ay
 have cz:=ba.cells bi ((zS ht K).foot (ne_of_lt bc))
 refine st (zi (k:=4) Tryz.isAgg38 rY rfl rfl cz (st (cL Tryz.call11 (zba (l:=bf) (vl:=ad) (t:=(t.getD k default)) bh ay ba om) ?_)))
 rintro Y w83 ⟨_,g,rfl,hxl81,al,ci⟩
 have fC:=ci.r0
 have hr85s:_*96≤_:=fC.2
 refine st (aS Y (zb (za ?_)))
 obtain⟨G86,fE,bd,fF,fG⟩:=ci.lend
 have am:=RowE.rdB fE bd
 have hrd92s:_*96≤_:=am.small
 refine R0 fun _=>st (mV Y (st (cL nR (XK (l:=g) (vl:=Y) am fF) ?_)))
 rintro bj w94 ⟨_,rfl,cj⟩
 have fH:=cj.r0
 have hr96s:_*96≤_:=fH.2
 refine st (aS bj (zb (za (za ?_))))
 obtain⟨G97,fI,bk,cA,cB⟩:=cj.lend
 have az:=RowE.rd fI
 have hrd103s:_*96≤_:=az.small
 refine R0 fun _=>st (mV (Ix I 0) (st (mV bj ?_)))
 refine st (cL Tryz.call13 (ZI (l:=g) (vl:=bj) az (zS (zS (zS hKN K) bd) bk) cA (Q.1) (Q.2) ((by first|exact bg.one al gz|exact bg.one al (fun _ h=>absurd h List.not_mem_nil))) ((by first|omega|(simp only[List.length_nil];omega))) ((by omega))) ?_)
 rintro _ w104 ⟨rfl,cC⟩
 refine st (mV (Ix O 0) (st (mV Y (st (cL Tryz.call14 (JF (l:=g) (vl:=Y) (zS am bk) (cC.mv1) om) ?_)))))
 rintro _ w107 ⟨rfl,cD⟩
 refine st (yx (k:=.i64) (a:=(((g.length-yL J g E9):Nat):Int)) (b:=(((g.length-yL J g E9):Nat):Int)) rfl rfl ?_)
 have ck:(!decide ((((g.length-yL J g E9):Nat):Int)=(((g.length-yL J g E9):Nat):Int)))=false:=(by simp)
 rw[ck]
 refine zb (ze rfl (zr (za ?_)))
 have cE:=cB _ _ cD
 refine R0 fun _=>st (mV bj ?_)
 obtain⟨f111,cF,cG⟩:=cE.toML
 refine st (cL Tryz.call15 (VG cF cG) ?_)
 rintro _ w114 ⟨rfl,cH⟩
 refine zb (za (R0 fun _=>st (mV (Ix I 0) (st (cL Tryz.call16 (WX (cH.mv1)) ?_)))))
 rintro q M ⟨_,rfl,bl⟩
 have cI:=bl.r1
 have hr120s:_*120≤_:=cI.2
 refine st (aS q (zb (za (za ?_))))
 obtain⟨N,U,cJ,cK,cM⟩:=(bl.mv2).lend
 obtain⟨hev128,vt129,vp130,ve131,hb132,cN,cO,cP⟩:=RBase.sh U
 have hsm136:d.types.length*24≤140737488355328:=cN.small
 have hsm137:d.projs.length*40≤140737488355328:=cO.small
 have hsm138:g.length*96≤140737488355328:=cP.small
 refine zG kr (st (mV q (st (mV (Ix O 0) (st (cL Tryz.call18 (Kk U cK (Q.1) om) ?_))))))
 rintro cl w140 ⟨_,rfl,bm⟩
 have cQ:=bm.r0
 have hr142s:_*120≤_:=cQ.2
 obtain⟨G144,cR,hB147,cS,cT⟩:=(bm.mv2).lend
 have aA:=RowE.rd cR
 have hrd150s:_*120≤_:=aA.small
 obtain⟨G151,cU,cV,cW,cX⟩:=cS.lend
 have aB:=RowE.rd cU
 have hrd157s:_*120≤_:=aB.small
 refine st (cL Tryz.call17 (VH (a:=(zq d g)) (va:=q) (b:=(zq d g)) (vb:=cl) (zS aA cV) aB cW) ?_)
 rintro _ w158 ⟨rfl,cY⟩
 have cZ:=cX _ _ cY
 have bn:=cT _ _ cZ
 refine st (yH (a:=decide ((zq d g)=(zq d g))) rfl ?_)
 have cm:(!(decide ((zq d g)=(zq d g))))=false:=(by simp)
 rw[cm]
 refine st (mV (.bool false) (sty rfl rfl (mV (Ix I 0) (sty rfl rfl (mV (Ix O 0) (sty rfl rfl (xO rfl (sty rfl rfl (lD dd1 uT rfl (zd (bn.b3) rfl) (sty rfl rfl (zF (n:=d.projs.length) vT rfl (zS (zS (zS hdd1 K) bd) cJ).sl ?_)))))))))))
 refine sty rfl rfl (cL oY (UN (n:=d.projs.length) U yqf (bn.mv2) (Q.1) om (Q.2)) ?_)
 rintro _ ae ⟨rfl,da⟩
 refine sty rfl rfl (yH (a:=true) rfl ?_)
 have cn:(false)=false:=(by simp)
 rw[cn]
 refine st (yw (v:=.bool false) rfl rfl (zb (ze rfl (zr (za ?_)))))
 obtain⟨c,f9,hps9,fJ,dd⟩:=(da.mv1).entML
 have hrl9:=xp d g
 have aC:Sep N M ((RowE (α:=EntS) own 57 q c)::(ML ae f9 noX)::(BaseO I d J g)::(RowE (α:=Ent) own 57 cl (zq d g))::dv::Rs) ae:=dd
 have L:=aC.r0
 have hr169s:_*120≤_:=L.2
 refine R0 fun _=>st (aS (Iv 0) (zb (zu (yd (fun mq σ P=> ∃(e:Nat) (ρ:Env),mq=c.length-e∧σ=yg ρ [(3,ad),(4,vt),(5,Ix b2 0),(10,.bool false),(11,Ix I 0),(12,Ix O 0),(13,Iw k),(14,Y),(16,q),(17,Iw e)]∧(e≤c.length)∧Sep N M ((BaseO I d J g)::(Blk b2 (d.cells dd0 dd1).toArray 25)::(RowE (α:=EntS) own 57 q c)::(ML ae f9 noX)::Rs) P) ⟨0,_,rfl,sSf,yc _,(aC.s5_ceab)⟩ ?_))))
 rintro m172 σ173 fK ⟨e,ρl2,rfl,rfl,hkq9,bp⟩
 let db:=Ix (sb q) (so q+e*13)
 let af:=(((c.getD e default).typ),((c.getD e default).agg))
 refine za (za (R0 fun _=>st (mV (Iw e) (st (mV q (st (zF (n:=c.length) nT rfl L.1 (st (zL (k:=.i64) (a:=((e:Nat):Int)) (b:=((c.length:Nat):Int)) rfl rfl (zb ?_))))))))))
 cases X:decide (((e:Nat):Int)<((c.length:Nat):Int))
 have hc175r:=X
 have X:=fD X
 have de:=cM _ _ bp
 refine ze rfl (ye (zT (R0 fun _=>st (mV (Iw k) ?_))))
 have df:InR ((k+1:Nat):Int):=bo
 refine st (zR (r:=((k+1:Nat):Int)) (k:=.i64) (a:=((k:Nat):Int)) (b:=1) rfl rfl (by rw[show(((k:Nat):Int)+1:Int)=((k+1:Nat):Int)from bo];exact zz df) (st (aS (Iw (k+1)) (zb ?_))))
 have dg:=fG _ _ de
 have dh:Sep cb bZ ((BaseO I d J g)::(RBase O d J g)::dv::Rs) fK:=dg.sel 6 [2,1,3] (xW _ _) rfl rfl
 exact⟨_,by omega,k+1,g,_,rfl,sSf,by omega,al,by omega,dh⟩
 have X:=tD X
 refine zf rfl (zr (za (zu (za ?_))))
 refine WD6 ((fun TT R=>WF [fun vals P=>Sep N M (R::TT) P,fun vals P=> ∃(m:Value),(vals 13=(.tuple #[.agg ((yA d af (zq d g)).cells m).toArray,.bool ((zm d (zq d g) af).isSome)]:Value))∧Sep N M (R::(RowE (α:=Cel) own 105 m (stL d af (zq d g)))::TT) P,fun vals P=> ∃(z:Nat),(vals 17=(Ix z 0:Value))∧Sep N M ((Blk z #[Iv 0,(Iz)] 48)::R::TT) P,fun vals P=> ∃(m:Value) (z:Nat),(vals 13=(.tuple #[.agg ((yA d af (zq d g)).cells m).toArray,.bool ((zm d (zq d g) af).isSome)]:Value))∧(vals 17=(Ix z 0:Value))∧Sep N M ((Blk z #[Iv 0,(Iz)] 48)::R::(RowE (α:=Cel) own 105 m (stL d af (zq d g)))::TT) P,fun _ _=>True,fun _ _=>True,fun _ _=>True,fun vals P=> ∃(m:Value) (z:Nat),(vals 13=(.tuple #[.agg ((yA d af (zq d g)).cells m).toArray,.bool ((zm d (zq d g) af).isSome)]:Value))∧(vals 17=(Ix z 0:Value))∧Sep N M ((Blk z ((yA d af (zq d g)).cells m).toArray 48)::R::(RowE (α:=Cel) own 105 m (stL d af (zq d g)))::TT) P]) (dv::(RowE (α:=EntS) own 57 q c)::(ML ae f9 noX)::Rs) (BaseO I d J g)) (AF [Vl 0 (Ix I 0),Vl 1 q,Vl 2 (Iw e),Vl 3 db,Vl 4 db,Vl 5 (Ix (sb q) (so q+e*13+4)),Vl 6 (Iv ((c.getD e default).typ)),Vl 7 q,Vl 8 (Iw e),Vl 9 db,Vl 10 db,Vl 11 (Ix (sb q) (so q+e*13+5)),Vl 12 (Iv ((c.getD e default).agg)),fun _=>True,fun vals=> ∀(m:Value),vals 13=(.tuple #[.agg ((yA d af (zq d g)).cells m).toArray,.bool ((zm d (zq d g) af).isSome)]:Value)→vals 14=(.tuple #[.agg ((yA d af (zq d g)).cells m).toArray,.bool ((zm d (zq d g) af).isSome)]:Value),fun vals=> ∀(m:Value),vals 13=(.tuple #[.agg ((yA d af (zq d g)).cells m).toArray,.bool ((zm d (zq d g) af).isSome)]:Value)→vals 15=(.agg ((yA d af (zq d g)).cells m).toArray:Value),Vl 16 (.bool ((zm d (zq d g) af).isSome)),fun _=>True,fun _=>True,Vl 19 (.bool ((zm d (zq d g) af).isSome))]) [[],[],[],[1,2],[1,2,3],[1,2,3,4],[1,2,3,4,5],[],[],[7,8],[7,8,9],[7,8,9,10],[7,8,9,10,11],(rg 13),(rg 14),(rg 15),(rg 15),[],[0,1,2,3,4,5,6,7,8,9,10,11,12,13,14,15,17],(rg 19)] [13,17,18] [[0,2],[0,2],[0,2],[0,2],[0,2],[0,2],[0,2],[0,2],[0,2],[0,2],[0,2],[0,2],[0,2],[0,2],[1,3],[1,3],[1,3,7],[0,1],[3],[7]] bp ⟨fun _ _ _ _ _ _=>obl rfl (mV (Ix I 0) dR),fun _ _ _ _ _ _=>obl rfl (mV q dR),fun _ _ _ _ _ _=>obl rfl (mV (Iw e) dR),?_,fun _ _ _ _ _ di=>obl rfl (xt (di 3 dc) dR),fun _ _ _ _ _ dj=>obl rfl (xr (dj 4 dc) dR),?_,fun _ _ _ _ _ _=>obl rfl (mV q dR),fun _ _ _ _ _ _=>obl rfl (mV (Iw e) dR),?_,fun _ _ _ _ _ dk=>obl rfl (xt (dk 9 dc) dR),fun _ _ _ _ _ dl=>obl rfl (Zl (dl 10 dc) dR),?_,?_,?_,?_,?_,?_,?_,fun _ _ _ _ _ dm=>obl rfl (zM (v:=.bool ((zm d (zq d g) af).isSome)) (dm 16 dc) dR),zl⟩ ?_ (hlocA:=xv ⟨dA,dA,dA,dA,dA,dA,dA,dA,dA,dA,dA,dA,dA,dT,fun vals A E h=>fun m D=>(E 14 (.inl rfl)).trans (h m ((E 13 (.inr dc)).symm.trans D)),fun vals A E h=>fun m D=>(E 15 (.inl rfl)).trans (h m ((E 13 (.inr dc)).symm.trans D)),dA,dT,dT,dA,zl⟩)
 intro fL vals w350 dp bq Z
 have aD:fL∈[0,2]:=dp
 simp only[yF]at aD
 rcases aD with rfl|rfl
 have hS354:Sep _ _ _ _:=bq
 refine obl rfl ?_
 have dq:e<c.length:=bo
 exact zg (k:=13) (i:=e) nT mT (Z 1 dc) L.1 (Z 2 dc) dq dR
 obtain⟨z,F,hS358⟩:=bq
 refine obl rfl ?_
 have dr:e<c.length:=bo
 exact zg (k:=13) (i:=e) nT mT (Z 1 dc) L.1 (Z 2 dc) dr dR
 intro fM vals w375 ds br bs
 have aE:fM∈[0,2]:=ds
 simp only[yF]at aE
 rcases aE with rfl|rfl
 have dt:Sep _ _ _ _:=br
 refine obl rfl ?_
 have du:e<c.length:=bo
 obtain⟨_,_,co,rfl,hoke381⟩:=dt.rowAtD (i:=2) (j:=e) rfl du
 exact lD (Iv ((c.getD e default).typ)) kT (bs 5 dc) (co.get (j:=4) rfl) dR
 obtain⟨z,F,dw⟩:=br
 refine obl rfl ?_
 have dx:e<c.length:=bo
 obtain⟨_,_,cp,rfl,hoke385⟩:=dw.rowAtD (i:=3) (j:=e) rfl dx
 exact lD (Iv ((c.getD e default).typ)) kT (bs 5 dc) (cp.get (j:=4) rfl) dR
 intro fN vals w398 dy bt aa
 have aF:fN∈[0,2]:=dy
 simp only[yF]at aF
 rcases aF with rfl|rfl
 have hS402:Sep _ _ _ _:=bt
 refine obl rfl ?_
 have dz:e<c.length:=bo
 exact zg (k:=13) (i:=e) nT mT (aa 7 dc) L.1 (aa 8 dc) dz dR
 obtain⟨z,F,hS406⟩:=bt
 refine obl rfl ?_
 have dB:e<c.length:=bo
 exact zg (k:=13) (i:=e) nT mT (aa 7 dc) L.1 (aa 8 dc) dB dR
 intro fO vals w423 dD bu bv
 have aG:fO∈[0,2]:=dD
 simp only[yF]at aG
 rcases aG with rfl|rfl
 have dE:Sep _ _ _ _:=bu
 refine obl rfl ?_
 have dF:e<c.length:=bo
 obtain⟨_,_,cq,rfl,hoke429⟩:=dE.rowAtD (i:=2) (j:=e) rfl dF
 exact lD (Iv ((c.getD e default).agg)) kT (bv 11 dc) (cq.get (j:=5) rfl) dR
 obtain⟨z,F,dG⟩:=bu
 refine obl rfl ?_
 have dH:e<c.length:=bo
 obtain⟨_,_,cr,rfl,hoke433⟩:=dG.rowAtD (i:=3) (j:=e) rfl dH
 exact lD (Iv ((c.getD e default).agg)) kT (bv 11 dc) (cr.get (j:=5) rfl) dR
 intro fP vals w436 dI bw S
 have aH:fP∈[0,2]:=dI
 simp only[yF]at aH
 rcases aH with rfl|rfl
 have bx:Sep _ _ _ _:=bw
 refine obl rfl ?_
 have dJ:e<c.length:=bo
 obtain⟨_,_,hce444,rfl,ah⟩:=bx.rowAtD (i:=2) (j:=e) rfl dJ
 refine(zV (f:=20) (vals:=[Ix I 0,Iv ((c.getD e default).typ),Iv ((c.getD e default).agg)]) (cap:=[]) rfl (yM ⟨(S 0 dc),(S 6 dc),(S 12 dc),zl⟩) sY (Qh (ty:=(c.getD e default).typ) (no:=(c.getD e default).agg) ah.typ ah.agg bx) ?_)
 rintro _ w447 ⟨m,rfl,bz⟩
 have dK:=bz.r1
 have hr449s:_*32≤_:=dK.2
 exact fun A E C=>⟨(exiA m (zA E bz)),zl⟩
 obtain⟨z,F,bA⟩:=bw
 refine obl rfl ?_
 have dL:e<c.length:=bo
 obtain⟨_,_,hce454,rfl,ai⟩:=bA.rowAtD (i:=3) (j:=e) rfl dL
 refine(zV (f:=20) (vals:=[Ix I 0,Iv ((c.getD e default).typ),Iv ((c.getD e default).agg)]) (cap:=[]) rfl (yM ⟨(S 0 dc),(S 6 dc),(S 12 dc),zl⟩) sY (Qh (ty:=(c.getD e default).typ) (no:=(c.getD e default).agg) ai.typ ai.agg (bA.mv1)) ?_)
 rintro _ w458 ⟨m,rfl,bB⟩
 have dM:=bB.r1
 have hr460s:_*32≤_:=dM.2
 exact fun A E C=>⟨(exiA m (exiA z (zA E (zA ((C 17 dc).trans F) (bB.mv2))))),zl⟩
 intro fQ vals w463 dN bC hA464
 have aI:fQ∈[1,3]:=dN
 simp only[yF]at aI
 rcases aI with rfl|rfl
 obtain⟨m,s,hS467⟩:=bC
 refine obl rfl (zN (v:=.tuple #[.agg ((yA d af (zq d g)).cells m).toArray,.bool ((zm d (zq d g) af).isSome)]) s (fun A E C=>⟨rfl,?_⟩))
 intro an D
 rw[C 13 (by decide)]at D;cases s.symm.trans D
 exact E
 obtain⟨m,z,s,F,hS468⟩:=bC
 refine obl rfl (zN (v:=.tuple #[.agg ((yA d af (zq d g)).cells m).toArray,.bool ((zm d (zq d g) af).isSome)]) s (fun A E C=>⟨rfl,?_⟩))
 intro an D
 rw[C 13 (by decide)]at D;cases s.symm.trans D
 exact E
 intro fR vals w470 dO bD bE
 have aJ:fR∈[1,3]:=dO
 simp only[yF]at aJ
 rcases aJ with rfl|rfl
 obtain⟨m,s,hS474⟩:=bD
 let gw:=(yA d af (zq d g)).cells m
 have fS:vals 14=(.tuple #[.agg gw.toArray,.bool ((zm d (zq d g) af).isSome)]:Value):=bE 14 dc m s
 refine obl rfl (zH (vs:=[.agg gw.toArray,.bool ((zm d (zq d g) af).isSome)]) (i:=0) (v:=.agg gw.toArray) fS rfl (fun A E C=>⟨rfl,?_⟩))
 intro an D
 rw[C 13 (by decide)]at D;cases s.symm.trans D
 exact E
 obtain⟨m,z,s,F,hS476⟩:=bD
 let gA:=(yA d af (zq d g)).cells m
 have fT:vals 14=(.tuple #[.agg gA.toArray,.bool ((zm d (zq d g) af).isSome)]:Value):=bE 14 dc m s
 refine obl rfl (zH (vs:=[.agg gA.toArray,.bool ((zm d (zq d g) af).isSome)]) (i:=0) (v:=.agg gA.toArray) fT rfl (fun A E C=>⟨rfl,?_⟩))
 intro an D
 rw[C 13 (by decide)]at D;cases s.symm.trans D
 exact E
 intro fU vals w479 dP ao ap
 have aK:fU∈[1,3,7]:=dP
 simp only[yF]at aK
 rcases aK with rfl|rfl|rfl
 obtain⟨m,s,hS483⟩:=ao
 have fV:vals 14=(.tuple #[.agg ((yA d af (zq d g)).cells m).toArray,.bool ((zm d (zq d g) af).isSome)]:Value):=ap 14 dc m s
 exact obl rfl (zH (vs:=[.agg ((yA d af (zq d g)).cells m).toArray,.bool ((zm d (zq d g) af).isSome)]) (i:=1) (v:=.bool ((zm d (zq d g) af).isSome)) fV rfl dR)
 obtain⟨m,z,s,F,hS485⟩:=ao
 have fW:vals 14=(.tuple #[.agg ((yA d af (zq d g)).cells m).toArray,.bool ((zm d (zq d g) af).isSome)]:Value):=ap 14 dc m s
 exact obl rfl (zH (vs:=[.agg ((yA d af (zq d g)).cells m).toArray,.bool ((zm d (zq d g) af).isSome)]) (i:=1) (v:=.bool ((zm d (zq d g) af).isSome)) fW rfl dR)
 obtain⟨m,z,s,F,hS487⟩:=ao
 have fX:vals 14=(.tuple #[.agg ((yA d af (zq d g)).cells m).toArray,.bool ((zm d (zq d g) af).isSome)]:Value):=ap 14 dc m s
 exact obl rfl (zH (vs:=[.agg ((yA d af (zq d g)).cells m).toArray,.bool ((zm d (zq d g) af).isSome)]) (i:=1) (v:=.bool ((zm d (zq d g) af).isSome)) fX rfl dR)
 intro fY vals w490 dQ bF hA491
 have aL:fY∈[0,1]:=dQ
 simp only[yF]at aL
 rcases aL with rfl|rfl
 have dS:Sep _ _ _ _:=bF
 refine obl rfl ((zB tT ?_))
 intro w497 z dU
 exact fun A E C=>⟨(exiA z (zA E (dS.new dU))),zl⟩
 obtain⟨m,s,dV⟩:=bF
 refine obl rfl ((zB tT ?_))
 intro w502 z dW
 exact fun A E C=>⟨(exiA m (exiA z (zA ((C 13 dc).trans s) (zA E (dV.new dW))))),zl⟩
 intro fZ vals w505 dX dY dZ
 have aM:fZ∈[3]:=dX
 simp only[yF]at aM
 subst aM
 obtain⟨m,z,s,F,aq⟩:=dY
 let gB:=(yA d af (zq d g)).cells m
 refine obl rfl ?_
 have ga:vals 15=(.agg gB.toArray:Value):=dZ 15 dc m s
 have bG:=aq.r2
 have hr513s:_*32≤_:=bG.2
 refine(zw (v:=.agg gB.toArray) (c':=gB.toArray) sT F ga (aq.b0) (yo ⟨rfl,bG.1.one,zl⟩) yqc rfl ?_)
 intro w511 ea
 exact fun A E C=>⟨(exiA m (exiA z (zA ((C 13 dc).trans s) (zA ((C 17 dc).trans F) (aq.pt0 ea))))),zl⟩
 intro vals w521 eb ec
 obtain⟨m,z,s,F,ed⟩:=eb
 have gc:=ec 19 dc
 refine yi (kv:=[(3,ad),(4,vt),(5,Ix b2 0),(10,.bool false),(11,Ix I 0),(12,Ix O 0),(13,Iw k),(14,Y),(16,q),(17,Iw e),(82,Iw e),(83,q),(84,Iw c.length),(85,.bool true),(18,Ix z 0),(19,.bool ((zm d (zq d g) af).isSome))]) ⟨rfl,rfl,rfl,rfl,rfl,rfl,rfl,rfl,rfl,rfl,rfl,rfl,rfl,rfl,(by exact F),(by exact gc),zl⟩ (fun ρw521=>(zb (za ?_)))
 refine WD6 ((fun TT R=>WF [fun vals P=>Sep N M (R::TT) P,fun vals P=> ∃(p:Value),(vals 13=(.tuple #[.agg ((yA d af (zq d g)).cells p).toArray,.bool ((zm d (zq d g) af).isSome)]:Value))∧Sep N M ((RowE (α:=Cel) own 105 p (stL d af (zq d g)))::R::TT) P,fun vals P=> ∃(B:Nat),(vals 17=(Ix B 0:Value))∧Sep N M ((Blk B #[Iv 0,(Iz)] 48)::R::TT) P,fun vals P=> ∃(p:Value) (B:Nat),(vals 13=(.tuple #[.agg ((yA d af (zq d g)).cells p).toArray,.bool ((zm d (zq d g) af).isSome)]:Value))∧(vals 17=(Ix B 0:Value))∧Sep N M ((Blk B #[Iv 0,(Iz)] 48)::(RowE (α:=Cel) own 105 p (stL d af (zq d g)))::R::TT) P,fun _ _=>True,fun _ _=>True,fun _ _=>True,fun vals P=> ∃(p:Value) (B:Nat),(vals 13=(.tuple #[.agg ((yA d af (zq d g)).cells p).toArray,.bool ((zm d (zq d g) af).isSome)]:Value))∧(vals 17=(Ix B 0:Value))∧Sep N M ((Blk B ((yA d af (zq d g)).cells p).toArray 48)::(RowE (α:=Cel) own 105 p (stL d af (zq d g)))::R::TT) P]) ((BaseO I d J g)::(RowE (α:=Cel) own 105 m (stL d af (zq d g)))::dv::(RowE (α:=EntS) own 57 q c)::(ML ae f9 noX)::Rs) (Blk z ((yA d af (zq d g)).cells m).toArray 48)) (AF [Vl 0 (Ix O 0),Vl 1 q,Vl 2 (Iw e),Vl 3 db,Vl 4 db,Vl 5 (Ix (sb q) (so q+e*13+4)),Vl 6 (Iv ((c.getD e default).typ)),Vl 7 q,Vl 8 (Iw e),Vl 9 db,Vl 10 db,Vl 11 (Ix (sb q) (so q+e*13+5)),Vl 12 (Iv ((c.getD e default).agg)),fun _=>True,fun vals=> ∀(p:Value),vals 13=(.tuple #[.agg ((yA d af (zq d g)).cells p).toArray,.bool ((zm d (zq d g) af).isSome)]:Value)→vals 14=(.tuple #[.agg ((yA d af (zq d g)).cells p).toArray,.bool ((zm d (zq d g) af).isSome)]:Value),fun vals=> ∀(p:Value),vals 13=(.tuple #[.agg ((yA d af (zq d g)).cells p).toArray,.bool ((zm d (zq d g) af).isSome)]:Value)→vals 15=(.agg ((yA d af (zq d g)).cells p).toArray:Value),Vl 16 (.bool ((zm d (zq d g) af).isSome)),fun _=>True,fun _=>True,Vl 19 (.bool ((zm d (zq d g) af).isSome))]) [[],[],[],[1,2],[1,2,3],[1,2,3,4],[1,2,3,4,5],[],[],[7,8],[7,8,9],[7,8,9,10],[7,8,9,10,11],(rg 13),(rg 14),(rg 15),(rg 15),[],[0,1,2,3,4,5,6,7,8,9,10,11,12,13,14,15,17],(rg 19)] [13,17,18] [[0,2],[0,2],[0,2],[0,2],[0,2],[0,2],[0,2],[0,2],[0,2],[0,2],[0,2],[0,2],[0,2],[0,2],[1,3],[1,3],[1,3,7],[0,1],[3],[7]] ed ⟨fun _ _ _ _ _ _=>obl rfl (mV (Ix O 0) dR),fun _ _ _ _ _ _=>obl rfl (mV q dR),fun _ _ _ _ _ _=>obl rfl (mV (Iw e) dR),?_,fun _ _ _ _ _ ee=>obl rfl (xt (ee 3 dc) dR),fun _ _ _ _ _ ef=>obl rfl (xr (ef 4 dc) dR),?_,fun _ _ _ _ _ _=>obl rfl (mV q dR),fun _ _ _ _ _ _=>obl rfl (mV (Iw e) dR),?_,fun _ _ _ _ _ eg=>obl rfl (xt (eg 9 dc) dR),fun _ _ _ _ _ eh=>obl rfl (Zl (eh 10 dc) dR),?_,?_,?_,?_,?_,?_,?_,fun _ _ _ _ _ ei=>obl rfl (zM (v:=.bool ((zm d (zq d g) af).isSome)) (ei 16 dc) dR),zl⟩ ?_ (hlocA:=xv ⟨dA,dA,dA,dA,dA,dA,dA,dA,dA,dA,dA,dA,dA,dT,fun vals A E h=>fun p D=>(E 14 (.inl rfl)).trans (h p ((E 13 (.inr dc)).symm.trans D)),fun vals A E h=>fun p D=>(E 15 (.inl rfl)).trans (h p ((E 13 (.inr dc)).symm.trans D)),dA,dT,dT,dA,zl⟩)
 intro gd vals w696 ej bH ab
 have aN:gd∈[0,2]:=ej
 simp only[yF]at aN
 rcases aN with rfl|rfl
 have hS700:Sep _ _ _ _:=bH
 refine obl rfl ?_
 have ek:e<c.length:=bo
 exact zg (k:=13) (i:=e) nT mT (ab 1 dc) L.1 (ab 2 dc) ek dR
 obtain⟨B,H,hS704⟩:=bH
 refine obl rfl ?_
 have el:e<c.length:=bo
 exact zg (k:=13) (i:=e) nT mT (ab 1 dc) L.1 (ab 2 dc) el dR
 intro ge vals w721 em bI bJ
 have aO:ge∈[0,2]:=em
 simp only[yF]at aO
 rcases aO with rfl|rfl
 have en:Sep _ _ _ _:=bI
 refine obl rfl ?_
 have eo:e<c.length:=bo
 obtain⟨_,_,cs,rfl,hoke727⟩:=en.rowAtD (i:=4) (j:=e) rfl eo
 exact lD (Iv ((c.getD e default).typ)) kT (bJ 5 dc) (cs.get (j:=4) rfl) dR
 obtain⟨B,H,er⟩:=bI
 refine obl rfl ?_
 have es:e<c.length:=bo
 obtain⟨_,_,ct,rfl,hoke731⟩:=er.rowAtD (i:=5) (j:=e) rfl es
 exact lD (Iv ((c.getD e default).typ)) kT (bJ 5 dc) (ct.get (j:=4) rfl) dR
 intro gf vals w744 et bK ac
 have aP:gf∈[0,2]:=et
 simp only[yF]at aP
 rcases aP with rfl|rfl
 have hS748:Sep _ _ _ _:=bK
 refine obl rfl ?_
 have eu:e<c.length:=bo
 exact zg (k:=13) (i:=e) nT mT (ac 7 dc) L.1 (ac 8 dc) eu dR
 obtain⟨B,H,hS752⟩:=bK
 refine obl rfl ?_
 have ew:e<c.length:=bo
 exact zg (k:=13) (i:=e) nT mT (ac 7 dc) L.1 (ac 8 dc) ew dR
 intro gg vals w769 ex bL bM
 have aQ:gg∈[0,2]:=ex
 simp only[yF]at aQ
 rcases aQ with rfl|rfl
 have ey:Sep _ _ _ _:=bL
 refine obl rfl ?_
 have ez:e<c.length:=bo
 obtain⟨_,_,cu,rfl,hoke775⟩:=ey.rowAtD (i:=4) (j:=e) rfl ez
 exact lD (Iv ((c.getD e default).agg)) kT (bM 11 dc) (cu.get (j:=5) rfl) dR
 obtain⟨B,H,eA⟩:=bL
 refine obl rfl ?_
 have eB:e<c.length:=bo
 obtain⟨_,_,cv,rfl,hoke779⟩:=eA.rowAtD (i:=5) (j:=e) rfl eB
 exact lD (Iv ((c.getD e default).agg)) kT (bM 11 dc) (cv.get (j:=5) rfl) dR
 intro gh vals w782 eC bN T
 have aR:gh∈[0,2]:=eC
 simp only[yF]at aR
 rcases aR with rfl|rfl
 have bO:Sep _ _ _ _:=bN
 refine obl rfl ?_
 have eD:e<c.length:=bo
 obtain⟨_,_,hce790,rfl,aj⟩:=bO.rowAtD (i:=4) (j:=e) rfl eD
 refine(zV (f:=21) (vals:=[Ix O 0,Iv ((c.getD e default).typ),Iv ((c.getD e default).agg)]) (cap:=[]) rfl (yM ⟨(T 0 dc),(T 6 dc),(T 12 dc),zl⟩) tY (Qx (ty:=(c.getD e default).typ) (no:=(c.getD e default).agg) U aj.typ aj.agg bO (Q.1) om) ?_)
 rintro _ w793 ⟨p,rfl,bP⟩
 have eE:=bP.r0
 have hr795s:_*32≤_:=eE.2
 exact fun A E C=>⟨(exiA p (zA E bP)),zl⟩
 obtain⟨B,H,bQ⟩:=bN
 refine obl rfl ?_
 have eF:e<c.length:=bo
 obtain⟨_,_,hce800,rfl,ak⟩:=bQ.rowAtD (i:=5) (j:=e) rfl eF
 refine(zV (f:=21) (vals:=[Ix O 0,Iv ((c.getD e default).typ),Iv ((c.getD e default).agg)]) (cap:=[]) rfl (yM ⟨(T 0 dc),(T 6 dc),(T 12 dc),zl⟩) tY (Qx (ty:=(c.getD e default).typ) (no:=(c.getD e default).agg) U ak.typ ak.agg bQ (Q.1) om) ?_)
 rintro _ w803 ⟨p,rfl,bR⟩
 have eG:=bR.r0
 have hr805s:_*32≤_:=eG.2
 exact fun A E C=>⟨(exiA p (exiA B (zA E (zA ((C 17 dc).trans H) (bR.mv1))))),zl⟩
 intro gi vals w808 eH bS hA809
 have aT:gi∈[1,3]:=eH
 simp only[yF]at aT
 rcases aT with rfl|rfl
 obtain⟨p,u,hS812⟩:=bS
 refine obl rfl (zN (v:=.tuple #[.agg ((yA d af (zq d g)).cells p).toArray,.bool ((zm d (zq d g) af).isSome)]) u (fun A E C=>⟨rfl,?_⟩))
 intro ar D
 rw[C 13 (by decide)]at D;cases u.symm.trans D
 exact E
 obtain⟨p,B,u,H,hS813⟩:=bS
 refine obl rfl (zN (v:=.tuple #[.agg ((yA d af (zq d g)).cells p).toArray,.bool ((zm d (zq d g) af).isSome)]) u (fun A E C=>⟨rfl,?_⟩))
 intro ar D
 rw[C 13 (by decide)]at D;cases u.symm.trans D
 exact E
 intro gj vals w815 eI bT bU
 have aU:gj∈[1,3]:=eI
 simp only[yF]at aU
 rcases aU with rfl|rfl
 obtain⟨p,u,hS819⟩:=bT
 let gC:=(yA d af (zq d g)).cells p
 have gk:vals 14=(.tuple #[.agg gC.toArray,.bool ((zm d (zq d g) af).isSome)]:Value):=bU 14 dc p u
 refine obl rfl (zH (vs:=[.agg gC.toArray,.bool ((zm d (zq d g) af).isSome)]) (i:=0) (v:=.agg gC.toArray) gk rfl (fun A E C=>⟨rfl,?_⟩))
 intro ar D
 rw[C 13 (by decide)]at D;cases u.symm.trans D
 exact E
 obtain⟨p,B,u,H,hS821⟩:=bT
 let gD:=(yA d af (zq d g)).cells p
 have gl:vals 14=(.tuple #[.agg gD.toArray,.bool ((zm d (zq d g) af).isSome)]:Value):=bU 14 dc p u
 refine obl rfl (zH (vs:=[.agg gD.toArray,.bool ((zm d (zq d g) af).isSome)]) (i:=0) (v:=.agg gD.toArray) gl rfl (fun A E C=>⟨rfl,?_⟩))
 intro ar D
 rw[C 13 (by decide)]at D;cases u.symm.trans D
 exact E
 intro gm vals w824 eJ au av
 have aV:gm∈[1,3,7]:=eJ
 simp only[yF]at aV
 rcases aV with rfl|rfl|rfl
 obtain⟨p,u,hS828⟩:=au
 have gn:vals 14=(.tuple #[.agg ((yA d af (zq d g)).cells p).toArray,.bool ((zm d (zq d g) af).isSome)]:Value):=av 14 dc p u
 exact obl rfl (zH (vs:=[.agg ((yA d af (zq d g)).cells p).toArray,.bool ((zm d (zq d g) af).isSome)]) (i:=1) (v:=.bool ((zm d (zq d g) af).isSome)) gn rfl dR)
 obtain⟨p,B,u,H,hS830⟩:=au
 have go:vals 14=(.tuple #[.agg ((yA d af (zq d g)).cells p).toArray,.bool ((zm d (zq d g) af).isSome)]:Value):=av 14 dc p u
 exact obl rfl (zH (vs:=[.agg ((yA d af (zq d g)).cells p).toArray,.bool ((zm d (zq d g) af).isSome)]) (i:=1) (v:=.bool ((zm d (zq d g) af).isSome)) go rfl dR)
 obtain⟨p,B,u,H,hS832⟩:=au
 have gp:vals 14=(.tuple #[.agg ((yA d af (zq d g)).cells p).toArray,.bool ((zm d (zq d g) af).isSome)]:Value):=av 14 dc p u
 exact obl rfl (zH (vs:=[.agg ((yA d af (zq d g)).cells p).toArray,.bool ((zm d (zq d g) af).isSome)]) (i:=1) (v:=.bool ((zm d (zq d g) af).isSome)) gp rfl dR)
 intro gq vals w835 eK bV hA836
 have aW:gq∈[0,1]:=eK
 simp only[yF]at aW
 rcases aW with rfl|rfl
 have eL:Sep _ _ _ _:=bV
 refine obl rfl ((zB tT ?_))
 intro w842 B eM
 exact fun A E C=>⟨(exiA B (zA E (eL.new eM))),zl⟩
 obtain⟨p,u,eN⟩:=bV
 refine obl rfl ((zB tT ?_))
 intro w847 B eO
 exact fun A E C=>⟨(exiA p (exiA B (zA ((C 13 dc).trans u) (zA E (eN.new eO))))),zl⟩
 intro gr vals w850 eP eQ eR
 have aX:gr∈[3]:=eP
 simp only[yF]at aX
 subst aX
 obtain⟨p,B,u,H,aw⟩:=eQ
 let gE:=(yA d af (zq d g)).cells p
 refine obl rfl ?_
 have gs:vals 15=(.agg gE.toArray:Value):=eR 15 dc p u
 have bW:=aw.r1
 have hr858s:_*32≤_:=bW.2
 refine(zw (v:=.agg gE.toArray) (c':=gE.toArray) sT H gs (aw.b0) (yo ⟨rfl,bW.1.one,zl⟩) yqc rfl ?_)
 intro w856 eS
 exact fun A E C=>⟨(exiA p (exiA B (zA ((C 13 dc).trans u) (zA ((C 17 dc).trans H) (aw.pt0 eS))))),zl⟩
 intro vals w866 eT eU
 obtain⟨p,B,u,H,ax⟩:=eT
 have gt:=eU 19 dc
 refine yi (kv:=[(3,ad),(4,vt),(5,Ix b2 0),(10,.bool false),(11,Ix I 0),(12,Ix O 0),(13,Iw k),(14,Y),(16,q),(17,Iw e),(82,Iw e),(83,q),(84,Iw c.length),(85,.bool true),(18,Ix z 0),(19,.bool ((zm d (zq d g) af).isSome)),(20,Ix B 0),(21,.bool ((zm d (zq d g) af).isSome))]) ⟨rfl,rfl,rfl,rfl,rfl,rfl,rfl,rfl,rfl,rfl,rfl,rfl,rfl,rfl,rfl,rfl,(by exact H),(by exact gt),zl⟩ (fun ρw866=>(zb (za (za (zG kr (st (mV (.bool ((zm d (zq d g) af).isSome)) (st (mV (.bool ((zm d (zq d g) af).isSome)) ?_)))))))))
 refine st (KR (a:=(zm d (zq d g) af).isSome) (b:=(zm d (zq d g) af).isSome) Tryz.underlying4 rfl rfl ?_)
 have cw:(!(((zm d (zq d g) af).isSome)== ((zm d (zq d g) af).isSome)))=false:=(by simp)
 rw[cw]
 refine st (mV (.bool false) (sty rfl rfl (zi (k:=2) kR sT rfl rfl (zo (ax.b2)) (sty rfl rfl (zi (k:=2) kR sT rfl rfl (zo (ax.b0)) ?_)))))
 obtain⟨G873,eV,hB876,eW,eX⟩:=(ax.mv4).lend
 have aY:=RowE.rd eV
 have hrd879s:_*32≤_:=aY.small
 obtain⟨G881,eY,eZ,fa,fb⟩:=(eW.mv1).lend
 have aZ:=RowE.rd eY
 have hrd887s:_*32≤_:=aZ.small
 refine sty rfl rfl (cL Tryz.call22 (Qf (x:=(yA d (((c.getD e default).typ),((c.getD e default).agg)) (zq d g))) (y:=(yA d (((c.getD e default).typ),((c.getD e default).agg)) (zq d g))) (zS aY eZ) (zae (by rw[xp];omega)) aZ (zae (by rw[xp];omega)) fa) ?_)
 rintro _ w888 ⟨rfl,fc⟩
 have fd:=fb _ _ fc
 have bX:=eX _ _ fd
 refine sty rfl rfl (yH (a:=decide ((yA d af (zq d g))=(yA d af (zq d g)))) rfl ?_)
 have cx:(!(decide ((yA d af (zq d g))=(yA d af (zq d g)))))=false:=(by simp)
 rw[cx]
 refine st (yw (v:=.bool false) rfl rfl (zb (ze rfl (zr ?_))))
 have gu:=fJ e om
 refine R0 fun _=>st (mV q (st (mV (Iw e) ?_)))
 have fe:e<c.length:=bo
 refine st (zg (k:=13) (i:=e) nT mT rfl L.1 rfl fe (st (xt rfl (st (xQ rfl ?_)))))
 have ff:e<c.length:=bo
 obtain⟨_,_,cy,rfl,hoke894⟩:=bX.rowAtD (i:=6) (j:=e) rfl ff
 refine st (lD ((c.getD e default).dv) kY rfl (cy.get (j:=3) rfl) (st (cL lY (Wl gu (bX.mv7)) ?_)))
 rintro _ w897 ⟨rfl,fg⟩
 refine zb (R0 fun _=>st (mV (Iw e) ?_))
 have fh:InR ((e+1:Nat):Int):=bo
 refine st (zR (r:=((e+1:Nat):Int)) (k:=.i64) (a:=((e:Nat):Int)) (b:=1) rfl rfl (by rw[show(((e:Nat):Int)+1:Int)=((e+1:Nat):Int)from bo];exact zz fh) (st (aS (Iw (e+1)) (zb ?_))))
 exact⟨_,by omega,e+1,_,rfl,sSf,by omega,(fg.s8_fgha)⟩
 try simp only[zh]at be
 refine zf rfl (za (R0 fun _=>st (cL pY (VZ hKN fk) ?_)))
 rintro _ w901 ⟨rfl,fi⟩
 refine st (aS (.bool true) (zb (zp (zU qY (show _=(.bool true:Value)from rfl) ?_))))
 refine⟨rfl,(fi.s1_)⟩
theorem Ws {w:World}{d:Dcl}{dd0 dd1:Value}(h0:RdS w (xH w) dd0 d.types)(h1:RdS w (xH w) dd1 d.projs)(od:d.Ok){n0:Int}(hn0:InR n0){n1:Int}(hn1:InR n1){vl:Value}{l:List Ev}(hl:RdS w (xH w) vl l){vt:Value}{t:List Trn}(ht:RdS w (xH w) vt t)(hK:RdS w (xH w) (.slice (some ⟨0,0,none⟩) 6 6) kindsL):Ret Tryz.prog 3 [.agg (d.cells dd0 dd1).toArray,.int .i64 n0,.int .i64 n1,vl,vt] w (fun r w'=>r=.bool true∧Ext w w'):=
 Ret.mono (Ww h0 h1 od hn0 hn1 hl ht hK (Sep.start w)) (fun r w' h=>⟨h.1,h.2.fin⟩)
end
end Go.Proofs.YtpdolkiohjdodaaGreatDoor
