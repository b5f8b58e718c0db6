import Derived.Test.YtbcdijeggfoabaaGreatDoorZ8
set_option maxRecDepth 8000
set_option maxHeartbeats 4000000
set_option linter.unusedSimpArgs false
set_option linter.unusedVariables false
set_option linter.unusedSectionVars false
set_option linter.deprecated false
open Go.Proofs.Tryz renaming sizeOf44→kT,sizeOf49→lT,zeroValue44→mT,isAgg49→nT,isAgg3→oT,isAgg44→pT,sizeOf3→qT,call21→rT,underlying42→sT,sizeOf74→tT,call11→uT,results29→vT,sizeOf25→wT,results11→kR,isAgg42→lR,isAgg116→mR,isAgg41→nR,sizeOf41→oR,isAgg25→pR,underlying83→qR,underlying116→rR,isAgg74→sR,sizeOf81→tR,results38→uR,underlying22→vR,zeroValue74→wR,call42→kY,call43→lY,call41→mY,isAgg81→nY,underlying32→oY,underlying26→pY
namespace Go.Proofs.YtbcdijeggfoabaaGreatDoor
variable {G:Nat→Prop}{W w:World}{Rs:List HP}
section
open Go.Proofs Go.RowKit
theorem yqe {p:Prop}(h:p:=by first|omega|(refine⟨?_,?_⟩<;>omega)):p:=h
section
variable {G:Nat→Prop}{W w:World}{As:List HP}{vd:Value}{e:Ev}
theorem zdZ (ho:e.Ok)(h:Sep G W (RowE (α:=Int) own 3 vd e.deps::As) w):Sep G W (EV (.agg (e.cells vd).toArray) e::As) w:=h.impl (i:=0) rfl (fun _ h=>⟨vd,rfl,ho,h⟩)
theorem zax {m:Nat}{X:Int×Int→Option Ev}{k:Int×Int}(h:Sep G W (MapO xB EV m X::As) w)(hX:(X k).isSome=false):Sep G W (ZS xB EV Wh m X k Wh::As) w:=by
 obtain⟨v,hv,h1⟩:=h.mapoTake Wh k
 have hn:X k=none:=by rwa [Option.isSome_eq_false_iff,Option.isNone_iff_eq_none]at hX
 obtain rfl:=hv hn
 exact h1.sel 2 [0] (Nat.le_add_left _ _) rfl rfl
end
theorem zbN {b:Nat}{n:Nat}{L:List Ev}{e:Ev}{de0:Value}(hde0:RdS W G de0 e.deps)(oe:e.Ok)(hS0:Sep G W ((SetO b n L)::Rs) w)(hL:L.length≤1000000)(hlen: ∀y∈L,y.deps.length=n):Ret Tryz.prog 29 [.pointer (some ⟨b,0,none⟩),.agg (e.cells de0).toArray] w (fun r w'=> ∃(L1:List Ev),r=(.int .i64 ((ZE n L e)):Value)∧(L1=addL n L e)∧Sep G W ((SetO b n L1)::Rs) w'):=by
 have hde0s:_*8≤_:=hde0.small
 refine zm Tryz.func29 rfl rfl ?_
 refine za ?_
 obtain⟨G1,cO,cP,dr,Z⟩:=hS0.lend
 obtain⟨M,m8,R9,N,F,ae⟩:=SetO.sh cO
 have hsm13:(zw n L).length*8≤140737488355328:=F.small
 have af:(zw n L).length=n:=xM
 refine R0 fun _=>st (zT rfl ?_)
 intro w16 q cS
 let ad:=Blk q (e.cells de0).toArray 44
 refine st (aS (Iv 0) (zb (za (za ?_))))
 refine WD4 ((fun B=>WF [fun vals x=>Sep G1 w (B::Rs) x,fun vals x=>(vals 6=(Iv ((yE e (((zw n L).length:Nat):Int))):Value))∧Sep G1 w (B::Rs) x]) ad) (AF [Vl 0 (.agg (e.cells de0).toArray),Vl 1 (Ix b 0),Vl 2 (Ix b 0),Vl 3 (Ix b 0),Vl 4 M,Vl 5 (Iw ((zw n L).length)),fun _=>True,Vl 7 (Iv ((yE e (((zw n L).length:Nat):Int))))]) [[],[],[1],[1,2],[1,2,3],[1,2,3,4],(rg 6),(rg 7)] [6] [(0,0),(0,0),(0,0),(0,0),(0,0),(0,0),(0,0),(1,1)] (dr.new cS) ⟨ob1 0 fun _ _ (cT:Sep _ _ _ _) _=>obl rfl (ze pT kT rfl rfl (zi (cT.b0)) dR),fun _ _ _ _ _ _ _=>obl rfl (mV (Ix b 0) dR),fun _ _ _ _ _ _ cU=>obl rfl (zx (cU 1 dc) dR),fun _ _ _ _ _ _ bf=>obl rfl (XA (bf 2 dc) dR),ob1 0 fun _ _ (bg:Sep _ _ _ _) bh=>obl rfl (lD M lR (bh 3 dc) (zd (bg.gblk N) rfl) dR),ob1 0 fun _ _ _ bi=>obl rfl (zS sT (bi 4 dc) F.sl dR),?_,?_,zj⟩ ?_
 refine ob1 0 fun vals _ (cV:Sep _ _ _ _) aJ=>(obl rfl ((zO (vals:=[.agg (e.cells de0).toArray,Iw ((zw n L).length)]) rfl (yK ⟨(aJ 0 dc),(aJ 5 dc),zj⟩) Tryz.call67 (zcA (e:=e) (n:=(((zw n L).length:Nat):Int)) (zk hde0 cP) oe (by have:(zw n L).length*8≤140737488355328:=F.small;omega) cV) ?_)))
 rintro _ w70 ⟨rfl,cW⟩
 exact fun D P I=>⟨(zG P cW),zj⟩
 refine ob1 1 fun _ _ bj _=>?_
 obtain⟨aK,hS129⟩:=bj
 exact obl rfl (ya aK dR)
 intro vals w130 bk bl
 obtain⟨aK,ag⟩:=bk
 have cX:=bl 7 dc
 refine yd (kv:=[(0,Ix b 0),(1,.agg (e.cells de0).toArray),(3,Ix q 0),(4,Iv 0),(5,Iv ((yE e (((zw n L).length:Nat):Int))))]) ⟨rfl,rfl,rfl,rfl,(by exact cX),zj⟩ (fun ρw130=>(zb (za (R0 fun _=>st (mV (Iv ((yE e (((zw n L).length:Nat):Int)))) (st (yj rfl rfl (zb ?_))))))))
 cases m: !decide ((yE e (((zw n L).length:Nat):Int))=0)
 have m:=zB m
 rw[af]at m
 obtain⟨⟨ds,cY⟩,⟨hs9,hl9⟩,dt,hq9⟩:=Zq m
 have O:(zw n L).getD e.origin.toNat 0=((ZD L e.origin.toNat:Nat):Int):=Xd om
 have hcl9:=Wv (L:=L) (o:=e.origin.toNat)
 refine zf rfl (zp (za (za ?_)))
 obtain⟨s,g,hx138,ah,hok140,ai,aj⟩:=ae.at_ (e.origin,e.seq)
 have hsm143:s.deps.length*8≤140737488355328:=ai.small
 refine WD4 ((fun B=>WF [fun vals x=>Sep G1 w (B::Rs) x,fun vals x=> ∃l,(vals 10=(Ix l 0:Value))∧Sep G1 w ((Blk l #[Iv 0,Iv 0,Iv 0,(Iz),Iv 0,Iv 0,Iv 0,Iv 0,Iv 0,Iv 0] 44)::B::Rs) x,fun vals x=> ∃l,(vals 10=(Ix l 0:Value))∧Sep G1 w ((Blk l (s.cells g).toArray 44)::B::Rs) x]) ad) (AF [Vl 0 (Ix b 0),Vl 1 (Ix b 0),Vl 2 (Ix b 1),Vl 3 (.map (some m8)),Vl 4 (Ix q 0),Vl 5 (.agg #[Iv (e.origin),Iv (e.seq)]),Vl 6 (.tuple #[.agg (s.cells g).toArray,.bool ((yp L (e.origin,e.seq)).isSome)]),Vl 7 (.tuple #[.agg (s.cells g).toArray,.bool ((yp L (e.origin,e.seq)).isSome)]),Vl 8 (.agg (s.cells g).toArray),Vl 9 (.bool ((yp L (e.origin,e.seq)).isSome)),fun _=>True,fun _=>True,Vl 12 (.bool ((yp L (e.origin,e.seq)).isSome))]) [[],[0],[0,1],[0,1,2],[],[4],(rg 6),(rg 7),(rg 8),(rg 8),[],[0,1,2,3,4,5,6,7,8,10],(rg 12)] [10,11] [(0,1),(0,1),(0,1),(0,1),(0,1),(0,1),(0,1),(0,1),(0,1),(0,2),(0,0),(1,1),(2,2)] ag ⟨fun _ _ _ _ _ _ _=>obl rfl (mV (Ix b 0) dR),fun _ _ _ _ _ _ bm=>obl rfl (zx (bm 0 dc) dR),fun _ _ _ _ _ _ bn=>obl rfl (Wx (bn 1 dc) dR),?_,fun _ _ _ _ _ _ _=>obl rfl (yA rfl dR),?_,?_,fun _ _ _ _ _ _ bp=>obl rfl (yg (bp 6 dc) dR),fun _ _ _ _ _ _ bq=>obl rfl (zl (bq 7 dc) rfl dR),fun _ _ _ _ _ _ br=>obl rfl (zl (br 7 dc) rfl dR),?_,?_,fun _ _ _ _ _ _ bs=>obl rfl (ya (bs 9 dc) dR),zj⟩ ?_
 refine fun Q _ _ cZ da ak al=>?_
 have hkk:=xz cZ da
 rcases hkk with rfl|rfl
 have bv:=ak
 exact obl rfl (lD (.map (some m8)) mR (al 2 dc) (zd (bv.gblk N) rfl) dR)
 obtain⟨l,E,bw⟩:=ak
 exact obl rfl (lD (.map (some m8)) mR (al 2 dc) (zd (bw.gblk N) rfl) dR)
 refine fun R _ _ db dd am an=>?_
 have hkk:=xz db dd
 rcases hkk with rfl|rfl
 have bx:=am
 exact obl rfl (ze nR oR rfl (an 4 dc) (CellsAt.sub (zi (bx.b0)) 0 rfl) dR)
 obtain⟨l,E,bz⟩:=am
 exact obl rfl (ze nR oR rfl (an 4 dc) (CellsAt.sub (zi (bz.b1)) 0 rfl) dR)
 refine fun S _ _ de df ao J=>?_
 have hkk:=xz de df
 rcases hkk with rfl|rfl
 have bA:=ao
 exact obl rfl (Wa (k:=(e.origin,e.seq)) bA ae K2i rR mT (J 3 dc) (J 5 dc) ah aj dR)
 obtain⟨l,E,bB⟩:=ao
 exact obl rfl (Wa (k:=(e.origin,e.seq)) bB ae K2i rR mT (J 3 dc) (J 5 dc) ah aj dR)
 refine ob1 0 fun _ _ (bC:Sep _ _ _ _) _=>(obl rfl ((zv mT ?_)))
 intro w225 l bD
 exact fun D P I=>⟨(exiA l (zG P (bC.new bD))),zj⟩
 refine ob1 1 fun _ _ bE bF=>?_
 obtain⟨l,E,ap⟩:=bE
 refine obl rfl ((zr (v:=.agg (s.cells g).toArray) kT E (bF 8 dc) (ap.b0) (zZ ⟨rfl,rfl,rfl,ai.sl.one,rfl,rfl,rfl,rfl,rfl,rfl,zj⟩) yqc rfl ?_))
 intro w236 bG
 exact fun D P I=>⟨(exiA l (zG ((I 10 dc).trans E) (ap.pt0 bG))),zj⟩
 intro vals w332 bH bI
 obtain⟨l,E,aq⟩:=bH
 let bu:=Blk l (s.cells g).toArray 44
 have dg:=bI 12 dc
 refine yd (kv:=[(0,Ix b 0),(1,.agg (e.cells de0).toArray),(3,Ix q 0),(4,Iv 0),(5,Iv ((yE e (((zw n L).length:Nat):Int)))),(16,Iv ((yE e (((zw n L).length:Nat):Int)))),(17,.bool false),(7,.bool ((yp L (e.origin,e.seq)).isSome))]) ⟨rfl,rfl,rfl,rfl,rfl,rfl,rfl,(by exact dg),zj⟩ (fun ρw332=>(zb (za (R0 fun _=>st (mV (.bool ((yp L (e.origin,e.seq)).isSome)) (zb ?_))))))
 cases z:(yp L (e.origin,e.seq)).isSome
 refine zf rfl (zp (za (za ?_)))
 refine WD4 (WF [fun vals x=>Sep G1 w (bu::ad::Rs) x]) (AF [Vl 0 (Ix q 0),Vl 1 (Ix q 1),Vl 2 (Iv (e.seq)),Vl 3 (Ix b 0),Vl 4 (Ix b 0),Vl 5 (Ix b 0),Vl 6 M,Vl 7 (Ix q 0),Vl 8 (Ix q 0),Vl 9 (Iv (e.origin)),Vl 10 (Ix (sb M) (so M+e.origin.toNat*1)),Vl 11 (Iv (((zw n L).getD e.origin.toNat 0))),Vl 12 (Iv (((zw n L).getD e.origin.toNat 0)+1)),Vl 13 (.bool (!decide (e.seq=(((zw n L).getD e.origin.toNat 0)+1))))]) [[],[0],[0,1],[],[3],[3,4],[3,4,5],[],[7],[7,8],[3,4,5,6,7,8,9],[3,4,5,6,7,8,9,10],[3,4,5,6,7,8,9,10,11],(rg 13)] [] [(0,0),(0,0),(0,0),(0,0),(0,0),(0,0),(0,0),(0,0),(0,0),(0,0),(0,0),(0,0),(0,0),(0,0)] aq ⟨fun _ _ _ _ _ _ _=>obl rfl (yA rfl dR),fun _ _ _ _ _ _ bJ=>obl rfl (Za (bJ 0 dc) dR),ob1 0 fun _ _ (bK:Sep _ _ _ _) bL=>obl rfl (lD (Iv (e.seq)) oT (bL 1 dc) (zd (bK.b1) rfl) dR),fun _ _ _ _ _ _ _=>obl rfl (mV (Ix b 0) dR),fun _ _ _ _ _ _ bM=>obl rfl (zx (bM 3 dc) dR),fun _ _ _ _ _ _ bN=>obl rfl (XA (bN 4 dc) dR),ob1 0 fun _ _ (bO:Sep _ _ _ _) bP=>obl rfl (lD M lR (bP 5 dc) (zd (bO.gblk N) rfl) dR),fun _ _ _ _ _ _ _=>obl rfl (yA rfl dR),fun _ _ _ _ _ _ bQ=>obl rfl (xm (bQ 7 dc) dR),ob1 0 fun _ _ (bR:Sep _ _ _ _) bS=>obl rfl (lD (Iv (e.origin)) oT (bS 8 dc) (zd (bR.b1) rfl) dR),?_,?_,?_,ob1 0 fun _ _ _ ar=>obl rfl (yj (ar 2 dc) (ar 12 dc) dR),zj⟩ ?_
 refine ob1 0 fun _ _ _ au=>(obl rfl ?_)
 have hi526:e.origin.toNat<(zw n L).length:=bo
 exact zA sT qT (au 6 dc) F.sl (au 9 dc) ⟨by omega,by omega⟩ dR
 refine ob1 0 fun _ _ (bT:Sep _ _ _ _) bU=>(obl rfl ?_)
 have av:e.origin.toNat<(zw n L).length:=bo
 obtain⟨aL,hxe535⟩:=F.intD av
 have aM:=bT.cells aL (F.foot (ne_of_lt av))
 exact lD (Iv (((zw n L).getD e.origin.toNat 0))) oT (bU 10 dc) (aM.get (j:=0) rfl) dR
 refine ob1 0 fun _ _ _ bV=>(obl rfl ?_)
 have bW:InR (((zw n L).getD e.origin.toNat 0)+1):=by omega
 exact zU (r:=((zw n L).getD e.origin.toNat 0)+1) (bV 11 dc) rfl (zJ bW) dR
 intro vals w556 bX bY
 have T:=bX
 have dh:=bY 13 dc
 refine yd (kv:=[(0,Ix b 0),(1,.agg (e.cells de0).toArray),(3,Ix q 0),(4,Iv 0),(5,Iv ((yE e (((zw n L).length:Nat):Int)))),(16,Iv ((yE e (((zw n L).length:Nat):Int)))),(17,.bool false),(7,.bool false),(29,.bool false),(43,.bool (!decide (e.seq=(((zw n L).getD e.origin.toNat 0)+1))))]) ⟨rfl,rfl,rfl,rfl,rfl,rfl,rfl,rfl,rfl,(by exact dh),zj⟩ (fun ρw556=>(zb ?_))
 cases p: !decide (e.seq=(((zw n L).getD e.origin.toNat 0)+1))
 have p:=zB p
 refine zf rfl (zp (za (za (R0 fun _=>st (mV (Ix b 0) (st (zx rfl (st (XA rfl (st (lD M lR rfl (zd (T.gblk N) rfl) (st (zS sT rfl F.sl (st (mV (Iv 0) (zb (zu (yf (fun mq σ x=> ∃k ρ,mq=(zw n L).length-k∧σ=yo ρ [(0,Ix b 0),(3,Ix q 0),(48,Iw ((zw n L).length)),(49,Iw k)]∧(k≤(zw n L).length)∧(∀i,i<k→xW L e i=true)∧Sep G1 w ((Blk l (s.cells g).toArray 44)::(Blk q (e.cells de0).toArray 44)::Rs) x) ⟨0,_,rfl,sSf,zY _,(fun i h=>absurd h (yO i)),T⟩ ?_))))))))))))))))))
 rintro m563 σ564 di ⟨k,ρl1,rfl,rfl,hkk,hm,U⟩
 refine za (R0 fun _=>st (zI rfl rfl (zb (za ?_))))
 cases K:decide (((k:Nat):Int)<(((zw n L).length:Nat):Int))
 have K:=fD K
 refine zf rfl (yh (zX (za ?_)))
 have bZ:=Z _ _ U
 obtain⟨d,t,aw⟩:=SetO.open bZ
 let dv:=ZS xB EV Wh t (yp L) (e.origin,e.seq) Wh
 let cR:=MapO xB EV t (YF (yp L) (e.origin,e.seq) e)
 let bt:=Blk b #[d,.map (some t),Iv (zP L)] 118
 have V:=aw.r1
 have ca:Sep G W (dv::bt::(RowE (α:=Int) own 3 d (zw n L))::bu::ad::Rs) di:=zax (aw.mv2) (by simpa using z)
 refine WD4 ((fun TT B=>WF [fun vals x=>Sep G W (B::TT) x,fun vals x=> ∃A,(vals 7=(.agg (e.cells A).toArray:Value))∧Sep G W ((RowE own 3 A e.deps)::B::TT) x,fun vals x=> ∃A,(vals 7=(.agg (e.cells A).toArray:Value))∧Sep G W (cR::TT) x]) (bt::(RowE own 3 d (zw n L))::bu::ad::Rs) dv) (AF [Vl 0 (Ix b 0),Vl 1 (Ix b 0),Vl 2 (Ix b 1),Vl 3 (.map (some t)),Vl 4 (Ix q 0),Vl 5 (.agg #[Iv (e.origin),Iv (e.seq)]),Vl 6 (.agg (e.cells de0).toArray),fun _=>True,fun _=>True]) [[],[0],[0,1],[0,1,2],[],[4],[],[6],(rg 8)] [7,8] [(0,1),(0,1),(0,1),(0,1),(0,1),(0,1),(0,0),(0,0),(1,1)] ca ⟨fun _ _ _ _ _ _ _=>obl rfl (mV (Ix b 0) dR),fun _ _ _ _ _ _ cb=>obl rfl (zx (cb 0 dc) dR),fun _ _ _ _ _ _ cc=>obl rfl (Wx (cc 1 dc) dR),?_,fun _ _ _ _ _ _ _=>obl rfl (yA rfl dR),?_,ob1 0 fun _ _ (cd:Sep _ _ _ _) _=>obl rfl (ze pT kT rfl rfl (zi (cd.b4)) dR),?_,?_,zj⟩ ?_
 refine fun X _ _ dj dk ax ay=>?_
 have hkk:=xz dj dk
 rcases hkk with rfl|rfl
 have ce:=ax
 exact obl rfl (lD (.map (some t)) mR (ay 2 dc) (zd (ce.b1) rfl) dR)
 obtain⟨A,H,cf⟩:=ax
 exact obl rfl (lD (.map (some t)) mR (ay 2 dc) (zd (cf.b2) rfl) dR)
 refine fun Y _ _ dl dm az aA=>?_
 have hkk:=xz dl dm
 rcases hkk with rfl|rfl
 have cg:=az
 exact obl rfl (ze nR oR rfl (aA 4 dc) (CellsAt.sub (zi (cg.b4)) 0 rfl) dR)
 obtain⟨A,H,ch⟩:=az
 exact obl rfl (ze nR oR rfl (aA 4 dc) (CellsAt.sub (zi (ch.b5)) 0 rfl) dR)
 refine ob1 0 fun vals _ (ci:Sep _ _ _ _) cj=>(obl rfl ((zO (vals:=[.agg (e.cells de0).toArray]) rfl (yK ⟨(cj 6 dc),zj⟩) Tryz.call69 (Up (e:=e) hde0 oe ci) ?_)))
 rintro _ w633 ⟨A,rfl,aB⟩
 have ck:=aB.r0
 exact fun D P I=>⟨(exiA A (zG P aB)),zj⟩
 refine ob1 1 fun _ dp cl aC=>?_
 obtain⟨A,H,cm⟩:=cl
 refine obl rfl ?_
 have cn:Sep G W ((EV (.agg (e.cells A).toArray) e)::dv::bt::(RowE (α:=Int) own 3 d (zw n L))::bu::ad::Rs) dp:=zdZ oe cm
 refine(Xk (k:=(e.origin,e.seq)) (cn.mv1) K2i rR (aC 3 dc) (aC 5 dc) H ?_)
 intro dq co
 have aN:Sep G W (cR::bt::(RowE (α:=Int) own 3 d (zw n L))::bu::ad::Rs) dq:=co
 exact fun D P I=>⟨(exiA A (zG ((I 7 dc).trans H) aN)),zj⟩
 intro vals w703 cp hA705
 obtain⟨A,H,cq⟩:=cp
 refine yd (kv:=[(0,Ix b 0),(3,Ix q 0),(48,Iw ((zw n L).length)),(49,Iw k),(50,.bool false)]) sEv (fun ρw703=>(zb (za ?_)))
 refine WD4 ((fun TT B aa=>WF [fun vals x=>Sep G W (B::aa::(RowE own 3 d (zw n L))::TT) x,fun vals x=>Sep G W ((RowE own 3 d ((zw n L).set e.origin.toNat (((zw n L).getD e.origin.toNat 0)+1)))::B::aa::TT) x]) (bu::ad::Rs) cR bt) (AF [Vl 0 (Ix b 0),Vl 1 (Ix b 0),Vl 2 (Ix b 0),Vl 3 d,Vl 4 (Ix q 0),Vl 5 (Ix q 0),Vl 6 (Iv (e.origin)),Vl 7 (Ix (sb d) (so d+e.origin.toNat*1)),Vl 8 (Iv (((zw n L).getD e.origin.toNat 0))),Vl 9 (Iv (((zw n L).getD e.origin.toNat 0)+1)),Vl 10 (Ix (sb d) (so d+e.origin.toNat*1)),fun _=>True]) [[],[0],[0,1],[0,1,2],[],[4],[4,5],(rg 7),(rg 8),(rg 9),(rg 10),(rg 11)] [11] [(0,0),(0,0),(0,0),(0,0),(0,0),(0,0),(0,0),(0,0),(0,0),(0,0),(0,0),(0,0)] cq ⟨fun _ _ _ _ _ _ _=>obl rfl (mV (Ix b 0) dR),fun _ _ _ _ _ _ cr=>obl rfl (zx (cr 0 dc) dR),fun _ _ _ _ _ _ ct=>obl rfl (XA (ct 1 dc) dR),ob1 0 fun _ _ (cu:Sep _ _ _ _) cv=>obl rfl (lD d lR (cv 2 dc) (zd (cu.b1) rfl) dR),fun _ _ _ _ _ _ _=>obl rfl (yA rfl dR),fun _ _ _ _ _ _ cw=>obl rfl (xm (cw 4 dc) dR),ob1 0 fun _ _ (cx:Sep _ _ _ _) cy=>obl rfl (lD (Iv (e.origin)) oT (cy 5 dc) (zd (cx.b4) rfl) dR),?_,?_,?_,?_,?_,zj⟩ ?_
 refine ob1 0 fun _ _ _ aD=>(obl rfl ?_)
 exact zA sT qT (aD 3 dc) V.1 (aD 6 dc) ⟨by omega,by omega⟩ dR
 refine ob1 0 fun _ _ (cz:Sep _ _ _ _) cC=>(obl rfl ?_)
 have cD:e.origin.toNat<(zw n L).length:=bo
 obtain⟨_,_,aO,rfl,hxe876⟩:=cz.rowAtI (i:=2) (j:=e.origin.toNat) rfl cD
 exact lD (Iv (((zw n L).getD e.origin.toNat 0))) oT (cC 7 dc) (aO.get (j:=0) rfl) dR
 refine ob1 0 fun _ _ _ cE=>(obl rfl ?_)
 have cF:InR (((zw n L).getD e.origin.toNat 0)+1):=by omega
 exact zU (r:=((zw n L).getD e.origin.toNat 0)+1) (cE 8 dc) rfl (zJ cF) dR
 refine ob1 0 fun _ _ _ aE=>(obl rfl ?_)
 exact zA sT qT (aE 3 dc) V.1 (aE 6 dc) ⟨by omega,by omega⟩ dR
 refine ob1 0 fun _ _ (cG:Sep _ _ _ _) aF=>(obl rfl ?_)
 refine(xe (α:=Int) (j:=e.origin.toNat) (o:=0) (u:=Iv (((zw n L).getD e.origin.toNat 0)+1)) (us:=[Iv (((zw n L).getD e.origin.toNat 0)+1)]) (x1:=((zw n L).getD e.origin.toNat 0)+1) ((cG.mv2).emp1) qT bo (aF 10 (by decide)) (aF 9 (by decide)) rfl (xJ rfl) (zZ ⟨rfl,zj⟩) (fun _ _ cQ hel _=>(by have du:=Src.len _ hel;have e0:cQ.take 0++(([Iv (((zw n L).getD e.origin.toNat 0)+1)]:List Value))++cQ.drop (0+(([Iv (((zw n L).getD e.origin.toNat 0)+1)]:List Value)).length)=(([Iv (((zw n L).getD e.origin.toNat 0)+1)]:List Value)):=(by rw[List.drop_eq_nil_of_le (by rw[du];exact xJ rfl)];simp);rw[e0];exact(show _ from⟨rfl,(by omega)⟩))) ?_)
 intro w804 aG
 have cH:=aG.r0
 exact fun D P I=>⟨aG,zj⟩
 intro vals w897 cI hA899
 have cJ:=cI
 refine yd (kv:=[(0,Ix b 0),(3,Ix q 0),(48,Iw ((zw n L).length)),(49,Iw k),(50,.bool false)]) sEv (fun ρw897=>(zb (za ?_)))
 refine WD4 ((fun TT B aa=>WF [fun vals x=>Sep G W (B::aa::bt::TT) x,fun vals x=>Sep G W (B::aa::(Blk b #[d,.map (some t),Iv (max (zP L) e.lam)] 118)::TT) x]) (bu::ad::Rs) (RowE own 3 d ((zw n L).set e.origin.toNat (((zw n L).getD e.origin.toNat 0)+1))) cR) (AF [Vl 0 (Ix b 0),Vl 1 (Ix b 0),Vl 2 (Ix b 0),Vl 3 (Ix b 2),Vl 4 (Iv (zP L)),Vl 5 (Ix q 2),Vl 6 (Iv (e.lam)),Vl 7 (Iv (max (zP L) e.lam)),Vl 8 (Ix b 0),Vl 9 (Ix b 2),fun _=>True]) [[],[],[1],[1,2],[1,2,3],[],[5],[1,2,3,4,5,6],(rg 8),(rg 9),(rg 10)] [10] [(0,0),(0,0),(0,0),(0,0),(0,0),(0,0),(0,0),(0,0),(0,0),(0,0),(0,0)] cJ ⟨fun _ _ _ _ _ _ _=>obl rfl (mV (Ix b 0) dR),fun _ _ _ _ _ _ _=>obl rfl (mV (Ix b 0) dR),fun _ _ _ _ _ _ cK=>obl rfl (zx (cK 1 dc) dR),fun _ _ _ _ _ _ aP=>obl rfl (US (aP 2 dc) dR),ob1 0 fun _ _ (aQ:Sep _ _ _ _) aR=>obl rfl (lD (Iv (zP L)) oT (aR 3 dc) (zd (aQ.b2) rfl) dR),fun _ _ _ _ _ _ _=>obl rfl (xQ rfl dR),ob1 0 fun _ _ (aT:Sep _ _ _ _) aU=>obl rfl (lD (Iv (e.lam)) oT (aU 5 dc) (zd (aT.b4) rfl) dR),ob1 0 fun _ _ _ ab=>obl rfl (YG (k:=.i64) (a:=zP L) (b:=e.lam) (ab 4 dc) (ab 6 dc) dR),fun _ _ _ _ _ _ aV=>obl rfl (zx (aV 0 dc) dR),fun _ _ _ _ _ _ aW=>obl rfl (US (aW 8 dc) dR),?_,zj⟩ ?_
 refine ob1 0 fun _ _ (aH:Sep _ _ _ _) aI=>(obl rfl ((yr (v:=Iv (max (zP L) e.lam)) qT (aI 9 dc) (aI 7 dc) (aH.b2) rfl rfl rfl ?_)))
 intro w981 cM
 exact fun D P I=>⟨(aH.pt2 cM),zj⟩
 intro vals cN aX hA1057
 have aY:=aX
 refine yd (kv:=[(0,Ix b 0),(3,Ix q 0),(48,Iw ((zw n L).length)),(49,Iw k),(50,.bool false)]) sEv (fun ρw1055=>(zb (za (R0 fun _=>st (aS (Iv 0) (zb (zo (zN vT (show _=(Iv 0:Value)from rfl) ?_))))))))
 have aZ:Sep G W ((SetO b n (xE e L))::bu::ad::Rs) cN:=SetO.close (aY.mv2) zdb (by rw[O];exact JG ds cY) (QY (by simpa using z))
 refine⟨(xE e L),?_,?_,(aZ.s3_a)⟩
 rw[Vu m z (by rw[O]at p;exact p) (fun i hi=>hm i (by omega))]
 rw[Vq (Vu m z (by rw[O]at p;exact p) (fun i hi=>hm i (by omega)))]
 have K:=tD K
 refine zg rfl (zp (za (zu (za (R0 fun _=>st (mV (Iw k) (st (aS (Iw k) (zb (za (R0 fun _=>st (mV (Ix b 0) (st (ze pT kT rfl rfl (zi (U.b1)) (st (mV (Iw k) ?_))))))))))))))))
 refine st (cL Tryz.call68 (zdA (e:=e) (o:=k) cO (zk hde0 cP) oe yqe U dt hlen) ?_)
 rintro _ w1062 ⟨rfl,ac⟩
 refine st (yw rfl (zb ?_))
 cases C: !(xW L e k)
 try simp only[zh]at C
 refine zf rfl (zp (R0 fun _=>?_))
 have ba:InR ((k+1:Nat):Int):=bo
 refine st (zU (r:=((k+1:Nat):Int)) rfl rfl (by rw[show(((k:Nat):Int)+1:Int)=((k+1:Nat):Int)from bo];exact zJ ba) (st (mV (Iw (k+1)) (zb ?_))))
 exact⟨_,by omega,k+1,_,rfl,sSf,by omega,(yU hm (by simpa using C)),ac⟩
 try simp only[zh]at C
 refine zg rfl (za (R0 fun _=>st (aS (Iv 9) (zb (zo (zN vT (show _=(Iv 9:Value)from rfl) ?_))))))
 have bb:=Z _ _ ac
 refine⟨L,?_,?_,(bb.s3_a)⟩
 rw[Jn m z (by rw[O]at p;exact p) (k:=k) (by omega) (by simpa using C)]
 rw[ZY (by rw[Jn m z (by rw[O]at p;exact p) (k:=k) (by omega) (by simpa using C)];decide)]
 have p:=zC p
 refine zg rfl (za (R0 fun _=>st (aS (Iv 9) (zb (zo (zN vT (show _=(Iv 9:Value)from rfl) ?_))))))
 have bc:=Z _ _ T
 refine⟨L,?_,?_,(bc.s3_a)⟩
 rw[Ju m z (by rw[O]at p;exact p)]
 rw[ZY (by rw[Ju m z (by rw[O]at p;exact p)];decide)]
 refine zg rfl (za (R0 fun _=>st (aS (Iv 16) (zb (zo (zN vT (show _=(Iv 16:Value)from rfl) ?_))))))
 have bd:=Z _ _ aq
 refine⟨L,?_,?_,(bd.s3_a)⟩
 rw[Jq m z]
 rw[ZY (by rw[Jq m z];decide)]
 have m:=zC m
 refine zg rfl (za (R0 fun _=>st (mV (Iv ((yE e (((zw n L).length:Nat):Int)))) (st (aS (Iv ((yE e (((zw n L).length:Nat):Int)))) (zb (zo (zN vT (show _=(Iv ((yE e (((zw n L).length:Nat):Int))):Value)from rfl) ?_))))))))
 have be:=Z _ _ ag
 refine⟨L,?_,?_,(be.s2_a)⟩
 rw[af]at*;rw[JK m]
 rw[af]at*;rw[ZY (by rw[JK m];exact m)]
end
section
theorem UZ {a b:Ev}:ltE a b=true↔Yt a b<0:=by
 rw[Zi]
 unfold ltE
 by_cases h1:a.lam=b.lam
 ·by_cases h2:a.origin=b.origin
  ·simp[h1,h2]
  ·simp[h1,h2]
 ·simp[h1]
theorem JX {a b c:Ev}(h1:Yt a b<0)(h2:Yt b c<0):Yt a c<0:=by rw[Zi]at*;omega
theorem zaC {a b:Ev}(h1:Yt a b<0): ¬Yt b a<0:=by rw[Zi]at*;omega
theorem zav {a b:Ev}(h:idE a≠idE b):Yt a b<0∨Yt b a<0:=by
 rw[Zi,Zi]
 have h': ¬(a.origin=b.origin∧a.seq=b.seq):=fun e=>h (by unfold idE;rw[e.1,e.2])
 omega
section
variable {n:Nat}{L T:List Ev}{e x y:Ev}
theorem XM:x∈xE e L↔x=e∨x∈L:=by rw[insE_perm.mem_iff,List.mem_cons]
theorem zcs (hs:Srt L)(hn:idE e∉L.map idE):Srt (xE e L):=by
 induction L with
 |nil=>exact List.pairwise_singleton _ _
 |cons x l ih=>
  unfold Srt at hs⊢
  rw[List.pairwise_cons]at hs
  have hne:idE e≠idE x:=fun h=>hn (by rw[h];exact List.mem_map.2 ⟨x,List.mem_cons_self ..,rfl⟩)
  simp only[xE]
  split
  ·rename_i hlt
   have h1:=UZ.1 hlt
   rw[List.pairwise_cons,List.pairwise_cons]
   refine⟨fun y hy=>?_,hs.1,hs.2⟩
   rcases List.mem_cons.1 hy with rfl|hy
   ·exact h1
   ·exact JX h1 (hs.1 y hy)
  ·rename_i hlt
   rw[List.pairwise_cons]
   refine⟨fun y hy=>?_,ih hs.2 (fun h=>hn (List.mem_cons_of_mem _ h))⟩
   rcases XM.1 hy with rfl|hy
   ·rcases zav hne with h|h
    ·exact absurd (UZ.2 h) hlt
    ·exact h
   ·exact hs.1 y hy
structure Good (n:Nat) (L:List Ev):Prop where
 chk: ∀e∈L,yE e n=0
 ids:(L.map idE).Nodup
 srt:Srt L
 knw: ∀e∈L,∀o,o<n→xW L e o=true
 seqle: ∀e∈L,e.seq≤((ZD L e.origin.toNat:Nat):Int)
 fill: ∀(o:Nat) (q:Int),1≤q→q≤((ZD L o:Nat):Int)→(yp L ((o:Int),q)).isSome=true
theorem Good.nil:Good n []:=by
 refine⟨fun _ h=>by simp at h,List.nodup_nil,List.Pairwise.nil,fun _ h=>by simp at h,fun _ h=>by simp at h,fun o q h1 h2=>?_⟩
 have h3:ZD [] o=0:=rfl
 omega
theorem Good.len (h:Good n L): ∀y∈L,y.deps.length=n:=fun y hy=>(Zq (h.chk y hy)).2.2.1
theorem Good.org (h:Good n L)(hx:x∈L):((x.origin.toNat:Nat):Int)=x.origin:=by
 have:=(Zq (h.chk x hx)).1.1;omega
theorem Good.get (h:Good n L)(hx:x∈L):yp L (x.origin,x.seq)=some x:=YY h.ids hx
theorem UB {k:Int×Int}(h:(yp L k).isSome=true): ∃x,yp L k=some x∧x∈L∧idE x=k:=by
 obtain⟨x,hx⟩:=Option.isSome_iff_exists.1 h
 obtain⟨h1,h2,h3⟩:=XD hx
 exact⟨x,hx,h1,by unfold idE;rw[h2,h3]⟩
theorem WI {o:Nat}:xW L e o=true↔e.deps.getD o 0=0∨ ∃x,yp L ((o:Int),e.deps.getD o 0)=some x∧x.lam<e.lam∧ ∀i,i<x.deps.length→x.deps.getD i 0≤e.deps.getD i 0:=by
 unfold xW
 by_cases h:e.deps.getD o 0=0
 ·rw[decide_eq_true h,Bool.true_or];exact⟨fun _=>.inl h,fun _=>rfl⟩
 ·rw[decide_eq_false h,Bool.false_or]
  constructor
  ·intro h1
   cases hg:yp L ((o:Int),e.deps.getD o 0)with
   |none=>rw[hg]at h1;cases h1
   |some x=>
    rw[hg]at h1
    simp only[Bool.and_eq_true,decide_eq_true_eq,List.all_eq_true,List.mem_range]at h1
    exact .inr ⟨x,rfl,h1.1,fun i hi=>h1.2 i hi⟩
  ·rintro(h1|⟨x,hg,h1,h2⟩)
   ·exact absurd h1 h
   ·rw[hg]
    simp only[Bool.and_eq_true,decide_eq_true_eq,List.all_eq_true,List.mem_range]
    exact⟨h1,fun i hi=>h2 i hi⟩
theorem add_zero (h:ZE n L e=0):yE e n=0∧(yp L (e.origin,e.seq)).isSome=false∧e.seq=((ZD L e.origin.toNat:Nat):Int)+1∧ ∀o,o<n→xW L e o=true:=by
 unfold ZE at h
 split at h
 ·rename_i h1;exact absurd h h1
 ·rename_i h1
  split at h
  ·cases h
  ·rename_i h2
   split at h
   ·cases h
   ·rename_i h3
    split at h
    ·rename_i h4
     refine⟨by simpa using h1,by simpa using h2,by simpa using h3,fun o ho=>?_⟩
     exact(List.all_eq_true.1 h4) o (List.mem_range.2 ho)
    ·cases h
theorem Ut {k:Int×Int}(h:(yp L (e.origin,e.seq)).isSome=false):yp (xE e L) k=if(e.origin,e.seq)=k then some e else yp L k:=by
 rw[←QY h];rfl
theorem Good.add (h:Good n L)(h0:ZE n L e=0):Good n (xE e L):=by
 obtain⟨hc,hg,hs,hk⟩:=add_zero h0
 obtain⟨⟨ho,ho'⟩,⟨hs1,_⟩,hdl,hdq⟩:=Zq hc
 have hid:idE e∉L.map idE:=fun hm=>by
  have:=Kr.2 hm
  unfold idE at this
  rw[hg]at this;cases this
 have hkn: ∀{x:Ev} {o:Nat},xW L x o=true→xW (xE e L) x o=true:=fun{x o} hx=>by
  rw[WI]at hx⊢
  rcases hx with hx|⟨z,hz,h1,h2⟩
  ·exact .inl hx
  ·refine .inr ⟨z,?_,h1,h2⟩
   rw[Ut hg,if_neg,hz]
   intro he
   rw[he,hz]at hg;cases hg
 refine⟨fun x hx=>?_,?_,zcs h.srt hid,fun x hx o hlt=>?_,fun x hx=>?_,fun o q h1 h2=>?_⟩
 ·rcases XM.1 hx with rfl|hx
  ·exact hc
  ·exact h.chk x hx
 ·have hp:((xE e L).map idE).Perm (idE e::L.map idE):=insE_perm.map idE
  exact hp.nodup_iff.2 (List.nodup_cons.2 ⟨hid,h.ids⟩)
 ·rcases XM.1 hx with rfl|hx
  ·exact hkn (hk o hlt)
  ·exact hkn (h.knw x hx o hlt)
 ·rw[Qd]
  rcases XM.1 hx with rfl|hx
  ·rw[if_pos (by omega)];omega
  ·have:=h.seqle x hx;omega
 ·rw[Qd]at h2
  rw[Ut hg]
  by_cases he:(e.origin,e.seq)=((o:Int),q)
  ·rw[if_pos he];rfl
  ·rw[if_neg he]
   refine h.fill o q h1 ?_
   by_cases hoe:e.origin=(o:Int)
   ·rw[if_pos hoe]at h2
    have:e.seq≠q:=fun hq=>he (by rw[hoe,hq])
    have h3:e.origin.toNat=o:=by omega
    rw[h3]at hs
    omega
   ·rw[if_neg hoe]at h2;simpa using h2
theorem Good.addL (h:Good n L):Good n (addL n L e):=by
 unfold Go.Proofs.YtbcdijeggfoabaaGreatDoor.addL
 split
 ·rename_i h0;exact h.add h0
 ·exact h
def yX (n:Nat)(l:List Ev):List Ev:=l.foldl (addL n) []
theorem Kx {l:List Ev}:yX n (l++[e])=addL n (yX n l) e:=by unfold yX;rw[List.foldl_append];rfl
theorem WO: ∀{l:List Ev} {L:List Ev},Good n L→Good n (l.foldl (addL n) L)
 |[],_,h=>h
 |_::l,_,h=>WO (l:=l) h.addL
theorem laidL_good {l:List Ev}:Good n (yX n l):=WO Good.nil
theorem zcK:(addL n L e).length≤L.length+1:=by
 unfold addL
 split
 ·rw[Km];omega
 ·omega
theorem Ub: ∀{l:List Ev} {L:List Ev},(l.foldl (addL n) L).length≤L.length+l.length
 |[],_=>Nat.le_refl _
 |x::l,L=>by
  have:=Ub (l:=l) (L:=addL n L x)
  have h2:=zcK (n:=n) (L:=L) (e:=x)
  simp only[List.foldl_cons,List.length_cons]
  omega
theorem Zm {l:List Ev}:(yX n l).length≤l.length:=by have:=Ub (n:=n) (l:=l) (L:=[]);simpa[yX]using this
end
end
section
open Go.Proofs Go.RowKit
def xy (c:Cmd)(ver:Int):Int:=if(decide (c.expect= -1)||decide (c.expect=ver))=true then 0 else 11
def xq (d:Dcl)(k:Int×Int)(V:List Ent):Sta:=⟨((yn k V:Nat):Int),zM d k V⟩
def exR (d:Dcl)(n:Nat)(L:List Ev)(V:List Ent)(o start:Int)(c:Cmd):Ev×Bool×Int:=
 if ¬xc d c=0 then(ev0,false,xc d c)else match yP L c.ckey with
 |some e=>(e,false,0)
 |none=>if ¬xy c ((yn (c.ctyp,c.cagg) V:Nat):Int)=0 then(ev0,false,xy c ((yn (c.ctyp,c.cagg) V:Nat):Int))
  else if ¬yN (xR d c.ctyp) (zM d (c.ctyp,c.cagg) V) c.cfield c.cop c.carg=0 then(ev0,false,yN (xR d c.ctyp) (zM d (c.ctyp,c.cagg) V) c.cfield c.cop c.carg)
  else(evE c o (zw n L) (max (zP L) start),decide (evN o (zw n L) (max (zP L) start)=0),evN o (zw n L) (max (zP L) start))
theorem zaB {G:Nat→Prop}{W w:World}{As:List HP}{T:TypeId}{d:Value}{l:List Int}(h:Sep G W (RowE (α:=Int) own T d l::As) w):Sep G W (DepO d l::As) w:=h.impl (i:=0) rfl (fun _ h=>RowE.soft h)
theorem D_ex1 {bc:Nat}{c:Cmd}(hbc:(Blk bc (c.cells).toArray 49).p W G)(oc:c.Ok){bs:Nat}{x:Sta}{vx:Value}(hbs:(Blk bs (x.cells vx).toArray 77).p W G)(hvx:RdS W G vx x.cls)(ox:x.Ok)(hS0:Sep G W Rs w):Ret Tryz.prog 38 [.pointer (some ⟨bc,0,none⟩),.pointer (some ⟨bs,0,none⟩)] w (fun r w'=>r=(.int .i64 ((xy c x.ver)):Value)∧Sep G W Rs w'):=by
 refine zm Tryz.func38 rfl rfl ?_
 refine za (R0 fun _=>st (aS (Iv 0) (zb (za (za (zy kr (st (Zk rfl (st (lD (Iv (c.expect)) oT rfl (zd (hS0.gblk hbc) rfl) (st (zR rfl rfl (st (mV (.bool (decide (c.expect=(-1)))) (stc (V:=Ix bc 5) rfl rfl (fun i=>?_) ?_)))))))))))))))
 exact Zk rfl rflB
 refine stc (V:=Iv (c.expect)) rfl rfl (fun g=>?_) ?_
 exact lD (Iv (c.expect)) oT (ifpC g) (zd (hS0.gblk hbc) rfl) rflB
 refine stc (V:=Ix bs 0) rfl rfl (fun j=>?_) ?_
 exact Zr rfl rflB
 refine stc (V:=Iv (x.ver)) rfl rfl (fun h=>?_) ?_
 exact lD (Iv (x.ver)) oT (ifpC h) (zd (hS0.gblk hbs) rfl) rflB
 refine stc (V:=.bool (decide (c.expect=x.ver))) rfl rfl (fun f=>?_) ?_
 exact zR (ifpC f) (ifpC f) rflB
 refine st (zz rfl (fun hbp=>(ifpC hbp)) (zb ?_))
 cases d:(decide (c.expect=(-1)))||(decide (c.expect=x.ver))
 have e:=d
 refine zf rfl (zp (za (R0 fun _=>st (aS (Iv 11) (zb (zo (zN uR (show _=(Iv 11:Value)from rfl) ?_)))))))
 refine⟨?_,hS0⟩
 unfold xy
 simp only[e,if_true,if_false,Bool.false_eq_true,↓reduceIte]
 have e:=d
 refine zg rfl (za (R0 fun _=>st (aS (Iv 0) (zb (zo (zN uR (show _=(Iv 0:Value)from rfl) ?_))))))
 refine⟨?_,hS0⟩
 unfold xy
 simp only[e,if_true,if_false,Bool.false_eq_true,↓reduceIte]
theorem D_ex2 {bt:Nat}{t:Typ}{vt:Value}(hbt:(Blk bt (t.cells vt).toArray 74).p W G)(hvt:RdS W G vt t.fields)(ot:t.Ok){bs:Nat}{x:Sta}{vx:Value}(hbs:(Blk bs (x.cells vx).toArray 77).p W G)(hvx:RdS W G vx x.cls)(ox:x.Ok){bc:Nat}{c:Cmd}(hbc:(Blk bc (c.cells).toArray 49).p W G)(oc:c.Ok)(hS0:Sep G W Rs w)(hak:YU t x.cls c.cfield c.cop c.carg):Ret Tryz.prog 39 [.pointer (some ⟨bt,0,none⟩),.pointer (some ⟨bs,0,none⟩),.pointer (some ⟨bc,0,none⟩)] w (fun r w'=>r=(.int .i64 (yN t x.cls c.cfield c.cop c.carg):Value)∧Sep G W Rs w'):=by
 refine zm Tryz.func39 rfl rfl ?_
 refine za (R0 fun _=>st (aS (Iv 0) (zb (za (R0 fun _=>st (ze sR tT rfl rfl (zi (hS0.gblk hbt)) (st (xu rfl (st (lD vx Tryz.isAgg75 rfl (zd (hS0.gblk hbs) rfl) (st (Xu rfl (st (lD (Iv (c.cfield)) oT rfl (zd (hS0.gblk hbc) rfl) (st (Xw rfl (st (lD (Iv (c.cop)) oT rfl (zd (hS0.gblk hbc) rfl) (st (Yj rfl (st (lD (Iv (c.carg)) oT rfl (zd (hS0.gblk hbc) rfl) (st (cL Tryz.call40 (zdR (t:=t) (c:=x.cls) (vc:=vx) (f:=c.cfield) (op:=c.cop) (arg:=c.carg) hvt ot hvx oc.cfield oc.cop oc.carg hS0 hak) ?_))))))))))))))))))))))))
 rintro _ w1 ⟨rfl,a⟩
 refine st (aS (Iv (yN t x.cls c.cfield c.cop c.carg)) (zb (zo (zN Tryz.results39 (show _=(Iv (yN t x.cls c.cfield c.cop c.carg):Value)from rfl) ?_))))
 refine⟨rfl,a⟩
theorem Xn {P:Program}{σ:Env}{w:World}{fn:Func}{a u u2:Tmp}{t:TypeId}{R:Value→World→Prop}{b k:Nat}{cs:List Value}{v' v'':Value}(hr:fn.results=#[.cell a t,.tmp u,.tmp u2])(hA: ∀w,(isAgg t).run P w=.ok true w)(hS: ∀w,(sizeOf t).run P w=.ok k w)(hk:cs.length=k)
 (hv:σ a=.pointer (some ⟨b,0,none⟩)) (hc:CellsAt w b 0 cs) (hu:σ u=v') (hu2:σ u2=v'') (h:R (.tuple #[.agg cs.toArray,v',v'']) w):Xp P fn R .ret σ w:=by
 subst hk
 refine⟨_,fun tmps ht=>?_,h⟩
 have:=xo (P:=P) (w:=w) b 0 cs 0 #[] (fun j hj=>by simpa using hc j hj)
 have e:tmps[a]?.getD undef=.pointer (some ⟨b,0,none⟩):=by rw[←hv,←ht a];simp
 have e2:tmps[u]?.getD undef=v':=by rw[←hu,←ht u];simp
 have e3:tmps[u2]?.getD undef=v'':=by rw[←hu2,←ht u2];simp
 simp[results,hr,e,e2,e3,asAddr,loadVar,hA,hS,loadCells,this,go_sem]
section
variable {d:Dcl}{n:Nat}{L:List Ev}{V:List Ent}{o start:Int}{c:Cmd}
theorem Xr (h: ¬xc d c=0):exR d n L V o start c=(ev0,false,xc d c):=if_pos h
theorem YO (h:xc d c=0)(hk:(yP L c.ckey).isSome=true):exR d n L V o start c=((yP L c.ckey).getD default,false,0):=by
 obtain⟨e,he⟩:=Option.isSome_iff_exists.1 hk
 unfold exR
 rw[if_neg (fun h9=>h9 h),he]
 rfl
theorem QI (h:xc d c=0)(hk:(yP L c.ckey).isSome=false):exR d n L V o start c=if ¬xy c ((yn (c.ctyp,c.cagg) V:Nat):Int)=0 then(ev0,false,xy c ((yn (c.ctyp,c.cagg) V:Nat):Int))
 else if ¬yN (xR d c.ctyp) (zM d (c.ctyp,c.cagg) V) c.cfield c.cop c.carg=0 then(ev0,false,yN (xR d c.ctyp) (zM d (c.ctyp,c.cagg) V) c.cfield c.cop c.carg)
 else(evE c o (zw n L) (max (zP L) start),decide (evN o (zw n L) (max (zP L) start)=0),evN o (zw n L) (max (zP L) start)):=by
 have hn:yP L c.ckey=none:=Option.not_isSome_iff_eq_none.1 (by rw[hk];decide)
 unfold exR
 rw[if_neg (fun h9=>h9 h),hn]
theorem Vm (h:xc d c=0)(hk:(yP L c.ckey).isSome=false)(hx: ¬xy c ((yn (c.ctyp,c.cagg) V:Nat):Int)=0):exR d n L V o start c=(ev0,false,xy c ((yn (c.ctyp,c.cagg) V:Nat):Int)):=by rw[QI h hk,if_pos hx]
theorem Vb (h:xc d c=0)(hk:(yP L c.ckey).isSome=false)(hx:xy c ((yn (c.ctyp,c.cagg) V:Nat):Int)=0)(hm: ¬yN (xR d c.ctyp) (zM d (c.ctyp,c.cagg) V) c.cfield c.cop c.carg=0):exR d n L V o start c=(ev0,false,yN (xR d c.ctyp) (zM d (c.ctyp,c.cagg) V) c.cfield c.cop c.carg):=by rw[QI h hk,if_neg (fun h9=>h9 hx),if_pos hm]
theorem VF (h:xc d c=0)(hk:(yP L c.ckey).isSome=false)(hx:xy c ((yn (c.ctyp,c.cagg) V:Nat):Int)=0)(hm:yN (xR d c.ctyp) (zM d (c.ctyp,c.cagg) V) c.cfield c.cop c.carg=0):exR d n L V o start c=(evE c o (zw n L) (max (zP L) start),decide (evN o (zw n L) (max (zP L) start)=0),evN o (zw n L) (max (zP L) start)):=by rw[QI h hk,if_neg (fun h9=>h9 hx),if_neg (fun h9=>h9 hm)]
theorem WL (o:Int):0≤yz (zw n L) o∧yz (zw n L) o≤L.length:=by
 unfold yz
 split
 ·omega
 ·rename_i h
  rw[xM]at h
  rw[Xd (by omega)]
  have:=Wv (L:=L) (o:=o.toNat)
  omega
theorem zdI {W:World}{G:Nat→Prop}{m:Nat}{R:List ((Int×Int)×Value)}(hr:SetR W G m R L)(hid:(L.map idE).Nodup): ∀e∈L,e.Ok:=fun e he=>by
 obtain⟨x,vd,h1,_,h3,_⟩:=hr.at_ (idE e)
 rw[YY hid he]at h1
 have h4:x=e:=h1
 exact h4▸h3
theorem zcY {key:Int}(h: ∀e∈L,e.Ok)(hk:(yP L key).isSome=true):((yP L key).getD default).Ok:=by
 obtain⟨e,he⟩:=Option.isSome_iff_exists.1 hk
 rw[he]
 exact h e (List.mem_of_find?_eq_some he)
theorem YW (h:xc d c=0):xb d c.ctyp c.cfield c.cop c.carg=0:=by
 unfold xc at h
 split at h
 ·cases h
 ·exact h
theorem XQ {k:Int×Int}(h:(zt d V k).isSome=false):yn k V=0:=by
 unfold zt at h
 split at h
 ·assumption
 ·cases h
theorem WB {k:Int×Int}(h:(zt d V k).isSome=true):stL d k V=zM d k V:=by
 unfold zt at h
 unfold stL
 split at h
 ·cases h
 ·rename_i hn;rw[if_neg hn]
end
set_option maxHeartbeats 8000000 in
theorem xU {d:Dcl}{dd0:Value}(hdd0:RdS W G dd0 d.types){dd1:Value}(hdd1:RdS W G dd1 d.projs)(od:d.Ok){sq:Nat}{n:Nat}{L:List Ev}(hsq:(SetO sq n L).p W G){vb:Nat}{V:List Ent}{o:Int}(ho:InR o){start:Int}(hstart:InR start){c:Cmd}(oc:c.Ok)(hKN:RdS W G (.slice (some ⟨0,0,none⟩) 6 6) kindsL)(hS0:Sep G W ((ViewO vb d V V)::Rs) w)(hd:DclOk d)(hinv:Inv d V)(hml:V.length≤1000000)(hid:(L.map idE).Nodup)(hsr:Srt L)(hL:L.length≤1000000)(htop:InR (zP L)):Ret Tryz.prog 11 [.agg (d.cells dd0 dd1).toArray,.pointer (some ⟨sq,0,none⟩),.pointer (some ⟨vb,0,none⟩),.int .i64 (o),.int .i64 (start),.agg (c.cells).toArray] w (fun r w'=> ∃(vd:Value),r=(.tuple #[.agg ((exR d n L V o start c).1.cells vd).toArray,.bool ((exR d n L V o start c).2.1),.int .i64 ((exR d n L V o start c).2.2)]:Value)∧Sep G W ((ViewO vb d V V)::(DepO vd ((exR d n L V o start c).1.deps))::Rs) w'):=by
 have hdd0s:_*24≤_:=hdd0.small
 have hdd1s:_*40≤_:=hdd1.small
 have hKNs:_*8≤_:=hKN.small
 refine zm (args:=[.agg (d.cells dd0 dd1).toArray,Ix sq 0,Ix vb 0,Iv o,Iv start,.agg (c.cells).toArray]) Tryz.func11 rfl rfl ?_
 obtain⟨vv1,m2,R3,hb4,ed,hr6⟩:=SetO.sh hsq
 have hsm7:(zw n L).length*8≤140737488355328:=ed.small
 refine za (R0 fun _=>st (zT (v:=.agg (d.cells dd0 dd1).toArray) rfl ?_))
 intro w10 b9 ee
 let el:=Blk b9 (d.cells dd0 dd1).toArray 25
 refine st (zT (v:=.agg (c.cells).toArray) rfl ?_)
 intro w14 s dk
 let eo:=Blk s (c.cells).toArray 49
 refine st (zv mT ?_)
 intro w18 F dl
 let ew:=Blk F (ev0.cells Iz).toArray 44
 have aJ:=((hS0.new ee).new dk).new dl
 refine st (aS (.bool false) (st (aS (Iv 0) (zb (za (za (R0 fun _=>st (ze (k:=2) pR wT rfl rfl (zi (aJ.b2)) (st (ze (k:=7) nT lT rfl rfl (zi (aJ.b1)) (st (cL Tryz.call34 (zaO (d:=d) (c:=c) hdd0 hdd1 od oc hKN aJ) ?_))))))))))))
 rintro _ w20 ⟨rfl,ak⟩
 refine st (aS (Iv (xc d c)) (zb (za (R0 fun _=>st (mV (Iv (xc d c)) (st (yj (k:=.i64) (a:=xc d c) (b:=0) rfl rfl (zb ?_))))))))
 cases X: !decide ((xc d c)=0)
 have hc22r:=X
 have X:=zB X
 have hzc:xc d c=0:=by simpa using X
 obtain⟨ef,eg,eh⟩:=ZM (YW hzc)
 refine zf rfl (zp (za (za (R0 fun _=>st (mV (Ix sq 0) (st (Yd rfl (st (lD (Iv (c.ckey)) oT rfl (zd (ak.b1) rfl) (st (cL Tryz.call35 (zbG (key:=c.ckey) hsq oc.ckey ak hid hsr hL) ?_)))))))))))
 rintro _ w24 ⟨C,rfl,dm⟩
 let p:=((yP L c.ckey).getD default).cells C
 refine st (mV (.tuple #[.agg p.toArray,.bool (yP L c.ckey).isSome]) (st (zl (vs:=[.agg p.toArray,.bool ((yP L c.ckey).isSome)]) (i:=0) (v:=.agg p.toArray) rfl rfl (st (zl (vs:=[.agg p.toArray,.bool ((yP L c.ckey).isSome)]) (i:=1) (v:=.bool ((yP L c.ckey).isSome)) rfl rfl (st (zv mT ?_)))))))
 intro w28 aj dp
 let eu:=Blk aj p.toArray 44
 have aK:=dm.new dp
 refine stn (zr (v:=.agg p.toArray) (c':=p.toArray) kT rfl rfl (aK.b0) (zZ ⟨rfl,rfl,rfl,(aK.depSl (i:=1) rfl).one,rfl,rfl,rfl,rfl,rfl,rfl,zj⟩) yqc rfl ?_)
 intro w30 dq
 have N:=aK.pt0 dq
 refine st (aS (.bool ((yP L c.ckey).isSome)) (zb (za (R0 fun _=>st (mV (.bool ((yP L c.ckey).isSome)) (zb ?_))))))
 cases aL:(yP L c.ckey).isSome
 have hc33r:=aL
 have hzk:(yP L c.ckey).isSome=false:=by simpa using aL
 refine zf rfl (zp (za (R0 fun _=>st (yJ rfl (st (lD dd0 Tryz.isAgg22 rfl (zd (N.b4) rfl) (st (Zu rfl (st (lD (Iv (c.ctyp)) oT rfl (zd (N.b3) rfl) ?_))))))))))
 have hi34:c.ctyp.toNat<d.types.length:=bo
 refine st (zA (k:=1) (i:=c.ctyp) vR tT rfl hdd0.sl rfl ⟨by omega,by omega⟩ ?_)
 have bq:c.ctyp.toNat<d.types.length:=bo
 obtain⟨bF,Q,aw⟩:=hdd0.typD bq
 have hsm37:((d.types.gd c.ctyp.toNat).fields).length*48≤140737488355328:=Q.small
 have bG:=N.cells bF (hdd0.foot (ne_of_lt bq))
 refine st (ze (k:=1) sR tT rfl rfl bG (st (zv wR ?_)))
 intro w41 D dr
 let ai:=Blk D ((d.types.gd c.ctyp.toNat).cells (zV W (sb dd0) (so dd0+c.ctyp.toNat*1+0))).toArray 74
 have br:=N.new dr
 refine stn (zr (v:=.agg ((d.types.gd c.ctyp.toNat).cells (zV W (sb dd0) (so dd0+c.ctyp.toNat*1+0))).toArray) (c':=((d.types.gd c.ctyp.toNat).cells (zV W (sb dd0) (so dd0+c.ctyp.toNat*1+0))).toArray) tT rfl rfl (br.b0) (zZ ⟨Q.sl.one,zj⟩) yqc rfl ?_)
 intro w43 ds
 have aM:=br.pt0 ds
 refine zb (za (R0 fun _=>st (mV (Ix vb 0) (st (Zu rfl (st (lD (Iv (c.ctyp)) oT rfl (zd (aM.b4) rfl) (st (YB rfl (st (lD (Iv (c.cagg)) oT rfl (zd (aM.b4) rfl) (st (cL Tryz.call36 (Wt (ty:=c.ctyp) (no:=c.cagg) oc.ctyp oc.cagg (aM.mv6)) ?_)))))))))))))
 rintro _ w48 ⟨ad,rfl,bu⟩
 let ek:=(yR d (c.ctyp,c.cagg) V).cells ad
 have bv:=bu.r1
 have hr50s:_*32≤_:=bv.2
 refine st (mV (.tuple #[.agg ek.toArray,.bool ((zt d V (c.ctyp,c.cagg)).isSome)]) (st (zl (vs:=[.agg ek.toArray,.bool ((zt d V (c.ctyp,c.cagg)).isSome)]) (i:=0) (v:=.agg ek.toArray) rfl rfl (st (zl (vs:=[.agg ek.toArray,.bool ((zt d V (c.ctyp,c.cagg)).isSome)]) (i:=1) (v:=.bool ((zt d V (c.ctyp,c.cagg)).isSome)) rfl rfl (st (zv Tryz.zeroValue77 ?_)))))))
 intro w53 y dt
 have bw:=bu.new dt
 refine stn (zr (v:=.agg ek.toArray) (c':=ek.toArray) Tryz.sizeOf77 rfl rfl (bw.b0) (zZ ⟨rfl,bv.1.one,zj⟩) yqc rfl ?_)
 intro w55 du
 have al:=bw.pt0 du
 refine st (aS (.bool ((zt d V (c.ctyp,c.cagg)).isSome)) (zb (za (za (R0 fun _=>st (mV (.bool ((zt d V (c.ctyp,c.cagg)).isSome)) (st (yw (a:=(zt d V (c.ctyp,c.cagg)).isSome) rfl (zb ?_)))))))))
 refine WC (fun σ I=> ∃(O:Value) (ρ:Env),σ=yo ρ [(1,Ix sq 0),(2,Ix vb 0),(3,Iv o),(4,Iv start),(6,Ix b9 0),(11,Ix s 0),(12,Ix F 0),(13,.bool false),(14,Iv 0),(18,Ix D 0),(19,Ix y 0)]∧Sep G W ((Blk y ((xq d (c.ctyp,c.cagg) V).cells O).toArray 77)::(ViewO vb d V V)::(RowE (α:=Cel) own 140 O (zM d (c.ctyp,c.cagg) V))::ai::eu::(DepO C (((yP L c.ckey).getD default).deps))::(Blk F #[Iv 0,Iv 0,Iv 0,(Iz),Iv 0,Iv 0,Iv 0,Iv 0,Iv 0,Iv 0] 44)::eo::el::Rs) I) ?_ ?_
 cases am: !((zt d V (c.ctyp,c.cagg)).isSome)
 try simp only[zh]at am
 refine zf rfl (zp ?_)
 have aN:(stL d (c.ctyp,c.cagg) V)=zM d (c.ctyp,c.cagg) V:=WB (by simpa using am)
 rw[aN]at al
 exact⟨rfl,ad,_,yZ ⟨(show _=(Ix sq 0:Value)from rfl),(show _=(Ix vb 0:Value)from rfl),(show _=(Iv o:Value)from rfl),(show _=(Iv start:Value)from rfl),(show _=(Ix b9 0:Value)from rfl),(show _=(Ix s 0:Value)from rfl),(show _=(Ix F 0:Value)from rfl),(show _=(.bool false:Value)from rfl),(show _=(Iv 0:Value)from rfl),(show _=(Ix D 0:Value)from rfl),(show _=(Ix y 0:Value)from rfl),zj⟩,al⟩
 try simp only[zh]at am
 refine zg rfl (R0 fun _=>st (ze (k:=1) sR tT rfl rfl (zi (al.b3)) (st (cL Tryz.call37 (zbT (t:=(d.types.gd c.ctyp.toNat)) Q aw al) ?_))))
 rintro bx w60 ⟨_,rfl,aO⟩
 have bz:=aO.r0
 have hr62s:_*32≤_:=bz.2
 refine st (xu rfl (stn (yr (v:=bx) (c:=[Iv ((yR d (c.ctyp,c.cagg) V).ver),ad]) (c':=[Iv ((yR d (c.ctyp,c.cagg) V).ver),bx]) Tryz.sizeOf75 rfl rfl (aO.b1) bz.1.one rfl rfl ?_)))
 intro w63 dv
 have bA:=aO.pt1 dv
 refine zb ?_
 have aN:(List.replicate (d.types.getD c.ctyp.toNat default).fields.length (⟨0,[]⟩:Cel))=zM d (c.ctyp,c.cagg) V:=(WH (d:=d) (k:=(c.ctyp,c.cagg)) (L:=V) (XQ (by simpa using am))).symm
 rw[aN]at bA
 exact⟨rfl,bx,_,yZ ⟨(show _=(Ix sq 0:Value)from rfl),(show _=(Ix vb 0:Value)from rfl),(show _=(Iv o:Value)from rfl),(show _=(Iv start:Value)from rfl),(show _=(Ix b9 0:Value)from rfl),(show _=(Ix s 0:Value)from rfl),(show _=(Ix F 0:Value)from rfl),(show _=(.bool false:Value)from rfl),(show _=(Iv 0:Value)from rfl),(show _=(Ix D 0:Value)from rfl),(show _=(Ix y 0:Value)from rfl),zj⟩,((bA.s10_abcefghij).s9_bcadefghi)⟩
 rintro _ w68 ⟨O,ρj1,rfl,dw⟩
 let en:=Blk y ((xq d (c.ctyp,c.cagg) V).cells O).toArray 77
 refine za (R0 fun _=>st (ZX (vals:=[Ix s 0,Ix y 0]) rfl (st (ZX (vals:=[Ix D 0,Ix y 0,Ix s 0]) rfl (st (zL (k:=1) (parts':=[(0,.func (.func 38) #[] #[Ix s 0,Ix y 0]),(1,.func (.func 39) #[] #[Ix D 0,Ix y 0,Ix s 0])]) (c:=#[.func (.func 38) #[] #[Ix s 0,Ix y 0],.func (.func 39) #[] #[Ix D 0,Ix y 0,Ix s 0]]) qR tR Tryz.zeroValue81 dc rfl kr ?_))))))
 intro T Z dx
 let ej:=Blk Z #[.func (.func 38) #[] #[Ix s 0,Ix y 0],.func (.func 39) #[] #[Ix D 0,Ix y 0,Ix s 0]] 81
 refine st (aS (Iy Z 2 2) (zb (za (za ?_))))
 obtain⟨G75,dy,ag,dz,aP⟩:=((dw.new dx).mv3).lend
 have an:=RowE.rd dy
 have hrd81s:_*32≤_:=an.small
 obtain⟨G83,bB,Y,dB,aQ⟩:=(dz.mv1).lend
 obtain⟨G90,dC,J,dD,aR⟩:=(dB.mv2).lend
 obtain⟨U,P,E,bH,ao⟩:=(dD.mv5).lend
 refine R0 fun _=>st (mV (Iy Z 2 2) (st (zS (n:=2) qR rfl (⟨_,2,rfl,Nat.le_refl _,fun _=>⟨_,_,rfl⟩⟩:IsSl _ 2) (st (mV (Iv 0) (zb (zu ?_)))))))
 refine yf (fun mq σ I=> ∃(k:Nat) (ρ:Env),mq=2-k∧σ=yo ρ [(1,Ix sq 0),(3,Iv o),(4,Iv start),(11,Ix s 0),(12,Ix F 0),(13,.bool false),(14,Iv 0),(66,(Iy Z 2 2)),(67,Iw 2),(68,Iw k)]∧(k≤2)∧(0<k→xy c (xq d (c.ctyp,c.cagg) V).ver=0)∧(1<k→yN (d.types.gd c.ctyp.toNat) (xq d (c.ctyp,c.cagg) V).cls c.cfield c.cop c.carg=0)∧Sep U T ((Blk Z #[.func (.func 38) #[] #[Ix s 0,Ix y 0],.func (.func 39) #[] #[Ix D 0,Ix y 0,Ix s 0]] 81)::(ViewO vb d V V)::(Blk aj (((yP L c.ckey).getD default).cells C).toArray 44)::(DepO C (((yP L c.ckey).getD default).deps))::(Blk F #[Iv 0,Iv 0,Iv 0,(Iz),Iv 0,Iv 0,Iv 0,Iv 0,Iv 0,Iv 0] 44)::(Blk b9 (d.cells dd0 dd1).toArray 25)::Rs) I) ⟨0,_,rfl,sSf,by omega,(fun h=>absurd h om),(fun h=>absurd h om),bH⟩ ?_
 rintro m104 σ105 w103 ⟨k,ρl1,rfl,rfl,hk2,bC,ei,aa⟩
 refine za (R0 fun _=>st (zI (k:=.i64) (a:=((k:Nat):Int)) (b:=((2:Nat):Int)) rfl rfl (zb (za ?_))))
 cases ab:decide (((k:Nat):Int)<((2:Nat):Int))
 have hc107r:=ab
 have ab:=fD ab
 have dE:=bC om
 have dG:=ei om
 refine zf rfl (yh (zX (za ?_)))
 refine WD6 ((fun TT ac=>WF [fun vals I=>Sep U T (ac::TT) I,fun vals I=> ∃(g:Value),(vals 3=(g:Value))∧Sep U T ((RowE (α:=Int) own 3 g (zw n L))::ac::TT) I,fun _ _=>True,fun vals I=> ∃(g:Value),(vals 3=(g:Value))∧(vals 5=(Iv (zP L):Value))∧Sep U T ((RowE (α:=Int) own 3 g (zw n L))::ac::TT) I,fun _ _=>True,fun _ _=>True,fun _ _=>True,fun vals I=> ∃(g:Value) (e:Value),(vals 3=(g:Value))∧(vals 5=(Iv (zP L):Value))∧(vals 8=(.tuple #[.agg ((evE c o (zw n L) (max (zP L) start)).cells e).toArray,Iv ((evN o (zw n L) (max (zP L) start)))]:Value))∧Sep U T ((RowE (α:=Int) own 3 g (zw n L))::(RowE (α:=Int) own 3 e ((evE c o (zw n L) (max (zP L) start)).deps))::ac::TT) I,fun vals I=> ∃(j:Nat),(vals 12=(Ix j 0:Value))∧Sep U T ((Blk j #[Iv 0,Iv 0,Iv 0,(Iz),Iv 0,Iv 0,Iv 0,Iv 0,Iv 0,Iv 0] 44)::ac::TT) I,fun vals I=> ∃(g:Value) (j:Nat),(vals 3=(g:Value))∧(vals 12=(Ix j 0:Value))∧Sep U T ((Blk j #[Iv 0,Iv 0,Iv 0,(Iz),Iv 0,Iv 0,Iv 0,Iv 0,Iv 0,Iv 0] 44)::(RowE (α:=Int) own 3 g (zw n L))::ac::TT) I,fun _ _=>True,fun vals I=> ∃(g:Value) (j:Nat),(vals 3=(g:Value))∧(vals 5=(Iv (zP L):Value))∧(vals 12=(Ix j 0:Value))∧Sep U T ((Blk j #[Iv 0,Iv 0,Iv 0,(Iz),Iv 0,Iv 0,Iv 0,Iv 0,Iv 0,Iv 0] 44)::(RowE (α:=Int) own 3 g (zw n L))::ac::TT) I,fun _ _=>True,fun _ _=>True,fun _ _=>True,fun vals I=> ∃(g:Value) (e:Value) (j:Nat),(vals 3=(g:Value))∧(vals 5=(Iv (zP L):Value))∧(vals 8=(.tuple #[.agg ((evE c o (zw n L) (max (zP L) start)).cells e).toArray,Iv ((evN o (zw n L) (max (zP L) start)))]:Value))∧(vals 12=(Ix j 0:Value))∧Sep U T ((Blk j #[Iv 0,Iv 0,Iv 0,(Iz),Iv 0,Iv 0,Iv 0,Iv 0,Iv 0,Iv 0] 44)::(RowE (α:=Int) own 3 g (zw n L))::(RowE (α:=Int) own 3 e ((evE c o (zw n L) (max (zP L) start)).deps))::ac::TT) I,fun _ _=>True,fun _ _=>True,fun _ _=>True,fun _ _=>True,fun _ _=>True,fun _ _=>True,fun _ _=>True,fun _ _=>True,fun _ _=>True,fun _ _=>True,fun _ _=>True,fun _ _=>True,fun _ _=>True,fun _ _=>True,fun _ _=>True,fun vals I=> ∃(g:Value) (e:Value) (j:Nat),(vals 3=(g:Value))∧(vals 5=(Iv (zP L):Value))∧(vals 8=(.tuple #[.agg ((evE c o (zw n L) (max (zP L) start)).cells e).toArray,Iv ((evN o (zw n L) (max (zP L) start)))]:Value))∧(vals 12=(Ix j 0:Value))∧Sep U T ((Blk j ((evE c o (zw n L) (max (zP L) start)).cells e).toArray 44)::(RowE (α:=Int) own 3 g (zw n L))::(RowE (α:=Int) own 3 e ((evE c o (zw n L) (max (zP L) start)).deps))::ac::TT) I]) ((ViewO vb d V V)::eu::(DepO C (((yP L c.ckey).getD default).deps))::(Blk F #[Iv 0,Iv 0,Iv 0,(Iz),Iv 0,Iv 0,Iv 0,Iv 0,Iv 0,Iv 0] 44)::el::Rs) ej) (AF [Vl 0 (.agg (c.cells).toArray),Vl 1 (Iv o),Vl 2 (Ix sq 0),fun _=>True,Vl 4 (Ix sq 0),fun _=>True,Vl 6 (Iv start),Vl 7 (Iv (max (zP L) start)),fun _=>True,fun vals=> ∀(e:Value),vals 8=(.tuple #[.agg ((evE c o (zw n L) (max (zP L) start)).cells e).toArray,Iv ((evN o (zw n L) (max (zP L) start)))]:Value)→vals 9=(.tuple #[.agg ((evE c o (zw n L) (max (zP L) start)).cells e).toArray,Iv ((evN o (zw n L) (max (zP L) start)))]:Value),fun vals=> ∀(e:Value),vals 8=(.tuple #[.agg ((evE c o (zw n L) (max (zP L) start)).cells e).toArray,Iv ((evN o (zw n L) (max (zP L) start)))]:Value)→vals 10=(.agg ((evE c o (zw n L) (max (zP L) start)).cells e).toArray:Value),Vl 11 (Iv ((evN o (zw n L) (max (zP L) start)))),fun _=>True,fun _=>True,Vl 14 (Iv ((evN o (zw n L) (max (zP L) start))))]) [[],[],[],[2],[],[2,3,4],[],[2,3,4,5,6],(rg 8),(rg 9),(rg 10),(rg 10),[],[0,1,2,3,4,5,6,7,8,9,10,12],(rg 14)] [3,5,8,12,13] [[0,1,3,8,9,11],[0,1,3,8,9,11],[0,8],[0,8],[0,1,8,9],[1,9],[0,1,3,8,9,11],[3,11],[3,11],[7,15],[7,15],[7,15,31],[0,1,3,7],[15],[31]] aa ⟨?_,fun _ _ _ _ _ _=>obl rfl (mV (Iv o) dR),fun _ _ _ _ _ _=>obl rfl (mV (Ix sq 0) dR),?_,fun _ _ _ _ _ _=>obl rfl (mV (Ix sq 0) dR),?_,fun _ _ _ _ _ _=>obl rfl (mV (Iv start) dR),?_,?_,?_,?_,?_,?_,?_,fun _ _ _ _ _ bI=>obl rfl (ya (v:=Iv ((evN o (zw n L) (max (zP L) start)))) (bI 11 dc) dR),zj⟩ ?_ (hlocA:=xd ⟨dA,dA,dA,dT,dA,dT,dA,dA,dT,fun vals A B h=>fun e H=>(B 9 (.inl rfl)).trans (h e ((B 8 (.inr dc)).symm.trans H)),fun vals A B h=>fun e H=>(B 10 (.inl rfl)).trans (h e ((B 8 (.inr dc)).symm.trans H)),dA,dT,dT,dA,zj⟩)
 intro dH vals w239 bJ R hA240
 have ax:dH∈[0,1,3,8,9,11]:=bJ
 simp only[yF]at ax
 rcases ax with rfl|rfl|rfl|rfl|rfl|rfl
 have bK:Sep _ _ _ _:=R
 exact obl rfl (ze (k:=7) nT lT rfl rfl (zi (bK.gblk P)) dR)
 obtain⟨g,l,bL⟩:=R
 exact obl rfl (ze (k:=7) nT lT rfl rfl (zi (bL.gblk P)) dR)
 obtain⟨g,l,m,bM⟩:=R
 exact obl rfl (ze (k:=7) nT lT rfl rfl (zi (bM.gblk P)) dR)
 obtain⟨j,z,bN⟩:=R
 exact obl rfl (ze (k:=7) nT lT rfl rfl (zi (bN.gblk P)) dR)
 obtain⟨g,j,l,z,bO⟩:=R
 exact obl rfl (ze (k:=7) nT lT rfl rfl (zi (bO.gblk P)) dR)
 obtain⟨g,j,l,m,z,bP⟩:=R
 exact obl rfl (ze (k:=7) nT lT rfl rfl (zi (bP.gblk P)) dR)
 intro dI vals w270 bQ aT aU
 have ay:dI∈[0,8]:=bQ
 simp only[yF]at ay
 rcases ay with rfl|rfl
 have bR:Sep _ _ _ _:=aT
 refine obl rfl ((zO (f:=42) (vals:=[Ix sq 0]) (cap:=[]) rfl (yK ⟨(aU 2 dc),zj⟩) kY (zbi (HP.base (HP.base (HP.base (HP.base hsq ag) Y) J) E) bR) ?_))
 rintro g w277 ⟨_,rfl,aV⟩
 have bS:=aV.r0
 have hr279s:_*8≤_:=bS.2
 exact fun A B u=>⟨(exiA g (zG B aV)),zj⟩
 obtain⟨j,z,bT⟩:=aT
 refine obl rfl ((zO (f:=42) (vals:=[Ix sq 0]) (cap:=[]) rfl (yK ⟨(aU 2 dc),zj⟩) kY (zbi (HP.base (HP.base (HP.base (HP.base hsq ag) Y) J) E) bT) ?_))
 rintro g w283 ⟨_,rfl,aW⟩
 have bU:=aW.r0
 have hr285s:_*8≤_:=bU.2
 exact fun A B u=>⟨(exiA g (exiA j (zG B (zG ((u 12 dc).trans z) (aW.mv1))))),zj⟩
 intro dJ vals w293 bV aX aY
 have az:dJ∈[1,9]:=bV
 simp only[yF]at az
 rcases az with rfl|rfl
 obtain⟨g,l,bW⟩:=aX
 refine obl rfl ((zO (f:=43) (vals:=[Ix sq 0]) (cap:=[]) rfl (yK ⟨(aY 4 dc),zj⟩) lY (KD (HP.base (HP.base (HP.base (HP.base hsq ag) Y) J) E) bW) ?_))
 rintro _ w299 ⟨rfl,bX⟩
 exact fun A B u=>⟨(exiA g (zG ((u 3 dc).trans l) (zG B bX))),zj⟩
 obtain⟨g,j,l,z,bY⟩:=aX
 refine obl rfl ((zO (f:=43) (vals:=[Ix sq 0]) (cap:=[]) rfl (yK ⟨(aY 4 dc),zj⟩) lY (KD (HP.base (HP.base (HP.base (HP.base hsq ag) Y) J) E) bY) ?_))
 rintro _ w303 ⟨rfl,bZ⟩
 exact fun A B u=>⟨(exiA g (exiA j (zG ((u 3 dc).trans l) (zG B (zG ((u 12 dc).trans z) bZ))))),zj⟩
 intro dK vals w311 ca aZ ba
 have aA:dK∈[3,11]:=ca
 simp only[yF]at aA
 rcases aA with rfl|rfl
 obtain⟨g,l,m,hS315⟩:=aZ
 exact obl rfl (YG (k:=.i64) (a:=zP L) (b:=start) m (ba 6 dc) dR)
 obtain⟨g,j,l,m,z,hS317⟩:=aZ
 exact obl rfl (YG (k:=.i64) (a:=zP L) (b:=start) m (ba 6 dc) dR)
 intro dL vals w320 cb bb S
 have aB:dL∈[3,11]:=cb
 simp only[yF]at aB
 rcases aB with rfl|rfl
 obtain⟨g,l,m,cc⟩:=bb
 refine obl rfl ?_
 obtain⟨G328,cd,hB331,ce,cf⟩:=cc.lend
 have aC:=RowE.rd cd
 have hrd334s:_*8≤_:=aC.small
 refine(zO (f:=41) (vals:=[.agg (c.cells).toArray,Iv o,g,Iv (max (zP L) start)]) (cap:=[]) rfl (yK ⟨(S 0 dc),(S 1 dc),l,(S 7 dc),zj⟩) mY (QN (c:=c) (o:=o) (v:=zw n L) (vv:=g) (lam:=max (zP L) start) oc om aC (by have h1:InR (zP L):=(by omega);have h2:InR start:=(by omega);omega) ce) ?_)
 rintro _ w336 ⟨e,rfl,bd⟩
 have cg:=bd.r0
 have hr338s:_*8≤_:=cg.2
 have ch:=cf _ _ bd
 exact fun A B u=>⟨(exiA g (exiA e (zG ((u 3 dc).trans l) (zG ((u 5 dc).trans m) (zG B ch))))),zj⟩
 obtain⟨g,j,l,m,z,ci⟩:=bb
 refine obl rfl ?_
 obtain⟨G345,cj,hB348,ck,cl⟩:=(ci.mv1).lend
 have aD:=RowE.rd cj
 have hrd351s:_*8≤_:=aD.small
 refine(zO (f:=41) (vals:=[.agg (c.cells).toArray,Iv o,g,Iv (max (zP L) start)]) (cap:=[]) rfl (yK ⟨(S 0 dc),(S 1 dc),l,(S 7 dc),zj⟩) mY (QN (c:=c) (o:=o) (v:=zw n L) (vv:=g) (lam:=max (zP L) start) oc om aD (by have h1:InR (zP L):=(by omega);have h2:InR start:=(by omega);omega) ck) ?_)
 rintro _ w353 ⟨e,rfl,be⟩
 have cm:=be.r0
 have hr355s:_*8≤_:=cm.2
 have cn:=cl _ _ be
 exact fun A B u=>⟨(exiA g (exiA e (exiA j (zG ((u 3 dc).trans l) (zG ((u 5 dc).trans m) (zG B (zG ((u 12 dc).trans z) (cn.mv2)))))))),zj⟩
 intro dM vals w359 co bf hA360
 have aE:dM∈[7,15]:=co
 simp only[yF]at aE
 rcases aE with rfl|rfl
 obtain⟨g,e,l,m,q,hS363⟩:=bf
 refine obl rfl (yg (v:=.tuple #[.agg ((evE c o (zw n L) (max (zP L) start)).cells e).toArray,Iv ((evN o (zw n L) (max (zP L) start)))]) q (fun A B u=>⟨rfl,?_⟩))
 intro ah H
 rw[u 8 (by decide)]at H;cases q.symm.trans H
 exact B
 obtain⟨g,e,j,l,m,q,z,hS364⟩:=bf
 refine obl rfl (yg (v:=.tuple #[.agg ((evE c o (zw n L) (max (zP L) start)).cells e).toArray,Iv ((evN o (zw n L) (max (zP L) start)))]) q (fun A B u=>⟨rfl,?_⟩))
 intro ah H
 rw[u 8 (by decide)]at H;cases q.symm.trans H
 exact B
 intro dN vals w366 cp bg bh
 have aF:dN∈[7,15]:=cp
 simp only[yF]at aF
 rcases aF with rfl|rfl
 obtain⟨g,e,l,m,q,hS370⟩:=bg
 let er:=(evE c o (zw n L) (max (zP L) start)).cells e
 have dO:=bh 9 dc e q
 refine obl rfl (zl (vs:=[.agg er.toArray,Iv ((evN o (zw n L) (max (zP L) start)))]) (i:=0) (v:=.agg er.toArray) dO rfl (fun A B u=>⟨rfl,?_⟩))
 intro ah H
 rw[u 8 (by decide)]at H;cases q.symm.trans H
 exact B
 obtain⟨g,e,j,l,m,q,z,hS372⟩:=bg
 let es:=(evE c o (zw n L) (max (zP L) start)).cells e
 have dP:=bh 9 dc e q
 refine obl rfl (zl (vs:=[.agg es.toArray,Iv ((evN o (zw n L) (max (zP L) start)))]) (i:=0) (v:=.agg es.toArray) dP rfl (fun A B u=>⟨rfl,?_⟩))
 intro ah H
 rw[u 8 (by decide)]at H;cases q.symm.trans H
 exact B
 intro dQ vals w375 cq ap aq
 have aG:dQ∈[7,15,31]:=cq
 simp only[yF]at aG
 rcases aG with rfl|rfl|rfl
 obtain⟨g,e,l,m,q,hS379⟩:=ap
 have dS:=aq 9 dc e q
 exact obl rfl (zl (vs:=[.agg ((evE c o (zw n L) (max (zP L) start)).cells e).toArray,Iv ((evN o (zw n L) (max (zP L) start)))]) (i:=1) (v:=Iv ((evN o (zw n L) (max (zP L) start)))) dS rfl dR)
 obtain⟨g,e,j,l,m,q,z,hS381⟩:=ap
 have dU:=aq 9 dc e q
 exact obl rfl (zl (vs:=[.agg ((evE c o (zw n L) (max (zP L) start)).cells e).toArray,Iv ((evN o (zw n L) (max (zP L) start)))]) (i:=1) (v:=Iv ((evN o (zw n L) (max (zP L) start)))) dU rfl dR)
 obtain⟨g,e,j,l,m,q,z,hS383⟩:=ap
 have dV:=aq 9 dc e q
 exact obl rfl (zl (vs:=[.agg ((evE c o (zw n L) (max (zP L) start)).cells e).toArray,Iv ((evN o (zw n L) (max (zP L) start)))]) (i:=1) (v:=Iv ((evN o (zw n L) (max (zP L) start)))) dV rfl dR)
 intro dW vals w386 cr ae hA387
 have aH:dW∈[0,1,3,7]:=cr
 simp only[yF]at aH
 rcases aH with rfl|rfl|rfl|rfl
 have cs:Sep _ _ _ _:=ae
 refine obl rfl ((zv mT ?_))
 intro w393 j ct
 exact fun A B u=>⟨(exiA j (zG B (cs.new ct))),zj⟩
 obtain⟨g,l,cu⟩:=ae
 refine obl rfl ((zv mT ?_))
 intro w398 j cv
 exact fun A B u=>⟨(exiA g (exiA j (zG ((u 3 dc).trans l) (zG B (cu.new cv))))),zj⟩
 obtain⟨g,l,m,cw⟩:=ae
 refine obl rfl ((zv mT ?_))
 intro w403 j cx
 exact fun A B u=>⟨(exiA g (exiA j (zG ((u 3 dc).trans l) (zG ((u 5 dc).trans m) (zG B (cw.new cx)))))),zj⟩
 obtain⟨g,e,l,m,q,cy⟩:=ae
 refine obl rfl ((zv mT ?_))
 intro w408 j cz
 exact fun A B u=>⟨(exiA g (exiA e (exiA j (zG ((u 3 dc).trans l) (zG ((u 5 dc).trans m) (zG ((u 8 dc).trans q) (zG B (cy.new cz)))))))),zj⟩
 intro dX vals w411 cC cD cE
 have aI:dX∈[15]:=cC
 simp only[yF]at aI
 subst aI
 obtain⟨g,e,j,l,m,q,z,ar⟩:=cD
 let et:=(evE c o (zw n L) (max (zP L) start)).cells e
 refine obl rfl ?_
 have dY:=cE 10 dc e q
 have bi:=ar.r2
 have hr419s:_*8≤_:=bi.2
 refine(zr (v:=.agg et.toArray) (c':=et.toArray) kT z dY (ar.b0) (zZ ⟨rfl,rfl,rfl,bi.1.one,rfl,rfl,rfl,rfl,rfl,rfl,zj⟩) yqc rfl ?_)
 intro w417 cF
 exact fun A B u=>⟨(exiA g (exiA e (exiA j (zG ((u 3 dc).trans l) (zG ((u 5 dc).trans m) (zG ((u 8 dc).trans q) (zG ((u 12 dc).trans z) (ar.pt0 cF)))))))),zj⟩
 intro vals w427 cG cH
 obtain⟨g,e,j,l,m,q,z,af⟩:=cG
 let em:=(evE c o (zw n L) (max (zP L) start)).cells e
 have dZ:=cH 14 dc
 refine yd (kv:=[(1,Ix sq 0),(3,Iv o),(4,Iv start),(11,Ix s 0),(12,Ix F 0),(13,.bool false),(14,Iv 0),(66,(Iy Z 2 2)),(67,Iw 2),(68,Iw k),(69,.bool false),(25,Ix j 0),(26,Iv ((evN o (zw n L) (max (zP L) start))))]) ⟨rfl,rfl,rfl,rfl,rfl,rfl,rfl,rfl,rfl,rfl,rfl,(by exact z),(by exact dZ),zj⟩ (fun ρw427=>(zb (za (R0 fun _=>st (ze (k:=10) pT kT rfl rfl (zi (af.b0)) (st (mV (Iv ((evN o (zw n L) (max (zP L) start)))) (st (zR (a:=(evN o (zw n L) (max (zP L) start))) rfl rfl (st (mV (Iv ((evN o (zw n L) (max (zP L) start)))) ?_)))))))))))
 have bj:=af.r2
 have hr434s:_*8≤_:=bj.2
 refine stn (zr (v:=.agg em.toArray) (c':=em.toArray) kT rfl rfl (af.b7) (zZ ⟨rfl,rfl,rfl,bj.1.one,rfl,rfl,rfl,rfl,rfl,rfl,zj⟩) yqc rfl ?_)
 intro bD cI
 have bk:=af.pt7 cI
 refine st (aS (.bool (decide ((evN o (zw n L) (max (zP L) start))=0))) (st (aS (Iv ((evN o (zw n L) (max (zP L) start)))) (zb (zo (Xn (b:=F) kR pT kT rfl rfl (zi (bk.b7)) (show _=(.bool (decide ((evN o (zw n L) (max (zP L) start))=0)):Value)from rfl) (show _=(Iv ((evN o (zw n L) (max (zP L) start))):Value)from rfl) ?_))))))
 have cJ:=ao _ _ bk
 have cK:=aR _ _ cJ
 have cM:=aQ _ _ cK
 have cN:=aP _ _ cM
 have cO:Sep G W ((DepO e ((evE c o (zw n L) (max (zP L) start)).deps))::(RowE (α:=Cel) own 140 O (zM d (c.ctyp,c.cagg) V))::en::ai::eo::(Blk j em.toArray 44)::(RowE (α:=Int) own 3 g (zw n L))::ej::(ViewO vb d V V)::eu::(DepO C (((yP L c.ckey).getD default).deps))::(Blk F em.toArray 44)::el::Rs) bD:=zaB (cN.mv6)
 have cP:Sep G W ((ViewO vb d V V)::(DepO e ((evE c o (zw n L) (max (zP L) start)).deps))::Rs) bD:=cO.sel 13 [8,0] (yL _ _) rfl rfl
 rw[show exR d n L V o start c=((evE c o (zw n L) (max (zP L) start)),decide ((evN o (zw n L) (max (zP L) start))=0),(evN o (zw n L) (max (zP L) start)))from VF hzc hzk dE dG]
 refine⟨e,rfl,cP⟩
 have ab:=tD ab
 refine zg rfl (zp (za (zu (za ?_))))
 rcases(show k=0∨k=1 by omega)with rfl|rfl
 refine R0 fun _=>st (zn (k:=1) (i:=0) qR tR rfl (⟨_,2,rfl,Nat.le_refl _,fun _=>⟨_,_,rfl⟩⟩:IsSl _ 2) rfl dc (st (lD (.func (.func 38) #[] #[Ix s 0,Ix y 0]) nY rfl (zd (aa.b0) rfl) (st (aS (.func (.func 38) #[] #[Ix s 0,Ix y 0]) (zb (za (R0 fun _=>st (mV (.func (.func 38) #[] #[Ix s 0,Ix y 0]) ?_)))))))))
 refine st (zO (f:=38) (vals:=[]) (cap:=[Ix s 0,Ix y 0]) (show _=(.func (.func 38) #[] #[Ix s 0,Ix y 0]:Value)from rfl) rfl Tryz.call38 (D_ex1 (bc:=s) (c:=c) (bs:=y) (x:=(xq d (c.ctyp,c.cagg) V)) (vx:=O) P oc (Blk.base (Blk.base bB J) E) (zk (zk (zk an Y) J) E) (⟨show InR ((yn (c.ctyp,c.cagg) V:Nat):Int) by have:=ZJ (c.ctyp,c.cagg) V;omega⟩:Sta.Ok (xq d (c.ctyp,c.cagg) V)) aa) ?_)
 rintro _ w443 ⟨rfl,au⟩
 refine st (aS (Iv ((xy c (xq d (c.ctyp,c.cagg) V).ver))) (zb (za (R0 fun _=>st (mV (Iv ((xy c (xq d (c.ctyp,c.cagg) V).ver))) (st (yj (k:=.i64) (a:=(xy c (xq d (c.ctyp,c.cagg) V).ver)) (b:=0) rfl rfl (zb ?_))))))))
 cases K: !decide ((xy c (xq d (c.ctyp,c.cagg) V).ver)=0)
 have hc445r:=K
 have K:=zB K
 refine zf rfl (zp (R0 fun _=>?_))
 have cQ:InR (0+1):=by omega
 refine st (zU (r:=0+1) (k:=.i64) (a:=0) (b:=1) rfl rfl (zJ cQ) (st (mV (Iv (0+1)) (zb ?_))))
 exact⟨_,by omega,1,_,rfl,sSf,by omega,(fun _=>K),(fun h=>absurd h om),au⟩
 have K:=zC K
 have hzn:=K
 refine zg rfl (za (yy (by kernel_rfl) (fun _=>(st (zQ (parts':=[]) (v:=.agg (ev0.cells Iz).toArray) rfl (by simp+zetaDelta [Instr.build,Instr.fill,go_sem,Ev.cells,ev0]) (st (mV (Iv ((xy c (xq d (c.ctyp,c.cagg) V).ver))) (stn (zr (v:=.agg (ev0.cells Iz).toArray) (c':=(ev0.cells Iz).toArray) kT rfl rfl (au.b4) (zZ ⟨rfl,rfl,rfl,rfl,rfl,rfl,rfl,rfl,rfl,rfl,zj⟩) yqc rfl ?_)))))))))
 intro ea cR
 have bl:=au.pt4 cR
 refine st (aS (.bool false) (st (aS (Iv ((xy c (xq d (c.ctyp,c.cagg) V).ver))) (zb (zo (Xn (b:=F) kR pT kT rfl rfl (zi (bl.b4)) (show _=(.bool false:Value)from rfl) (show _=(Iv ((xy c (xq d (c.ctyp,c.cagg) V).ver)):Value)from rfl) ?_))))))
 have cS:=ao _ _ bl
 have cT:=aR _ _ cS
 have cU:=aQ _ _ cT
 have cV:=aP _ _ cU
 have cW:Sep G W ((DepO Iz [])::(RowE (α:=Cel) own 140 O (zM d (c.ctyp,c.cagg) V))::en::ai::eo::ej::(ViewO vb d V V)::eu::(DepO C (((yP L c.ckey).getD default).deps))::ew::el::Rs) ea:=cV.depoNil
 rw[show exR d n L V o start c=(ev0,false,(xy c (xq d (c.ctyp,c.cagg) V).ver))from Vm hzc hzk hzn]
 refine⟨(Iz),rfl,(cW.s11_ga)⟩
 refine R0 fun _=>st (zn (k:=1) (i:=1) qR tR rfl (⟨_,2,rfl,Nat.le_refl _,fun _=>⟨_,_,rfl⟩⟩:IsSl _ 2) rfl dc (st (lD (.func (.func 39) #[] #[Ix D 0,Ix y 0,Ix s 0]) nY rfl (zd (aa.b0) rfl) (st (aS (.func (.func 39) #[] #[Ix D 0,Ix y 0,Ix s 0]) (zb (za (R0 fun _=>st (mV (.func (.func 39) #[] #[Ix D 0,Ix y 0,Ix s 0]) ?_)))))))))
 refine st (zO (f:=39) (vals:=[]) (cap:=[Ix D 0,Ix y 0,Ix s 0]) (show _=(.func (.func 39) #[] #[Ix D 0,Ix y 0,Ix s 0]:Value)from rfl) rfl Tryz.call39 (D_ex2 (bt:=D) (t:=(d.types.gd c.ctyp.toNat)) (vt:=(zV W (sb dd0) (so dd0+c.ctyp.toNat*1+0))) (bs:=y) (x:=(xq d (c.ctyp,c.cagg) V)) (vx:=O) (bc:=s) (c:=c) (Blk.base dC E) (zk (zk (zk (zk Q ag) Y) J) E) aw (Blk.base (Blk.base bB J) E) (zk (zk (zk an Y) J) E) (⟨show InR ((yn (c.ctyp,c.cagg) V:Nat):Int) by have:=ZJ (c.ctyp,c.cagg) V;omega⟩:Sta.Ok (xq d (c.ctyp,c.cagg) V)) P oc aa ((show YU _ _ _ _ _ from eh.ask (hd.typ _ om) (hinv c.ctyp c.cagg ef eg)))) ?_)
 rintro _ w456 ⟨rfl,av⟩
 refine st (aS (Iv (yN (d.types.gd c.ctyp.toNat) (xq d (c.ctyp,c.cagg) V).cls c.cfield c.cop c.carg)) (zb (za (R0 fun _=>st (mV (Iv (yN (d.types.gd c.ctyp.toNat) (xq d (c.ctyp,c.cagg) V).cls c.cfield c.cop c.carg)) (st (yj (k:=.i64) (a:=yN (d.types.gd c.ctyp.toNat) (xq d (c.ctyp,c.cagg) V).cls c.cfield c.cop c.carg) (b:=0) rfl rfl (zb ?_))))))))
 cases M: !decide ((yN (d.types.gd c.ctyp.toNat) (xq d (c.ctyp,c.cagg) V).cls c.cfield c.cop c.carg)=0)
 have hc458r:=M
 have M:=zB M
 refine zf rfl (zp (R0 fun _=>?_))
 have cX:InR (1+1):=by omega
 refine st (zU (r:=1+1) (k:=.i64) (a:=1) (b:=1) rfl rfl (zJ cX) (st (mV (Iv (1+1)) (zb ?_))))
 exact⟨_,by omega,2,_,rfl,sSf,by omega,(fun _=>bC om),(fun _=>M),av⟩
 have M:=zC M
 have hzn:=M
 refine zg rfl (za (yy (by kernel_rfl) (fun _=>(st (zQ (parts':=[]) (v:=.agg (ev0.cells Iz).toArray) rfl (by simp+zetaDelta [Instr.build,Instr.fill,go_sem,Ev.cells,ev0]) (st (mV (Iv (yN (d.types.getD c.ctyp.toNat default) (xq d (c.ctyp,c.cagg) V).cls c.cfield c.cop c.carg)) (stn (zr (v:=.agg (ev0.cells Iz).toArray) (c':=(ev0.cells Iz).toArray) kT rfl rfl (av.b4) (zZ ⟨rfl,rfl,rfl,rfl,rfl,rfl,rfl,rfl,rfl,rfl,zj⟩) yqc rfl ?_)))))))))
 intro eb cY
 have bm:=av.pt4 cY
 refine st (aS (.bool false) (st (aS (Iv (yN (d.types.gd c.ctyp.toNat) (xq d (c.ctyp,c.cagg) V).cls c.cfield c.cop c.carg)) (zb (zo (Xn (b:=F) kR pT kT rfl rfl (zi (bm.b4)) (show _=(.bool false:Value)from rfl) (show _=(Iv (yN (d.types.gd c.ctyp.toNat) (xq d (c.ctyp,c.cagg) V).cls c.cfield c.cop c.carg):Value)from rfl) ?_))))))
 have cZ:=ao _ _ bm
 have da:=aR _ _ cZ
 have db:=aQ _ _ da
 have dd:=aP _ _ db
 have de:Sep G W ((DepO Iz [])::(RowE (α:=Cel) own 140 O (zM d (c.ctyp,c.cagg) V))::en::ai::eo::ej::(ViewO vb d V V)::eu::(DepO C (((yP L c.ckey).getD default).deps))::ew::el::Rs) eb:=dd.depoNil
 rw[show exR d n L V o start c=(ev0,false,yN (d.types.getD c.ctyp.toNat default) (xq d (c.ctyp,c.cagg) V).cls c.cfield c.cop c.carg)from Vb hzc hzk (bC (by omega)) hzn]
 refine⟨(Iz),rfl,(de.s11_ga)⟩
 have hzk:(yP L c.ckey).isSome=true:=by simpa using aL
 refine zg rfl (za (R0 fun _=>st (ze (k:=10) pT kT rfl rfl (zi (N.b0)) (stn (zr (v:=.agg p.toArray) (c':=p.toArray) kT rfl rfl (N.b2) (zZ ⟨rfl,rfl,rfl,(N.depSl (i:=1) rfl).one,rfl,rfl,rfl,rfl,rfl,rfl,zj⟩) yqc rfl ?_)))))
 intro ec df
 have bn:=N.pt2 df
 refine st (aS (.bool false) (st (aS (Iv 0) (zb (zo (Xn (b:=F) kR pT kT rfl rfl (zi (bn.b2)) (show _=(.bool false:Value)from rfl) (show _=(Iv 0:Value)from rfl) ?_))))))
 have dg:Sep G W ((ViewO vb d V V)::(DepO C (((yP L c.ckey).getD default).deps))::Rs) ec:=bn.sel 6 [5,1] (yL _ _) rfl rfl
 rw[show exR d n L V o start c=(((yP L c.ckey).getD default),false,0)from YO hzc hzk]
 refine⟨C,rfl,dg⟩
 have X:=zC X
 have hzc: ¬xc d c=0:=by simpa using X
 refine zg rfl (za (yy (by kernel_rfl) (fun _=>(st (zQ (parts':=[]) (v:=.agg (ev0.cells Iz).toArray) rfl (by simp+zetaDelta [Instr.build,Instr.fill,go_sem,Ev.cells,ev0]) (st (mV (Iv (xc d c)) (stn (zr (v:=.agg (ev0.cells Iz).toArray) (c':=(ev0.cells Iz).toArray) kT rfl rfl (ak.b0) (zZ ⟨rfl,rfl,rfl,rfl,rfl,rfl,rfl,rfl,rfl,rfl,zj⟩) yqc rfl ?_)))))))))
 intro bE dh
 have bp:=ak.pt0 dh
 refine st (aS (.bool false) (st (aS (Iv (xc d c)) (zb (zo (Xn (b:=F) kR pT kT rfl rfl (zi (bp.b0)) (show _=(.bool false:Value)from rfl) (show _=(Iv (xc d c):Value)from rfl) ?_))))))
 have di:Sep G W ((DepO Iz [])::ew::eo::el::(ViewO vb d V V)::Rs) bE:=bp.depoNil
 have dj:Sep G W ((ViewO vb d V V)::(DepO Iz [])::Rs) bE:=di.sel 5 [4,0] (yL _ _) rfl rfl
 rw[show exR d n L V o start c=(ev0,false,xc d c)from Xr hzc]
 refine⟨(Iz),rfl,dj⟩
end
section
open Go.Proofs Go.RowKit
section
variable {n:Nat}{L l:List Ev}{e:Ev}{k:Nat}
theorem Ui (hk:k<l.length):addL n (yX n (l.take k)) (l.getD k default)=yX n (l.take (k+1)):=by
 rw[List.take_succ_eq_append_getElem hk,Kx,zK _ hk]
theorem Um:(yX n (l.take k)).length≤l.length:=Nat.le_trans Zm (List.length_take_le' ..)
theorem XN {L:List Ev}(h: ∀e∈L,e.Ok):0≤zP L∧zP L≤9223372036854775807:=by
 induction L with
 |nil=>exact⟨by decide,by decide⟩
 |cons e L ih=>
  have h1:=ih (fun x hx=>h x (List.mem_cons_of_mem _ hx))
  have h2:=(h e (List.mem_cons_self ..)).lam
  show 0≤max (zP L) e.lam∧max (zP L) e.lam≤_
  omega
end
theorem Xc {d:Dcl}{dd0:Value}(hdd0:RdS W G dd0 d.types){dd1:Value}(hdd1:RdS W G dd1 d.projs)(od:d.Ok){n:Nat}(hn:n≤1000){vl:Value}{l:List Ev}(hl:RdS W G vl l)(hKN:RdS W G (.slice (some ⟨0,0,none⟩) 6 6) kindsL)(hS0:Sep G W Rs w)(hd:DclOk d)(hl9:l.length≤1000):Ret Tryz.prog 9 [.agg (d.cells dd0 dd1).toArray,.int .i64 ((n:Nat):Int),vl] w (fun r w'=> ∃(bs:Nat) (bv:Nat),r=(.tuple #[.pointer (some ⟨bs,0,none⟩),.pointer (some ⟨bv,0,none⟩)]:Value)∧Sep G W ((SetO bs n (yX n l))::(ViewO bv d (zq d (yX n l)) (zq d (yX n l)))::Rs) w'):=by
 refine zm Tryz.func9 rfl rfl ?_
 refine za (R0 fun _=>st (zT rfl ?_))
 intro w3 b2 aA
 refine st (aS (.pointer none) (st (aS (.pointer none) (zb (za (R0 fun _=>st (mV (Iw n) ?_)))))))
 refine st (cL Tryz.call28 (JR (n:=n) yqe (hS0.new aA)) ?_)
 rintro _ w6 ⟨j,rfl,aB⟩
 refine st (aS (Ix j 0) (zb (za (za (R0 fun _=>st (mV (Ix j 0) (st (xx (b:=j) (o:=0) oY rfl (zb (zf rfl (zp (za (za (R0 fun _=>st (aS (Iv 0) (zb (zu (yf (fun mq σ y=> ∃k ρ,mq=l.length-k∧σ=yo ρ [(1,Iw n),(2,vl),(3,Ix b2 0),(6,.pointer none),(7,.pointer none),(8,Ix j 0),(9,Iw k)]∧(k≤l.length)∧Sep G W ((SetO j n (yX n (l.take k)))::(Blk b2 (d.cells dd0 dd1).toArray 25)::Rs) y) ⟨0,_,rfl,sSf,zY _,aB⟩ ?_))))))))))))))))))
 rintro m9 σ10 S ⟨k,ρl1,rfl,rfl,hkk,q⟩
 refine za (za (R0 fun _=>st (mV (Iw k) (st (mV vl (st (zS pY rfl hl.sl (st (zI rfl rfl (zb ?_))))))))))
 cases s:decide (((k:Nat):Int)<((l.length:Nat):Int))
 have s:=fD s
 refine zf rfl (yh (zX (za ?_)))
 have aC:k=l.length:=by omega
 rw[aC,List.take_length]at q
 have af:Sep G W ((SetO j n (yX n l))::(Blk b2 (d.cells dd0 dd1).toArray 25)::Rs) S:=q
 obtain⟨L,M,z,ag,ah⟩:=af.lend
 obtain⟨vv20,m21,R22,hb23,ai,hr25⟩:=SetO.sh M
 refine WD4 ((fun N=>WF [fun vals y=>Sep L S (N::Rs) y,fun vals y=> ∃g,(vals 3=g)∧Sep L S ((RowE own 44 g (yX n l))::N::Rs) y,fun vals y=> ∃g c,(vals 3=g)∧(vals 4=(Ix c 0:Value))∧Sep L S ((RowE own 44 g (yX n l))::(ViewO c d (zq d (yX n l)) (zq d (yX n l)))::N::Rs) y]) (Blk b2 (d.cells dd0 dd1).toArray 25)) (AF [Vl 0 (Ix j 0),Vl 1 (.agg (d.cells dd0 dd1).toArray),Vl 2 (Ix j 0),fun _=>True,fun _=>True,Vl 5 (Ix j 0),fun vals=> ∀(c:Nat),vals 4=(Ix c 0:Value)→vals 6=(Ix c 0:Value)]) [[],[],[],[2],[1,2,3],(rg 5),(rg 6)] [3,4] [(0,2),(0,1),(0,0),(0,0),(1,1),(2,2),(2,2)] ag ⟨fun _ _ _ _ _ _ _=>obl rfl (mV (Ix j 0) dR),?_,fun _ _ _ _ _ _ _=>obl rfl (mV (Ix j 0) dR),?_,?_,fun _ _ _ _ _ _ T=>obl rfl (ya (T 0 dc) dR),?_,zj⟩ ?_ (hlocA:=xd ⟨dA,dA,dA,dT,dT,dA,fun vals t x h=>fun c B=>(x 6 (.inl rfl)).trans (h c ((x 4 (.inr dc)).symm.trans B)),zj⟩)
 refine fun C _ _ aj ak D _=>?_
 have hkk:=xz aj ak
 rcases hkk with rfl|rfl
 have U:=D
 exact obl rfl (ze pR wT rfl rfl (zi (U.b0)) dR)
 obtain⟨g,m,V⟩:=D
 exact obl rfl (ze pR wT rfl rfl (zi (V.b1)) dR)
 refine ob1 0 fun vals _ (al:Sep _ _ _ _) am=>(obl rfl ((zO (vals:=[Ix j 0]) rfl (yK ⟨(am 2 dc),zj⟩) Tryz.call16 (KY M al (laidL_good.ids) (laidL_good.srt) ((Nat.le_trans Zm om))) ?_)))
 rintro g w55 ⟨_,rfl,O⟩
 have an:=O.r0
 exact fun t x E=>⟨(exiA g (zG x O)),zj⟩
 refine ob1 1 fun vals _ ao ap=>?_
 obtain⟨g,m,aq⟩:=ao
 refine obl rfl ?_
 obtain⟨G67,ar,A,au,av⟩:=aq.lend
 have F:=RowE.rd ar
 refine(zO (vals:=[.agg (d.cells dd0 dd1).toArray,g]) rfl (yK ⟨(ap 1 dc),m,zj⟩) Tryz.call30 (D_All (d:=d) (l:=(yX n l)) (vl:=g) (zk (zk hdd0 z) A) (zk (zk hdd1 z) A) od F (zk (zk hKN z) A) au hd ((Nat.le_trans Zm om))) ?_)
 rintro _ w75 ⟨c,rfl,aw⟩
 have ax:=av _ _ aw
 exact fun t x E=>⟨(exiA g (exiA c (zG ((E 3 dc).trans m) (zG x ax)))),zj⟩
 refine ob1 2 fun _ _ X _=>?_
 obtain⟨g,c,m,u,hS126⟩:=X
 refine obl rfl (ya u (fun t x E=>⟨rfl,?_⟩))
 intro b74q B
 rw[E 4 (by decide)]at B;cases u.symm.trans B
 exact x
 intro vals w127 Y H
 obtain⟨g,c,m,u,Z⟩:=Y
 have ay:=H 5 dc
 have az:=H 6 dc c u
 refine yd (kv:=[(1,Iw n),(2,vl),(3,Ix b2 0),(6,Ix j 0),(7,Ix c 0),(8,Ix j 0),(9,Iw k),(14,Iw k),(15,vl),(16,Iw l.length),(17,.bool false)]) ⟨rfl,rfl,rfl,(by exact ay),(by exact az),rfl,rfl,rfl,rfl,rfl,rfl,zj⟩ (fun ρw127=>(zb (zo (zbW Tryz.results9 (show _=(Ix j 0:Value)from rfl) (show _=(Ix c 0:Value)from rfl) ?_))))
 have aa:=ah _ _ Z
 refine⟨j,c,rfl,(aa.s4_ac)⟩
 have s:=tD s
 refine zg rfl (zp (za (zu (R0 fun _=>st (mV (Ix j 0) (st (mV vl (st (mV (Iw k) ?_)))))))))
 have ab:k<l.length:=bo
 refine st (zn (k:=10) pY kT rfl hl.sl rfl ab ?_)
 have I:k<l.length:=bo
 obtain⟨P,p,K⟩:=hl.evD I
 have Q:=q.cells P (hl.foot (ne_of_lt I))
 refine st (ze pT kT rfl rfl Q (st (cL Tryz.call29 (zbN (e:=(l.getD k default)) p K q ((Nat.le_trans Um om)) (laidL_good.len)) ?_)))
 rintro _ w142 ⟨ac,rfl,R,J⟩
 refine zb (R0 fun _=>st (mV (Iw k) ?_))
 have ad:InR ((k+1:Nat):Int):=bo
 refine st (zU (r:=((k+1:Nat):Int)) rfl rfl (by rw[show(((k:Nat):Int)+1:Int)=((k+1:Nat):Int)from bo];exact zJ ad) (st (aS (Iw (k+1)) (zb ?_))))
 have ae:(yX n (l.take (k+1)))=ac:=(by rw[R];exact(Ui (by omega)).symm)
 rw[←ae]at J
 exact⟨_,by omega,k+1,_,rfl,sSf,by omega,J⟩
end
section
open Go.Proofs Go.RowKit
theorem yqf {p:Prop}(h:p:=by decide+kernel):p:=h
theorem ZT {d:Dcl}{n:Nat}{L:List Ev}{V:List Ent}{o start:Int}{c:Cmd}(oc:c.Ok)(ho:InR o)(hs:InR start)(hL: ∀e∈L,e.Ok)(hl:L.length≤1000000):(exR d n L V o start c).1.Ok:=by
 by_cases h:xc d c=0
 ·cases hk:(yP L c.ckey).isSome with
  |true=>rw[YO h hk];exact zcY hL hk
  |false=>
   by_cases hx:xy c ((yn (c.ctyp,c.cagg) V:Nat):Int)=0
   ·by_cases hm:yN (xR d c.ctyp) (zM d (c.ctyp,c.cagg) V) c.cfield c.cop c.carg=0
    ·rw[VF h hk hx hm]
     have h9:=WL (n:=n) (L:=L) o
     have h8:=XN hL
     exact zeb oc ho (by omega) (by omega)
    ·rw[Vb h hk hx hm];exact Vi
   ·rw[Vm h hk hx];exact Vi
 ·rw[Xr h];exact Vi
def dF:Dcl:=⟨[⟨[⟨1,1,true,[]⟩]⟩],[]⟩
theorem YD:DclOk dF:=by
 have one: ∀{P:Nat→Prop},P 0→ ∀i,i<1→P i:=fun{P} h i hi=>(show i=0 by omega)▸h
 refine⟨Nat.le_refl 1,(by show 1≤8;decide),one (P:=fun i=>TypOk (dF.types.getD i default)) ?_⟩
 refine⟨Nat.le_refl 1,(by show 1≤8;decide),?_,?_,?_,?_⟩
 ·intro i hi;obtain rfl:i=0:=by have:i<1:=hi;omega
  exact⟨(by decide:(1:Int)≤1),(by decide:(1:Int)≤4)⟩
 ·intro i hi h;obtain rfl:i=0:=by have:i<1:=hi;omega
  rfl
 ·intro i hi;obtain rfl:i=0:=by have:i<1:=hi;omega
  exact⟨fun h=>absurd h (by show ¬(1:Int)=4;decide),Nat.zero_le _⟩
 ·intro i hi j hj;obtain rfl:i=0:=by have:i<1:=hi;omega
  exact absurd hj (Nat.not_lt_zero j)
theorem Zb (hS0:Sep G W Rs w):Ret Tryz.prog 21 [] w (fun r w'=> ∃(bt:Nat) (bf:Nat),r=(.agg #[(.slice (some ⟨bt,0,none⟩) 1 1),.slice none 0 0]:Value)∧Sep G W ((Blk bt #[(.slice (some ⟨bf,0,none⟩) 1 1)] 74)::(Blk bf #[.int .i64 (1),.int .i64 (1),.bool true,.slice none 0 0] 106)::Rs) w'):=by
 refine zm Tryz.func21 rfl rfl ?_
 refine za (R0 fun _=>st (zv Tryz.zeroValue25 ?_))
 intro w3 b2 h
 refine zb (za (yy (by kernel_rfl) (fun _=>(st (zQ (parts':=[(0,Iv 1),(1,Iv 1),(2,.bool true)]) rfl (by simp+zetaDelta [Instr.build,Instr.fill,go_sem,Zd]) (st (zL (k:=4) (parts':=[(0,.agg #[Iv 1,Iv 1,.bool true,(Iz)])]) (c:=#[Iv 1,Iv 1,.bool true,(Iz)]) Tryz.underlying72 Tryz.sizeOf106 Tryz.zeroValue106 (by decide) rfl (by kernel_rfl) ?_)))))))
 intro w7 d i
 refine st (zQ (parts':=[(0,(Iy d 1 1))]) rfl (by simp+zetaDelta [Instr.build,Instr.fill,go_sem,Zd]) (st (zL (k:=1) (parts':=[(0,.agg #[(Iy d 1 1)])]) (c:=#[(Iy d 1 1)]) vR tT wR (by decide) rfl (by kernel_rfl) ?_)))
 intro w11 a j
 have e:=((hS0.new h).new i).new j
 refine st (zQ (parts':=[(0,(Iy a 1 1))]) rfl (by simp+zetaDelta [Instr.build,Instr.fill,go_sem,Zd]) (stn (zr (v:=.agg #[(Iy a 1 1),(Iz)]) wT rfl rfl (e.b2) (zZ ⟨rfl,rfl,zj⟩) yqc rfl ?_)))
 intro w13 g
 have f:=e.pt2 g
 refine zb (zo (VU (b:=b2) Tryz.results21 pR wT rfl rfl (zi (f.b2)) ?_))
 refine⟨a,d,rfl,(f.s3_ab)⟩
abbrev yi:=exR dF 2 ([]:List Ev) ([]:List Ent) 1 10 (⟨0,0,0,1,3,0,7⟩:Cmd)
abbrev yt:=exR dF 2 ([]:List Ev) ([]:List Ent) 1 10 (⟨0,0,0,1,3,1,7⟩:Cmd)
abbrev yu:=exR dF 2 ([]:List Ev) ([]:List Ent) 1 10 (⟨0,0,0,1, -1, -1,7⟩:Cmd)
abbrev kX154:=(⟨0,0,0,1,3,0,7⟩:Cmd)
abbrev kX155:=(⟨0,0,0,1,3,1,7⟩:Cmd)
abbrev kX156:=(⟨0,0,0,1, -1, -1,7⟩:Cmd)
set_option maxHeartbeats 8000000 in
set_option maxRecDepth 20000 in
theorem xf (hKN:RdS W G (.slice (some ⟨0,0,none⟩) 6 6) kindsL)(hS0:Sep G W Rs w):Ret Tryz.prog 6 [] w (fun r w'=>r=(.bool true:Value)∧Sep G W Rs w'):=by
 have hKNs:_*8≤_:=hKN.small
 refine zm (args:=[]) Tryz.func6 rfl rfl ?_
 refine za (R0 fun _=>st (aS (.bool false) (zb (za (R0 fun _=>st (cL rT (Zb hS0) ?_))))))
 rintro _ w3 ⟨bJ,ao,rfl,iJ⟩
 have hB:Sep _ _ ((RowE (α:=Fld) (shr G W) 106 (Iy ao 1 1) [(⟨1,1,true,[]⟩:Fld)])::_) _:=Sep.blkRow (src:=(shr G W)) (l:=[(⟨1,1,true,[]⟩:Fld)]) (css:=[(⟨1,1,true,[]⟩:Fld).cells (Iz)]) (iJ.mv1) rfl ⟨fun _ _=>⟨_,rfl,(RdS.nil _ _),(show Fld.Ok (⟨1,1,true,[]⟩:Fld)from⟨by decide,by decide⟩)⟩,zj⟩ yqa (show 1≤maxLen by decide)
 have iK:=hB.r0
 have hr7s:_*48≤_:=iK.2
 obtain⟨G8,hD,cR,hE,hF⟩:=hB.lend
 have bK:=RowE.rdB hD cR
 have hrd14s:_*48≤_:=bK.small
 have cS:Sep G8 w3 ((RowE (α:=Typ) (shr G8 w3) 74 (Iy bJ 1 1) [(⟨[(⟨1,1,true,[]⟩:Fld)]⟩:Typ)])::Rs) w3:=Sep.blkRow (src:=(shr G8 w3)) (l:=[(⟨[(⟨1,1,true,[]⟩:Fld)]⟩:Typ)]) (css:=[(⟨[(⟨1,1,true,[]⟩:Fld)]⟩:Typ).cells (Iy ao 1 1)]) hE rfl ⟨fun _ _=>⟨_,rfl,bK,(show Typ.Ok (⟨[(⟨1,1,true,[]⟩:Fld)]⟩:Typ)from⟨⟩)⟩,zj⟩ yqa (show 1≤maxLen by decide)
 have hG:=cS.r0
 have hr16s:_*24≤_:=hG.2
 obtain⟨G17,hH,cT,hI,hJ⟩:=cS.lend
 have bL:=RowE.rdB hH cT
 have hrd23s:_*24≤_:=bL.small
 refine st (cL Tryz.call9 (Xc (d:=dF) (n:=2) (l:=([]:List Ev)) (vl:=(Iz)) bL (RdS.nil _ _) (⟨⟩:Dcl.Ok dF) yqe (RdS.nil _ _) (zk (zk hKN cR) cT) hI YD ((zY _))) ?_)
 rintro _ iL ⟨A,B,rfl,hK⟩
 let iR:=(ViewO B dF ([]:List Ent) ([]:List Ent))
 have hL:=hJ _ _ hK
 have hM:=hF _ _ hL
 refine st (mV (.tuple #[Ix A 0,Ix B 0]) (st (zl (vs:=[Ix A 0,Ix B 0]) (i:=0) (v:=Ix A 0) rfl rfl (st (zl (vs:=[Ix A 0,Ix B 0]) (i:=1) (v:=Ix B 0) rfl rfl (st (aS (Ix A 0) (st (aS (Ix B 0) (zb (za (za ?_))))))))))))
 have hN:Sep G W ((RowE (α:=Fld) (shr G W) 106 (Iy ao 1 1) [(⟨1,1,true,[]⟩:Fld)])::(SetO A 2 ([]:List Ev))::iR::Rs) iL:=(hM.s4_acd)
 refine zy kr (st (mV (Ix A 0) (st (xx (b:=A) (o:=0) oY rfl (st (mV (.bool false) (sty rfl rfl (mV (Ix B 0) (sty rfl rfl (xx (b:=B) (o:=0) Tryz.underlying33 rfl (st (yb (v:=.bool false) rfl rfl (zb (zf rfl (zp (za (R0 fun _=>?_)))))))))))))))))
 have cU:Cmd.Ok kX154:=⟨(show InR (0)from dc),(show InR (0)from dc),(show InR (0)from dc),(show InR (1)from dc),(show InR (3)from dc),(show InR (0)from dc),(show InR (7)from dc)⟩
 refine st (zQ (parts':=[(3,Iv 1),(4,Iv 3),(6,Iv 7)]) (v:=.agg (kX154.cells).toArray) rfl (by simp+zetaDelta [Instr.build,Instr.fill,go_sem,Zd]) (st (zv Tryz.zeroValue49 ?_)))
 intro w35 Z hO
 have cV:=hN.new hO
 refine stn (zr (v:=.agg (kX154.cells).toArray) (c':=(kX154.cells).toArray) lT rfl rfl (cV.b0) (zZ ⟨rfl,rfl,rfl,rfl,rfl,rfl,rfl,zj⟩) yqc rfl ?_)
 intro w37 hP
 refine zb (za ?_)
 refine WD6 ((fun R S T U=>WF [fun vals O=>Sep G W (R::S::T::U::Rs) O,fun vals O=> ∃(z:Nat) (x:Nat),(vals 0=(.agg #[(Iy z 1 1),Iz]:Value))∧Sep G W ((Blk z #[(Iy x 1 1)] 74)::(Blk x #[Iv 1,Iv 1,.bool true,Iz] 106)::R::S::T::U::Rs) O,fun _ _=>True,fun vals O=> ∃(z:Nat) (x:Nat) (e:Value),(vals 0=(.agg #[(Iy z 1 1),Iz]:Value))∧(vals 4=(.tuple #[.agg (yi.1.cells e).toArray,.bool (yi.2.1),Iv (yi.2.2)]:Value))∧Sep G W ((RowE (α:=Fld) (shr G W) 106 (Iy x 1 1) [(⟨1,1,true,[]⟩:Fld)])::T::U::(DepO e (yi.1.deps))::R::S::Rs) O,fun vals O=> ∃(C:Nat),(vals 9=(Ix C 0:Value))∧Sep G W ((Blk C #[Iv 0,Iv 0,Iv 0,(Iz),Iv 0,Iv 0,Iv 0,Iv 0,Iv 0,Iv 0] 44)::R::S::T::U::Rs) O,fun vals O=> ∃(z:Nat) (x:Nat) (C:Nat),(vals 0=(.agg #[(Iy z 1 1),Iz]:Value))∧(vals 9=(Ix C 0:Value))∧Sep G W ((Blk z #[(Iy x 1 1)] 74)::(Blk x #[Iv 1,Iv 1,.bool true,Iz] 106)::(Blk C #[Iv 0,Iv 0,Iv 0,(Iz),Iv 0,Iv 0,Iv 0,Iv 0,Iv 0,Iv 0] 44)::R::S::T::U::Rs) O,fun _ _=>True,fun vals O=> ∃(z:Nat) (x:Nat) (e:Value) (C:Nat),(vals 0=(.agg #[(Iy z 1 1),Iz]:Value))∧(vals 4=(.tuple #[.agg (yi.1.cells e).toArray,.bool (yi.2.1),Iv (yi.2.2)]:Value))∧(vals 9=(Ix C 0:Value))∧Sep G W ((Blk C #[Iv 0,Iv 0,Iv 0,(Iz),Iv 0,Iv 0,Iv 0,Iv 0,Iv 0,Iv 0] 44)::(RowE (α:=Fld) (shr G W) 106 (Iy x 1 1) [(⟨1,1,true,[]⟩:Fld)])::T::U::(DepO e (yi.1.deps))::R::S::Rs) O,fun _ _=>True,fun _ _=>True,fun _ _=>True,fun _ _=>True,fun _ _=>True,fun _ _=>True,fun _ _=>True,fun vals O=> ∃(z:Nat) (x:Nat) (e:Value) (C:Nat),(vals 0=(.agg #[(Iy z 1 1),Iz]:Value))∧(vals 4=(.tuple #[.agg (yi.1.cells e).toArray,.bool (yi.2.1),Iv (yi.2.2)]:Value))∧(vals 9=(Ix C 0:Value))∧Sep G W ((Blk C (yi.1.cells e).toArray 44)::(RowE (α:=Fld) (shr G W) 106 (Iy x 1 1) [(⟨1,1,true,[]⟩:Fld)])::T::U::(DepO e (yi.1.deps))::R::S::Rs) O]) (Blk Z (kX154.cells).toArray 49) (RowE (α:=Fld) (shr G W) 106 (Iy ao 1 1) [(⟨1,1,true,[]⟩:Fld)]) (SetO A 2 ([]:List Ev)) iR) (AF [fun _=>True,Vl 1 (Ix A 0),Vl 2 (Ix B 0),Vl 3 (.agg (kX154.cells).toArray),fun _=>True,fun vals=> ∀(e:Value),vals 4=(.tuple #[.agg (yi.1.cells e).toArray,.bool (yi.2.1),Iv (yi.2.2)]:Value)→vals 5=(.tuple #[.agg (yi.1.cells e).toArray,.bool (yi.2.1),Iv (yi.2.2)]:Value),fun vals=> ∀(e:Value),vals 4=(.tuple #[.agg (yi.1.cells e).toArray,.bool (yi.2.1),Iv (yi.2.2)]:Value)→vals 6=(.agg (yi.1.cells e).toArray:Value),Vl 7 (.bool (yi.2.1)),Vl 8 (Iv (yi.2.2)),fun _=>True,fun _=>True,Vl 11 (.bool (yi.2.1)),Vl 12 (Iv (yi.2.2))]) [[],[],[],[],(rg 4),(rg 5),(rg 6),(rg 6),(rg 6),[],[0,1,2,3,4,5,6,9],[0,1,2,3,4,5,6,7,9,10],(rg 12)] [0,4,9,10] [[0,4],[0,1,4,5],[0,1,4,5],[0,1,4,5],[1,5],[3,7],[3,7],[3,7,15],[3,7,15],[0,1,3],[7],[15],[15]] (cV.pt0 hP) ⟨?_,fun _ _ _ _ _ _=>obl rfl (mV (Ix A 0) dR),fun _ _ _ _ _ _=>obl rfl (mV (Ix B 0) dR),?_,?_,?_,?_,?_,?_,?_,?_,fun _ _ _ _ _ eh=>obl rfl (ya (v:=.bool (yi.2.1)) (eh 7 dc) dR),fun _ _ _ _ _ ei=>obl rfl (ya (v:=Iv (yi.2.2)) (ei 8 dc) dR),zj⟩ ?_ (hlocA:=xd ⟨dT,dA,dA,dA,dT,fun vals u y h=>fun e H=>(y 5 (.inl rfl)).trans (h e ((y 4 (.inr dc)).symm.trans H)),fun vals u y h=>fun e H=>(y 6 (.inl rfl)).trans (h e ((y 4 (.inr dc)).symm.trans H)),dA,dA,dT,dT,dA,dA,zj⟩)
 intro hQ vals w184 ej bM hA185
 have aP:hQ∈[0,4]:=ej
 simp only[yF]at aP
 rcases aP with rfl|rfl
 have ek:Sep _ _ _ _:=bM
 refine obl rfl ((cL rT (Zb ek) ?_))
 rintro _ w191 ⟨z,x,rfl,el⟩
 exact fun u y m=>⟨(exiA z (exiA x (zG y el))),zj⟩
 obtain⟨C,N,em⟩:=bM
 refine obl rfl ((cL rT (Zb em) ?_))
 rintro _ w196 ⟨z,x,rfl,en⟩
 exact fun u y m=>⟨(exiA z (exiA x (exiA C (zG y (zG ((m 9 dc).trans N) en))))),zj⟩
 intro hR vals w209 eo ab hA210
 have aQ:hR∈[0,1,4,5]:=eo
 simp only[yF]at aQ
 rcases aQ with rfl|rfl|rfl|rfl
 have er:Sep _ _ _ _:=ab
 exact obl rfl (ze (k:=7) nT lT rfl rfl (zi (er.b0)) dR)
 obtain⟨z,x,M,es⟩:=ab
 exact obl rfl (ze (k:=7) nT lT rfl rfl (zi (es.b2)) dR)
 obtain⟨C,N,et⟩:=ab
 exact obl rfl (ze (k:=7) nT lT rfl rfl (zi (et.b1)) dR)
 obtain⟨z,x,C,M,N,eu⟩:=ab
 exact obl rfl (ze (k:=7) nT lT rfl rfl (zi (eu.b3)) dR)
 intro hS vals aA ew bN V
 have aR:hS∈[1,5]:=ew
 simp only[yF]at aR
 rcases aR with rfl|rfl
 obtain⟨z,x,M,ex⟩:=bN
 refine obl rfl ?_
 have bO:Sep _ _ ((RowE (α:=Fld) (shr G W) 106 (Iy x 1 1) [(⟨1,1,true,[]⟩:Fld)])::_) _:=Sep.blkRow (src:=(shr G W)) (l:=[(⟨1,1,true,[]⟩:Fld)]) (css:=[(⟨1,1,true,[]⟩:Fld).cells (Iz)]) (ex.mv1) rfl ⟨fun _ _=>⟨_,rfl,(RdS.nil _ _),(show Fld.Ok (⟨1,1,true,[]⟩:Fld)from⟨by decide,by decide⟩)⟩,zj⟩ yqa (show 1≤maxLen by decide)
 have ey:=bO.r0
 have hr228s:_*48≤_:=ey.2
 obtain⟨cW,ez,bP,eA,eB⟩:=bO.lend
 have aT:=RowE.rdB ez bP
 have hrd235s:_*48≤_:=aT.small
 have bQ:Sep _ _ ((RowE (α:=Typ) (shr cW aA) 74 (Iy z 1 1) [(⟨[(⟨1,1,true,[]⟩:Fld)]⟩:Typ)])::_) _:=Sep.blkRow (src:=(shr cW aA)) (l:=[(⟨[(⟨1,1,true,[]⟩:Fld)]⟩:Typ)]) (css:=[(⟨[(⟨1,1,true,[]⟩:Fld)]⟩:Typ).cells (Iy x 1 1)]) eA rfl ⟨fun _ _=>⟨_,rfl,aT,(show Typ.Ok (⟨[(⟨1,1,true,[]⟩:Fld)]⟩:Typ)from⟨⟩)⟩,zj⟩ yqa (show 1≤maxLen by decide)
 have eC:=bQ.r0
 have hr237s:_*24≤_:=eC.2
 obtain⟨G238,eD,bR,eE,eF⟩:=bQ.lend
 have aU:=RowE.rdB eD bR
 have hrd244s:_*24≤_:=aU.small
 obtain⟨G246,bS,bT,eG,eH⟩:=(eE.mv2).lend
 obtain⟨vv252,m253,R254,hb255,eI,hr257⟩:=SetO.sh bS
 have hsm258:(zw 2 ([]:List Ev)).length*8≤140737488355328:=eI.small
 refine(zO (f:=11) (vals:=[.agg (dF.cells (Iy z 1 1) Iz).toArray,Ix A 0,Ix B 0,Iv 1,Iv 10,.agg (kX154.cells).toArray]) (cap:=[]) rfl (yK ⟨M,(V 1 dc),(V 2 dc),rfl,rfl,(V 3 dc),zj⟩) uT (xU (d:=dF) (o:=1) (start:=10) (c:=kX154) (zk aU bT) (RdS.nil _ _) (⟨⟩:Dcl.Ok dF) bS dc dc cU (zk (zk (zk hKN bP) bR) bT) (eG.mv2) YD ((Inv.nil dF)) ((zY _)) (List.Pairwise.nil) ((Good.nil (n:=2)).srt) ((zY _)) dc) ?_)
 rintro _ w261 ⟨e,rfl,eJ⟩
 have eK:=eH _ _ eJ
 have eL:=eF _ _ eK
 have eM:=eB _ _ eL
 exact fun u y m=>⟨(exiA z (exiA x (exiA e (zG ((m 0 dc).trans M) (zG y (eM.s7_acdefg)))))),zj⟩
 obtain⟨z,x,C,M,N,eN⟩:=bN
 refine obl rfl ?_
 have bU:Sep _ _ ((RowE (α:=Fld) (shr G W) 106 (Iy x 1 1) [(⟨1,1,true,[]⟩:Fld)])::_) _:=Sep.blkRow (src:=(shr G W)) (l:=[(⟨1,1,true,[]⟩:Fld)]) (css:=[(⟨1,1,true,[]⟩:Fld).cells (Iz)]) (eN.mv1) rfl ⟨fun _ _=>⟨_,rfl,(RdS.nil _ _),(show Fld.Ok (⟨1,1,true,[]⟩:Fld)from⟨by decide,by decide⟩)⟩,zj⟩ yqa (show 1≤maxLen by decide)
 have eO:=bU.r0
 have hr273s:_*48≤_:=eO.2
 obtain⟨cX,eP,bV,eQ,eR⟩:=bU.lend
 have aV:=RowE.rdB eP bV
 have hrd280s:_*48≤_:=aV.small
 have bW:Sep _ _ ((RowE (α:=Typ) (shr cX aA) 74 (Iy z 1 1) [(⟨[(⟨1,1,true,[]⟩:Fld)]⟩:Typ)])::_) _:=Sep.blkRow (src:=(shr cX aA)) (l:=[(⟨[(⟨1,1,true,[]⟩:Fld)]⟩:Typ)]) (css:=[(⟨[(⟨1,1,true,[]⟩:Fld)]⟩:Typ).cells (Iy x 1 1)]) eQ rfl ⟨fun _ _=>⟨_,rfl,aV,(show Typ.Ok (⟨[(⟨1,1,true,[]⟩:Fld)]⟩:Typ)from⟨⟩)⟩,zj⟩ yqa (show 1≤maxLen by decide)
 have eS:=bW.r0
 have hr282s:_*24≤_:=eS.2
 obtain⟨G283,eT,bX,eU,eV⟩:=bW.lend
 have aW:=RowE.rdB eT bX
 have hrd289s:_*24≤_:=aW.small
 obtain⟨G291,bY,bZ,eW,eX⟩:=(eU.mv3).lend
 obtain⟨vv297,m298,R299,hb300,eY,hr302⟩:=SetO.sh bY
 have hsm303:(zw 2 ([]:List Ev)).length*8≤140737488355328:=eY.small
 refine(zO (f:=11) (vals:=[.agg (dF.cells (Iy z 1 1) Iz).toArray,Ix A 0,Ix B 0,Iv 1,Iv 10,.agg (kX154.cells).toArray]) (cap:=[]) rfl (yK ⟨M,(V 1 dc),(V 2 dc),rfl,rfl,(V 3 dc),zj⟩) uT (xU (d:=dF) (o:=1) (start:=10) (c:=kX154) (zk aW bZ) (RdS.nil _ _) (⟨⟩:Dcl.Ok dF) bY dc dc cU (zk (zk (zk hKN bV) bX) bZ) (eW.mv3) YD ((Inv.nil dF)) ((zY _)) (List.Pairwise.nil) ((Good.nil (n:=2)).srt) ((zY _)) dc) ?_)
 rintro _ w306 ⟨e,rfl,eZ⟩
 have fa:=eX _ _ eZ
 have fb:=eV _ _ fa
 have fc:=eR _ _ fb
 exact fun u y m=>⟨(exiA z (exiA x (exiA e (exiA C (zG ((m 0 dc).trans M) (zG y (zG ((m 9 dc).trans N) ((fc.s8_acdefgh).mv4)))))))),zj⟩
 intro hT vals w314 fd ca hA315
 have aX:hT∈[3,7]:=fd
 simp only[yF]at aX
 rcases aX with rfl|rfl
 obtain⟨z,x,e,M,D,hS318⟩:=ca
 refine obl rfl (yg (v:=.tuple #[.agg (yi.1.cells e).toArray,.bool (yi.2.1),Iv (yi.2.2)]) D (fun u y m=>⟨rfl,?_⟩))
 intro ae H
 rw[m 4 (by decide)]at H;cases D.symm.trans H
 exact y
 obtain⟨z,x,e,C,M,D,N,hS319⟩:=ca
 refine obl rfl (yg (v:=.tuple #[.agg (yi.1.cells e).toArray,.bool (yi.2.1),Iv (yi.2.2)]) D (fun u y m=>⟨rfl,?_⟩))
 intro ae H
 rw[m 4 (by decide)]at H;cases D.symm.trans H
 exact y
 intro hU vals w321 fe cb cc
 have aY:hU∈[3,7]:=fe
 simp only[yF]at aY
 rcases aY with rfl|rfl
 obtain⟨z,x,e,M,D,hS325⟩:=cb
 let hv:=(yi.1.cells e)
 have hV:vals 5=(.tuple #[.agg hv.toArray,.bool (yi.2.1),Iv (yi.2.2)]:Value):=cc 5 dc e D
 refine obl rfl (zl (vs:=[.agg hv.toArray,.bool (yi.2.1),Iv (yi.2.2)]) (i:=0) (v:=.agg hv.toArray) hV rfl (fun u y m=>⟨rfl,?_⟩))
 intro ae H
 rw[m 4 (by decide)]at H;cases D.symm.trans H
 exact y
 obtain⟨z,x,e,C,M,D,N,hS327⟩:=cb
 let hC:=(yi.1.cells e)
 have hW:vals 5=(.tuple #[.agg hC.toArray,.bool (yi.2.1),Iv (yi.2.2)]:Value):=cc 5 dc e D
 refine obl rfl (zl (vs:=[.agg hC.toArray,.bool (yi.2.1),Iv (yi.2.2)]) (i:=0) (v:=.agg hC.toArray) hW rfl (fun u y m=>⟨rfl,?_⟩))
 intro ae H
 rw[m 4 (by decide)]at H;cases D.symm.trans H
 exact y
 intro hX vals w330 ff aB aC
 have aZ:hX∈[3,7,15]:=ff
 simp only[yF]at aZ
 rcases aZ with rfl|rfl|rfl
 obtain⟨z,x,e,M,D,hS334⟩:=aB
 let iZ:=(yi.1.cells e)
 have hY:vals 5=(.tuple #[.agg iZ.toArray,.bool (yi.2.1),Iv (yi.2.2)]:Value):=aC 5 dc e D
 exact obl rfl (zl (vs:=[.agg iZ.toArray,.bool (yi.2.1),Iv (yi.2.2)]) (i:=1) (v:=.bool (yi.2.1)) hY rfl dR)
 obtain⟨z,x,e,C,M,D,N,hS336⟩:=aB
 let ja:=(yi.1.cells e)
 have hZ:vals 5=(.tuple #[.agg ja.toArray,.bool (yi.2.1),Iv (yi.2.2)]:Value):=aC 5 dc e D
 exact obl rfl (zl (vs:=[.agg ja.toArray,.bool (yi.2.1),Iv (yi.2.2)]) (i:=1) (v:=.bool (yi.2.1)) hZ rfl dR)
 obtain⟨z,x,e,C,M,D,N,hS338⟩:=aB
 let jb:=(yi.1.cells e)
 have ia:vals 5=(.tuple #[.agg jb.toArray,.bool (yi.2.1),Iv (yi.2.2)]:Value):=aC 5 dc e D
 exact obl rfl (zl (vs:=[.agg jb.toArray,.bool (yi.2.1),Iv (yi.2.2)]) (i:=1) (v:=.bool (yi.2.1)) ia rfl dR)
 intro ib vals w341 fg aD aE
 have ba:ib∈[3,7,15]:=fg
 simp only[yF]at ba
 rcases ba with rfl|rfl|rfl
 obtain⟨z,x,e,M,D,hS345⟩:=aD
 let jc:=(yi.1.cells e)
 have ic:vals 5=(.tuple #[.agg jc.toArray,.bool (yi.2.1),Iv (yi.2.2)]:Value):=aE 5 dc e D
 exact obl rfl (zl (vs:=[.agg jc.toArray,.bool (yi.2.1),Iv (yi.2.2)]) (i:=2) (v:=Iv (yi.2.2)) ic rfl dR)
 obtain⟨z,x,e,C,M,D,N,hS347⟩:=aD
 let jd:=(yi.1.cells e)
 have id:vals 5=(.tuple #[.agg jd.toArray,.bool (yi.2.1),Iv (yi.2.2)]:Value):=aE 5 dc e D
 exact obl rfl (zl (vs:=[.agg jd.toArray,.bool (yi.2.1),Iv (yi.2.2)]) (i:=2) (v:=Iv (yi.2.2)) id rfl dR)
 obtain⟨z,x,e,C,M,D,N,hS349⟩:=aD
 let je:=(yi.1.cells e)
 have ie:vals 5=(.tuple #[.agg je.toArray,.bool (yi.2.1),Iv (yi.2.2)]:Value):=aE 5 dc e D
 exact obl rfl (zl (vs:=[.agg je.toArray,.bool (yi.2.1),Iv (yi.2.2)]) (i:=2) (v:=Iv (yi.2.2)) ie rfl dR)
 intro ig vals w352 fh aF hA353
 have bb:ig∈[0,1,3]:=fh
 simp only[yF]at bb
 rcases bb with rfl|rfl|rfl
 have fi:Sep _ _ _ _:=aF
 refine obl rfl ((zv mT ?_))
 intro w359 C fj
 exact fun u y m=>⟨(exiA C (zG y (fi.new fj))),zj⟩
 obtain⟨z,x,M,fk⟩:=aF
 refine obl rfl ((zv mT ?_))
 intro w364 C fl
 exact fun u y m=>⟨(exiA z (exiA x (exiA C (zG ((m 0 dc).trans M) (zG y ((fk.new fl).s7_bcadefg)))))),zj⟩
 obtain⟨z,x,e,M,D,fm⟩:=aF
 refine obl rfl ((zv mT ?_))
 intro w370 C fn
 exact fun u y m=>⟨(exiA z (exiA x (exiA e (exiA C (zG ((m 0 dc).trans M) (zG ((m 4 dc).trans D) (zG y (fm.new fn)))))))),zj⟩
 intro ih vals w373 fo fp fq
 have bc:ih∈[7]:=fo
 simp only[yF]at bc
 subst bc
 obtain⟨z,x,e,C,M,D,N,aG⟩:=fp
 let iM:=(yi.1.cells e)
 refine obl rfl ?_
 have ii:vals 6=(.agg iM.toArray:Value):=fq 6 dc e D
 refine(zr (v:=.agg iM.toArray) (c':=iM.toArray) kT N ii (aG.b0) (zZ ⟨rfl,rfl,rfl,(aG.depSl (i:=4) rfl).one,rfl,rfl,rfl,rfl,rfl,rfl,zj⟩) yqc rfl ?_)
 intro w379 fr
 exact fun u y m=>⟨(exiA z (exiA x (exiA e (exiA C (zG ((m 0 dc).trans M) (zG ((m 4 dc).trans D) (zG ((m 9 dc).trans N) (aG.pt0 fr)))))))),zj⟩
 intro vals w394 fs cd
 obtain⟨z,x,e,C,M,D,N,ce⟩:=fs
 let iS:=(Blk C (yi.1.cells e).toArray 44)
 have ij:=cd 11 dc
 have ik:=cd 12 dc
 refine yd (kv:=[(0,.bool false),(15,.agg #[(Iy bJ 1 1),Iz]),(16,.tuple #[Ix A 0,Ix B 0]),(14,.tuple #[Ix A 0,Ix B 0]),(17,Ix A 0),(18,Ix B 0),(1,Ix A 0),(2,Ix B 0),(19,Ix A 0),(20,.bool false),(21,.bool false),(22,Ix B 0),(23,.bool false),(24,.bool false),(25,.agg (kX154.cells).toArray),(3,Ix Z 0),(4,Ix C 0),(5,.bool (yi.2.1)),(6,Iv (yi.2.2))]) ⟨rfl,rfl,rfl,rfl,rfl,rfl,rfl,rfl,rfl,rfl,rfl,rfl,rfl,rfl,rfl,rfl,(by exact N),(by exact ij),(by exact ik),zj⟩ (fun ρw394=>(zb (za (R0 fun _=>st (Zk rfl ?_)))))
 refine stn (yr (v:=Iv 1) (c:=[Iv 0,Iv 0,Iv 0,Iv 1,Iv 3,Iv 0,Iv 7]) (c':=[Iv 0,Iv 0,Iv 0,Iv 1,Iv 3,Iv 1,Iv 7]) qT rfl rfl (ce.b5) rfl rfl rfl ?_)
 intro w400 ft
 have cf:Cmd.Ok kX155:=⟨(show InR (0)from dc),(show InR (0)from dc),(show InR (0)from dc),(show InR (1)from dc),(show InR (3)from dc),(show InR (1)from dc),(show InR (7)from dc)⟩
 refine zb (za ?_)
 refine WD6 ((fun TT R S T U=>WF [fun vals O=>Sep G W (R::S::T::U::TT) O,fun vals O=> ∃(q:Nat) (p:Nat),(vals 0=(.agg #[(Iy q 1 1),Iz]:Value))∧Sep G W ((Blk q #[(Iy p 1 1)] 74)::(Blk p #[Iv 1,Iv 1,.bool true,Iz] 106)::R::S::T::U::TT) O,fun _ _=>True,fun vals O=> ∃(q:Nat) (p:Nat) (g:Value),(vals 0=(.agg #[(Iy q 1 1),Iz]:Value))∧(vals 4=(.tuple #[.agg (yt.1.cells g).toArray,.bool (yt.2.1),Iv (yt.2.2)]:Value))∧Sep G W ((RowE (α:=Fld) (shr G W) 106 (Iy p 1 1) [(⟨1,1,true,[]⟩:Fld)])::T::U::(DepO g (yt.1.deps))::R::S::TT) O,fun vals O=> ∃(I:Nat),(vals 9=(Ix I 0:Value))∧Sep G W ((Blk I #[Iv 0,Iv 0,Iv 0,(Iz),Iv 0,Iv 0,Iv 0,Iv 0,Iv 0,Iv 0] 44)::R::S::T::U::TT) O,fun vals O=> ∃(q:Nat) (p:Nat) (I:Nat),(vals 0=(.agg #[(Iy q 1 1),Iz]:Value))∧(vals 9=(Ix I 0:Value))∧Sep G W ((Blk q #[(Iy p 1 1)] 74)::(Blk p #[Iv 1,Iv 1,.bool true,Iz] 106)::(Blk I #[Iv 0,Iv 0,Iv 0,(Iz),Iv 0,Iv 0,Iv 0,Iv 0,Iv 0,Iv 0] 44)::R::S::T::U::TT) O,fun _ _=>True,fun vals O=> ∃(q:Nat) (p:Nat) (g:Value) (I:Nat),(vals 0=(.agg #[(Iy q 1 1),Iz]:Value))∧(vals 4=(.tuple #[.agg (yt.1.cells g).toArray,.bool (yt.2.1),Iv (yt.2.2)]:Value))∧(vals 9=(Ix I 0:Value))∧Sep G W ((Blk I #[Iv 0,Iv 0,Iv 0,(Iz),Iv 0,Iv 0,Iv 0,Iv 0,Iv 0,Iv 0] 44)::(RowE (α:=Fld) (shr G W) 106 (Iy p 1 1) [(⟨1,1,true,[]⟩:Fld)])::T::U::(DepO g (yt.1.deps))::R::S::TT) O,fun _ _=>True,fun _ _=>True,fun _ _=>True,fun _ _=>True,fun _ _=>True,fun _ _=>True,fun _ _=>True,fun vals O=> ∃(q:Nat) (p:Nat) (g:Value) (I:Nat),(vals 0=(.agg #[(Iy q 1 1),Iz]:Value))∧(vals 4=(.tuple #[.agg (yt.1.cells g).toArray,.bool (yt.2.1),Iv (yt.2.2)]:Value))∧(vals 9=(Ix I 0:Value))∧Sep G W ((Blk I (yt.1.cells g).toArray 44)::(RowE (α:=Fld) (shr G W) 106 (Iy p 1 1) [(⟨1,1,true,[]⟩:Fld)])::T::U::(DepO g (yt.1.deps))::R::S::TT) O]) ((DepO e (yi.1.deps))::(Blk Z (kX155.cells).toArray 49)::(RowE (α:=Fld) (shr G W) 106 (Iy ao 1 1) [(⟨1,1,true,[]⟩:Fld)])::Rs) iS (RowE (α:=Fld) (shr G W) 106 (Iy x 1 1) [(⟨1,1,true,[]⟩:Fld)]) (SetO A 2 ([]:List Ev)) iR) (AF [fun _=>True,Vl 1 (Ix A 0),Vl 2 (Ix B 0),Vl 3 (.agg (kX155.cells).toArray),fun _=>True,fun vals=> ∀(g:Value),vals 4=(.tuple #[.agg (yt.1.cells g).toArray,.bool (yt.2.1),Iv (yt.2.2)]:Value)→vals 5=(.tuple #[.agg (yt.1.cells g).toArray,.bool (yt.2.1),Iv (yt.2.2)]:Value),fun vals=> ∀(g:Value),vals 4=(.tuple #[.agg (yt.1.cells g).toArray,.bool (yt.2.1),Iv (yt.2.2)]:Value)→vals 6=(.agg (yt.1.cells g).toArray:Value),Vl 7 (.bool (yt.2.1)),Vl 8 (Iv (yt.2.2)),fun _=>True,fun _=>True,Vl 11 (.bool (yt.2.1)),Vl 12 (Iv (yt.2.2))]) [[],[],[],[],(rg 4),(rg 5),(rg 6),(rg 6),(rg 6),[],[0,1,2,3,4,5,6,9],[0,1,2,3,4,5,6,7,9,10],(rg 12)] [0,4,9,10] [[0,4],[0,1,4,5],[0,1,4,5],[0,1,4,5],[1,5],[3,7],[3,7],[3,7,15],[3,7,15],[0,1,3],[7],[15],[15]] (ce.pt5 ft) ⟨?_,fun _ _ _ _ _ _=>obl rfl (mV (Ix A 0) dR),fun _ _ _ _ _ _=>obl rfl (mV (Ix B 0) dR),?_,?_,?_,?_,?_,?_,?_,?_,fun _ _ _ _ _ fu=>obl rfl (ya (v:=.bool (yt.2.1)) (fu 7 dc) dR),fun _ _ _ _ _ fv=>obl rfl (ya (v:=Iv (yt.2.2)) (fv 8 dc) dR),zj⟩ ?_ (hlocA:=xd ⟨dT,dA,dA,dA,dT,fun vals u y h=>fun g H=>(y 5 (.inl rfl)).trans (h g ((y 4 (.inr dc)).symm.trans H)),fun vals u y h=>fun g H=>(y 6 (.inl rfl)).trans (h g ((y 4 (.inr dc)).symm.trans H)),dA,dA,dT,dT,dA,dA,zj⟩)
 intro il vals w548 fw cg hA549
 have bd:il∈[0,4]:=fw
 simp only[yF]at bd
 rcases bd with rfl|rfl
 have fx:Sep _ _ _ _:=cg
 refine obl rfl ((cL rT (Zb fx) ?_))
 rintro _ w555 ⟨q,p,rfl,fy⟩
 exact fun u y m=>⟨(exiA q (exiA p (zG y fy))),zj⟩
 obtain⟨I,P,fz⟩:=cg
 refine obl rfl ((cL rT (Zb fz) ?_))
 rintro _ w560 ⟨q,p,rfl,fA⟩
 exact fun u y m=>⟨(exiA q (exiA p (exiA I (zG y (zG ((m 9 dc).trans P) fA))))),zj⟩
 intro im vals w573 fB ac hA574
 have be:im∈[0,1,4,5]:=fB
 simp only[yF]at be
 rcases be with rfl|rfl|rfl|rfl
 have fC:Sep _ _ _ _:=ac
 exact obl rfl (ze (k:=7) nT lT rfl rfl (zi (fC.b5)) dR)
 obtain⟨q,p,K,fE⟩:=ac
 exact obl rfl (ze (k:=7) nT lT rfl rfl (zi (fE.b7)) dR)
 obtain⟨I,P,fF⟩:=ac
 exact obl rfl (ze (k:=7) nT lT rfl rfl (zi (fF.b6)) dR)
 obtain⟨q,p,I,K,P,fG⟩:=ac
 exact obl rfl (ze (k:=7) nT lT rfl rfl (zi (fG.b8)) dR)
 intro io vals aH fH ch X
 have bf:io∈[1,5]:=fH
 simp only[yF]at bf
 rcases bf with rfl|rfl
 obtain⟨q,p,K,fI⟩:=ch
 refine obl rfl ?_
 have ci:Sep _ _ ((RowE (α:=Fld) (shr G W) 106 (Iy p 1 1) [(⟨1,1,true,[]⟩:Fld)])::_) _:=Sep.blkRow (src:=(shr G W)) (l:=[(⟨1,1,true,[]⟩:Fld)]) (css:=[(⟨1,1,true,[]⟩:Fld).cells (Iz)]) (fI.mv1) rfl ⟨fun _ _=>⟨_,rfl,(RdS.nil _ _),(show Fld.Ok (⟨1,1,true,[]⟩:Fld)from⟨by decide,by decide⟩)⟩,zj⟩ yqa (show 1≤maxLen by decide)
 have fJ:=ci.r0
 have hr592s:_*48≤_:=fJ.2
 obtain⟨cY,fK,cj,fL,fM⟩:=ci.lend
 have bg:=RowE.rdB fK cj
 have hrd599s:_*48≤_:=bg.small
 have ck:Sep _ _ ((RowE (α:=Typ) (shr cY aH) 74 (Iy q 1 1) [(⟨[(⟨1,1,true,[]⟩:Fld)]⟩:Typ)])::_) _:=Sep.blkRow (src:=(shr cY aH)) (l:=[(⟨[(⟨1,1,true,[]⟩:Fld)]⟩:Typ)]) (css:=[(⟨[(⟨1,1,true,[]⟩:Fld)]⟩:Typ).cells (Iy p 1 1)]) fL rfl ⟨fun _ _=>⟨_,rfl,bg,(show Typ.Ok (⟨[(⟨1,1,true,[]⟩:Fld)]⟩:Typ)from⟨⟩)⟩,zj⟩ yqa (show 1≤maxLen by decide)
 have fN:=ck.r0
 have hr601s:_*24≤_:=fN.2
 obtain⟨G602,fO,cl,fP,fQ⟩:=ck.lend
 have bh:=RowE.rdB fO cl
 have hrd608s:_*24≤_:=bh.small
 obtain⟨G610,cm,cn,fR,fS⟩:=(fP.mv2).lend
 obtain⟨vv616,m617,R618,hb619,fT,hr621⟩:=SetO.sh cm
 have hsm622:(zw 2 ([]:List Ev)).length*8≤140737488355328:=fT.small
 refine(zO (f:=11) (vals:=[.agg (dF.cells (Iy q 1 1) Iz).toArray,Ix A 0,Ix B 0,Iv 1,Iv 10,.agg (kX155.cells).toArray]) (cap:=[]) rfl (yK ⟨K,(X 1 dc),(X 2 dc),rfl,rfl,(X 3 dc),zj⟩) uT (xU (d:=dF) (o:=1) (start:=10) (c:=kX155) (zk bh cn) (RdS.nil _ _) (⟨⟩:Dcl.Ok dF) cm dc dc cf (zk (zk (zk hKN cj) cl) cn) (fR.mv2) YD ((Inv.nil dF)) ((zY _)) (List.Pairwise.nil) ((Good.nil (n:=2)).srt) ((zY _)) dc) ?_)
 rintro _ w625 ⟨g,rfl,fU⟩
 have fV:=fS _ _ fU
 have fW:=fQ _ _ fV
 have fX:=fM _ _ fW
 exact fun u y m=>⟨(exiA q (exiA p (exiA g (zG ((m 0 dc).trans K) (zG y (fX.s10_acdefghij)))))),zj⟩
 obtain⟨q,p,I,K,P,fY⟩:=ch
 refine obl rfl ?_
 have co:Sep _ _ ((RowE (α:=Fld) (shr G W) 106 (Iy p 1 1) [(⟨1,1,true,[]⟩:Fld)])::_) _:=Sep.blkRow (src:=(shr G W)) (l:=[(⟨1,1,true,[]⟩:Fld)]) (css:=[(⟨1,1,true,[]⟩:Fld).cells (Iz)]) (fY.mv1) rfl ⟨fun _ _=>⟨_,rfl,(RdS.nil _ _),(show Fld.Ok (⟨1,1,true,[]⟩:Fld)from⟨by decide,by decide⟩)⟩,zj⟩ yqa (show 1≤maxLen by decide)
 have fZ:=co.r0
 have hr637s:_*48≤_:=fZ.2
 obtain⟨cZ,ga,cp,gc,gd⟩:=co.lend
 have bi:=RowE.rdB ga cp
 have hrd644s:_*48≤_:=bi.small
 have cq:Sep _ _ ((RowE (α:=Typ) (shr cZ aH) 74 (Iy q 1 1) [(⟨[(⟨1,1,true,[]⟩:Fld)]⟩:Typ)])::_) _:=Sep.blkRow (src:=(shr cZ aH)) (l:=[(⟨[(⟨1,1,true,[]⟩:Fld)]⟩:Typ)]) (css:=[(⟨[(⟨1,1,true,[]⟩:Fld)]⟩:Typ).cells (Iy p 1 1)]) gc rfl ⟨fun _ _=>⟨_,rfl,bi,(show Typ.Ok (⟨[(⟨1,1,true,[]⟩:Fld)]⟩:Typ)from⟨⟩)⟩,zj⟩ yqa (show 1≤maxLen by decide)
 have ge:=cq.r0
 have hr646s:_*24≤_:=ge.2
 obtain⟨G647,gf,cr,gg,gh⟩:=cq.lend
 have bj:=RowE.rdB gf cr
 have hrd653s:_*24≤_:=bj.small
 obtain⟨G655,cs,ct,gi,gj⟩:=(gg.mv3).lend
 obtain⟨vv661,m662,R663,hb664,gk,hr666⟩:=SetO.sh cs
 have hsm667:(zw 2 ([]:List Ev)).length*8≤140737488355328:=gk.small
 refine(zO (f:=11) (vals:=[.agg (dF.cells (Iy q 1 1) Iz).toArray,Ix A 0,Ix B 0,Iv 1,Iv 10,.agg (kX155.cells).toArray]) (cap:=[]) rfl (yK ⟨K,(X 1 dc),(X 2 dc),rfl,rfl,(X 3 dc),zj⟩) uT (xU (d:=dF) (o:=1) (start:=10) (c:=kX155) (zk bj ct) (RdS.nil _ _) (⟨⟩:Dcl.Ok dF) cs dc dc cf (zk (zk (zk hKN cp) cr) ct) (gi.mv3) YD ((Inv.nil dF)) ((zY _)) (List.Pairwise.nil) ((Good.nil (n:=2)).srt) ((zY _)) dc) ?_)
 rintro _ w670 ⟨g,rfl,gl⟩
 have gm:=gj _ _ gl
 have gn:=gh _ _ gm
 have go:=gd _ _ gn
 exact fun u y m=>⟨(exiA q (exiA p (exiA g (exiA I (zG ((m 0 dc).trans K) (zG y (zG ((m 9 dc).trans P) ((go.s11_acdefghijk).mv4)))))))),zj⟩
 intro ip vals w678 gp cu hA679
 have bk:ip∈[3,7]:=gp
 simp only[yF]at bk
 rcases bk with rfl|rfl
 obtain⟨q,p,g,K,E,hS682⟩:=cu
 refine obl rfl (yg (v:=.tuple #[.agg (yt.1.cells g).toArray,.bool (yt.2.1),Iv (yt.2.2)]) E (fun u y m=>⟨rfl,?_⟩))
 intro af H
 rw[m 4 (by decide)]at H;cases E.symm.trans H
 exact y
 obtain⟨q,p,g,I,K,E,P,hS683⟩:=cu
 refine obl rfl (yg (v:=.tuple #[.agg (yt.1.cells g).toArray,.bool (yt.2.1),Iv (yt.2.2)]) E (fun u y m=>⟨rfl,?_⟩))
 intro af H
 rw[m 4 (by decide)]at H;cases E.symm.trans H
 exact y
 intro iq vals w685 gq cv cw
 have bl:iq∈[3,7]:=gq
 simp only[yF]at bl
 rcases bl with rfl|rfl
 obtain⟨q,p,g,K,E,hS689⟩:=cv
 let iN:=(yt.1.cells g)
 have ir:vals 5=(.tuple #[.agg iN.toArray,.bool (yt.2.1),Iv (yt.2.2)]:Value):=cw 5 dc g E
 refine obl rfl (zl (vs:=[.agg iN.toArray,.bool (yt.2.1),Iv (yt.2.2)]) (i:=0) (v:=.agg iN.toArray) ir rfl (fun u y m=>⟨rfl,?_⟩))
 intro af H
 rw[m 4 (by decide)]at H;cases E.symm.trans H
 exact y
 obtain⟨q,p,g,I,K,E,P,hS691⟩:=cv
 let iO:=(yt.1.cells g)
 have it:vals 5=(.tuple #[.agg iO.toArray,.bool (yt.2.1),Iv (yt.2.2)]:Value):=cw 5 dc g E
 refine obl rfl (zl (vs:=[.agg iO.toArray,.bool (yt.2.1),Iv (yt.2.2)]) (i:=0) (v:=.agg iO.toArray) it rfl (fun u y m=>⟨rfl,?_⟩))
 intro af H
 rw[m 4 (by decide)]at H;cases E.symm.trans H
 exact y
 intro iu vals w694 gr aI aJ
 have bm:iu∈[3,7,15]:=gr
 simp only[yF]at bm
 rcases bm with rfl|rfl|rfl
 obtain⟨q,p,g,K,E,hS698⟩:=aI
 let jf:=(yt.1.cells g)
 have iv:vals 5=(.tuple #[.agg jf.toArray,.bool (yt.2.1),Iv (yt.2.2)]:Value):=aJ 5 dc g E
 exact obl rfl (zl (vs:=[.agg jf.toArray,.bool (yt.2.1),Iv (yt.2.2)]) (i:=1) (v:=.bool (yt.2.1)) iv rfl dR)
 obtain⟨q,p,g,I,K,E,P,hS700⟩:=aI
 let jg:=(yt.1.cells g)
 have iw:vals 5=(.tuple #[.agg jg.toArray,.bool (yt.2.1),Iv (yt.2.2)]:Value):=aJ 5 dc g E
 exact obl rfl (zl (vs:=[.agg jg.toArray,.bool (yt.2.1),Iv (yt.2.2)]) (i:=1) (v:=.bool (yt.2.1)) iw rfl dR)
 obtain⟨q,p,g,I,K,E,P,hS702⟩:=aI
 let jh:=(yt.1.cells g)
 have ix:vals 5=(.tuple #[.agg jh.toArray,.bool (yt.2.1),Iv (yt.2.2)]:Value):=aJ 5 dc g E
 exact obl rfl (zl (vs:=[.agg jh.toArray,.bool (yt.2.1),Iv (yt.2.2)]) (i:=1) (v:=.bool (yt.2.1)) ix rfl dR)
 intro iy vals w705 gs aK aL
 have bn:iy∈[3,7,15]:=gs
 simp only[yF]at bn
 rcases bn with rfl|rfl|rfl
 obtain⟨q,p,g,K,E,hS709⟩:=aK
 let ji:=(yt.1.cells g)
 have iz:vals 5=(.tuple #[.agg ji.toArray,.bool (yt.2.1),Iv (yt.2.2)]:Value):=aL 5 dc g E
 exact obl rfl (zl (vs:=[.agg ji.toArray,.bool (yt.2.1),Iv (yt.2.2)]) (i:=2) (v:=Iv (yt.2.2)) iz rfl dR)
 obtain⟨q,p,g,I,K,E,P,hS711⟩:=aK
 let jj:=(yt.1.cells g)
 have iA:vals 5=(.tuple #[.agg jj.toArray,.bool (yt.2.1),Iv (yt.2.2)]:Value):=aL 5 dc g E
 exact obl rfl (zl (vs:=[.agg jj.toArray,.bool (yt.2.1),Iv (yt.2.2)]) (i:=2) (v:=Iv (yt.2.2)) iA rfl dR)
 obtain⟨q,p,g,I,K,E,P,hS713⟩:=aK
 let jk:=(yt.1.cells g)
 have iB:vals 5=(.tuple #[.agg jk.toArray,.bool (yt.2.1),Iv (yt.2.2)]:Value):=aL 5 dc g E
 exact obl rfl (zl (vs:=[.agg jk.toArray,.bool (yt.2.1),Iv (yt.2.2)]) (i:=2) (v:=Iv (yt.2.2)) iB rfl dR)
 intro iC vals w716 gt aM hA717
 have bp:iC∈[0,1,3]:=gt
 simp only[yF]at bp
 rcases bp with rfl|rfl|rfl
 have gu:Sep _ _ _ _:=aM
 refine obl rfl ((zv mT ?_))
 intro w723 I gv
 exact fun u y m=>⟨(exiA I (zG y (gu.new gv))),zj⟩
 obtain⟨q,p,K,gw⟩:=aM
 refine obl rfl ((zv mT ?_))
 intro w728 I gx
 exact fun u y m=>⟨(exiA q (exiA p (exiA I (zG ((m 0 dc).trans K) (zG y ((gw.new gx).s10_bcadefghij)))))),zj⟩
 obtain⟨q,p,g,K,E,gy⟩:=aM
 refine obl rfl ((zv mT ?_))
 intro w734 I gz
 exact fun u y m=>⟨(exiA q (exiA p (exiA g (exiA I (zG ((m 0 dc).trans K) (zG ((m 4 dc).trans E) (zG y (gy.new gz)))))))),zj⟩
 intro iD vals w737 gA gB gC
 have bq:iD∈[7]:=gA
 simp only[yF]at bq
 subst bq
 obtain⟨q,p,g,I,K,E,P,aN⟩:=gB
 let iP:=(yt.1.cells g)
 refine obl rfl ?_
 have iE:vals 6=(.agg iP.toArray:Value):=gC 6 dc g E
 refine(zr (v:=.agg iP.toArray) (c':=iP.toArray) kT P iE (aN.b0) (zZ ⟨rfl,rfl,rfl,(aN.depSl (i:=4) rfl).one,rfl,rfl,rfl,rfl,rfl,rfl,zj⟩) yqc rfl ?_)
 intro w743 gD
 exact fun u y m=>⟨(exiA q (exiA p (exiA g (exiA I (zG ((m 0 dc).trans K) (zG ((m 4 dc).trans E) (zG ((m 9 dc).trans P) (aN.pt0 gD)))))))),zj⟩
 intro vals w758 gE gF
 obtain⟨q,p,g,I,K,E,P,cx⟩:=gE
 have iF:=gF 12 dc
 refine yd (kv:=[(0,.bool false),(15,.agg #[(Iy bJ 1 1),Iz]),(16,.tuple #[Ix A 0,Ix B 0]),(14,.tuple #[Ix A 0,Ix B 0]),(17,Ix A 0),(18,Ix B 0),(1,Ix A 0),(2,Ix B 0),(19,Ix A 0),(20,.bool false),(21,.bool false),(22,Ix B 0),(23,.bool false),(24,.bool false),(25,.agg (kX154.cells).toArray),(3,Ix Z 0),(4,Ix C 0),(5,.bool (yi.2.1)),(6,Iv (yi.2.2)),(35,Ix Z 5),(9,Iv (yt.2.2))]) ⟨rfl,rfl,rfl,rfl,rfl,rfl,rfl,rfl,rfl,rfl,rfl,rfl,rfl,rfl,rfl,rfl,rfl,rfl,rfl,rfl,(by exact iF),zj⟩ (fun ρw758=>?_)
 refine zb (za (R0 fun _=>st (Zk rfl (stn (yr (v:=Iv (-1)) (c:=[Iv 0,Iv 0,Iv 0,Iv 1,Iv 3,Iv 1,Iv 7]) (c':=[Iv 0,Iv 0,Iv 0,Iv 1,Iv 3,Iv (-1),Iv 7]) qT rfl rfl (cx.b8) rfl rfl rfl ?_)))))
 intro w763 gG
 have ok765:Cmd.Ok (⟨0,0,0,1,3, -1,7⟩:Cmd):=⟨(show InR (0)from dc),(show InR (0)from dc),(show InR (0)from dc),(show InR (1)from dc),(show InR (3)from dc),(show InR (-1)from dc),(show InR (7)from dc)⟩
 have cy:=cx.pt8 gG
 refine zb (za (R0 fun _=>st (Yj rfl (stn (yr (v:=Iv (-1)) (c:=[Iv 0,Iv 0,Iv 0,Iv 1,Iv 3,Iv (-1),Iv 7]) (c':=[Iv 0,Iv 0,Iv 0,Iv 1,Iv (-1),Iv (-1),Iv 7]) qT rfl rfl (cy.b8) rfl rfl rfl ?_)))))
 intro w767 gH
 have cz:Cmd.Ok kX156:=⟨(show InR (0)from dc),(show InR (0)from dc),(show InR (0)from dc),(show InR (1)from dc),(show InR (-1)from dc),(show InR (-1)from dc),(show InR (7)from dc)⟩
 refine zb (za ?_)
 refine WD6 ((fun TT R S T U=>WF [fun vals O=>Sep G W (R::S::T::U::TT) O,fun vals O=> ∃(s:Nat) (t:Nat),(vals 0=(.agg #[(Iy s 1 1),Iz]:Value))∧Sep G W ((Blk s #[(Iy t 1 1)] 74)::(Blk t #[Iv 1,Iv 1,.bool true,Iz] 106)::R::S::T::U::TT) O,fun _ _=>True,fun vals O=> ∃(s:Nat) (t:Nat) (j:Value),(vals 0=(.agg #[(Iy s 1 1),Iz]:Value))∧(vals 4=(.tuple #[.agg (yu.1.cells j).toArray,.bool (yu.2.1),Iv (yu.2.2)]:Value))∧Sep G W ((RowE (α:=Fld) (shr G W) 106 (Iy t 1 1) [(⟨1,1,true,[]⟩:Fld)])::T::U::(DepO j (yu.1.deps))::R::S::TT) O,fun vals O=> ∃(J:Nat),(vals 9=(Ix J 0:Value))∧Sep G W ((Blk J #[Iv 0,Iv 0,Iv 0,(Iz),Iv 0,Iv 0,Iv 0,Iv 0,Iv 0,Iv 0] 44)::R::S::T::U::TT) O,fun vals O=> ∃(s:Nat) (t:Nat) (J:Nat),(vals 0=(.agg #[(Iy s 1 1),Iz]:Value))∧(vals 9=(Ix J 0:Value))∧Sep G W ((Blk s #[(Iy t 1 1)] 74)::(Blk t #[Iv 1,Iv 1,.bool true,Iz] 106)::(Blk J #[Iv 0,Iv 0,Iv 0,(Iz),Iv 0,Iv 0,Iv 0,Iv 0,Iv 0,Iv 0] 44)::R::S::T::U::TT) O,fun _ _=>True,fun vals O=> ∃(s:Nat) (t:Nat) (j:Value) (J:Nat),(vals 0=(.agg #[(Iy s 1 1),Iz]:Value))∧(vals 4=(.tuple #[.agg (yu.1.cells j).toArray,.bool (yu.2.1),Iv (yu.2.2)]:Value))∧(vals 9=(Ix J 0:Value))∧Sep G W ((Blk J #[Iv 0,Iv 0,Iv 0,(Iz),Iv 0,Iv 0,Iv 0,Iv 0,Iv 0,Iv 0] 44)::(RowE (α:=Fld) (shr G W) 106 (Iy t 1 1) [(⟨1,1,true,[]⟩:Fld)])::T::U::(DepO j (yu.1.deps))::R::S::TT) O,fun _ _=>True,fun _ _=>True,fun _ _=>True,fun _ _=>True,fun _ _=>True,fun _ _=>True,fun _ _=>True,fun vals O=> ∃(s:Nat) (t:Nat) (j:Value) (J:Nat),(vals 0=(.agg #[(Iy s 1 1),Iz]:Value))∧(vals 4=(.tuple #[.agg (yu.1.cells j).toArray,.bool (yu.2.1),Iv (yu.2.2)]:Value))∧(vals 9=(Ix J 0:Value))∧Sep G W ((Blk J (yu.1.cells j).toArray 44)::(RowE (α:=Fld) (shr G W) 106 (Iy t 1 1) [(⟨1,1,true,[]⟩:Fld)])::T::U::(DepO j (yu.1.deps))::R::S::TT) O]) ((DepO g (yt.1.deps))::iS::(RowE (α:=Fld) (shr G W) 106 (Iy x 1 1) [(⟨1,1,true,[]⟩:Fld)])::(DepO e (yi.1.deps))::(Blk Z (kX156.cells).toArray 49)::(RowE (α:=Fld) (shr G W) 106 (Iy ao 1 1) [(⟨1,1,true,[]⟩:Fld)])::Rs) (Blk I (yt.1.cells g).toArray 44) (RowE (α:=Fld) (shr G W) 106 (Iy p 1 1) [(⟨1,1,true,[]⟩:Fld)]) (SetO A 2 ([]:List Ev)) iR) (AF [fun _=>True,Vl 1 (Ix A 0),Vl 2 (Ix B 0),Vl 3 (.agg (kX156.cells).toArray),fun _=>True,fun vals=> ∀(j:Value),vals 4=(.tuple #[.agg (yu.1.cells j).toArray,.bool (yu.2.1),Iv (yu.2.2)]:Value)→vals 5=(.tuple #[.agg (yu.1.cells j).toArray,.bool (yu.2.1),Iv (yu.2.2)]:Value),fun vals=> ∀(j:Value),vals 4=(.tuple #[.agg (yu.1.cells j).toArray,.bool (yu.2.1),Iv (yu.2.2)]:Value)→vals 6=(.agg (yu.1.cells j).toArray:Value),Vl 7 (.bool (yu.2.1)),Vl 8 (Iv (yu.2.2)),fun _=>True,fun _=>True,Vl 11 (.bool (yu.2.1)),Vl 12 (Iv (yu.2.2))]) [[],[],[],[],(rg 4),(rg 5),(rg 6),(rg 6),(rg 6),[],[0,1,2,3,4,5,6,9],[0,1,2,3,4,5,6,7,9,10],(rg 12)] [0,4,9,10] [[0,4],[0,1,4,5],[0,1,4,5],[0,1,4,5],[1,5],[3,7],[3,7],[3,7,15],[3,7,15],[0,1,3],[7],[15],[15]] (cy.pt8 gH) ⟨?_,fun _ _ _ _ _ _=>obl rfl (mV (Ix A 0) dR),fun _ _ _ _ _ _=>obl rfl (mV (Ix B 0) dR),?_,?_,?_,?_,?_,?_,?_,?_,fun _ _ _ _ _ da=>obl rfl (ya (v:=.bool (yu.2.1)) (da 7 dc) dR),fun _ _ _ _ _ db=>obl rfl (ya (v:=Iv (yu.2.2)) (db 8 dc) dR),zj⟩ ?_ (hlocA:=xd ⟨dT,dA,dA,dA,dT,fun vals u y h=>fun j H=>(y 5 (.inl rfl)).trans (h j ((y 4 (.inr dc)).symm.trans H)),fun vals u y h=>fun j H=>(y 6 (.inl rfl)).trans (h j ((y 4 (.inr dc)).symm.trans H)),dA,dA,dT,dT,dA,dA,zj⟩)
 intro iG vals w915 gI cC hA916
 have br:iG∈[0,4]:=gI
 simp only[yF]at br
 rcases br with rfl|rfl
 have gJ:Sep _ _ _ _:=cC
 refine obl rfl ((cL rT (Zb gJ) ?_))
 rintro _ w922 ⟨s,t,rfl,gK⟩
 exact fun u y m=>⟨(exiA s (exiA t (zG y gK))),zj⟩
 obtain⟨J,Q,gL⟩:=cC
 refine obl rfl ((cL rT (Zb gL) ?_))
 rintro _ w927 ⟨s,t,rfl,gM⟩
 exact fun u y m=>⟨(exiA s (exiA t (exiA J (zG y (zG ((m 9 dc).trans Q) gM))))),zj⟩
 intro iH vals w940 gN ad hA941
 have bs:iH∈[0,1,4,5]:=gN
 simp only[yF]at bs
 rcases bs with rfl|rfl|rfl|rfl
 have gO:Sep _ _ _ _:=ad
 exact obl rfl (ze (k:=7) nT lT rfl rfl (zi (gO.b8)) dR)
 obtain⟨s,t,L,gP⟩:=ad
 exact obl rfl (ze (k:=7) nT lT rfl rfl (zi (gP.b10)) dR)
 obtain⟨J,Q,gQ⟩:=ad
 exact obl rfl (ze (k:=7) nT lT rfl rfl (zi (gQ.b9)) dR)
 obtain⟨s,t,J,L,Q,gR⟩:=ad
 exact obl rfl (ze (k:=7) nT lT rfl rfl (zi (gR.b11)) dR)
 intro iI vals aO gS cD Y
 have bt:iI∈[1,5]:=gS
 simp only[yF]at bt
 rcases bt with rfl|rfl
 obtain⟨s,t,L,gT⟩:=cD
 refine obl rfl ?_
 have cE:Sep _ _ ((RowE (α:=Fld) (shr G W) 106 (Iy t 1 1) [(⟨1,1,true,[]⟩:Fld)])::_) _:=Sep.blkRow (src:=(shr G W)) (l:=[(⟨1,1,true,[]⟩:Fld)]) (css:=[(⟨1,1,true,[]⟩:Fld).cells (Iz)]) (gT.mv1) rfl ⟨fun _ _=>⟨_,rfl,(RdS.nil _ _),(show Fld.Ok (⟨1,1,true,[]⟩:Fld)from⟨by decide,by decide⟩)⟩,zj⟩ yqa (show 1≤maxLen by decide)
 have gU:=cE.r0
 have hr959s:_*48≤_:=gU.2
 obtain⟨dd,gV,cF,gW,gX⟩:=cE.lend
 have bu:=RowE.rdB gV cF
 have hrd966s:_*48≤_:=bu.small
 have cG:Sep _ _ ((RowE (α:=Typ) (shr dd aO) 74 (Iy s 1 1) [(⟨[(⟨1,1,true,[]⟩:Fld)]⟩:Typ)])::_) _:=Sep.blkRow (src:=(shr dd aO)) (l:=[(⟨[(⟨1,1,true,[]⟩:Fld)]⟩:Typ)]) (css:=[(⟨[(⟨1,1,true,[]⟩:Fld)]⟩:Typ).cells (Iy t 1 1)]) gW rfl ⟨fun _ _=>⟨_,rfl,bu,(show Typ.Ok (⟨[(⟨1,1,true,[]⟩:Fld)]⟩:Typ)from⟨⟩)⟩,zj⟩ yqa (show 1≤maxLen by decide)
 have gY:=cG.r0
 have hr968s:_*24≤_:=gY.2
 obtain⟨G969,gZ,cH,ha,hb⟩:=cG.lend
 have bv:=RowE.rdB gZ cH
 have hrd975s:_*24≤_:=bv.small
 obtain⟨G977,cI,cJ,hc,hd⟩:=(ha.mv2).lend
 obtain⟨vv983,m984,R985,hb986,he,hr988⟩:=SetO.sh cI
 have hsm989:(zw 2 ([]:List Ev)).length*8≤140737488355328:=he.small
 refine(zO (f:=11) (vals:=[.agg (dF.cells (Iy s 1 1) Iz).toArray,Ix A 0,Ix B 0,Iv 1,Iv 10,.agg (kX156.cells).toArray]) (cap:=[]) rfl (yK ⟨L,(Y 1 dc),(Y 2 dc),rfl,rfl,(Y 3 dc),zj⟩) uT (xU (d:=dF) (o:=1) (start:=10) (c:=kX156) (zk bv cJ) (RdS.nil _ _) (⟨⟩:Dcl.Ok dF) cI dc dc cz (zk (zk (zk hKN cF) cH) cJ) (hc.mv2) YD ((Inv.nil dF)) ((zY _)) (List.Pairwise.nil) ((Good.nil (n:=2)).srt) ((zY _)) dc) ?_)
 rintro _ w992 ⟨j,rfl,hf⟩
 have hg:=hd _ _ hf
 have hh:=hb _ _ hg
 have hi:=gX _ _ hh
 exact fun u y m=>⟨(exiA s (exiA t (exiA j (zG ((m 0 dc).trans L) (zG y (hi.s13_acdefghijklm)))))),zj⟩
 obtain⟨s,t,J,L,Q,hj⟩:=cD
 refine obl rfl ?_
 have bw:Sep _ _ ((RowE (α:=Fld) (shr G W) 106 (Iy t 1 1) [(⟨1,1,true,[]⟩:Fld)])::_) _:=Sep.blkRow (src:=(shr G W)) (l:=[(⟨1,1,true,[]⟩:Fld)]) (css:=[(⟨1,1,true,[]⟩:Fld).cells (Iz)]) (hj.mv1) rfl ⟨fun _ _=>⟨_,rfl,(RdS.nil _ _),(show Fld.Ok (⟨1,1,true,[]⟩:Fld)from⟨by decide,by decide⟩)⟩,zj⟩ yqa (show 1≤maxLen by decide)
 have de:=bw.r0
 have hr1004s:_*48≤_:=de.2
 obtain⟨cK,df,bx,dg,dh⟩:=bw.lend
 have ap:=RowE.rdB df bx
 have hrd1011s:_*48≤_:=ap.small
 have bz:Sep _ _ ((RowE (α:=Typ) (shr cK aO) 74 (Iy s 1 1) [(⟨[(⟨1,1,true,[]⟩:Fld)]⟩:Typ)])::_) _:=Sep.blkRow (src:=(shr cK aO)) (l:=[(⟨[(⟨1,1,true,[]⟩:Fld)]⟩:Typ)]) (css:=[(⟨[(⟨1,1,true,[]⟩:Fld)]⟩:Typ).cells (Iy t 1 1)]) dg rfl ⟨fun _ _=>⟨_,rfl,ap,(show Typ.Ok (⟨[(⟨1,1,true,[]⟩:Fld)]⟩:Typ)from⟨⟩)⟩,zj⟩ yqa (show 1≤maxLen by decide)
 have di:=bz.r0
 have hr1013s:_*24≤_:=di.2
 obtain⟨G1014,dj,bA,dk,dl⟩:=bz.lend
 have aq:=RowE.rdB dj bA
 have hrd1020s:_*24≤_:=aq.small
 obtain⟨G1022,bB,bC,dm,dp⟩:=(dk.mv3).lend
 obtain⟨vv1028,m1029,R1030,hb1031,dq,hr1033⟩:=SetO.sh bB
 have hsm1034:(zw 2 ([]:List Ev)).length*8≤140737488355328:=dq.small
 refine(zO (f:=11) (vals:=[.agg (dF.cells (Iy s 1 1) Iz).toArray,Ix A 0,Ix B 0,Iv 1,Iv 10,.agg (kX156.cells).toArray]) (cap:=[]) rfl (yK ⟨L,(Y 1 dc),(Y 2 dc),rfl,rfl,(Y 3 dc),zj⟩) uT (xU (d:=dF) (o:=1) (start:=10) (c:=kX156) (zk aq bC) (RdS.nil _ _) (⟨⟩:Dcl.Ok dF) bB dc dc cz (zk (zk (zk hKN bx) bA) bC) (dm.mv3) YD ((Inv.nil dF)) ((zY _)) (List.Pairwise.nil) ((Good.nil (n:=2)).srt) ((zY _)) dc) ?_)
 rintro _ w1037 ⟨j,rfl,dr⟩
 have ds:=dp _ _ dr
 have dt:=dl _ _ ds
 have du:=dh _ _ dt
 exact fun u y m=>⟨(exiA s (exiA t (exiA j (exiA J (zG ((m 0 dc).trans L) (zG y (zG ((m 9 dc).trans Q) ((du.s14_acdefghijklmn).mv4)))))))),zj⟩
 intro hk vals w1045 dv bD hA1046
 have ar:hk∈[3,7]:=dv
 simp only[yF]at ar
 rcases ar with rfl|rfl
 obtain⟨s,t,j,L,F,hS1049⟩:=bD
 refine obl rfl (yg (v:=.tuple #[.agg (yu.1.cells j).toArray,.bool (yu.2.1),Iv (yu.2.2)]) F (fun u y m=>⟨rfl,?_⟩))
 intro ag H
 rw[m 4 (by decide)]at H;cases F.symm.trans H
 exact y
 obtain⟨s,t,j,J,L,F,Q,hS1050⟩:=bD
 refine obl rfl (yg (v:=.tuple #[.agg (yu.1.cells j).toArray,.bool (yu.2.1),Iv (yu.2.2)]) F (fun u y m=>⟨rfl,?_⟩))
 intro ag H
 rw[m 4 (by decide)]at H;cases F.symm.trans H
 exact y
 intro hl vals w1052 dw bE bF
 have au:hl∈[3,7]:=dw
 simp only[yF]at au
 rcases au with rfl|rfl
 obtain⟨s,t,j,L,F,hS1056⟩:=bE
 let bo:=(yu.1.cells j)
 have hm:vals 5=(.tuple #[.agg bo.toArray,.bool (yu.2.1),Iv (yu.2.2)]:Value):=bF 5 dc j F
 refine obl rfl (zl (vs:=[.agg bo.toArray,.bool (yu.2.1),Iv (yu.2.2)]) (i:=0) (v:=.agg bo.toArray) hm rfl (fun u y m=>⟨rfl,?_⟩))
 intro ag H
 rw[m 4 (by decide)]at H;cases F.symm.trans H
 exact y
 obtain⟨s,t,j,J,L,F,Q,hS1058⟩:=bE
 let eg:=(yu.1.cells j)
 have hn:vals 5=(.tuple #[.agg eg.toArray,.bool (yu.2.1),Iv (yu.2.2)]:Value):=bF 5 dc j F
 refine obl rfl (zl (vs:=[.agg eg.toArray,.bool (yu.2.1),Iv (yu.2.2)]) (i:=0) (v:=.agg eg.toArray) hn rfl (fun u y m=>⟨rfl,?_⟩))
 intro ag H
 rw[m 4 (by decide)]at H;cases F.symm.trans H
 exact y
 intro ho vals w1061 dx ah ai
 have av:ho∈[3,7,15]:=dx
 simp only[yF]at av
 rcases av with rfl|rfl|rfl
 obtain⟨s,t,j,L,F,hS1065⟩:=ah
 let iT:=(yu.1.cells j)
 have hp:vals 5=(.tuple #[.agg iT.toArray,.bool (yu.2.1),Iv (yu.2.2)]:Value):=ai 5 dc j F
 exact obl rfl (zl (vs:=[.agg iT.toArray,.bool (yu.2.1),Iv (yu.2.2)]) (i:=1) (v:=.bool (yu.2.1)) hp rfl dR)
 obtain⟨s,t,j,J,L,F,Q,hS1067⟩:=ah
 let iU:=(yu.1.cells j)
 have hq:vals 5=(.tuple #[.agg iU.toArray,.bool (yu.2.1),Iv (yu.2.2)]:Value):=ai 5 dc j F
 exact obl rfl (zl (vs:=[.agg iU.toArray,.bool (yu.2.1),Iv (yu.2.2)]) (i:=1) (v:=.bool (yu.2.1)) hq rfl dR)
 obtain⟨s,t,j,J,L,F,Q,hS1069⟩:=ah
 let iV:=(yu.1.cells j)
 have hr:vals 5=(.tuple #[.agg iV.toArray,.bool (yu.2.1),Iv (yu.2.2)]:Value):=ai 5 dc j F
 exact obl rfl (zl (vs:=[.agg iV.toArray,.bool (yu.2.1),Iv (yu.2.2)]) (i:=1) (v:=.bool (yu.2.1)) hr rfl dR)
 intro hs vals w1072 dy aj ak
 have aw:hs∈[3,7,15]:=dy
 simp only[yF]at aw
 rcases aw with rfl|rfl|rfl
 obtain⟨s,t,j,L,F,hS1076⟩:=aj
 let iW:=(yu.1.cells j)
 have ht:vals 5=(.tuple #[.agg iW.toArray,.bool (yu.2.1),Iv (yu.2.2)]:Value):=ak 5 dc j F
 exact obl rfl (zl (vs:=[.agg iW.toArray,.bool (yu.2.1),Iv (yu.2.2)]) (i:=2) (v:=Iv (yu.2.2)) ht rfl dR)
 obtain⟨s,t,j,J,L,F,Q,hS1078⟩:=aj
 let iX:=(yu.1.cells j)
 have hu:vals 5=(.tuple #[.agg iX.toArray,.bool (yu.2.1),Iv (yu.2.2)]:Value):=ak 5 dc j F
 exact obl rfl (zl (vs:=[.agg iX.toArray,.bool (yu.2.1),Iv (yu.2.2)]) (i:=2) (v:=Iv (yu.2.2)) hu rfl dR)
 obtain⟨s,t,j,J,L,F,Q,hS1080⟩:=aj
 let iY:=(yu.1.cells j)
 have hw:vals 5=(.tuple #[.agg iY.toArray,.bool (yu.2.1),Iv (yu.2.2)]:Value):=ak 5 dc j F
 exact obl rfl (zl (vs:=[.agg iY.toArray,.bool (yu.2.1),Iv (yu.2.2)]) (i:=2) (v:=Iv (yu.2.2)) hw rfl dR)
 intro hx vals w1083 dz al hA1084
 have ax:hx∈[0,1,3]:=dz
 simp only[yF]at ax
 rcases ax with rfl|rfl|rfl
 have dB:Sep _ _ _ _:=al
 refine obl rfl ((zv mT ?_))
 intro w1090 J dC
 exact fun u y m=>⟨(exiA J (zG y (dB.new dC))),zj⟩
 obtain⟨s,t,L,dD⟩:=al
 refine obl rfl ((zv mT ?_))
 intro w1095 J dE
 exact fun u y m=>⟨(exiA s (exiA t (exiA J (zG ((m 0 dc).trans L) (zG y ((dD.new dE).s13_bcadefghijklm)))))),zj⟩
 obtain⟨s,t,j,L,F,dG⟩:=al
 refine obl rfl ((zv mT ?_))
 intro w1101 J dH
 exact fun u y m=>⟨(exiA s (exiA t (exiA j (exiA J (zG ((m 0 dc).trans L) (zG ((m 4 dc).trans F) (zG y (dG.new dH)))))))),zj⟩
 intro hy vals w1104 dI dJ dK
 have ay:hy∈[7]:=dI
 simp only[yF]at ay
 subst ay
 obtain⟨s,t,j,J,L,F,Q,am⟩:=dJ
 let fD:=(yu.1.cells j)
 refine obl rfl ?_
 have hz:vals 6=(.agg fD.toArray:Value):=dK 6 dc j F
 refine(zr (v:=.agg fD.toArray) (c':=fD.toArray) kT Q hz (am.b0) (zZ ⟨rfl,rfl,rfl,(am.depSl (i:=4) rfl).one,rfl,rfl,rfl,rfl,rfl,rfl,zj⟩) yqc rfl ?_)
 intro w1110 dL
 exact fun u y m=>⟨(exiA s (exiA t (exiA j (exiA J (zG ((m 0 dc).trans L) (zG ((m 4 dc).trans F) (zG ((m 9 dc).trans Q) (am.pt0 dL)))))))),zj⟩
 intro vals w1125 dM dN
 obtain⟨s,t,j,J,L,F,Q,dO⟩:=dM
 have hA:=dN 12 dc
 refine yd (kv:=[(0,.bool false),(15,.agg #[(Iy bJ 1 1),Iz]),(16,.tuple #[Ix A 0,Ix B 0]),(14,.tuple #[Ix A 0,Ix B 0]),(17,Ix A 0),(18,Ix B 0),(1,Ix A 0),(2,Ix B 0),(19,Ix A 0),(20,.bool false),(21,.bool false),(22,Ix B 0),(23,.bool false),(24,.bool false),(25,.agg (kX154.cells).toArray),(3,Ix Z 0),(4,Ix C 0),(5,.bool (yi.2.1)),(6,Iv (yi.2.2)),(35,Ix Z 5),(9,Iv (yt.2.2)),(45,Ix Z 5),(46,Ix Z 4),(12,Iv (yu.2.2))]) ⟨rfl,rfl,rfl,rfl,rfl,rfl,rfl,rfl,rfl,rfl,rfl,rfl,rfl,rfl,rfl,rfl,rfl,rfl,rfl,rfl,rfl,rfl,rfl,(by exact hA),zj⟩ (fun ρw1125=>?_)
 refine zb (za (yy (by kernel_rfl) (fun _=>(st (zQ (parts':=[(0,Iv 1),(1,Iv 1)]) (v:=.agg #[Iv 1,Iv 1]) rfl (by simp+zetaDelta [Instr.build,Instr.fill,go_sem,Zd]) (st (zL (k:=1) (parts':=[(0,Iv 0),(1,Iv 0)]) (c:=#[Iv 0,Iv 0]) sT qT Tryz.zeroValue3 (by decide) rfl (by kernel_rfl) ?_)))))))
 intro w1132 aa dP
 let iQ:=((⟨1,1,11,[0,0],0,0,0,1,3,7⟩:Ev).cells (Iy aa 2 2))
 have bG:Sep _ _ ((RowE (α:=Int) own 3 (Iy aa 2 2) [0,0])::_) _:=Sep.blkRow (src:=own) (l:=[0,0]) (css:=[[Iv 0],[Iv 0]]) (dO.new dP) rfl ⟨fun _ _=>⟨rfl,(by decide)⟩,fun _ _=>⟨rfl,(by decide)⟩,zj⟩ yqa (show 2≤maxLen by decide)
 have dQ:=bG.r0
 have hr1135s:_*8≤_:=dQ.2
 have dS:Ev.Ok (⟨1,1,11,[0,0],0,0,0,1,3,7⟩:Ev):=⟨(show InR (1)from dc),(show InR (1)from dc),(show InR (11)from dc),(show InR (0)from dc),(show InR (0)from dc),(show InR (0)from dc),(show InR (1)from dc),(show InR (3)from dc),(show InR (7)from dc)⟩
 refine st (zQ (parts':=[(0,.agg #[Iv 1,Iv 1]),(1,Iv 11),(2,(Iy aa 2 2)),(6,Iv 1),(7,Iv 3),(8,Iv 7)]) (v:=.agg iQ.toArray) rfl (by simp+zetaDelta [Instr.build,Instr.fill,go_sem,Zd]) (st (zv mT ?_)))
 intro w1139 b1138 dU
 have bH:=bG.new dU
 refine stn (zr (v:=.agg iQ.toArray) (c':=iQ.toArray) kT rfl rfl (bH.b0) (zZ ⟨rfl,rfl,rfl,rfl,rfl,rfl,rfl,rfl,rfl,rfl,zj⟩) yqc rfl ?_)
 intro w1141 dV
 have an:=bH.pt0 dV
 refine zb (za (zy kr (st (mV (.bool (yi.2.1)) (st (mV (.bool (yi.2.1)) ?_))))))
 have cM:(yi.2.1)=true:=yqf
 rw[cM]
 refine sty rfl rfl (mV (Iv (yi.2.2)) (sty rfl rfl (zR (k:=.i64) (a:=yi.2.2) (b:=0) rfl rfl ?_)))
 have cN:(decide ((yi.2.2)=0))=true:=yqf
 rw[cN]
 refine st (yc (v:=.bool true) rfl rfl (st (mV (.bool true) (sty rfl rfl (ze (k:=10) pT kT rfl rfl (zi (an.b10)) (sty rfl rfl (ze (k:=10) pT kT rfl rfl (zi (an.b0)) ?_)))))))
 obtain⟨G1147,dW,hB1150,dX,dY⟩:=(an.mv12).lend
 have bI:=DepO.rd dW
 have hsm1154:(yi.1.deps).length*8≤140737488355328:=bI.small
 obtain⟨G1156,dZ,ea,eb,ec⟩:=(dX.mv1).lend
 have az:=RowE.rd dZ
 have hrd1162s:_*8≤_:=az.small
 refine sty rfl rfl (cL Tryz.call13 (xw (a:=yi.1) (b:=(⟨1,1,11,[0,0],0,0,0,1,3,7⟩:Ev)) (zk bI ea) (ZT (by constructor<;>decide) dc dc (fun _ h=>absurd h List.not_mem_nil) dc) az dS eb) ?_)
 rintro _ w1163 ⟨rfl,ed⟩
 have ee:=ec _ _ ed
 have ef:=dY _ _ ee
 have cO:(decide ((yi.1)=(⟨1,1,11,[0,0],0,0,0,1,3,7⟩:Ev)))=true:=yqf
 rw[cO]
 refine st (yc (v:=.bool true) rfl rfl (st (mV (.bool true) (sty rfl rfl (mV (Iv (yt.2.2)) (sty rfl rfl (zR (k:=.i64) (a:=yt.2.2) (b:=11) rfl rfl ?_)))))))
 have cP:(decide ((yt.2.2)=11))=true:=yqf
 rw[cP]
 refine st (yc (v:=.bool true) rfl rfl (st (mV (.bool true) (sty rfl rfl (mV (Iv (yu.2.2)) (sty rfl rfl (zR (k:=.i64) (a:=yu.2.2) (b:=10) rfl rfl ?_)))))))
 have cQ:(decide ((yu.2.2)=10))=true:=yqf
 rw[cQ]
 refine st (yc (v:=.bool true) rfl rfl (st (aS (.bool true) (zb (zo (zN Tryz.results6 (show _=(.bool true:Value)from rfl) ?_))))))
 refine⟨rfl,(ef.s15_)⟩
end
end Go.Proofs.YtbcdijeggfoabaaGreatDoor
