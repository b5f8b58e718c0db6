import Derived.Test.YtbbabhaalmkbkaaGreatDoorE6
import Derived.Test.YtbbabhaalmkbkaaGreatDoorE1
import Derived.Test.YtbbabhaalmkbkaaGreatDoorE2
import Derived.Test.YtbbabhaalmkbkaaGreatDoorE5
set_option linter.unusedSimpArgs false
set_option linter.unusedVariables false
set_option linter.unusedSectionVars false
set_option linter.deprecated false
open Go.Proofs.Tryz renaming isAgg3→kT,sizeOf41→lT,underlying39→mT,isAgg39→nT,isAgg41→oT,sizeOf3→pT,underlying26→qT,zeroValue41→rT,sizeOf38→sT,isAgg38→tT,results24→uT,results35→vT,sizeOf47→wT,isAgg25→kR,sizeOf25→lR,results36→mR,call41→nR,isAgg79→oR,sizeOf57→pR,zeroValue47→qR,call53→rR,results32→sR,results79→tR,underlying79→uR,zeroValue57→vR,isAgg47→wR,results6→kY,results27→lY,call54→mY,call99→nY,results78→oY,call44→pY,results74→qY
namespace Go.Proofs.YtbbabhaalmkbkaaGreatDoor
section
set_option maxRecDepth 8000
set_option maxHeartbeats 4000000
open Go.Proofs Go.RowKit
def xy (d:Dcl)(k:Int×Int)(L:List Ent):Sta:=⟨((yd k L:Nat):Int),stL d k L⟩
theorem YA (d:Dcl)(l:List Ev):(zw d l).length=l.length:=by
 induction l using Xc with
 |h0=>rfl
 |h1 l e ih=>rw[xE,List.length_append,List.length_append,ih];rfl
theorem QG {d:Dcl}{l:List Ev}{k:Nat}(h:k<l.length):zw d (l.take (k+1))=zw d (l.take k)++[yE d (zw d (l.take k)) (l.getD k default)]:=by rw[List.take_getD (d:=default) h,xE]
theorem zaM {d:Dcl}{l:List Ev}{k:Nat}(h:l.length≤1000000):(zw d (l.take k)).length≤1000000:=by rw[YA,List.length_take];omega
theorem el79:Elem Tryz.prog 79 57 13 120:=⟨uR,_,_,rfl,rfl,rfl,rfl,rfl⟩
set_option maxHeartbeats 8000000 in
theorem zbc {G:Nat→Prop}{W w:World}{Rs:List HP}{b:Nat}{d:Dcl}{L:List Ent}{e:Ev}{de0:Value}(hde0:RdS W G de0 e.deps)(oe:e.Ok)(hKN:RdS W G (.slice (some ⟨0,0,none⟩) 6 6) kindsL)(hS0:Sep G W ((ViewO b d L L)::Rs) w)(hd:DclOk d)(hinv:Inv d L)(hml:L.length≤1000000):Ret Tryz.prog 16 [.pointer (some ⟨b,0,none⟩),.agg (e.cells de0).toArray] w (fun r w'=> ∃(v:Value),r=(.agg ((yE d L e).cells v).toArray:Value)∧Sep G W ((ViewO b d (L++[yE d L e]) (L++[yE d L e]))::(RowE (α:=Int) own 3 v e.deps)::Rs) w'):=by
 have hde0s:_*8≤_:=hde0.small
 have hKNs:_*8≤_:=hKN.small
 refine zi (args:=[Ix b 0,.agg (e.cells de0).toArray]) Tryz.func16 rfl rfl ?_
 refine za (R0 fun _=>st (zN (v:=.agg (e.cells de0).toArray) rfl ?_))
 intro w3 b2 bz
 let bF:=Blk b2 (e.cells de0).toArray 41
 refine st (zt vR ?_)
 intro w7 U bA
 let bo:=Blk U #[Iv 0,Iv 0,Iv 0,(Iz),Iv 0,Iv 0,Iv 0,Iv 0,Iv 0,Iv 0,.bool false,Iv 0,Iv 0] 57
 have bb:=(hS0.new bz).new bA
 refine zd (za (R0 fun _=>st (mV (Ix b 0) (st (zf (k:=10) oT lT rfl rfl (CellsAt.all (bb.b1)) (st (cL nR (WE (e:=e) hde0 oe bb) ?_)))))))
 rintro _ w10 ⟨v9,rfl,ah⟩
 have bd:=ah.r0
 have hr12s:_*8≤_:=bd.2
 refine st (cL Tryz.call40 (D_try oe hKN (ah.mv3) (hd) (hinv) (hml)) ?_)
 rintro _ w15 ⟨rfl,V,be⟩
 refine st (mV (.tuple #[.bool ((yp d L e).1),.agg #[Iv ((yp d L e).2.1),Iv ((yp d L e).2.2)]]) (st (zk (vs:=[.bool ((yp d L e).1),.agg #[Iv ((yp d L e).2.1),Iv ((yp d L e).2.2)]]) (i:=0) (v:=.bool ((yp d L e).1)) rfl rfl (st (zk (vs:=[.bool ((yp d L e).1),.agg #[Iv ((yp d L e).2.1),Iv ((yp d L e).2.2)]]) (i:=1) (v:=.agg #[Iv ((yp d L e).2.1),Iv ((yp d L e).2.2)]) rfl rfl (st (zt Tryz.zeroValue38 ?_)))))))
 intro w19 T bf
 let bB:=Blk T #[Iv ((yp d L e).2.1),Iv ((yp d L e).2.2)] 38
 have ai:=be.new bf
 refine st (aS (.bool ((yp d L e).1)) (stn (zq (v:=.agg #[Iv ((yp d L e).2.1),Iv ((yp d L e).2.2)]) (c':=#[Iv ((yp d L e).2.1),Iv ((yp d L e).2.2)]) sT rfl rfl (ai.b0) (ye ⟨rfl,rfl,trivial⟩) yqc rfl ?_)))
 intro bC bg
 refine zd (za ?_)
 have hek:Ent.Ok (yE d L e):=⟨oe,V.1,V.2⟩
 obtain⟨q,s,t,A,B,bh⟩:=ViewO.open ((ai.pt0 bg).mv1)
 let bE:=MapO xO E2 B (yC (L++[yE d L e]))
 let bD:=MapO yR E1 A (zn d (L++[yE d L e]))
 have H:Sep G W ((BkV b q s t A B)::(RwT q d.types)::(RwP s d.projs)::(RwN t L)::bD::bE::bB::bo::bF::Rs) bC:=bh
 have bi:=H.r1
 have hr31s:_*24≤_:=bi.2
 have bj:=H.r2
 have hr32s:_*40≤_:=bj.2
 have bk:=H.r3
 have hr33s:_*120≤_:=bk.2
 refine WD4 ((fun TT F C D I=>WF [fun vals z=>Sep G W (F::C::D::I::TT) z,fun vals z=> ∃(g:Value),(vals 6=(.agg (e.cells g).toArray:Value))∧Sep G W ((RwI g e.deps)::F::C::D::I::TT) z,fun vals z=> ∃(g:Value) (l:Nat),(vals 6=(.agg (e.cells g).toArray:Value))∧(vals 10=((Iy l 1 1):Value))∧Sep G W ((Blk l ((yE d L e).cells g).toArray 57)::(RwI g e.deps)::F::C::D::I::TT) z,fun vals z=> ∃(g:Value) (l:Nat) (j:Value),(vals 6=(.agg (e.cells g).toArray:Value))∧(vals 10=((Iy l 1 1):Value))∧(vals 11=(j:Value))∧Sep G W ((RwN j (L++[(yE d L e)]))::F::C::D::TT) z,fun vals z=> ∃(g:Value) (l:Nat) (j:Value),(vals 6=(.agg (e.cells g).toArray:Value))∧(vals 10=((Iy l 1 1):Value))∧(vals 11=(j:Value))∧Sep G W ((RwN j (L++[(yE d L e)]))::(BkV b q s j A B)::C::D::TT) z]) (bD::bE::bB::bo::bF::Rs) (BkV b q s t A B) (RwT q d.types) (RwP s d.projs) (RwN t L)) (AF [Vl 0 (Ix b 0),Vl 1 (Ix b 0),Vl 2 (Ix b 0),Vl 3 (Ix b 2),Vl 4 (t),Vl 5 (.agg (e.cells de0).toArray),fun _=>True,Vl 7 (.bool ((yp d L e).1)),Vl 8 (.agg #[Iv ((yp d L e).2.1),Iv ((yp d L e).2.2)]),fun vals=> ∀(g:Value),vals 6=(.agg (e.cells g).toArray:Value)→vals 9=(.agg ((yE d L e).cells g).toArray:Value),fun _=>True,fun _=>True,Vl 12 (Ix b 0),Vl 13 (Ix b 2),fun _=>True]) [[],[],[1],[1,2],[1,2,3],[],[5],[],[],[5,6,7,8],[5,6,7,8,9],[1,2,3,4,5,6,7,8,9,10],(rg 12),(rg 13),(rg 14)] [6,10,11,14] [(0,3),(0,2),(0,2),(0,2),(0,2),(0,0),(0,0),(0,1),(0,1),(1,1),(1,1),(2,2),(3,3),(3,3),(3,3)] H ⟨fun _ _ _ _ _ _ _=>obl rfl (mV (Ix b 0) dR),fun _ _ _ _ _ _ _=>obl rfl (mV (Ix b 0) dR),fun _ _ _ _ _ _ ao=>obl rfl (zB (b:=b) (o:=0) (ao 1 dc) dR),fun _ _ _ _ _ _ ap=>obl rfl (Kr (ap 2 dc) dR),?_,ob1 0 fun _ _ (aq:Sep _ _ _ _) _=>obl rfl (zf (k:=10) oT lT rfl rfl (CellsAt.all (aq.b8)) dR),?_,fun _ _ _ _ _ _ _=>obl rfl (mV (.bool ((yp d L e).1)) dR),?_,?_,?_,?_,fun _ _ _ _ _ _ ar=>obl rfl (zB (b:=b) (o:=0) (ar 0 dc) dR),fun _ _ _ _ _ _ au=>obl rfl (Kr (au 12 dc) dR),?_,trivial⟩ ?_ (hlocA:=xb ⟨dA,dA,dA,dA,dA,dA,dT,dA,dA,fun vals p u h=>fun g E=>(u 9 (.inl rfl)).trans (h g ((u 6 (.inr dc)).symm.trans E)),dT,dT,dA,dA,dT,trivial⟩)
 refine fun J _ _ bl bm K N=>?_
 have hkk:=JI bl bm
 rcases hkk with rfl|rfl|rfl
 have av:Sep _ _ _ _:=K
 exact obl rfl (lD t oR (N 3 dc) (zb (av.b0) rfl) dR)
 obtain⟨g,m,aw⟩:=K
 exact obl rfl (lD t oR (N 3 dc) (zb (aw.b1) rfl) dR)
 obtain⟨g,l,m,y,ax⟩:=K
 exact obl rfl (lD t oR (N 3 dc) (zb (ax.b2) rfl) dR)
 refine ob1 0 fun vals _ (bn:Sep _ _ _ _) bp=>(obl rfl ((zG (f:=41) (vals:=[.agg (e.cells de0).toArray]) (cap:=[]) rfl (yK ⟨(bp 5 dc),trivial⟩) nR (WE (e:=e) hde0 oe bn) ?_)))
 rintro _ w84 ⟨g,rfl,aj⟩
 have bq:=aj.r0
 have hr86s:_*8≤_:=bq.2
 exact fun p u n=>⟨(exiA g (zv u aj)),trivial⟩
 refine fun O _ _ br bs X _=>?_
 have hkk:=xA br bs
 rcases hkk with rfl|rfl
 have ay:Sep _ _ _ _:=X
 exact obl rfl (zf (k:=2) tT sT rfl rfl (CellsAt.all (ay.b6)) dR)
 obtain⟨g,m,az⟩:=X
 exact obl rfl (zf (k:=2) tT sT rfl rfl (CellsAt.all (az.b7)) dR)
 refine ob1 1 fun _ _ aA Y=>?_
 obtain⟨g,m,hS229⟩:=aA
 refine obl rfl (zP (parts':=[(0,.agg (e.cells g).toArray),(1,.bool ((yp d L e).1)),(2,.agg #[Iv ((yp d L e).2.1),Iv ((yp d L e).2.2)])]) (v:=.agg ((yE d L e).cells g).toArray) (ZE ⟨rfl,m,rfl,(Y 7 (by decide)),rfl,(Y 8 (by decide)),trivial⟩) (by simp+zetaDelta [Instr.build,Instr.fill,go_sem,Ent.cells,Ev.cells,yE]) (fun p u n=>⟨rfl,?_⟩))
 intro v83q E
 rw[n 6 (by decide)]at E;cases m.symm.trans E
 exact u
 refine ob1 1 fun vals _ aB aC=>?_
 obtain⟨g,m,aD⟩:=aB
 have bt:vals 9=(.agg ((yE d L e).cells g).toArray:Value):=aC 9 dc g m
 refine obl rfl ((zY (k:=13) (parts':=[(0,.agg ((yE d L e).cells g).toArray)]) (c:=((yE d L e).cells g).toArray) uR pR vR dc (ZE ⟨rfl,bt,trivial⟩) kr ?_))
 intro w120 l aE
 exact fun p u n=>⟨(exiA g (exiA l (zv ((n 6 dc).trans m) (zv u (aD.new aE))))),trivial⟩
 refine ob1 2 fun _ _ aF aG=>?_
 obtain⟨g,l,m,y,Z⟩:=aF
 refine obl rfl ?_
 have ak:=Z.b0
 refine(xg (src:=own) (bytes:=120) (x1:=(yE d L e)) (Z.s11_fbcdeghijk) el79 (aG 4 (by decide)) y ak (fun _ _ hN=>⟨_,rfl,RowE.soft hN,hek⟩) yqb rfl ?_)
 intro j w131 aa
 have aH:=aa.r0
 have hr136s:_*120≤_:=aH.2
 exact fun p u n=>⟨(exiA g (exiA l (exiA j (zv ((n 6 dc).trans m) (zv ((n 10 dc).trans y) (zv u aa)))))),trivial⟩
 refine ob1 3 fun _ _ aI aJ=>?_
 obtain⟨g,l,j,m,y,P,Q⟩:=aI
 refine obl rfl ?_
 have ab:=Q.r0
 have hr162s:_*120≤_:=ab.2
 refine(yz (v:=j) (c:=[q,s,t,.map (some A),.map (some B)]) (c':=[q,s,j,.map (some A),.map (some B)]) Tryz.sizeOf79 (aJ 13 dc) P (Q.b1) ab.1.one rfl rfl ?_)
 intro w160 aK
 exact fun p u n=>⟨(exiA g (exiA l (exiA j (zv ((n 6 dc).trans m) (zv ((n 10 dc).trans y) (zv ((n 11 dc).trans P) (Q.pt1 aK))))))),trivial⟩
 intro vals w246 aL hA248
 obtain⟨g,l,j,m,y,P,aM⟩:=aL
 refine zZ (kv:=[(0,Ix b 0),(1,.agg (e.cells de0).toArray),(3,Ix b2 0),(4,Ix U 0),(8,Ix b 0),(9,.agg (e.cells de0).toArray),(10,.agg (e.cells v9).toArray),(11,.tuple #[.bool ((yp d L e).1),.agg #[Iv ((yp d L e).2.1),Iv ((yp d L e).2.2)]]),(7,.tuple #[.bool ((yp d L e).1),.agg #[Iv ((yp d L e).2.1),Iv ((yp d L e).2.2)]]),(12,.bool ((yp d L e).1)),(13,.agg #[Iv ((yp d L e).2.1),Iv ((yp d L e).2.2)]),(6,Ix T 0),(5,.bool ((yp d L e).1))]) sEv (fun ρw246=>(zd (za ?_)))
 refine WD4 ((fun TT F C D I al am an bc=>WF [fun vals z=>Sep G W (F::C::D::I::al::am::an::bc::TT) z,fun vals z=> ∃(a:Value),(vals 1=(.agg (e.cells a).toArray:Value))∧Sep G W ((RwI a e.deps)::F::C::D::I::al::am::an::bc::TT) z,fun vals z=> ∃(a:Value),(vals 1=(.agg (e.cells a).toArray:Value))∧Sep G W ((RwI a e.deps)::F::C::D::I::al::am::an::(Blk U ((yE d L e).cells a).toArray 57)::TT) z]) (bF::Rs) (RwN j (L++[(yE d L e)])) (BkV b q s j A B) (RwT q d.types) (RwP s d.projs) bD bE bB bo) (AF [Vl 0 (.agg (e.cells de0).toArray),fun _=>True,Vl 2 (.bool ((yp d L e).1)),Vl 3 (.agg #[Iv ((yp d L e).2.1),Iv ((yp d L e).2.2)]),fun vals=> ∀(a:Value),vals 1=(.agg (e.cells a).toArray:Value)→vals 4=(.agg ((yE d L e).cells a).toArray:Value),fun _=>True]) [[],[0],[],[],(rg 4),(rg 5)] [1,5] [(0,0),(0,0),(0,1),(0,1),(1,1),(1,1)] aM ⟨ob1 0 fun _ _ (aN:Sep _ _ _ _) _=>obl rfl (zf (k:=10) oT lT rfl rfl (CellsAt.all (aN.b8)) dR),?_,fun _ _ _ _ _ _ _=>obl rfl (mV (.bool ((yp d L e).1)) dR),?_,?_,?_,trivial⟩ ?_ (hlocA:=xb ⟨dA,dT,dA,dA,fun vals p u h=>fun a E=>(u 4 (.inl rfl)).trans (h a ((u 1 (.inr dc)).symm.trans E)),dT,trivial⟩)
 refine ob1 0 fun vals _ (aO:Sep _ _ _ _) aP=>(obl rfl ((zG (f:=41) (vals:=[.agg (e.cells de0).toArray]) (cap:=[]) rfl (yK ⟨(aP 0 dc),trivial⟩) nR (WE (e:=e) hde0 oe aO) ?_)))
 rintro _ w266 ⟨a,rfl,ac⟩
 have aQ:=ac.r0
 have hr268s:_*8≤_:=aQ.2
 exact fun p u n=>⟨(exiA a (zv u ac)),trivial⟩
 refine fun R _ _ bu bv ad _=>?_
 have hkk:=xA bu bv
 rcases hkk with rfl|rfl
 have aR:Sep _ _ _ _:=ad
 exact obl rfl (zf (k:=2) tT sT rfl rfl (CellsAt.all (aR.b6)) dR)
 obtain⟨a,x,aT⟩:=ad
 exact obl rfl (zf (k:=2) tT sT rfl rfl (CellsAt.all (aT.b7)) dR)
 refine ob1 1 fun _ _ aU ae=>?_
 obtain⟨a,x,hS331⟩:=aU
 refine obl rfl (zP (parts':=[(0,.agg (e.cells a).toArray),(1,.bool ((yp d L e).1)),(2,.agg #[Iv ((yp d L e).2.1),Iv ((yp d L e).2.2)])]) (v:=.agg ((yE d L e).cells a).toArray) (ZE ⟨rfl,x,rfl,(ae 2 (by decide)),rfl,(ae 3 (by decide)),trivial⟩) (by simp+zetaDelta [Instr.build,Instr.fill,go_sem,Ent.cells,Ev.cells,yE]) (fun p u n=>⟨rfl,?_⟩))
 intro v265q E
 rw[n 1 (by decide)]at E;cases x.symm.trans E
 exact u
 refine ob1 1 fun vals _ aV aW=>?_
 obtain⟨a,x,S⟩:=aV
 have bw:vals 4=(.agg ((yE d L e).cells a).toArray:Value):=aW 4 dc a x
 refine obl rfl ?_
 have af:=S.r0
 have hr302s:_*8≤_:=af.2
 refine(zq (v:=.agg ((yE d L e).cells a).toArray) (c':=((yE d L e).cells a).toArray) pR rfl bw (S.b8) (ye ⟨rfl,rfl,rfl,af.1.one,rfl,rfl,rfl,rfl,rfl,rfl,rfl,rfl,rfl,trivial⟩) yqc rfl ?_)
 intro w300 aX
 exact fun p u n=>⟨(exiA a (zv ((n 1 dc).trans x) (S.pt8 aX))),trivial⟩
 intro vals bx aY hA336
 obtain⟨a,x,ag⟩:=aY
 refine zZ (kv:=[(0,Ix b 0),(1,.agg (e.cells de0).toArray),(3,Ix b2 0),(4,Ix U 0),(8,Ix b 0),(9,.agg (e.cells de0).toArray),(10,.agg (e.cells v9).toArray),(11,.tuple #[.bool ((yp d L e).1),.agg #[Iv ((yp d L e).2.1),Iv ((yp d L e).2.2)]]),(7,.tuple #[.bool ((yp d L e).1),.agg #[Iv ((yp d L e).2.1),Iv ((yp d L e).2.2)]]),(12,.bool ((yp d L e).1)),(13,.agg #[Iv ((yp d L e).2.1),Iv ((yp d L e).2.2)]),(6,Ix T 0),(5,.bool ((yp d L e).1))]) sEv (fun ρw334=>(zd (zj (QX (b:=U) Tryz.results16 Tryz.isAgg57 pR rfl rfl (CellsAt.all (ag.b8)) ?_))))
 have aZ:Sep _ _ ((ViewO b d (L++[yE d L e]) (L++[yE d L e]))::_) _:=ViewO.close (d:=d) (L:=(L++[yE d L e])) (M:=(L++[yE d L e])) (ag.s10_cdebfgahij)
 have ba:Sep G W ((ViewO b d (L++[yE d L e]) (L++[yE d L e]))::(RwI a e.deps)::Rs) bx:=aZ.sel 5 [0,1] (Nat.le_add_left _ _) rfl rfl
 refine⟨a,rfl,ba⟩
theorem WH {G:Nat→Prop}{W w:World}{Rs:List HP}{b:Nat}{d:Dcl}{L:List Ent}{ty:Int}(hty:InR ty){no:Int}(hno:InR no)(hS0:Sep G W ((ViewO b d L L)::Rs) w):Ret Tryz.prog 12 [.pointer (some ⟨b,0,none⟩),.int .i64 (ty),.int .i64 (no)] w (fun r w'=> ∃(v:Value),r=(.tuple #[.agg ((xy d (ty,no) L).cells v).toArray,.bool ((zn d L (ty,no)).isSome)]:Value)∧Sep G W ((ViewO b d L L)::(RowE (α:=Cel) own 99 v (stL d (ty,no) L))::Rs) w'):=by
 refine zi (args:=[Ix b 0,Iv ty,Iv no]) Tryz.func12 rfl rfl ?_
 refine za (R0 fun _=>st (zt qR ?_))
 intro U b2 V
 refine st (aS (.bool false) (zd (za (R0 fun _=>?_))))
 obtain⟨f,g,h,m,j,B⟩:=ViewO.open ((hS0.new V).mv1)
 let aa:=Blk b #[f,g,h,.map (some m),.map (some j)] 83
 have c:Sep G W (aa::(RowE (α:=Typ) own 53 f d.types)::(RowE (α:=Prj) own 115 g d.projs)::(RowE (α:=Ent) own 57 h L)::(MapO yR E1 m (zn d L))::(MapO xO E2 j (yC L))::(Blk b2 #[Iv 0,(Iz)] 47)::Rs) U:=B
 have C:=c.r1
 have hr12s:_*24≤_:=C.2
 have D:=c.r2
 have hr13s:_*40≤_:=D.2
 have E:=c.r3
 have hr14s:_*120≤_:=E.2
 obtain⟨vs16,A,F⟩:=(c.mv4).mapoTake VV (ty,no)
 obtain⟨a,rfl,H⟩:=Wu (F.mv1) A
 have e:Sep G W ((RowE (α:=Cel) own 99 a (stL d (ty,no) L))::(xX yR E1 VV m (zn d L) (ty,no) (.agg #[Iw (yd (ty,no) L),a]))::aa::(RowE (α:=Typ) own 53 f d.types)::(RowE (α:=Prj) own 115 g d.projs)::(RowE (α:=Ent) own 57 h L)::(MapO xO E2 j (yC L))::(Blk b2 #[Iv 0,(Iz)] 47)::Rs) U:=H
 have p:=e.r0
 have hr22s:_*32≤_:=p.2
 have hve9:=Zs (ty,no) L
 refine st (mV (Ix b 0) (st (zB (b:=b) (o:=0) rfl (st (Uh rfl (st (lD (.map (some m)) Tryz.isAgg80 rfl (zb (e.b2) rfl) (st (mV (Iv ty) (st (mV (Iv no) (st (zP (parts':=[(0,Iv ty),(1,Iv no)]) (v:=.agg #[Iv ty,Iv no]) rfl (by simp+zetaDelta [Instr.build,Instr.fill,Ev.cells,go_sem,Mv.cells,Fld.cells,Typ.cells,Prj.cells,Dcl.cells,Cel.cells,AskR.cells,CelS.cells,Ev.cells,Ent.cells,Sta.cells]) (st (ZH e (i:=1) rfl K2 Tryz.underlying80 qR rfl rfl (st (mV (.tuple #[.agg #[Iw (yd (ty,no) L),a],.bool (((zn d L) (ty,no)).isSome)]) (st (zk (vs:=[.agg #[Iw (yd (ty,no) L),a],.bool (((zn d L) (ty,no)).isSome)]) (i:=0) (v:=.agg #[Iw (yd (ty,no) L),a]) rfl rfl ?_)))))))))))))))))))
 refine st (zk (vs:=[.agg #[Iw (yd (ty,no) L),a],.bool (((zn d L) (ty,no)).isSome)]) (i:=1) (v:=.bool (((zn d L) (ty,no)).isSome)) rfl rfl (st (zt qR ?_)))
 intro w25 X I
 have q:=e.new I
 refine stn (zq (v:=.agg #[Iw (yd (ty,no) L),a]) (c':=#[Iw (yd (ty,no) L),a]) wT rfl rfl (q.b0) (ye ⟨rfl,p.1.one,trivial⟩) yqc rfl ?_)
 intro w27 J
 have K:Sta.Ok (⟨((yd (ty,no) L:Nat):Int),stL d (ty,no) L⟩:Sta):=⟨(show InR (((yd (ty,no) L:Nat):Int))from om)⟩
 have s:=q.pt0 J
 refine st (aS (.bool (((zn d L) (ty,no)).isSome)) (zd (za (R0 fun _=>st (zf (k:=2) wR wT rfl rfl (CellsAt.all (s.b0)) ?_)))))
 obtain⟨G32,N,hB35,O,P⟩:=(s.mv1).lend
 have n:=RowE.rd N
 have hrd38s:_*32≤_:=n.small
 refine st (cL Tryz.call34 (JQ (x:=(⟨((yd (ty,no) L:Nat):Int),stL d (ty,no) L⟩:Sta)) n K O) ?_)
 rintro _ w40 ⟨l,rfl,t⟩
 let Z:=((⟨((yd (ty,no) L:Nat):Int),stL d (ty,no) L⟩:Sta).cells l)
 have u:=t.r0
 have hr42s:_*32≤_:=u.2
 have y:=P _ _ t
 refine st (mV (.bool (((zn d L) (ty,no)).isSome)) (stn (zq (v:=.agg Z.toArray) (c':=Z.toArray) wT rfl rfl (y.b9) (ye ⟨rfl,u.1.one,trivial⟩) yqc rfl ?_)))
 intro Y Q
 have z:=y.pt9 Q
 refine st (aS (.bool (((zn d L) (ty,no)).isSome)) (zd (zj (ZJ (b:=b2) Tryz.results12 wR wT rfl rfl (CellsAt.all (z.b9)) (show _=(.bool (((zn d L) (ty,no)).isSome):Value)from rfl) ?_))))
 have R:Sep _ _ ((YJ E1 (.agg #[Iw (yd (ty,no) L),a]) ((zn d L) (ty,no)))::_) _:=UA z
 have S:Sep G W ((MapO yR E1 m (zn d L))::(RowE (α:=Cel) own 99 l ((⟨((yd (ty,no) L:Nat):Int),stL d (ty,no) L⟩:Sta).cls))::(Blk X ((⟨((yd (ty,no) L:Nat):Int),stL d (ty,no) L⟩:Sta).cells a).toArray 47)::aa::(RowE (α:=Typ) own 53 f d.types)::(RowE (α:=Prj) own 115 g d.projs)::(RowE (α:=Ent) own 57 h L)::(MapO xO E2 j (yC L))::(Blk b2 Z.toArray 47)::Rs) Y:=(R.mv3).mapoPut
 have T:Sep _ _ ((ViewO b d L L)::_) _:=ViewO.close (d:=d) (L:=L) (M:=L) (S.s9_defgahbci)
 refine⟨l,rfl,(T.s4_ab)⟩
theorem D_All {G:Nat→Prop}{W w:World}{Rs:List HP}{d:Dcl}{dd0:Value}(hdd0:RdS W G dd0 d.types){dd1:Value}(hdd1:RdS W G dd1 d.projs)(od:d.Ok){vl:Value}{l:List Ev}(hl:RdS W G vl l)(hKN:RdS W G (.slice (some ⟨0,0,none⟩) 6 6) kindsL)(hS0:Sep G W Rs w)(hd:DclOk d)(hfew:l.length≤1000000):Ret Tryz.prog 26 [.agg (d.cells dd0 dd1).toArray,vl] w (fun r w'=> ∃(b:Nat),r=(.pointer (some ⟨b,0,none⟩):Value)∧Sep G W ((ViewO b d (zw d l) (zw d l))::Rs) w'):=by
 have hdd0s:_*24≤_:=hdd0.small
 have hdd1s:_*40≤_:=hdd1.small
 have hls:_*96≤_:=hl.small
 have hKNs:_*8≤_:=hKN.small
 refine zi (args:=[.agg (d.cells dd0 dd1).toArray,vl]) Tryz.func26 rfl rfl ?_
 refine za (R0 fun _=>st (zN (v:=.agg (d.cells dd0 dd1).toArray) rfl ?_))
 intro w3 b2 F
 have y:=hS0.new F
 refine st (aS (.pointer none) (zd (za (R0 fun _=>st (zf (k:=2) kR lR rfl rfl (CellsAt.all (y.b0)) (st (cL Tryz.call50 (zbg (d:=d) hdd0 hdd1 od y) ?_)))))))
 rintro _ w6 ⟨g,rfl,H⟩
 refine st (aS (Ix g 0) (zd (za (za (R0 fun _=>st (mV vl (st (zR (n:=l.length) qT rfl hl.sl (st (mV (Iv 0) (zd (zx (yq (fun mq σ I=> ∃(k:Nat) (ρ:Env),mq=l.length-k∧σ=yi ρ [(2,Ix b2 0),(5,Ix g 0),(10,vl),(11,Iw l.length),(12,Iw k)]∧(k≤l.length)∧Sep G W ((ViewO g d (zw d (l.take k)) (zw d (l.take k)))::(Blk b2 (d.cells dd0 dd1).toArray 25)::Rs) I) ⟨0,_,rfl,sSf,Nat.zero_le _,H⟩ ?_)))))))))))))
 rintro m9 σ10 w8 ⟨k,ρl1,rfl,rfl,hkk,h⟩
 refine za (R0 fun _=>st (zJ (k:=.i64) (a:=((k:Nat):Int)) (b:=((l.length:Nat):Int)) rfl rfl (zd (za ?_))))
 cases f:decide (((k:Nat):Int)<((l.length:Nat):Int))
 have f:=fD f
 refine zg rfl (yr (yg (za (R0 fun _=>st (mV (Ix g 0) (st (aS (Ix g 0) (zd (zj (zK Tryz.results26 (show _=(Ix g 0:Value)from rfl) ?_))))))))))
 have j:=h.s2_a
 have hkn:k=l.length:=by omega
 rw[hkn,List.take_length]at j
 refine⟨g,rfl,j⟩
 have f:=tD f
 refine zh rfl (zl (za (zx (za (R0 fun _=>?_)))))
 have z:k<l.length:=bo
 refine st (zm (k:=10) (i:=k) qT lT rfl hl.sl rfl z ?_)
 have m:k<l.length:=bo
 obtain⟨u,c,o⟩:=hl.evD m
 have hsm17:((l.getD k default).deps).length*8≤140737488355328:=c.small
 have x:=h.cells u (hl.foot (ne_of_lt m))
 refine st (zf (k:=10) oT lT rfl rfl x (st (zt rT ?_)))
 intro w21 b20 A
 have p:=h.new A
 refine stn (zq (v:=.agg ((l.getD k default).cells (zI W (sb vl) (so vl+k*10+3))).toArray) (c':=((l.getD k default).cells (zI W (sb vl) (so vl+k*10+3))).toArray) lT rfl rfl (p.b0) (ye ⟨rfl,rfl,rfl,c.sl.one,rfl,rfl,rfl,rfl,rfl,rfl,trivial⟩) yqc rfl ?_)
 intro w23 B
 have q:=p.pt0 B
 refine zd (R0 fun _=>st (mV (Ix g 0) (st (zf (k:=10) oT lT rfl rfl (CellsAt.all (q.b0)) (st (cL Tryz.call16 (zbc (e:=(l.getD k default)) c o hKN (q.mv1) (hd) ((Inv.run hd _)) ((zaM hfew))) ?_))))))
 rintro _ w28 ⟨v27,rfl,s⟩
 have C:=s.r1
 have hr30s:_*8≤_:=C.2
 refine zd (R0 fun _=>?_)
 have D:InR ((k+1:Nat):Int):=bo
 refine st (yb (r:=((k+1:Nat):Int)) (k:=.i64) (a:=((k:Nat):Int)) (b:=1) rfl rfl (by rw[show(((k:Nat):Int)+1:Int)=((k+1:Nat):Int)from bo];exact zM D) (st (mV (Iw (k+1)) (zd ?_))))
 have t:=s.s4_ad
 have E:(zw d (l.take (k+1)))=((zw d (l.take k))++[yE d (zw d (l.take k)) (l.getD k default)]):=(QG om)
 rw[←E]at t
 exact⟨_,by omega,k+1,_,rfl,sSf,by omega,t⟩
def Qf (e:Ev)(n:Int):Prop:=(0≤e.origin∧e.origin<n∧(e.deps.length:Int)=n∧1≤e.seq)∧ ∀i,i<e.deps.length→0≤e.deps.getD i 0
theorem JM {α:Type}[Inhabited α]{P:α→Prop}{l:List α}{x:α}(h: ∀i,i<l.length→P (l.getD i default))(hx:P x): ∀i,i<(l++[x]).length→P ((l++[x]).getD i default):=by
 intro i hi
 rcases Nat.lt_or_ge i l.length with h1|h1
 ·have e:(l++[x]).getD i default=l.getD i default:=by rw[List.getD_eq_getElem?_getD,List.getD_eq_getElem?_getD,List.getElem?_append_left h1]
  rw[e];exact h i h1
 ·have e:i=l.length:=by rw[List.length_append,List.length_singleton]at hi;omega
  subst e
  rw[List.getD_eq_getElem?_getD,List.getElem?_append_right (Nat.le_refl _),Nat.sub_self];exact hx
theorem zap {G:Nat→Prop}{W w:World}{Rs:List HP}{d:Dcl}{dd0:Value}(hdd0:RdS W G dd0 d.types){dd1:Value}(hdd1:RdS W G dd1 d.projs)(od:d.Ok)(hS0:Sep G W Rs w):Ret Tryz.prog 6 [.agg (d.cells dd0 dd1).toArray] w (fun r w'=> ∃(b:Bool),r=(.bool b:Value)∧(b=true→DclOk d∧KA d)∧Sep G W Rs w'):=by
 have hdd0s:_*24≤_:=hdd0.small
 have hdd1s:_*40≤_:=hdd1.small
 refine zi (args:=[.agg (d.cells dd0 dd1).toArray]) Tryz.func6 rfl rfl ?_
 refine za (R0 fun _=>st (zN (v:=.agg (d.cells dd0 dd1).toArray) rfl ?_))
 intro w3 b2 m
 have h:=hS0.new m
 refine st (aS (.bool false) (zd (za (zz kr (st (zf (k:=2) kR lR rfl rfl (CellsAt.all (h.b0)) (st (cL Tryz.call21 (zbh (d:=d) hdd0 hdd1 od h) ?_))))))))
 rintro _ w6 ⟨i,rfl,f⟩
 refine st (yF (a:=i) rfl (st (mV (.bool (!i)) (stc (V:=.agg (d.cells dd0 dd1).toArray) rfl rfl (fun n=>?_) ?_))))
 have o:=n
 try simp only[ze]at o
 exact zf (k:=2) kR lR rfl rfl (CellsAt.all (f.b0)) ⟨rfl,rfl⟩
 cases e: !i
 have hg10r:=e
 try simp only[ze]at e
 refine stx rfl rfl (stx rfl rfl (st (zU (v:=.bool false) rfl rfl (st (aS (.bool false) (zd (zj (zK kY (show _=(.bool false:Value)from rfl) ?_))))))))
 refine⟨false,rfl,?_,(f.s1_)⟩
 intro j
 cases j
 try simp only[ze]at e
 refine sty rfl rfl (cL Tryz.call22 (zae (d:=d) hdd0 hdd1 od f) ?_)
 rintro _ w15 ⟨c,rfl,hin13,g,l⟩
 refine sty rfl rfl (yc (k:=.i64) (a:=c) (b:=0) rfl rfl (st (yj (v:=.bool (decide (c=0))) rfl rfl (st (aS (.bool (decide (c=0))) (zd (zj (zK kY (show _=(.bool (decide (c=0)):Value)from rfl) ?_))))))))
 refine⟨decide (c=0),rfl,?_,(l.s1_)⟩
 intro j
 exact g (by simpa using j)
theorem Ky {G:Nat→Prop}{W w:World}{Rs:List HP}{e:Ev}{de0:Value}(hde0:RdS W G de0 e.deps)(oe:e.Ok){n:Int}(hn:InR n)(hS0:Sep G W Rs w):Ret Tryz.prog 24 [.agg (e.cells de0).toArray,.int .i64 (n)] w (fun r w'=> ∃(c:Int),r=(.int .i64 (c):Value)∧(InR c)∧(c=0→Qf e n)∧Sep G W Rs w'):=by
 have hde0s:_*8≤_:=hde0.small
 refine zi (args:=[.agg (e.cells de0).toArray,Iv n]) Tryz.func24 rfl rfl ?_
 refine za (R0 fun _=>st (zN (v:=.agg (e.cells de0).toArray) rfl ?_))
 intro w3 b2 bi
 have f:=hS0.new bi
 refine st (aS (Iv 0) (zd (za (za (zz kr (st (yD rfl (st (xD rfl (st (lD (Iv (e.origin)) kT rfl (zb (f.b0) rfl) (st (zJ (k:=.i64) (a:=e.origin) (b:=0) rfl rfl (st (mV (.bool (decide (e.origin<0))) (stc (V:=Ix b2 0) rfl rfl (fun bj=>?_) ?_))))))))))))))))
 have hl6:=fD bj
 exact yD rfl ⟨rfl,rfl⟩
 refine stc (V:=Ix b2 0) rfl rfl (fun aE=>?_) ?_
 have hl8:=fD aE
 exact xD (if_pos aE) ⟨rfl,rfl⟩
 refine stc (V:=Iv (e.origin)) rfl rfl (fun aF=>?_) ?_
 have hl10:=fD aF
 exact lD (Iv (e.origin)) kT (if_pos aF) (zb (f.b0) rfl) ⟨rfl,rfl⟩
 refine stc (V:=Iv n) rfl rfl (fun aG=>?_) ?_
 have hl12:=fD aG
 exact mV (Iv n) ⟨rfl,rfl⟩
 refine stc (V:=.bool (decide (n≤e.origin))) rfl rfl (fun p=>?_) ?_
 have hl14:=fD p
 exact xv (k:=.i64) (a:=e.origin) (b:=n) (if_pos p) (if_pos p) ⟨rfl,rfl⟩
 refine st (zp (b:=decide (e.origin<0)) (b':=decide (n≤e.origin)) rfl (fun hbp=>(if_pos hbp)) (st (mV (.bool ((decide (e.origin<0))||(decide (n≤e.origin)))) (stc (V:=Ix b2 0) rfl rfl (fun aH=>?_) ?_))))
 have aI:=aH
 try simp only[ze]at aI
 exact yD rfl ⟨rfl,rfl⟩
 refine stc (V:=Ix b2 1) rfl rfl (fun K=>?_) ?_
 have aJ:=K
 try simp only[ze]at aJ
 exact Zz (if_pos K) ⟨rfl,rfl⟩
 refine stc (V:=Iv (e.seq)) rfl rfl (fun L=>?_) ?_
 have aK:=L
 try simp only[ze]at aK
 exact lD (Iv (e.seq)) kT (if_pos L) (zb (f.b0) rfl) ⟨rfl,rfl⟩
 refine stc (V:=.bool (decide (e.seq<1))) rfl rfl (fun M=>?_) ?_
 have aL:=M
 try simp only[ze]at aL
 exact zJ (k:=.i64) (a:=e.seq) (b:=1) (if_pos M) rfl ⟨rfl,rfl⟩
 refine st (zp (b:=(decide (e.origin<0))||(decide (n≤e.origin))) (b':=decide (e.seq<1)) rfl (fun hbp=>(if_pos hbp)) (st (mV (.bool (((decide (e.origin<0))||(decide (n≤e.origin)))||(decide (e.seq<1)))) (stc (V:=Ix b2 2) rfl rfl (fun aM=>?_) ?_))))
 have aN:=aM
 try simp only[ze]at aN
 exact Zi rfl ⟨rfl,rfl⟩
 refine stc (V:=Iv (e.lam)) rfl rfl (fun N=>?_) ?_
 have aO:=N
 try simp only[ze]at aO
 exact lD (Iv (e.lam)) kT (if_pos N) (zb (f.b0) rfl) ⟨rfl,rfl⟩
 refine stc (V:=.bool (decide (e.lam<1))) rfl rfl (fun O=>?_) ?_
 have aP:=O
 try simp only[ze]at aP
 exact zJ (k:=.i64) (a:=e.lam) (b:=1) (if_pos O) rfl ⟨rfl,rfl⟩
 refine st (zp (b:=((decide (e.origin<0))||(decide (n≤e.origin)))||(decide (e.seq<1))) (b':=decide (e.lam<1)) rfl (fun hbp=>(if_pos hbp)) (st (mV (.bool ((((decide (e.origin<0))||(decide (n≤e.origin)))||(decide (e.seq<1)))||(decide (e.lam<1)))) (stc (V:=Ix b2 5) rfl rfl (fun aQ=>?_) ?_))))
 have aR:=aQ
 try simp only[ze]at aR
 exact Xp rfl ⟨rfl,rfl⟩
 refine stc (V:=Iv (e.agg)) rfl rfl (fun P=>?_) ?_
 have aT:=P
 try simp only[ze]at aT
 exact lD (Iv (e.agg)) kT (if_pos P) (zb (f.b0) rfl) ⟨rfl,rfl⟩
 refine stc (V:=.bool (decide (e.agg<0))) rfl rfl (fun Q=>?_) ?_
 have aU:=Q
 try simp only[ze]at aU
 exact zJ (k:=.i64) (a:=e.agg) (b:=0) (if_pos Q) rfl ⟨rfl,rfl⟩
 refine st (zp (b:=(((decide (e.origin<0))||(decide (n≤e.origin)))||(decide (e.seq<1)))||(decide (e.lam<1))) (b':=decide (e.agg<0)) rfl (fun hbp=>(if_pos hbp)) (st (mV (.bool (((((decide (e.origin<0))||(decide (n≤e.origin)))||(decide (e.seq<1)))||(decide (e.lam<1)))||(decide (e.agg<0)))) (stc (V:=Ix b2 9) rfl rfl (fun aV=>?_) ?_))))
 have aW:=aV
 try simp only[ze]at aW
 exact YF rfl ⟨rfl,rfl⟩
 refine stc (V:=Iv (e.key)) rfl rfl (fun R=>?_) ?_
 have aX:=R
 try simp only[ze]at aX
 exact lD (Iv (e.key)) kT (if_pos R) (zb (f.b0) rfl) ⟨rfl,rfl⟩
 refine stc (V:=.bool (decide (e.key<0))) rfl rfl (fun S=>?_) ?_
 have aY:=S
 try simp only[ze]at aY
 exact zJ (k:=.i64) (a:=e.key) (b:=0) (if_pos S) rfl ⟨rfl,rfl⟩
 refine st (zp (b:=((((decide (e.origin<0))||(decide (n≤e.origin)))||(decide (e.seq<1)))||(decide (e.lam<1)))||(decide (e.agg<0))) (b':=decide (e.key<0)) rfl (fun hbp=>(if_pos hbp)) (st (mV (.bool ((((((decide (e.origin<0))||(decide (n≤e.origin)))||(decide (e.seq<1)))||(decide (e.lam<1)))||(decide (e.agg<0)))||(decide (e.key<0)))) (stc (V:=Ix b2 3) rfl rfl (fun aZ=>?_) ?_))))
 have ba:=aZ
 try simp only[ze]at ba
 exact xf rfl ⟨rfl,rfl⟩
 refine stc (V:=de0) rfl rfl (fun T=>?_) ?_
 have bb:=T
 try simp only[ze]at bb
 exact lD de0 nT (if_pos T) (zb (f.b0) rfl) ⟨rfl,rfl⟩
 refine stc (V:=Iw e.deps.length) rfl rfl (fun U=>?_) ?_
 have bc:=U
 try simp only[ze]at bc
 exact zR (n:=e.deps.length) mT (if_pos U) hde0.sl ⟨rfl,rfl⟩
 refine stc (V:=Iv n) rfl rfl (fun bd=>?_) ?_
 have be:=bd
 try simp only[ze]at be
 exact mV (Iv n) ⟨rfl,rfl⟩
 refine stc (V:=.bool (!decide (((e.deps.length:Nat):Int)=n))) rfl rfl (fun q=>?_) ?_
 have bf:=q
 try simp only[ze]at bf
 exact yh (k:=.i64) (a:=((e.deps.length:Nat):Int)) (b:=n) (if_pos q) (if_pos q) ⟨rfl,rfl⟩
 refine st (zp (b:=(((((decide (e.origin<0))||(decide (n≤e.origin)))||(decide (e.seq<1)))||(decide (e.lam<1)))||(decide (e.agg<0)))||(decide (e.key<0))) (b':= !decide (((e.deps.length:Nat):Int)=n)) rfl (fun hbp=>(if_pos hbp)) (zd ?_))
 cases X:((((((decide (e.origin<0))||(decide (n≤e.origin)))||(decide (e.seq<1)))||(decide (e.lam<1)))||(decide (e.agg<0)))||(decide (e.key<0)))||(!decide (((e.deps.length:Nat):Int)=n))
 try simp only[ze]at X
 refine zg rfl (zl (za (za (R0 fun _=>st (aS (Iv 0) (zd (zx (yq (fun mq σ wq=> ∃(k:Nat) (ρ:Env),mq=e.deps.length-k∧σ=yi ρ [(1,Iv n),(2,Ix b2 0),(5,Iw k)]∧(k≤e.deps.length)∧(∀i,i<k→0≤e.deps.getD i 0)∧Sep G W ((Blk b2 (e.cells de0).toArray 41)::Rs) wq) ⟨0,_,rfl,sSf,Nat.zero_le _,(fun i h=>absurd h (Nat.not_lt_zero i)),f⟩ ?_))))))))
 rintro m53 σ54 w52 ⟨k,ρl1,rfl,rfl,hkk,hm,m⟩
 refine za (za (R0 fun _=>st (mV (Iw k) (st (mV (Iv n) (st (zJ (k:=.i64) (a:=((k:Nat):Int)) (b:=n) rfl rfl (zd ?_))))))))
 cases o:decide (((k:Nat):Int)<n)
 have o:=fD o
 refine zg rfl (yr (yg (za (za ?_))))
 refine WD4 (WF [fun vals wq=>Sep G W ((Blk b2 (e.cells de0).toArray 41)::Rs) wq]) (AF [Vl 0 (Ix b2 3),Vl 1 (de0),Vl 2 (Ix b2 0),Vl 3 (Ix b2 0),Vl 4 (Iv (e.origin)),Vl 5 (Ix (sb de0) (so de0+e.origin.toNat*1)),Vl 6 (Iv ((e.deps.getD e.origin.toNat 0))),Vl 7 (Ix b2 0),Vl 8 (Ix b2 1),Vl 9 (Iv (e.seq)),Vl 10 (Iv (e.seq-1)),Vl 11 (.bool (!decide ((e.deps.getD e.origin.toNat 0)=(e.seq-1))))]) [[],[0],[],[2],[2,3],(rg 5),(rg 6),[],[7],[7,8],[7,8,9],(rg 11)] [] [(0,0),(0,0),(0,0),(0,0),(0,0),(0,0),(0,0),(0,0),(0,0),(0,0),(0,0),(0,0)] m ⟨fun _ _ _ _ _ _ _=>obl rfl (xf rfl dR),ob1 0 fun _ _ (ac:Sep _ _ _ _) ad=>obl rfl (lD de0 nT (ad 0 dc) (zb (ac.b0) rfl) dR),fun _ _ _ _ _ _ _=>obl rfl (yD rfl dR),fun _ _ _ _ _ _ ae=>obl rfl (xD (ae 2 dc) dR),ob1 0 fun _ _ (af:Sep _ _ _ _) ag=>obl rfl (lD (Iv (e.origin)) kT (ag 3 dc) (zb (af.b0) rfl) dR),?_,?_,fun _ _ _ _ _ _ _=>obl rfl (yD rfl dR),fun _ _ _ _ _ _ ah=>obl rfl (Zz (ah 7 dc) dR),ob1 0 fun _ _ (ai:Sep _ _ _ _) aj=>obl rfl (lD (Iv (e.seq)) kT (aj 8 dc) (zb (ai.b0) rfl) dR),?_,ob1 0 fun _ _ _ s=>obl rfl (yh (k:=.i64) (a:=(e.deps.getD e.origin.toNat 0)) (b:=e.seq-1) (s 6 dc) (s 10 dc) dR),trivial⟩ ?_
 refine ob1 0 fun _ _ _ t=>(obl rfl ?_)
 have hi196:e.origin.toNat<e.deps.length:=bo
 exact zA (k:=1) (i:=e.origin) mT pT (t 1 dc) hde0.sl (t 4 dc) ⟨by omega,by omega⟩ dR
 refine ob1 0 fun _ _ (ak:Sep _ _ _ _) al=>(obl rfl ?_)
 have u:e.origin.toNat<e.deps.length:=bo
 obtain⟨Y,hxe205⟩:=hde0.intD u
 have Z:=ak.cells Y (hde0.foot (ne_of_lt u))
 exact lD (Iv ((e.deps.getD e.origin.toNat 0))) kT (al 5 dc) (Z.get (j:=0) rfl) dR
 refine ob1 0 fun _ _ _ am=>(obl rfl ?_)
 have an:InR (e.seq-1):=(by have J:=oe.seq;omega)
 exact YH (r:=e.seq-1) (k:=.i64) (a:=e.seq) (b:=1) (am 9 (by decide)) rfl (by rw[show(e.seq-1:Int)=e.seq-1 from rfl];exact zM an) dR
 intro vals w247 ao ap
 have d:Sep _ _ _ _:=ao
 have bh:=ap 11 dc
 refine zZ (kv:=[(1,Iv n),(2,Ix b2 0),(5,Iw k),(45,Iw k),(46,Iv n),(47,.bool false),(67,.bool (!decide ((e.deps.getD e.origin.toNat 0)=(e.seq-1))))]) ⟨rfl,rfl,rfl,rfl,rfl,rfl,(by exact bh),trivial⟩ (fun ρw247=>(zd ?_))
 cases g: !decide ((e.deps.getD e.origin.toNat 0)=(e.seq-1))
 have g:=zu g
 refine zg rfl (zl (za (za (zz kr (st (xS rfl (st (lD (Iv (e.op)) kT rfl (zb (d.b0) rfl) (st (zJ (k:=.i64) (a:=e.op) (b:=1) rfl rfl (st (mV (.bool (decide (e.op<1))) (stc (V:=Ix b2 7) rfl rfl (fun aq=>?_) ?_)))))))))))))
 have hl254:=fD aq
 exact xS rfl ⟨rfl,rfl⟩
 refine stc (V:=Iv (e.op)) rfl rfl (fun x=>?_) ?_
 have hl256:=fD x
 exact lD (Iv (e.op)) kT (if_pos x) (zb (d.b0) rfl) ⟨rfl,rfl⟩
 refine stc (V:=.bool (decide (5<e.op))) rfl rfl (fun y=>?_) ?_
 have hl258:=fD y
 exact yU (k:=.i64) (a:=e.op) (b:=5) (if_pos y) rfl ⟨rfl,rfl⟩
 refine st (zp (b:=decide (e.op<1)) (b':=decide (5<e.op)) rfl (fun hbp=>(if_pos hbp)) (zd ?_))
 cases z:(decide (e.op<1))||(decide (5<e.op))
 try simp only[ze]at z
 refine zg rfl (zl (za (za (zz kr (st (Zu rfl (st (lD (Iv (e.typ)) kT rfl (zb (d.b0) rfl) (st (zJ (k:=.i64) (a:=e.typ) (b:=0) rfl rfl (st (mV (.bool (decide (e.typ<0))) (stc (V:=Ix b2 4) rfl rfl (fun ar=>?_) ?_)))))))))))))
 have hl261:=fD ar
 exact Zu rfl ⟨rfl,rfl⟩
 refine stc (V:=Iv (e.typ)) rfl rfl (fun A=>?_) ?_
 have hl263:=fD A
 exact lD (Iv (e.typ)) kT (if_pos A) (zb (d.b0) rfl) ⟨rfl,rfl⟩
 refine stc (V:=.bool (decide (7<e.typ))) rfl rfl (fun B=>?_) ?_
 have hl265:=fD B
 exact yU (k:=.i64) (a:=e.typ) (b:=7) (if_pos B) rfl ⟨rfl,rfl⟩
 refine st (zp (b:=decide (e.typ<0)) (b':=decide (7<e.typ)) rfl (fun hbp=>(if_pos hbp)) (st (mV (.bool ((decide (e.typ<0))||(decide (7<e.typ)))) (stc (V:=Ix b2 6) rfl rfl (fun au=>?_) ?_))))
 have av:=au
 try simp only[ze]at av
 exact xW rfl ⟨rfl,rfl⟩
 refine stc (V:=Iv (e.field)) rfl rfl (fun C=>?_) ?_
 have aw:=C
 try simp only[ze]at aw
 exact lD (Iv (e.field)) kT (if_pos C) (zb (d.b0) rfl) ⟨rfl,rfl⟩
 refine stc (V:=.bool (decide (e.field<0))) rfl rfl (fun D=>?_) ?_
 have ax:=D
 try simp only[ze]at ax
 exact zJ (k:=.i64) (a:=e.field) (b:=0) (if_pos D) rfl ⟨rfl,rfl⟩
 refine st (zp (b:=(decide (e.typ<0))||(decide (7<e.typ))) (b':=decide (e.field<0)) rfl (fun hbp=>(if_pos hbp)) (st (mV (.bool (((decide (e.typ<0))||(decide (7<e.typ)))||(decide (e.field<0)))) (stc (V:=Ix b2 6) rfl rfl (fun ay=>?_) ?_))))
 have az:=ay
 try simp only[ze]at az
 exact xW rfl ⟨rfl,rfl⟩
 refine stc (V:=Iv (e.field)) rfl rfl (fun E=>?_) ?_
 have aA:=E
 try simp only[ze]at aA
 exact lD (Iv (e.field)) kT (if_pos E) (zb (d.b0) rfl) ⟨rfl,rfl⟩
 refine stc (V:=.bool (decide (7<e.field))) rfl rfl (fun F=>?_) ?_
 have aB:=F
 try simp only[ze]at aB
 exact yU (k:=.i64) (a:=e.field) (b:=7) (if_pos F) rfl ⟨rfl,rfl⟩
 refine st (zp (b:=((decide (e.typ<0))||(decide (7<e.typ)))||(decide (e.field<0))) (b':=decide (7<e.field)) rfl (fun hbp=>(if_pos hbp)) (zd ?_))
 cases H:(((decide (e.typ<0))||(decide (7<e.typ)))||(decide (e.field<0)))||(decide (7<e.field))
 try simp only[ze]at H
 refine zg rfl (zl (za (R0 fun _=>st (aS (Iv 0) (zd (zj (zK uT (show _=(Iv 0:Value)from rfl) ?_)))))))
 refine⟨0,rfl,?_,?_,(d.s1_)⟩
 decide
 intro J
 exact⟨⟨by omega,by omega,by omega,by omega⟩,fun i hi=>hm i om⟩
 try simp only[ze]at H
 refine zh rfl (za (R0 fun _=>st (aS (Iv 8) (zd (zj (zK uT (show _=(Iv 8:Value)from rfl) ?_))))))
 refine⟨8,rfl,?_,?_,(d.s1_)⟩
 decide
 intro J
 omega
 try simp only[ze]at z
 refine zh rfl (za (R0 fun _=>st (aS (Iv 2) (zd (zj (zK uT (show _=(Iv 2:Value)from rfl) ?_))))))
 refine⟨2,rfl,?_,?_,(d.s1_)⟩
 decide
 intro J
 omega
 have g:=zy g
 refine zh rfl (za (R0 fun _=>st (aS (Iv 9) (zd (zj (zK uT (show _=(Iv 9:Value)from rfl) ?_))))))
 refine⟨9,rfl,?_,?_,(d.s1_)⟩
 decide
 intro J
 omega
 have o:=tD o
 refine zh rfl (zl (za (zx (za (R0 fun _=>st (xf rfl (st (lD de0 nT rfl (zb (m.b0) rfl) (st (mV (Iw k) ?_))))))))))
 have aC:k<e.deps.length:=bo
 refine st (zm (k:=1) (i:=k) mT pT rfl hde0.sl rfl aC ?_)
 have I:k<e.deps.length:=bo
 obtain⟨aa,hxe284⟩:=hde0.intD I
 have ab:=m.cells aa (hde0.foot (ne_of_lt I))
 refine st (lD (Iv ((e.deps.getD k 0))) kT rfl (ab.get (j:=0) rfl) (st (zJ (k:=.i64) (a:=(e.deps.getD k 0)) (b:=0) rfl rfl (zd ?_))))
 cases l:decide ((e.deps.getD k 0)<0)
 have l:=fD l
 refine zg rfl (zl (R0 fun _=>st (mV (Iw k) ?_)))
 have aD:InR ((k+1:Nat):Int):=bo
 refine st (yb (r:=((k+1:Nat):Int)) (k:=.i64) (a:=((k:Nat):Int)) (b:=1) rfl rfl (by rw[show(((k:Nat):Int)+1:Int)=((k+1:Nat):Int)from bo];exact zM aD) (st (aS (Iw (k+1)) (zd ?_))))
 exact⟨_,by omega,k+1,_,rfl,sSf,by omega,(yV hm om),m⟩
 have l:=tD l
 refine zh rfl (za (R0 fun _=>st (aS (Iv 1) (zd (zj (zK uT (show _=(Iv 1:Value)from rfl) ?_))))))
 refine⟨1,rfl,?_,?_,(m.s1_)⟩
 decide
 intro J
 omega
 try simp only[ze]at X
 refine zh rfl (za (R0 fun _=>st (aS (Iv 1) (zd (zj (zK uT (show _=(Iv 1:Value)from rfl) ?_))))))
 refine⟨1,rfl,?_,?_,(f.s1_)⟩
 decide
 intro J
 omega
theorem JG {G:Nat→Prop}{W w:World}{Rs:List HP}{n:Int}(hn:InR n){vl:Value}{l:List Ev}(hl:RdS W G vl l)(hS0:Sep G W Rs w):Ret Tryz.prog 9 [.int .i64 (n),vl] w (fun r w'=> ∃(v:Value) (l2:List Ev),r=(v:Value)∧(l2.length≤60)∧(∀i,i<l2.length→Qf (l2.getD i default) n)∧Sep G W ((RowE (α:=Ev) (shr G W) 41 v l2)::Rs) w'):=by
 have hls:_*96≤_:=hl.small
 refine zi (args:=[Iv n,vl]) Tryz.func9 rfl rfl ?_
 refine za (R0 fun _=>st (aS (Iz) (zd (za (R0 fun _=>st (aS (Iz) (zd (za (za (R0 fun _=>st (aS (Iv 0) (zd (zx ?_)))))))))))))
 have aa:Sep G W ((RowE (α:=Ev) (shr G W) 41 (Iz) ([]:List Ev))::Rs) w:=hS0.rowNil (shr G W) 41
 refine yq (fun mq σ wq=> ∃(k:Nat) (vo:Value) (l2:List Ev) (ρ:Env),mq=l.length-k∧σ=yi ρ [(0,Iv n),(1,vl),(5,vo),(6,Iw k)]∧(k≤l.length)∧(l2.length≤60)∧(∀i,i<l2.length→Qf (l2.getD i default) n)∧Sep G W ((RowE (α:=Ev) (shr G W) 41 vo l2)::Rs) wq) ⟨0,(Iz),[],_,rfl,sSf,Nat.zero_le _,Nat.zero_le _,(fun i h=>absurd h (Nat.not_lt_zero i)),aa⟩ ?_
 rintro m3 σ4 w2 ⟨k,vo,l2,ρl1,rfl,rfl,hkk,u,hft,g⟩
 let ac:=zI W (sb vl) (so vl+k*10+3)
 have J:=g.r0
 have hr6s:_*96≤_:=J.2
 refine za (za (zz kr (st (mV (Iw k) (st (mV vl (st (zR (n:=l.length) qT rfl hl.sl (st (zJ (k:=.i64) (a:=((k:Nat):Int)) (b:=((l.length:Nat):Int)) rfl rfl (st (mV (.bool (decide (((k:Nat):Int)<((l.length:Nat):Int)))) (stc (V:=vo) rfl rfl (fun ab=>?_) ?_)))))))))))))
 have hl8:=tD ab
 exact mV vo ⟨rfl,rfl⟩
 refine stc (V:=Iw l2.length) rfl rfl (fun K=>?_) ?_
 have hl10:=tD K
 exact zR (n:=l2.length) qT (if_pos K) J.1 ⟨rfl,rfl⟩
 refine stc (V:=.bool (decide (((l2.length:Nat):Int)<60))) rfl rfl (fun x=>?_) ?_
 have hl12:=tD x
 exact zJ (k:=.i64) (a:=((l2.length:Nat):Int)) (b:=60) (if_pos x) rfl ⟨rfl,rfl⟩
 refine st (zC (b:=decide (((k:Nat):Int)<((l.length:Nat):Int))) (b':=decide (((l2.length:Nat):Int)<60)) rfl (fun hbp=>(if_pos hbp)) (zd ?_))
 cases y:(decide (((k:Nat):Int)<((l.length:Nat):Int)))&&(decide (((l2.length:Nat):Int)<60))
 try simp only[ze]at y
 refine zg rfl (yr (yg (za (R0 fun _=>st (mV vo (st (aS vo (zd (zj (zK Tryz.results9 (show _=(vo:Value)from rfl) ?_))))))))))
 refine⟨vo,l2,rfl,?_,?_,g⟩
 exact u
 exact hft
 try simp only[ze]at y
 refine zh rfl (zl (za (zx (za (zz kr (st (mV vl (st (mV (Iw k) ?_)))))))))
 have M:k<l.length:=bo
 refine st (zm (k:=10) (i:=k) qT lT rfl hl.sl rfl M (st (xf rfl ?_)))
 have m:k<l.length:=bo
 obtain⟨o,d,q⟩:=hl.evD m
 have hsm17:((l.getD k default).deps).length*8≤140737488355328:=d.small
 have D:=g.cells o (hl.foot (ne_of_lt m))
 refine st (lD ac nT rfl (D.get (j:=3) rfl) (st (zR (n:=((l.getD k default).deps).length) mT rfl d.sl (st (mV (Iv n) (st (yc (k:=.i64) (a:=((((l.getD k default).deps).length:Nat):Int)) (b:=n) rfl rfl (st (mV (.bool (decide (((((l.getD k default).deps).length:Nat):Int)=n))) (stc (V:=vl) rfl rfl (fun N=>?_) ?_))))))))))
 have hl20:=tD N
 exact mV vl ⟨rfl,rfl⟩
 refine stc (V:=Iw k) rfl rfl (fun O=>?_) ?_
 have hl22:=tD O
 exact mV (Iw k) ⟨rfl,rfl⟩
 refine stc (V:=Ix (sb vl) (so vl+k*10)) rfl rfl (fun s=>?_) ?_
 have hl24:=tD s
 have Q:k<l.length:=bo
 exact zm (k:=10) (i:=k) qT lT (if_pos s) hl.sl (if_pos s) Q ⟨rfl,rfl⟩
 refine stc (V:=.agg ((l.getD k default).cells ac).toArray) rfl rfl (fun z=>?_) ?_
 have hl27:=tD z
 have E:=g.cells o (hl.foot (ne_of_lt m))
 exact zf (k:=10) oT lT rfl (if_pos z) E ⟨rfl,rfl⟩
 refine stc (V:=Iv n) rfl rfl (fun R=>?_) ?_
 have hl31:=tD R
 exact mV (Iv n) ⟨rfl,rfl⟩
 cases f:decide (((((l.getD k default).deps).length:Nat):Int)=n)
 have hg32r:=f
 have f:=fD f
 refine stx rfl rfl (stx rfl rfl (st (zU (v:=.bool false) rfl rfl (zd (zg rfl (zl (R0 fun _=>st (mV (Iw k) ?_))))))))
 have S:InR ((k+1:Nat):Int):=bo
 refine st (yb (r:=((k+1:Nat):Int)) (k:=.i64) (a:=((k:Nat):Int)) (b:=1) rfl rfl (by rw[show(((k:Nat):Int)+1:Int)=((k+1:Nat):Int)from bo];exact zM S) (st (aS (Iw (k+1)) (zd ?_))))
 exact⟨_,by omega,k+1,vo,l2,_,rfl,sSf,by omega,u,hft,g⟩
 have f:=tD f
 refine sty rfl rfl (cL Tryz.call24 (Ky (e:=(l.getD k default)) (n:=n) d q hn g) ?_)
 rintro _ w37 ⟨A,rfl,hc935,F,t⟩
 refine sty rfl rfl (yc (k:=.i64) (a:=A) (b:=0) rfl rfl (st (yj (v:=.bool (decide (A=0))) rfl rfl (zd ?_))))
 cases p:decide (A=0)
 have p:=fD p
 refine zg rfl (zl (R0 fun _=>st (mV (Iw k) ?_)))
 have T:InR ((k+1:Nat):Int):=bo
 refine st (yb (r:=((k+1:Nat):Int)) (k:=.i64) (a:=((k:Nat):Int)) (b:=1) rfl rfl (by rw[show(((k:Nat):Int)+1:Int)=((k+1:Nat):Int)from bo];exact zM T) (st (aS (Iw (k+1)) (zd ?_))))
 exact⟨_,by omega,k+1,vo,l2,_,rfl,sSf,by omega,u,hft,t⟩
 have p:=tD p
 refine zh rfl (R0 fun _=>st (mV vo (st (mV vl (st (mV (Iw k) ?_))))))
 have U:k<l.length:=bo
 refine st (zm (k:=10) (i:=k) qT lT rfl hl.sl rfl U ?_)
 have H:=t.cells o (hl.foot (ne_of_lt m))
 refine st (zf (k:=10) oT lT rfl rfl H (st (zY (k:=10) (parts':=[(0,.agg ((l.getD k default).cells ac).toArray)]) (c:=((l.getD k default).cells ac).toArray) qT lT rT dc rfl kr ?_)))
 intro w46 b45 X
 have B:=t.new X
 have I:=B.b0
 refine st (xg (src:=(shr G W)) (bytes:=96) (x1:=(l.getD k default)) ((B.s2_b).emp1) zbn rfl rfl I (fun _ _ _=>(show _ from⟨_,rfl,d,q⟩)) yqb rfl ?_)
 intro L w48 C
 have Y:=C.r0
 have hr54s:_*96≤_:=Y.2
 refine st (aS L (zd (R0 fun _=>st (mV (Iw k) ?_))))
 have Z:InR ((k+1:Nat):Int):=bo
 refine st (yb (r:=((k+1:Nat):Int)) (k:=.i64) (a:=((k:Nat):Int)) (b:=1) rfl rfl (by rw[show(((k:Nat):Int)+1:Int)=((k+1:Nat):Int)from bo];exact zM Z) (st (aS (Iw (k+1)) (zd ?_))))
 exact⟨_,by omega,k+1,L,(l2++[(l.getD k default)]),_,rfl,sSf,by omega,(by rw[List.length_append,List.length_singleton];omega),(JM (P:=fun e=>Qf e n) hft (F (by omega))),C⟩
theorem ZG {G:Nat→Prop}{W w:World}{Rs:List HP}{a:Ev}{da0:Value}(hda0:RdS W G da0 a.deps)(oa:a.Ok){b:Ev}{db0:Value}(hdb0:RdS W G db0 b.deps)(ob:b.Ok)(hS0:Sep G W Rs w):Ret Tryz.prog 17 [.agg (a.cells da0).toArray,.agg (b.cells db0).toArray] w (fun r w'=>r=(.bool (decide (a=b)):Value)∧Sep G W Rs w'):=by
 have hda0s:_*8≤_:=hda0.small
 have hdb0s:_*8≤_:=hdb0.small
 refine zi (args:=[.agg (a.cells da0).toArray,.agg (b.cells db0).toArray]) Tryz.func17 rfl rfl ?_
 refine za (R0 fun _=>st (zN (v:=.agg (a.cells da0).toArray) rfl ?_))
 intro w3 b2 aX
 refine st (zN (v:=.agg (b.cells db0).toArray) rfl ?_)
 intro w7 g aY
 have d:=(hS0.new aX).new aY
 refine st (aS (.bool false) (zd (za (zz kr (st (yD rfl (st (zf (k:=2) (cs:=[Iv (a.origin),Iv (a.seq)]) tT sT rfl rfl (CellsAt.sub (CellsAt.all (d.b1)) 0 (cs2:=[Iv (a.origin),Iv (a.seq)]) rfl) (st (yD rfl (st (zf (k:=2) (cs:=[Iv (b.origin),Iv (b.seq)]) tT sT rfl rfl (CellsAt.sub (CellsAt.all (d.b0)) 0 (cs2:=[Iv (b.origin),Iv (b.seq)]) rfl) (st (Ys (e:=decide (a.origin=b.origin∧a.seq=b.seq)) (xs:=#[Iv (a.origin),Iv (a.seq)]) (ys:=#[Iv (b.origin),Iv (b.seq)]) eqS38 rfl rfl (st (mV (.bool (decide (a.origin=b.origin∧a.seq=b.seq))) (stc (V:=Ix b2 2) rfl rfl (fun aZ=>?_) ?_)))))))))))))))))
 have hl10:=tD aZ
 exact Zi rfl ⟨rfl,rfl⟩
 refine stc (V:=Iv (a.lam)) rfl rfl (fun q=>?_) ?_
 have hl12:=tD q
 exact lD (Iv (a.lam)) kT (if_pos q) (zb (d.b1) rfl) ⟨rfl,rfl⟩
 refine stc (V:=Ix g 2) rfl rfl (fun M=>?_) ?_
 have hl14:=tD M
 exact Zi rfl ⟨rfl,rfl⟩
 refine stc (V:=Iv (b.lam)) rfl rfl (fun s=>?_) ?_
 have hl16:=tD s
 exact lD (Iv (b.lam)) kT (if_pos s) (zb (d.b0) rfl) ⟨rfl,rfl⟩
 refine stc (V:=.bool (decide (a.lam=b.lam))) rfl rfl (fun h=>?_) ?_
 have hl18:=tD h
 exact yc (k:=.i64) (a:=a.lam) (b:=b.lam) (if_pos h) (if_pos h) ⟨rfl,rfl⟩
 refine st (zC (b:=decide (a.origin=b.origin∧a.seq=b.seq)) (b':=decide (a.lam=b.lam)) rfl (fun hbp=>(if_pos hbp)) (st (mV (.bool ((decide (a.origin=b.origin∧a.seq=b.seq))&&(decide (a.lam=b.lam)))) (stc (V:=Ix b2 3) rfl rfl (fun N=>?_) ?_))))
 have O:=N
 try simp only[ze]at O
 exact xf rfl ⟨rfl,rfl⟩
 refine stc (V:=da0) rfl rfl (fun t=>?_) ?_
 have P:=t
 try simp only[ze]at P
 exact lD da0 nT (if_pos t) (zb (d.b1) rfl) ⟨rfl,rfl⟩
 refine stc (V:=Ix g 3) rfl rfl (fun Q=>?_) ?_
 have R:=Q
 try simp only[ze]at R
 exact xf rfl ⟨rfl,rfl⟩
 refine stc (V:=db0) rfl rfl (fun u=>?_) ?_
 have S:=u
 try simp only[ze]at S
 exact lD db0 nT (if_pos u) (zb (d.b0) rfl) ⟨rfl,rfl⟩
 refine stcw (V:=.bool (decide (a.deps=b.deps))) (fun _ wq=>Sep G W ((Blk g (b.cells db0).toArray 41)::(Blk b2 (a.cells da0).toArray 41)::Rs) wq) d rfl rfl (fun i=>?_) (fun w31 c=>?_)
 have T:=i
 try simp only[ze]at T
 refine(zG (f:=42) (vals:=[da0,db0]) (cap:=[]) rfl (yK ⟨(if_pos i),(if_pos i),trivial⟩) Tryz.call42 (Xv (a:=a.deps) (va:=da0) (b:=b.deps) (vb:=db0) hda0 hdb0 d) ?_)
 rintro _ w29 ⟨rfl,U⟩
 exact⟨rfl,U⟩
 refine st (zC (b:=(decide (a.origin=b.origin∧a.seq=b.seq))&&(decide (a.lam=b.lam))) (b':=decide (a.deps=b.deps)) rfl (fun hbp=>(if_pos hbp)) (st (mV (.bool (((decide (a.origin=b.origin∧a.seq=b.seq))&&(decide (a.lam=b.lam)))&&(decide (a.deps=b.deps)))) (stc (V:=Ix b2 4) rfl rfl (fun X=>?_) ?_))))
 have Y:=X
 try simp only[ze]at Y
 exact Zu rfl ⟨rfl,rfl⟩
 refine stc (V:=Iv (a.typ)) rfl rfl (fun x=>?_) ?_
 have Z:=x
 try simp only[ze]at Z
 exact lD (Iv (a.typ)) kT (if_pos x) (zb (c.b1) rfl) ⟨rfl,rfl⟩
 refine stc (V:=Ix g 4) rfl rfl (fun aa=>?_) ?_
 have ab:=aa
 try simp only[ze]at ab
 exact Zu rfl ⟨rfl,rfl⟩
 refine stc (V:=Iv (b.typ)) rfl rfl (fun y=>?_) ?_
 have ac:=y
 try simp only[ze]at ac
 exact lD (Iv (b.typ)) kT (if_pos y) (zb (c.b0) rfl) ⟨rfl,rfl⟩
 refine stc (V:=.bool (decide (a.typ=b.typ))) rfl rfl (fun j=>?_) ?_
 have ad:=j
 try simp only[ze]at ad
 exact yc (k:=.i64) (a:=a.typ) (b:=b.typ) (if_pos j) (if_pos j) ⟨rfl,rfl⟩
 refine st (zC (b:=((decide (a.origin=b.origin∧a.seq=b.seq))&&(decide (a.lam=b.lam)))&&(decide (a.deps=b.deps))) (b':=decide (a.typ=b.typ)) rfl (fun hbp=>(if_pos hbp)) (st (mV (.bool ((((decide (a.origin=b.origin∧a.seq=b.seq))&&(decide (a.lam=b.lam)))&&(decide (a.deps=b.deps)))&&(decide (a.typ=b.typ)))) (stc (V:=Ix b2 5) rfl rfl (fun ae=>?_) ?_))))
 have af:=ae
 try simp only[ze]at af
 exact Xp rfl ⟨rfl,rfl⟩
 refine stc (V:=Iv (a.agg)) rfl rfl (fun z=>?_) ?_
 have ag:=z
 try simp only[ze]at ag
 exact lD (Iv (a.agg)) kT (if_pos z) (zb (c.b1) rfl) ⟨rfl,rfl⟩
 refine stc (V:=Ix g 5) rfl rfl (fun ah=>?_) ?_
 have ai:=ah
 try simp only[ze]at ai
 exact Xp rfl ⟨rfl,rfl⟩
 refine stc (V:=Iv (b.agg)) rfl rfl (fun A=>?_) ?_
 have aj:=A
 try simp only[ze]at aj
 exact lD (Iv (b.agg)) kT (if_pos A) (zb (c.b0) rfl) ⟨rfl,rfl⟩
 refine stc (V:=.bool (decide (a.agg=b.agg))) rfl rfl (fun l=>?_) ?_
 have ak:=l
 try simp only[ze]at ak
 exact yc (k:=.i64) (a:=a.agg) (b:=b.agg) (if_pos l) (if_pos l) ⟨rfl,rfl⟩
 refine st (zC (b:=(((decide (a.origin=b.origin∧a.seq=b.seq))&&(decide (a.lam=b.lam)))&&(decide (a.deps=b.deps)))&&(decide (a.typ=b.typ))) (b':=decide (a.agg=b.agg)) rfl (fun hbp=>(if_pos hbp)) (st (mV (.bool (((((decide (a.origin=b.origin∧a.seq=b.seq))&&(decide (a.lam=b.lam)))&&(decide (a.deps=b.deps)))&&(decide (a.typ=b.typ)))&&(decide (a.agg=b.agg)))) (stc (V:=Ix b2 6) rfl rfl (fun al=>?_) ?_))))
 have am:=al
 try simp only[ze]at am
 exact xW rfl ⟨rfl,rfl⟩
 refine stc (V:=Iv (a.field)) rfl rfl (fun B=>?_) ?_
 have an:=B
 try simp only[ze]at an
 exact lD (Iv (a.field)) kT (if_pos B) (zb (c.b1) rfl) ⟨rfl,rfl⟩
 refine stc (V:=Ix g 6) rfl rfl (fun ao=>?_) ?_
 have ap:=ao
 try simp only[ze]at ap
 exact xW rfl ⟨rfl,rfl⟩
 refine stc (V:=Iv (b.field)) rfl rfl (fun C=>?_) ?_
 have aq:=C
 try simp only[ze]at aq
 exact lD (Iv (b.field)) kT (if_pos C) (zb (c.b0) rfl) ⟨rfl,rfl⟩
 refine stc (V:=.bool (decide (a.field=b.field))) rfl rfl (fun m=>?_) ?_
 have ar:=m
 try simp only[ze]at ar
 exact yc (k:=.i64) (a:=a.field) (b:=b.field) (if_pos m) (if_pos m) ⟨rfl,rfl⟩
 refine st (zC (b:=((((decide (a.origin=b.origin∧a.seq=b.seq))&&(decide (a.lam=b.lam)))&&(decide (a.deps=b.deps)))&&(decide (a.typ=b.typ)))&&(decide (a.agg=b.agg))) (b':=decide (a.field=b.field)) rfl (fun hbp=>(if_pos hbp)) (st (mV (.bool ((((((decide (a.origin=b.origin∧a.seq=b.seq))&&(decide (a.lam=b.lam)))&&(decide (a.deps=b.deps)))&&(decide (a.typ=b.typ)))&&(decide (a.agg=b.agg)))&&(decide (a.field=b.field)))) (stc (V:=Ix b2 7) rfl rfl (fun au=>?_) ?_))))
 have av:=au
 try simp only[ze]at av
 exact xS rfl ⟨rfl,rfl⟩
 refine stc (V:=Iv (a.op)) rfl rfl (fun D=>?_) ?_
 have aw:=D
 try simp only[ze]at aw
 exact lD (Iv (a.op)) kT (if_pos D) (zb (c.b1) rfl) ⟨rfl,rfl⟩
 refine stc (V:=Ix g 7) rfl rfl (fun ax=>?_) ?_
 have ay:=ax
 try simp only[ze]at ay
 exact xS rfl ⟨rfl,rfl⟩
 refine stc (V:=Iv (b.op)) rfl rfl (fun E=>?_) ?_
 have az:=E
 try simp only[ze]at az
 exact lD (Iv (b.op)) kT (if_pos E) (zb (c.b0) rfl) ⟨rfl,rfl⟩
 refine stc (V:=.bool (decide (a.op=b.op))) rfl rfl (fun n=>?_) ?_
 have aA:=n
 try simp only[ze]at aA
 exact yc (k:=.i64) (a:=a.op) (b:=b.op) (if_pos n) (if_pos n) ⟨rfl,rfl⟩
 refine st (zC (b:=(((((decide (a.origin=b.origin∧a.seq=b.seq))&&(decide (a.lam=b.lam)))&&(decide (a.deps=b.deps)))&&(decide (a.typ=b.typ)))&&(decide (a.agg=b.agg)))&&(decide (a.field=b.field))) (b':=decide (a.op=b.op)) rfl (fun hbp=>(if_pos hbp)) (st (mV (.bool (((((((decide (a.origin=b.origin∧a.seq=b.seq))&&(decide (a.lam=b.lam)))&&(decide (a.deps=b.deps)))&&(decide (a.typ=b.typ)))&&(decide (a.agg=b.agg)))&&(decide (a.field=b.field)))&&(decide (a.op=b.op)))) (stc (V:=Ix b2 8) rfl rfl (fun aB=>?_) ?_))))
 have aC:=aB
 try simp only[ze]at aC
 exact Zo rfl ⟨rfl,rfl⟩
 refine stc (V:=Iv (a.arg)) rfl rfl (fun F=>?_) ?_
 have aD:=F
 try simp only[ze]at aD
 exact lD (Iv (a.arg)) kT (if_pos F) (zb (c.b1) rfl) ⟨rfl,rfl⟩
 refine stc (V:=Ix g 8) rfl rfl (fun aE=>?_) ?_
 have aF:=aE
 try simp only[ze]at aF
 exact Zo rfl ⟨rfl,rfl⟩
 refine stc (V:=Iv (b.arg)) rfl rfl (fun H=>?_) ?_
 have aG:=H
 try simp only[ze]at aG
 exact lD (Iv (b.arg)) kT (if_pos H) (zb (c.b0) rfl) ⟨rfl,rfl⟩
 refine stc (V:=.bool (decide (a.arg=b.arg))) rfl rfl (fun o=>?_) ?_
 have aH:=o
 try simp only[ze]at aH
 exact yc (k:=.i64) (a:=a.arg) (b:=b.arg) (if_pos o) (if_pos o) ⟨rfl,rfl⟩
 refine st (zC (b:=((((((decide (a.origin=b.origin∧a.seq=b.seq))&&(decide (a.lam=b.lam)))&&(decide (a.deps=b.deps)))&&(decide (a.typ=b.typ)))&&(decide (a.agg=b.agg)))&&(decide (a.field=b.field)))&&(decide (a.op=b.op))) (b':=decide (a.arg=b.arg)) rfl (fun hbp=>(if_pos hbp)) (st (mV (.bool ((((((((decide (a.origin=b.origin∧a.seq=b.seq))&&(decide (a.lam=b.lam)))&&(decide (a.deps=b.deps)))&&(decide (a.typ=b.typ)))&&(decide (a.agg=b.agg)))&&(decide (a.field=b.field)))&&(decide (a.op=b.op)))&&(decide (a.arg=b.arg)))) (stc (V:=Ix b2 9) rfl rfl (fun aI=>?_) ?_))))
 have aJ:=aI
 try simp only[ze]at aJ
 exact YF rfl ⟨rfl,rfl⟩
 refine stc (V:=Iv (a.key)) rfl rfl (fun I=>?_) ?_
 have aK:=I
 try simp only[ze]at aK
 exact lD (Iv (a.key)) kT (if_pos I) (zb (c.b1) rfl) ⟨rfl,rfl⟩
 refine stc (V:=Ix g 9) rfl rfl (fun aL=>?_) ?_
 have aM:=aL
 try simp only[ze]at aM
 exact YF rfl ⟨rfl,rfl⟩
 refine stc (V:=Iv (b.key)) rfl rfl (fun J=>?_) ?_
 have aN:=J
 try simp only[ze]at aN
 exact lD (Iv (b.key)) kT (if_pos J) (zb (c.b0) rfl) ⟨rfl,rfl⟩
 refine stc (V:=.bool (decide (a.key=b.key))) rfl rfl (fun p=>?_) ?_
 have aO:=p
 try simp only[ze]at aO
 exact yc (k:=.i64) (a:=a.key) (b:=b.key) (if_pos p) (if_pos p) ⟨rfl,rfl⟩
 refine st (zC (b:=(((((((decide (a.origin=b.origin∧a.seq=b.seq))&&(decide (a.lam=b.lam)))&&(decide (a.deps=b.deps)))&&(decide (a.typ=b.typ)))&&(decide (a.agg=b.agg)))&&(decide (a.field=b.field)))&&(decide (a.op=b.op)))&&(decide (a.arg=b.arg))) (b':=decide (a.key=b.key)) rfl (fun hbp=>(if_pos hbp)) (st (aS (.bool (((((((((decide (a.origin=b.origin∧a.seq=b.seq))&&(decide (a.lam=b.lam)))&&(decide (a.deps=b.deps)))&&(decide (a.typ=b.typ)))&&(decide (a.agg=b.agg)))&&(decide (a.field=b.field)))&&(decide (a.op=b.op)))&&(decide (a.arg=b.arg)))&&(decide (a.key=b.key)))) (zd (zj (zK Tryz.results17 (show _=(.bool (((((((((decide (a.origin=b.origin∧a.seq=b.seq))&&(decide (a.lam=b.lam)))&&(decide (a.deps=b.deps)))&&(decide (a.typ=b.typ)))&&(decide (a.agg=b.agg)))&&(decide (a.field=b.field)))&&(decide (a.op=b.op)))&&(decide (a.arg=b.arg)))&&(decide (a.key=b.key))):Value)from rfl) ?_))))))
 refine⟨?_,(c.s2_)⟩
 congr 1
 rw[Bool.eq_iff_iff]
 simp only[Bool.and_eq_true,decide_eq_true_eq,Ev.eq_iff]
 constructor
 rintro⟨⟨⟨⟨⟨⟨⟨⟨L,h3⟩,h4⟩,h5⟩,h6⟩,h7⟩,h8⟩,h9⟩,K⟩;exact⟨L.1,L.2,h3,h4,h5,h6,h7,h8,h9,K⟩
 rintro⟨L,h2,h3,h4,h5,h6,h7,h8,h9,K⟩;exact⟨⟨⟨⟨⟨⟨⟨⟨⟨L,h2⟩,h3⟩,h4⟩,h5⟩,h6⟩,h7⟩,h8⟩,h9⟩,K⟩
def xj (d:Dcl)(c:Cmd):Int:=if((decide (c.cagg<0)||decide (c.ckey<0))||decide (c.expect< -1))=true then 1 else xc d c.ctyp c.cfield c.cop c.carg
def zT (a b:List Int):List Int:=(List.range (max a.length b.length)).map fun i=>max (yt a ((i:Nat):Int)) (yt b ((i:Nat):Int))
theorem YO (a b:List Int):(zT a b).length=max a.length b.length:=by unfold zT;rw[List.length_map,List.length_range]
theorem Vs {a b:List Int}{k:Nat}(h:k<max a.length b.length):(zT a b).getD k 0=max (yt a ((k:Nat):Int)) (yt b ((k:Nat):Int)):=by
 unfold zT
 rw[zF _ (by rw[List.length_map,List.length_range];exact h),List.getElem_map,List.getElem_range]
def evN (o:Int)(v:List Int)(lam:Int):Int:=if((decide (o<0)||decide (((v.length:Nat):Int)≤o))||decide (lam<0))=true then 1 else if(decide (yt v o=9223372036854775807)||decide (lam=9223372036854775807))=true then 13 else 0
def ev0:Ev:=⟨0,0,0,[],0,0,0,0,0,0⟩
def evY (c:Cmd)(o:Int)(v:List Int)(lam:Int):Ev:=⟨o,yt v o+1,lam+1,zT v [],c.ctyp,c.cagg,c.cfield,c.cop,c.carg,c.ckey⟩
def evE (c:Cmd)(o:Int)(v:List Int)(lam:Int):Ev:=if evN o v lam=0 then evY c o v lam else ev0
theorem WS:ev0.Ok:=by constructor<;>decide
theorem zbl {c:Cmd}{o lam:Int}{v:List Int}(oc:c.Ok)(ho:InR o)(hv:InR (yt v o))(hl:InR lam):(evE c o v lam).Ok:=by
 unfold evE
 split
 ·rename_i h
  unfold evN at h
  split at h
  ·cases h
  split at h
  ·cases h
  rename_i h2
  simp only[Bool.or_eq_true,decide_eq_true_eq,not_or]at h2
  exact⟨ho,show InR (_+1) by omega,show InR (lam+1) by omega,oc.ctyp,oc.cagg,oc.cfield,oc.cop,oc.carg,oc.ckey⟩
 ·exact WS
theorem Kn {G:Nat→Prop}{W w:World}{Rs:List HP}{d:Dcl}{dd0:Value}(hdd0:RdS W G dd0 d.types){dd1:Value}(hdd1:RdS W G dd1 d.projs)(od:d.Ok){c:Cmd}(oc:c.Ok)(hKN:RdS W G (.slice (some ⟨0,0,none⟩) 6 6) kindsL)(hS0:Sep G W Rs w):Ret Tryz.prog 27 [.agg (d.cells dd0 dd1).toArray,.agg (c.cells).toArray] w (fun r w'=>r=(.int .i64 (xj d c):Value)∧Sep G W Rs w'):=by
 have hdd0s:_*24≤_:=hdd0.small
 have hdd1s:_*40≤_:=hdd1.small
 have hKNs:_*8≤_:=hKN.small
 refine zi (args:=[.agg (d.cells dd0 dd1).toArray,.agg (c.cells).toArray]) Tryz.func27 rfl rfl ?_
 refine za (R0 fun _=>st (zN (v:=.agg (d.cells dd0 dd1).toArray) rfl ?_))
 intro w3 b2 t
 refine st (zN (v:=.agg (c.cells).toArray) rfl ?_)
 intro w7 u x
 have e:=(hS0.new t).new x
 refine st (aS (Iv 0) (zd (za (za (zz kr (st (Xs rfl (st (lD (Iv (c.cagg)) kT rfl (zb (e.b0) rfl) (st (zJ (k:=.i64) (a:=c.cagg) (b:=0) rfl rfl (st (mV (.bool (decide (c.cagg<0))) (stc (V:=Ix u 6) rfl rfl (fun y=>?_) ?_))))))))))))))
 have hl10:=fD y
 exact YK rfl ⟨rfl,rfl⟩
 refine stc (V:=Iv (c.ckey)) rfl rfl (fun i=>?_) ?_
 have hl12:=fD i
 exact lD (Iv (c.ckey)) kT (if_pos i) (zb (e.b0) rfl) ⟨rfl,rfl⟩
 refine stc (V:=.bool (decide (c.ckey<0))) rfl rfl (fun j=>?_) ?_
 have hl14:=fD j
 exact zJ (k:=.i64) (a:=c.ckey) (b:=0) (if_pos j) rfl ⟨rfl,rfl⟩
 refine st (zp (b:=decide (c.cagg<0)) (b':=decide (c.ckey<0)) rfl (fun hbp=>(if_pos hbp)) (st (mV (.bool ((decide (c.cagg<0))||(decide (c.ckey<0)))) (stc (V:=Ix u 5) rfl rfl (fun n=>?_) ?_))))
 have o:=n
 try simp only[ze]at o
 exact Yk rfl ⟨rfl,rfl⟩
 refine stc (V:=Iv (c.expect)) rfl rfl (fun l=>?_) ?_
 have p:=l
 try simp only[ze]at p
 exact lD (Iv (c.expect)) kT (if_pos l) (zb (e.b0) rfl) ⟨rfl,rfl⟩
 refine stc (V:=.bool (decide (c.expect<(-1)))) rfl rfl (fun m=>?_) ?_
 have q:=m
 try simp only[ze]at q
 exact zJ (k:=.i64) (a:=c.expect) (b:= -1) (if_pos m) rfl ⟨rfl,rfl⟩
 refine st (zp (b:=(decide (c.cagg<0))||(decide (c.ckey<0))) (b':=decide (c.expect<(-1))) rfl (fun hbp=>(if_pos hbp)) (zd ?_))
 cases g:((decide (c.cagg<0))||(decide (c.ckey<0)))||(decide (c.expect<(-1)))
 have h:=g
 try simp only[ze]at g
 refine zg rfl (zl (za (R0 fun _=>st (zf (k:=2) kR lR rfl rfl (CellsAt.all (e.b1)) (st (ZO rfl (st (lD (Iv (c.ctyp)) kT rfl (zb (e.b0) rfl) (st (Vm rfl (st (lD (Iv (c.cfield)) kT rfl (zb (e.b0) rfl) (st (WC rfl (st (lD (Iv (c.cop)) kT rfl (zb (e.b0) rfl) (st (XA rfl (st (lD (Iv (c.carg)) kT rfl (zb (e.b0) rfl) (st (cL Tryz.call51 (JW (d:=d) (ty:=c.ctyp) (f:=c.cfield) (op:=c.cop) (arg:=c.carg) hdd0 hdd1 od oc.ctyp oc.cfield oc.cop oc.carg hKN e) ?_))))))))))))))))))))))
 rintro _ w22 ⟨rfl,s⟩
 refine st (aS (Iv (xc d c.ctyp c.cfield c.cop c.carg)) (zd (zj (zK lY (show _=(Iv (xc d c.ctyp c.cfield c.cop c.carg):Value)from rfl) ?_))))
 refine⟨?_,(s.s2_)⟩
 unfold xj
 simp only[h,if_true,if_false,Bool.false_eq_true,↓reduceIte]
 have h:=g
 try simp only[ze]at g
 refine zh rfl (za (R0 fun _=>st (aS (Iv 1) (zd (zj (zK lY (show _=(Iv 1:Value)from rfl) ?_))))))
 refine⟨?_,(e.s2_)⟩
 unfold xj
 simp only[h,if_true,if_false,Bool.false_eq_true,↓reduceIte]
theorem UV {G:Nat→Prop}{W w:World}{Rs:List HP}{va:Value}{a:List Int}(ha:RdS W G va a){vb:Value}{b:List Int}(hb:RdS W G vb b)(hS0:Sep G W Rs w):Ret Tryz.prog 54 [va,vb] w (fun r w'=> ∃(v:Value),r=(v:Value)∧Sep G W ((RowE (α:=Int) own 3 v (zT a b))::Rs) w'):=by
 have has:_*8≤_:=ha.small
 have hbs:_*8≤_:=hb.small
 refine zi (args:=[va,vb]) Tryz.func54 rfl rfl ?_
 refine za (R0 fun _=>st (aS (Iz) (zd (za (R0 fun _=>st (aS (Iz) (zd (za (za (R0 fun _=>st (mV va (st (zR (n:=a.length) mT rfl ha.sl (st (mV vb (st (zR (n:=b.length) mT rfl hb.sl (st (YE (k:=.i64) (a:=((a.length:Nat):Int)) (b:=((b.length:Nat):Int)) rfl rfl (st (mV (Iv 0) (zd (zx ?_)))))))))))))))))))))))
 have u:Sep G W ((RowE (α:=Int) own 3 (Iz) ([]:List Int))::Rs) w:=hS0.rowNil own 3
 refine yq (fun mq σ y=> ∃(k:Nat) (vo:Value) (ρ:Env),mq=(max a.length b.length)-k∧σ=yi ρ [(0,va),(1,vb),(4,(Iz)),(11,Iv (max ((a.length:Nat):Int) ((b.length:Nat):Int))),(12,Iw k),(5,vo)]∧(k≤(max a.length b.length))∧Sep G W ((RowE (α:=Int) own 3 vo ((zT a b).take k))::Rs) y) ⟨0,(Iz),_,rfl,sSf,Nat.zero_le _,u⟩ ?_
 rintro m3 σ4 w2 ⟨k,vo,ρl1,rfl,rfl,hkk,f⟩
 have x:=f.r0
 have hr6s:_*8≤_:=x.2
 refine za (R0 fun _=>st (zJ (k:=.i64) (a:=((k:Nat):Int)) (b:=max ((a.length:Nat):Int) ((b.length:Nat):Int)) rfl rfl (zd (za ?_))))
 cases g:decide (((k:Nat):Int)<(max ((a.length:Nat):Int) ((b.length:Nat):Int)))
 have g:=fD g
 refine zg rfl (yr (yg (za (R0 fun _=>st (mV vo (st (aS vo (zd (zj (zK Tryz.results54 (show _=(vo:Value)from rfl) ?_))))))))))
 have hk9:k=max a.length b.length:=by omega
 rw[List.take_of_length_le (by rw[YO];omega)]at f
 refine⟨vo,rfl,f⟩
 have g:=tD g
 refine zh rfl (zl (za (zx (za (R0 fun _=>st (mV (Iw k) (st (aS (Iw k) (zd (R0 fun _=>st (mV vo (st (mV va (st (mV (Iw k) (st (cL rR (WK (v:=a) (vv:=va) (o:=((k:Nat):Int)) ha om f) ?_)))))))))))))))))
 rintro _ w9 ⟨rfl,hg8,l⟩
 refine st (mV vb (st (mV (Iw k) (st (cL rR (WK (v:=b) (vv:=vb) (o:=((k:Nat):Int)) hb om l) ?_)))))
 rintro _ w12 ⟨rfl,hg11,m⟩
 refine st (YE (k:=.i64) (a:=yt a ((k:Nat):Int)) (b:=yt b ((k:Nat):Int)) rfl rfl (st (zY (k:=1) (parts':=[(0,Iv (max (yt a ((k:Nat):Int)) (yt b ((k:Nat):Int))))]) (c:=#[Iv (max (yt a ((k:Nat):Int)) (yt b ((k:Nat):Int)))]) mT pT Tryz.zeroValue3 dc rfl kr ?_)))
 intro w16 b15 p
 have h:=m.new p
 have i:=h.b0
 refine st (xg (src:=own) (bytes:=8) (x1:=max (yt a ((k:Nat):Int)) (yt b ((k:Nat):Int))) ((h.s2_b).emp1) el39 rfl rfl i (fun _ _ _=>(show _ from⟨rfl,(by have h1:InR (yt a ((k:Nat):Int)):=(by omega);have h2:InR (yt b ((k:Nat):Int)):=(by omega);omega)⟩)) yqb rfl ?_)
 intro j w18 e
 have q:=e.r0
 have hr24s:_*8≤_:=q.2
 refine st (aS j (zd (R0 fun _=>?_)))
 have s:InR ((k+1:Nat):Int):=bo
 refine st (yb (r:=((k+1:Nat):Int)) (k:=.i64) (a:=((k:Nat):Int)) (b:=1) rfl rfl (by rw[show(((k:Nat):Int)+1:Int)=((k+1:Nat):Int)from bo];exact zM s) (st (mV (Iw (k+1)) (zd ?_))))
 have t:((zT a b).take (k+1))=((zT a b).take k)++[max (yt a ((k:Nat):Int)) (yt b ((k:Nat):Int))]:=(by rw[List.take_getD (d:=0) (by rw[YO];omega),Vs (by omega)])
 rw[←t]at e
 exact⟨_,by omega,k+1,j,_,rfl,sSf,by omega,e⟩
theorem Vz {G:Nat→Prop}{W w:World}{Rs:List HP}{c:Cmd}(oc:c.Ok){o:Int}(ho:InR o){vv:Value}{v:List Int}(hv:RdS W G vv v){lam:Int}(hlam:InR lam)(hS0:Sep G W Rs w):Ret Tryz.prog 32 [.agg (c.cells).toArray,.int .i64 (o),vv,.int .i64 (lam)] w (fun r w'=> ∃(vd:Value),r=(.tuple #[.agg ((evE c o v lam).cells vd).toArray,.int .i64 ((evN o v lam))]:Value)∧Sep G W ((RowE (α:=Int) own 3 vd ((evE c o v lam).deps))::Rs) w'):=by
 have hvs:_*8≤_:=hv.small
 refine zi (args:=[.agg (c.cells).toArray,Iv o,vv,Iv lam]) Tryz.func32 rfl rfl ?_
 refine za (R0 fun _=>st (zN (v:=.agg (c.cells).toArray) rfl ?_))
 intro w3 b2 cl
 refine st (zt rT ?_)
 intro w7 b6 cm
 have az:=(hS0.new cl).new cm
 refine st (aS (Iv 0) (zd (za (za (zz kr (st (mV (Iv o) (st (zJ (k:=.i64) (a:=o) (b:=0) rfl rfl (st (mV (.bool (decide (o<0))) (stc (V:=Iv o) rfl rfl (fun cn=>?_) ?_))))))))))))
 have hl10:=fD cn
 exact mV (Iv o) ⟨rfl,rfl⟩
 refine stc (V:=vv) rfl rfl (fun bS=>?_) ?_
 have hl12:=fD bS
 exact mV vv ⟨rfl,rfl⟩
 refine stc (V:=Iw v.length) rfl rfl (fun aA=>?_) ?_
 have hl14:=fD aA
 exact zR (n:=v.length) mT (if_pos aA) hv.sl ⟨rfl,rfl⟩
 refine stc (V:=.bool (decide (((v.length:Nat):Int)≤o))) rfl rfl (fun af=>?_) ?_
 have hl16:=fD af
 exact xv (k:=.i64) (a:=o) (b:=((v.length:Nat):Int)) (if_pos af) (if_pos af) ⟨rfl,rfl⟩
 refine st (zp (b:=decide (o<0)) (b':=decide (((v.length:Nat):Int)≤o)) rfl (fun hbp=>(if_pos hbp)) (st (mV (.bool ((decide (o<0))||(decide (((v.length:Nat):Int)≤o)))) (stc (V:=Iv lam) rfl rfl (fun bT=>?_) ?_))))
 have bU:=bT
 try simp only[ze]at bU
 exact mV (Iv lam) ⟨rfl,rfl⟩
 refine stc (V:=.bool (decide (lam<0))) rfl rfl (fun aB=>?_) ?_
 have bV:=aB
 try simp only[ze]at bV
 exact zJ (k:=.i64) (a:=lam) (b:=0) (if_pos aB) rfl ⟨rfl,rfl⟩
 refine st (zp (b:=(decide (o<0))||(decide (((v.length:Nat):Int)≤o))) (b':=decide (lam<0)) rfl (fun hbp=>(if_pos hbp)) (zd ?_))
 cases L:((decide (o<0))||(decide (((v.length:Nat):Int)≤o)))||(decide (lam<0))
 have q:=L
 try simp only[ze]at L
 refine zg rfl (zl (za (R0 fun _=>st (mV vv (st (mV (Iv o) (st (cL rR (WK (v:=v) (vv:=vv) (o:=o) hv ho az) ?_))))))))
 rintro _ w23 ⟨rfl,hg22,ag⟩
 refine st (aS (Iv (yt v o)) (zd (za (za (zz kr (st (mV (Iv (yt v o)) (st (yc (k:=.i64) (a:=yt v o) (b:=9223372036854775807) rfl rfl (st (mV (.bool (decide ((yt v o)=9223372036854775807))) (stc (V:=Iv lam) rfl rfl (fun bW=>?_) ?_))))))))))))
 have hl26:=fD bW
 exact mV (Iv lam) ⟨rfl,rfl⟩
 refine stc (V:=.bool (decide (lam=9223372036854775807))) rfl rfl (fun aC=>?_) ?_
 have hl28:=fD aC
 exact yc (k:=.i64) (a:=lam) (b:=9223372036854775807) (if_pos aC) rfl ⟨rfl,rfl⟩
 refine st (zp (b:=decide ((yt v o)=9223372036854775807)) (b':=decide (lam=9223372036854775807)) rfl (fun hbp=>(if_pos hbp)) (zd ?_))
 cases M:(decide ((yt v o)=9223372036854775807))||(decide (lam=9223372036854775807))
 have N:=M
 try simp only[ze]at M
 refine zg rfl (zl (za ?_))
 refine WD6 ((fun TT Q=>WF [fun vals O=>Sep G W (Q::TT) O,fun vals O=> ∃(d:Value),(vals 3=(d:Value))∧Sep G W ((RowE (α:=Int) own 3 d (zT v ([]:List Int)))::Q::TT) O,fun vals O=> ∃(e:Nat),(vals 17=(Ix e 0:Value))∧Sep G W ((Blk e #[Iv 0,Iv 0,Iv 0,(Iz),Iv 0,Iv 0,Iv 0,Iv 0,Iv 0,Iv 0] 41)::Q::TT) O,fun vals O=> ∃(d:Value) (e:Nat),(vals 3=(d:Value))∧(vals 17=(Ix e 0:Value))∧Sep G W ((Blk e #[Iv 0,Iv 0,Iv 0,(Iz),Iv 0,Iv 0,Iv 0,Iv 0,Iv 0,Iv 0] 41)::(RowE (α:=Int) own 3 d (zT v ([]:List Int)))::Q::TT) O,fun _ _=>True,fun _ _=>True,fun _ _=>True,fun vals O=> ∃(d:Value) (e:Nat),(vals 3=(d:Value))∧(vals 17=(Ix e 0:Value))∧Sep G W ((Blk e ((⟨0,0,lam+1,zT v [],c.ctyp,c.cagg,c.cfield,c.cop,c.carg,c.ckey⟩:Ev).cells d).toArray 41)::(RowE (α:=Int) own 3 d (zT v ([]:List Int)))::Q::TT) O]) ((Blk b2 (c.cells).toArray 28)::Rs) (Blk b6 #[Iv 0,Iv 0,Iv 0,(Iz),Iv 0,Iv 0,Iv 0,Iv 0,Iv 0,Iv 0] 41)) (AF [Vl 0 (Iv lam),Vl 1 (Iv (lam+1)),Vl 2 (vv),fun _=>True,Vl 4 (Ix b2 0),Vl 5 (Iv (c.ctyp)),Vl 6 (Ix b2 1),Vl 7 (Iv (c.cagg)),Vl 8 (Ix b2 2),Vl 9 (Iv (c.cfield)),Vl 10 (Ix b2 3),Vl 11 (Iv (c.cop)),Vl 12 (Ix b2 4),Vl 13 (Iv (c.carg)),Vl 14 (Ix b2 6),Vl 15 (Iv (c.ckey)),fun vals=> ∀(d:Value),vals 3=(d:Value)→vals 16=(.agg ((⟨0,0,lam+1,zT v [],c.ctyp,c.cagg,c.cfield,c.cop,c.carg,c.ckey⟩:Ev).cells d).toArray:Value),fun _=>True,fun _=>True]) [[],[0],[],[2],[],[4],[],[6],[],[8],[],[10],[],[12],[],[14],(rg 16),[],(rg 18)] [3,17,18] [(rg 4),(rg 4),[0,2],[0,2],(rg 4),(rg 4),(rg 4),(rg 4),(rg 4),(rg 4),(rg 4),(rg 4),(rg 4),(rg 4),(rg 4),(rg 4),[1,3],[0,1],[3]] ag ⟨fun _ _ _ _ _ _=>obl rfl (mV (Iv lam) dR),?_,fun _ _ _ _ _ _=>obl rfl (mV vv dR),?_,fun _ _ _ _ _ _=>obl rfl (ZO rfl dR),?_,fun _ _ _ _ _ _=>obl rfl (Xs rfl dR),?_,fun _ _ _ _ _ _=>obl rfl (Vm rfl dR),?_,fun _ _ _ _ _ _=>obl rfl (WC rfl dR),?_,fun _ _ _ _ _ _=>obl rfl (XA rfl dR),?_,fun _ _ _ _ _ _=>obl rfl (YK rfl dR),?_,?_,?_,?_,trivial⟩ ?_ (hlocA:=xb ⟨dA,dA,dA,dT,dA,dA,dA,dA,dA,dA,dA,dA,dA,dA,dA,dA,fun vals l hv h=>fun d K=>(hv 16 (.inl rfl)).trans (h d ((hv 3 (.inr dc)).symm.trans K)),dT,dT,trivial⟩)
 intro bX vals w180 aD s t
 have R:bX∈[0,1,2,3]:=aD
 simp only[yB]at R
 rcases R with rfl|rfl|rfl|rfl
 have hS184:Sep _ _ _ _:=s
 refine obl rfl ?_
 have aE:InR (lam+1):=by omega
 exact yb (r:=lam+1) (k:=.i64) (a:=lam) (b:=1) (t 0 dc) rfl (zM aE) dR
 obtain⟨d,i,hS187⟩:=s
 refine obl rfl ?_
 have aF:InR (lam+1):=by omega
 exact yb (r:=lam+1) (k:=.i64) (a:=lam) (b:=1) (t 0 dc) rfl (zM aF) dR
 obtain⟨e,g,hS190⟩:=s
 refine obl rfl ?_
 have aG:InR (lam+1):=by omega
 exact yb (r:=lam+1) (k:=.i64) (a:=lam) (b:=1) (t 0 dc) rfl (zM aG) dR
 obtain⟨d,e,i,g,hS193⟩:=s
 refine obl rfl ?_
 have aH:InR (lam+1):=by omega
 exact yb (r:=lam+1) (k:=.i64) (a:=lam) (b:=1) (t 0 dc) rfl (zM aH) dR
 intro bY vals w202 aI ah ai
 have S:bY∈[0,2]:=aI
 simp only[yB]at S
 rcases S with rfl|rfl
 have aJ:Sep _ _ _ _:=ah
 refine obl rfl ((zG (f:=54) (vals:=[vv,(Iz)]) (cap:=[]) rfl (yK ⟨(ai 2 dc),rfl,trivial⟩) mY (UV (a:=v) (va:=vv) (b:=([]:List Int)) (vb:=(Iz)) hv (RdS.nil _ _) aJ) ?_))
 rintro d w209 ⟨_,rfl,aj⟩
 have aK:=aj.r0
 have hr211s:_*8≤_:=aK.2
 exact fun l hv m=>⟨(exiA d (zv hv aj)),trivial⟩
 obtain⟨e,g,aL⟩:=ah
 refine obl rfl ((zG (f:=54) (vals:=[vv,(Iz)]) (cap:=[]) rfl (yK ⟨(ai 2 dc),rfl,trivial⟩) mY (UV (a:=v) (va:=vv) (b:=([]:List Int)) (vb:=(Iz)) hv (RdS.nil _ _) aL) ?_))
 rintro d w215 ⟨_,rfl,ak⟩
 have aM:=ak.r0
 have hr217s:_*8≤_:=aM.2
 exact fun l hv m=>⟨(exiA d (exiA e (zv hv (zv ((m 17 dc).trans g) (ak.mv1))))),trivial⟩
 intro bZ vals w225 aN u x
 have T:bZ∈[0,1,2,3]:=aN
 simp only[yB]at T
 rcases T with rfl|rfl|rfl|rfl
 have aO:Sep _ _ _ _:=u
 exact obl rfl (lD (Iv (c.ctyp)) kT (x 4 dc) (zb (aO.b1) rfl) dR)
 obtain⟨d,i,aP⟩:=u
 exact obl rfl (lD (Iv (c.ctyp)) kT (x 4 dc) (zb (aP.b2) rfl) dR)
 obtain⟨e,g,aQ⟩:=u
 exact obl rfl (lD (Iv (c.ctyp)) kT (x 4 dc) (zb (aQ.b2) rfl) dR)
 obtain⟨d,e,i,g,aR⟩:=u
 exact obl rfl (lD (Iv (c.ctyp)) kT (x 4 dc) (zb (aR.b3) rfl) dR)
 intro ca vals w243 aT y z
 have U:ca∈[0,1,2,3]:=aT
 simp only[yB]at U
 rcases U with rfl|rfl|rfl|rfl
 have aU:Sep _ _ _ _:=y
 exact obl rfl (lD (Iv (c.cagg)) kT (z 6 dc) (zb (aU.b1) rfl) dR)
 obtain⟨d,i,aV⟩:=y
 exact obl rfl (lD (Iv (c.cagg)) kT (z 6 dc) (zb (aV.b2) rfl) dR)
 obtain⟨e,g,aW⟩:=y
 exact obl rfl (lD (Iv (c.cagg)) kT (z 6 dc) (zb (aW.b2) rfl) dR)
 obtain⟨d,e,i,g,aX⟩:=y
 exact obl rfl (lD (Iv (c.cagg)) kT (z 6 dc) (zb (aX.b3) rfl) dR)
 intro cb vals w261 aY A B
 have X:cb∈[0,1,2,3]:=aY
 simp only[yB]at X
 rcases X with rfl|rfl|rfl|rfl
 have aZ:Sep _ _ _ _:=A
 exact obl rfl (lD (Iv (c.cfield)) kT (B 8 dc) (zb (aZ.b1) rfl) dR)
 obtain⟨d,i,ba⟩:=A
 exact obl rfl (lD (Iv (c.cfield)) kT (B 8 dc) (zb (ba.b2) rfl) dR)
 obtain⟨e,g,bb⟩:=A
 exact obl rfl (lD (Iv (c.cfield)) kT (B 8 dc) (zb (bb.b2) rfl) dR)
 obtain⟨d,e,i,g,bc⟩:=A
 exact obl rfl (lD (Iv (c.cfield)) kT (B 8 dc) (zb (bc.b3) rfl) dR)
 intro cc vals w279 bd C D
 have Y:cc∈[0,1,2,3]:=bd
 simp only[yB]at Y
 rcases Y with rfl|rfl|rfl|rfl
 have be:Sep _ _ _ _:=C
 exact obl rfl (lD (Iv (c.cop)) kT (D 10 dc) (zb (be.b1) rfl) dR)
 obtain⟨d,i,bf⟩:=C
 exact obl rfl (lD (Iv (c.cop)) kT (D 10 dc) (zb (bf.b2) rfl) dR)
 obtain⟨e,g,bg⟩:=C
 exact obl rfl (lD (Iv (c.cop)) kT (D 10 dc) (zb (bg.b2) rfl) dR)
 obtain⟨d,e,i,g,bh⟩:=C
 exact obl rfl (lD (Iv (c.cop)) kT (D 10 dc) (zb (bh.b3) rfl) dR)
 intro cd vals w297 bi E F
 have Z:cd∈[0,1,2,3]:=bi
 simp only[yB]at Z
 rcases Z with rfl|rfl|rfl|rfl
 have bj:Sep _ _ _ _:=E
 exact obl rfl (lD (Iv (c.carg)) kT (F 12 dc) (zb (bj.b1) rfl) dR)
 obtain⟨d,i,bk⟩:=E
 exact obl rfl (lD (Iv (c.carg)) kT (F 12 dc) (zb (bk.b2) rfl) dR)
 obtain⟨e,g,bl⟩:=E
 exact obl rfl (lD (Iv (c.carg)) kT (F 12 dc) (zb (bl.b2) rfl) dR)
 obtain⟨d,e,i,g,bm⟩:=E
 exact obl rfl (lD (Iv (c.carg)) kT (F 12 dc) (zb (bm.b3) rfl) dR)
 intro ce vals w315 bn H I
 have aa:ce∈[0,1,2,3]:=bn
 simp only[yB]at aa
 rcases aa with rfl|rfl|rfl|rfl
 have bp:Sep _ _ _ _:=H
 exact obl rfl (lD (Iv (c.ckey)) kT (I 14 dc) (zb (bp.b1) rfl) dR)
 obtain⟨d,i,bq⟩:=H
 exact obl rfl (lD (Iv (c.ckey)) kT (I 14 dc) (zb (bq.b2) rfl) dR)
 obtain⟨e,g,br⟩:=H
 exact obl rfl (lD (Iv (c.ckey)) kT (I 14 dc) (zb (br.b2) rfl) dR)
 obtain⟨d,e,i,g,bs⟩:=H
 exact obl rfl (lD (Iv (c.ckey)) kT (I 14 dc) (zb (bs.b3) rfl) dR)
 intro cf vals w328 bt al j
 have ab:cf∈[1,3]:=bt
 simp only[yB]at ab
 rcases ab with rfl|rfl
 obtain⟨d,i,bu⟩:=al
 refine obl rfl ?_
 have am:=bu.r0
 have hr341s:_*8≤_:=am.2
 refine zP (parts':=[(1,Iv (lam+1)),(2,d),(3,Iv (c.ctyp)),(4,Iv (c.cagg)),(5,Iv (c.cfield)),(6,Iv (c.cop)),(7,Iv (c.carg)),(8,Iv (c.ckey))]) (v:=.agg ((⟨0,0,lam+1,zT v [],c.ctyp,c.cagg,c.cfield,c.cop,c.carg,c.ckey⟩:Ev).cells d).toArray) (ZE ⟨rfl,(j 1 (by decide)),rfl,i,rfl,(j 5 (by decide)),rfl,(j 7 (by decide)),rfl,(j 9 (by decide)),rfl,(j 11 (by decide)),rfl,(j 13 (by decide)),rfl,(j 15 (by decide)),trivial⟩) (by obtain⟨_,_,bv,_⟩:=am.1;rw[show d=Value.slice _ _ _ from bv];simp[Instr.build,Instr.fill,go_sem,Ev.cells,ev0]) (fun l hv m=>⟨rfl,?_⟩)
 intro cg K
 rw[m 3 (by decide)]at K;cases i.symm.trans K
 exact hv
 obtain⟨d,e,i,g,bw⟩:=al
 refine obl rfl ?_
 have an:=bw.r1
 have hr351s:_*8≤_:=an.2
 refine zP (parts':=[(1,Iv (lam+1)),(2,d),(3,Iv (c.ctyp)),(4,Iv (c.cagg)),(5,Iv (c.cfield)),(6,Iv (c.cop)),(7,Iv (c.carg)),(8,Iv (c.ckey))]) (v:=.agg ((⟨0,0,lam+1,zT v [],c.ctyp,c.cagg,c.cfield,c.cop,c.carg,c.ckey⟩:Ev).cells d).toArray) (ZE ⟨rfl,(j 1 (by decide)),rfl,i,rfl,(j 5 (by decide)),rfl,(j 7 (by decide)),rfl,(j 9 (by decide)),rfl,(j 11 (by decide)),rfl,(j 13 (by decide)),rfl,(j 15 (by decide)),trivial⟩) (by obtain⟨_,_,bx,_⟩:=an.1;rw[show d=Value.slice _ _ _ from bx];simp[Instr.build,Instr.fill,go_sem,Ev.cells,ev0]) (fun l hv m=>⟨rfl,?_⟩)
 intro cg K
 rw[m 3 (by decide)]at K;cases i.symm.trans K
 exact hv
 intro ch vals w353 bz ao hA354
 have ac:ch∈[0,1]:=bz
 simp only[yB]at ac
 rcases ac with rfl|rfl
 have bA:Sep _ _ _ _:=ao
 refine obl rfl ((zt rT ?_))
 intro w360 e bB
 exact fun l hv m=>⟨(exiA e (zv hv (bA.new bB))),trivial⟩
 obtain⟨d,i,bC⟩:=ao
 refine obl rfl ((zt rT ?_))
 intro w365 e bD
 exact fun l hv m=>⟨(exiA d (exiA e (zv ((m 3 dc).trans i) (zv hv (bC.new bD))))),trivial⟩
 intro ci vals w368 bE bF bG
 have ad:ci∈[3]:=bE
 simp only[yB]at ad
 subst ad
 obtain⟨d,e,i,g,P⟩:=bF
 let ay:=((⟨0,0,lam+1,zT v [],c.ctyp,c.cagg,c.cfield,c.cop,c.carg,c.ckey⟩:Ev).cells d)
 refine obl rfl ?_
 have cj:vals 16=(.agg ay.toArray:Value):=bG 16 dc d i
 have ap:=P.r1
 have hr376s:_*8≤_:=ap.2
 refine(zq (v:=.agg ay.toArray) (c':=ay.toArray) lT g cj (P.b0) (ye ⟨rfl,rfl,rfl,ap.1.one,rfl,rfl,rfl,rfl,rfl,rfl,trivial⟩) yqc rfl ?_)
 intro w374 bH
 exact fun l hv m=>⟨(exiA d (exiA e (zv ((m 3 dc).trans i) (zv ((m 17 dc).trans g) (P.pt0 bH))))),trivial⟩
 intro vals w378 bI hA380
 obtain⟨d,e,i,g,aq⟩:=bI
 refine zZ (kv:=[(0,.agg (c.cells).toArray),(1,Iv o),(2,vv),(3,Iv lam),(4,Ix b2 0),(8,Ix b6 0),(9,Iv 0),(12,Iv o),(13,.bool (decide (o<0))),(14,.bool (decide (o<0))),(19,.bool ((decide (o<0))||(decide (((v.length:Nat):Int)≤o)))),(20,.bool ((decide (o<0))||(decide (((v.length:Nat):Int)≤o)))),(23,.bool false),(25,vv),(26,Iv o),(27,Iv (yt v o)),(10,Iv (yt v o)),(28,Iv (yt v o)),(29,.bool (decide ((yt v o)=9223372036854775807))),(30,.bool (decide ((yt v o)=9223372036854775807))),(33,.bool false),(11,Ix e 0)]) ⟨rfl,rfl,rfl,rfl,rfl,rfl,rfl,rfl,rfl,rfl,rfl,rfl,rfl,rfl,rfl,rfl,rfl,rfl,rfl,rfl,rfl,(by exact g),trivial⟩ (fun ρw378=>(zd (za (R0 fun _=>st (mV (Iv o) (st (mV (Iv (yt v o)) ?_)))))))
 have bJ:InR ((yt v o)+1):=by omega
 refine st (yb (r:=(yt v o)+1) (k:=.i64) (a:=yt v o) (b:=1) rfl rfl (zM bJ) (st (yD rfl (st (xD rfl ?_)))))
 refine stn (yz (v:=Iv o) (c:=[Iv ((⟨0,0,lam+1,zT v [],c.ctyp,c.cagg,c.cfield,c.cop,c.carg,c.ckey⟩:Ev).origin),Iv ((⟨0,0,lam+1,zT v [],c.ctyp,c.cagg,c.cfield,c.cop,c.carg,c.ckey⟩:Ev).seq),Iv ((⟨0,0,lam+1,zT v [],c.ctyp,c.cagg,c.cfield,c.cop,c.carg,c.ckey⟩:Ev).lam),d,Iv ((⟨0,0,lam+1,zT v [],c.ctyp,c.cagg,c.cfield,c.cop,c.carg,c.ckey⟩:Ev).typ),Iv ((⟨0,0,lam+1,zT v [],c.ctyp,c.cagg,c.cfield,c.cop,c.carg,c.ckey⟩:Ev).agg),Iv ((⟨0,0,lam+1,zT v [],c.ctyp,c.cagg,c.cfield,c.cop,c.carg,c.ckey⟩:Ev).field),Iv ((⟨0,0,lam+1,zT v [],c.ctyp,c.cagg,c.cfield,c.cop,c.carg,c.ckey⟩:Ev).op),Iv ((⟨0,0,lam+1,zT v [],c.ctyp,c.cagg,c.cfield,c.cop,c.carg,c.ckey⟩:Ev).arg),Iv ((⟨0,0,lam+1,zT v [],c.ctyp,c.cagg,c.cfield,c.cop,c.carg,c.ckey⟩:Ev).key)]) (c':=[Iv o,Iv ((⟨0,0,lam+1,zT v [],c.ctyp,c.cagg,c.cfield,c.cop,c.carg,c.ckey⟩:Ev).seq),Iv ((⟨0,0,lam+1,zT v [],c.ctyp,c.cagg,c.cfield,c.cop,c.carg,c.ckey⟩:Ev).lam),d,Iv ((⟨0,0,lam+1,zT v [],c.ctyp,c.cagg,c.cfield,c.cop,c.carg,c.ckey⟩:Ev).typ),Iv ((⟨0,0,lam+1,zT v [],c.ctyp,c.cagg,c.cfield,c.cop,c.carg,c.ckey⟩:Ev).agg),Iv ((⟨0,0,lam+1,zT v [],c.ctyp,c.cagg,c.cfield,c.cop,c.carg,c.ckey⟩:Ev).field),Iv ((⟨0,0,lam+1,zT v [],c.ctyp,c.cagg,c.cfield,c.cop,c.carg,c.ckey⟩:Ev).op),Iv ((⟨0,0,lam+1,zT v [],c.ctyp,c.cagg,c.cfield,c.cop,c.carg,c.ckey⟩:Ev).arg),Iv ((⟨0,0,lam+1,zT v [],c.ctyp,c.cagg,c.cfield,c.cop,c.carg,c.ckey⟩:Ev).key)]) pT rfl rfl (aq.b0) rfl rfl rfl ?_)
 intro w383 bK
 have ar:=aq.pt0 bK
 refine st (yD rfl (st (Zz rfl ?_)))
 refine stn (yz (v:=Iv ((yt v o)+1)) (c:=[Iv o,Iv ((⟨0,0,lam+1,zT v [],c.ctyp,c.cagg,c.cfield,c.cop,c.carg,c.ckey⟩:Ev).seq),Iv ((⟨0,0,lam+1,zT v [],c.ctyp,c.cagg,c.cfield,c.cop,c.carg,c.ckey⟩:Ev).lam),d,Iv ((⟨0,0,lam+1,zT v [],c.ctyp,c.cagg,c.cfield,c.cop,c.carg,c.ckey⟩:Ev).typ),Iv ((⟨0,0,lam+1,zT v [],c.ctyp,c.cagg,c.cfield,c.cop,c.carg,c.ckey⟩:Ev).agg),Iv ((⟨0,0,lam+1,zT v [],c.ctyp,c.cagg,c.cfield,c.cop,c.carg,c.ckey⟩:Ev).field),Iv ((⟨0,0,lam+1,zT v [],c.ctyp,c.cagg,c.cfield,c.cop,c.carg,c.ckey⟩:Ev).op),Iv ((⟨0,0,lam+1,zT v [],c.ctyp,c.cagg,c.cfield,c.cop,c.carg,c.ckey⟩:Ev).arg),Iv ((⟨0,0,lam+1,zT v [],c.ctyp,c.cagg,c.cfield,c.cop,c.carg,c.ckey⟩:Ev).key)]) (c':=[Iv o,Iv ((yt v o)+1),Iv ((⟨0,0,lam+1,zT v [],c.ctyp,c.cagg,c.cfield,c.cop,c.carg,c.ckey⟩:Ev).lam),d,Iv ((⟨0,0,lam+1,zT v [],c.ctyp,c.cagg,c.cfield,c.cop,c.carg,c.ckey⟩:Ev).typ),Iv ((⟨0,0,lam+1,zT v [],c.ctyp,c.cagg,c.cfield,c.cop,c.carg,c.ckey⟩:Ev).agg),Iv ((⟨0,0,lam+1,zT v [],c.ctyp,c.cagg,c.cfield,c.cop,c.carg,c.ckey⟩:Ev).field),Iv ((⟨0,0,lam+1,zT v [],c.ctyp,c.cagg,c.cfield,c.cop,c.carg,c.ckey⟩:Ev).op),Iv ((⟨0,0,lam+1,zT v [],c.ctyp,c.cagg,c.cfield,c.cop,c.carg,c.ckey⟩:Ev).arg),Iv ((⟨0,0,lam+1,zT v [],c.ctyp,c.cagg,c.cfield,c.cop,c.carg,c.ckey⟩:Ev).key)]) pT rfl rfl (ar.b0) rfl rfl rfl ?_)
 intro w386 bL
 have J:=ar.pt0 bL
 refine zd (za (R0 fun _=>st (zf (k:=10) oT lT rfl rfl (CellsAt.all (J.b0)) ?_)))
 have au:=J.r1
 have hr391s:_*8≤_:=au.2
 refine stn (zq (v:=.agg ((⟨o,(yt v o)+1,(⟨0,0,lam+1,zT v [],c.ctyp,c.cagg,c.cfield,c.cop,c.carg,c.ckey⟩:Ev).lam,zT v [],(⟨0,0,lam+1,zT v [],c.ctyp,c.cagg,c.cfield,c.cop,c.carg,c.ckey⟩:Ev).typ,(⟨0,0,lam+1,zT v [],c.ctyp,c.cagg,c.cfield,c.cop,c.carg,c.ckey⟩:Ev).agg,(⟨0,0,lam+1,zT v [],c.ctyp,c.cagg,c.cfield,c.cop,c.carg,c.ckey⟩:Ev).field,(⟨0,0,lam+1,zT v [],c.ctyp,c.cagg,c.cfield,c.cop,c.carg,c.ckey⟩:Ev).op,(⟨0,0,lam+1,zT v [],c.ctyp,c.cagg,c.cfield,c.cop,c.carg,c.ckey⟩:Ev).arg,(⟨0,0,lam+1,zT v [],c.ctyp,c.cagg,c.cfield,c.cop,c.carg,c.ckey⟩:Ev).key⟩:Ev).cells d).toArray) (c':=((⟨o,(yt v o)+1,(⟨0,0,lam+1,zT v [],c.ctyp,c.cagg,c.cfield,c.cop,c.carg,c.ckey⟩:Ev).lam,zT v [],(⟨0,0,lam+1,zT v [],c.ctyp,c.cagg,c.cfield,c.cop,c.carg,c.ckey⟩:Ev).typ,(⟨0,0,lam+1,zT v [],c.ctyp,c.cagg,c.cfield,c.cop,c.carg,c.ckey⟩:Ev).agg,(⟨0,0,lam+1,zT v [],c.ctyp,c.cagg,c.cfield,c.cop,c.carg,c.ckey⟩:Ev).field,(⟨0,0,lam+1,zT v [],c.ctyp,c.cagg,c.cfield,c.cop,c.carg,c.ckey⟩:Ev).op,(⟨0,0,lam+1,zT v [],c.ctyp,c.cagg,c.cfield,c.cop,c.carg,c.ckey⟩:Ev).arg,(⟨0,0,lam+1,zT v [],c.ctyp,c.cagg,c.cfield,c.cop,c.carg,c.ckey⟩:Ev).key⟩:Ev).cells d).toArray) lT rfl rfl (J.b2) (ye ⟨rfl,rfl,rfl,au.1.one,rfl,rfl,rfl,rfl,rfl,rfl,trivial⟩) yqc rfl ?_)
 intro ck bM
 have av:=J.pt2 bM
 refine st (aS (Iv 0) (zd (zj (ZJ (b:=b6) sR oT lT rfl rfl (CellsAt.all (av.b2)) (show _=(Iv 0:Value)from rfl) ?_))))
 have bN:Sep G W ((RowE (α:=Int) own 3 d (zT v ([]:List Int)))::Rs) ck:=av.sel 4 [1] (Nat.le_add_left _ _) rfl rfl
 have p:evN o v lam=0:=by unfold evN;simp only[q,N,if_true,if_false,Bool.false_eq_true,↓reduceIte]
 have ae:evE c o v lam=(⟨o,(yt v o)+1,(⟨0,0,lam+1,zT v [],c.ctyp,c.cagg,c.cfield,c.cop,c.carg,c.ckey⟩:Ev).lam,zT v [],(⟨0,0,lam+1,zT v [],c.ctyp,c.cagg,c.cfield,c.cop,c.carg,c.ckey⟩:Ev).typ,(⟨0,0,lam+1,zT v [],c.ctyp,c.cagg,c.cfield,c.cop,c.carg,c.ckey⟩:Ev).agg,(⟨0,0,lam+1,zT v [],c.ctyp,c.cagg,c.cfield,c.cop,c.carg,c.ckey⟩:Ev).field,(⟨0,0,lam+1,zT v [],c.ctyp,c.cagg,c.cfield,c.cop,c.carg,c.ckey⟩:Ev).op,(⟨0,0,lam+1,zT v [],c.ctyp,c.cagg,c.cfield,c.cop,c.carg,c.ckey⟩:Ev).arg,(⟨0,0,lam+1,zT v [],c.ctyp,c.cagg,c.cfield,c.cop,c.carg,c.ckey⟩:Ev).key⟩:Ev):=by unfold evE;exact if_pos p
 rw[ae,p]
 refine⟨d,?_,bN⟩
 rfl
 have N:=M
 try simp only[ze]at M
 refine zh rfl (za (yx (by kernel_rfl) (fun _=>(st (zP (parts':=[]) (v:=.agg (ev0.cells (Iz)).toArray) rfl (by simp+zetaDelta [Instr.build,Instr.fill,go_sem,Ev.cells,ev0]) (stn (zq (v:=.agg (ev0.cells (Iz)).toArray) (c':=(ev0.cells (Iz)).toArray) lT rfl rfl (ag.b0) (ye ⟨rfl,rfl,rfl,rfl,rfl,rfl,rfl,rfl,rfl,rfl,trivial⟩) yqc rfl ?_)))))))
 intro w394 bO
 have aw:=ag.pt0 bO
 refine st (aS (Iv 13) (zd (zj (ZJ (b:=b6) sR oT lT rfl rfl (CellsAt.all (aw.b0)) (show _=(Iv 13:Value)from rfl) ?_))))
 have bP:Sep _ _ ((RowE (α:=Int) own 3 (Iz) ([]:List Int))::_) _:=aw.rowNil own 3
 have p:evN o v lam=13:=by unfold evN;simp only[q,N,if_true,if_false,Bool.false_eq_true,↓reduceIte]
 have ae:evE c o v lam=ev0:=by unfold evE;exact if_neg (by rw[p];decide)
 rw[ae,p]
 refine⟨(Iz),?_,(bP.s3_a)⟩
 rfl
 have q:=L
 try simp only[ze]at L
 refine zh rfl (za (yx (by kernel_rfl) (fun _=>(st (zP (parts':=[]) (v:=.agg (ev0.cells (Iz)).toArray) rfl (by simp+zetaDelta [Instr.build,Instr.fill,go_sem,Ev.cells,ev0]) (stn (zq (v:=.agg (ev0.cells (Iz)).toArray) (c':=(ev0.cells (Iz)).toArray) lT rfl rfl (az.b0) (ye ⟨rfl,rfl,rfl,rfl,rfl,rfl,rfl,rfl,rfl,rfl,trivial⟩) yqc rfl ?_)))))))
 intro w399 bQ
 have ax:=az.pt0 bQ
 refine st (aS (Iv 1) (zd (zj (ZJ (b:=b6) sR oT lT rfl rfl (CellsAt.all (ax.b0)) (show _=(Iv 1:Value)from rfl) ?_))))
 have bR:Sep _ _ ((RowE (α:=Int) own 3 (Iz) ([]:List Int))::_) _:=ax.rowNil own 3
 have p:evN o v lam=1:=by unfold evN;simp only[q,if_true,if_false,Bool.false_eq_true,↓reduceIte]
 have ae:evE c o v lam=ev0:=by unfold evE;exact if_neg (by rw[p];decide)
 rw[ae,p]
 refine⟨(Iz),?_,(bR.s3_a)⟩
 rfl
end
section
def yA (a b:Int):Int:=if a<b then-1 else if b<a then 1 else 0
def orL:List Int→Int
 |[]=>0
 |x::l=>if x≠0 then x else orL l
def ZM (a b:Ev):Int:=orL [yA a.lam b.lam,yA a.origin b.origin,yA a.seq b.seq]
theorem Vk (a b:Int):InR (yA a b):=by unfold yA;split<;>(try split)<;>decide
end
section
set_option maxRecDepth 8000
set_option maxHeartbeats 4000000
open Go.Proofs Go.RowKit
theorem Qd {G:Nat→Prop}{W w:World}{Rs:List HP}{x:Int}(hS0:Sep G W Rs w):Ret Tryz.prog 99 [.int .i64 (x)] w (fun r w'=>r=(.bool false:Value)∧Sep G W Rs w'):=by
 refine zi (args:=[Iv x]) Tryz.func99 rfl rfl ?_
 refine za (R0 fun _=>st (aS (.bool false) (zd (za (R0 fun _=>st (mV (Iv x) (st (mV (Iv x) (st (yh (k:=.i64) (a:=x) (b:=x) rfl rfl (st (aS (.bool (!decide (x=x))) (zd (zj (zK Tryz.results99 (show _=(.bool (!decide (x=x)):Value)from rfl) ?_)))))))))))))))
 refine⟨?_,hS0⟩
 simp
theorem UC {G:Nat→Prop}{W w:World}{Rs:List HP}{x:Int}{y:Int}(hS0:Sep G W Rs w):Ret Tryz.prog 79 [.int .i64 (x),.int .i64 (y)] w (fun r w'=>r=(.int .i64 ((yA x y)):Value)∧Sep G W Rs w'):=by
 refine zi (args:=[Iv x,Iv y]) Tryz.func79 rfl rfl ?_
 refine za (R0 fun _=>st (aS (Iv 0) (zd (za (R0 fun _=>st (mV (Iv x) (st (cL nY (Qd hS0) ?_))))))))
 rintro _ w1 ⟨rfl,f⟩
 refine st (aS (.bool false) (zd (za (R0 fun _=>st (mV (Iv y) (st (cL nY (Qd f) ?_)))))))
 rintro _ w3 ⟨rfl,e⟩
 refine st (aS (.bool false) (zd (za (za (R0 fun _=>st (mV (.bool false) (zd (zg rfl (zl (za (za (R0 fun _=>st (mV (.bool false) (zd (zg rfl (zl (za (za (R0 fun _=>st (mV (Iv x) (st (mV (Iv y) (st (zJ (k:=.i64) (a:=x) (b:=y) rfl rfl (zd ?_)))))))))))))))))))))))))
 cases c:decide (x<y)
 have c:=fD c
 refine zg rfl (zl (za (za (R0 fun _=>st (mV (Iv x) (st (mV (Iv y) (st (yU (k:=.i64) (a:=x) (b:=y) rfl rfl (zd ?_))))))))))
 cases d:decide (y<x)
 have d:=fD d
 refine zg rfl (zl (za (R0 fun _=>st (aS (Iv 0) (zd (zj (zK tR (show _=(Iv 0:Value)from rfl) ?_)))))))
 refine⟨?_,e⟩
 unfold yA
 (repeat (first|rw[if_pos (by omega)]|rw[if_neg (by omega)]))
 have d:=tD d
 refine zh rfl (za (R0 fun _=>st (aS (Iv 1) (zd (zj (zK tR (show _=(Iv 1:Value)from rfl) ?_))))))
 refine⟨?_,e⟩
 unfold yA
 (repeat (first|rw[if_pos (by omega)]|rw[if_neg (by omega)]))
 have c:=tD c
 refine zh rfl (za (R0 fun _=>st (aS (Iv (-1)) (zd (zj (zK tR (show _=(Iv (-1):Value)from rfl) ?_))))))
 refine⟨?_,e⟩
 unfold yA
 (repeat (first|rw[if_pos (by omega)]|rw[if_neg (by omega)]))
theorem Da_or {G:Nat→Prop}{W w:World}{Rs:List HP}{vl:Value}{l:List Int}(hl:RdS W G vl l)(hS0:Sep G W Rs w):Ret Tryz.prog 78 [vl] w (fun r w'=>r=(.int .i64 ((orL l)):Value)∧Sep G W Rs w'):=by
 have hls:_*8≤_:=hl.small
 refine zi (args:=[vl]) Tryz.func78 rfl rfl ?_
 refine za (R0 fun _=>st (aS (Iv 0) (zd (za (R0 fun _=>st (aS (Iv 0) (zd (za (za (R0 fun _=>st (mV vl (st (zR (n:=l.length) mT rfl hl.sl (st (mV (Iv 0) (zd (zx (yq (fun mq σ q=> ∃(k:Nat) (ρ:Env),mq=l.length-k∧σ=yi ρ [(0,vl),(3,Iv 0),(6,vl),(7,Iw l.length),(8,Iw k)]∧(k≤l.length)∧(orL l=orL (l.drop k))∧Sep G W Rs q) ⟨0,_,rfl,sSf,Nat.zero_le _,rfl,hS0⟩ ?_))))))))))))))))))
 rintro m2 σ3 w1 ⟨k,ρl1,rfl,rfl,hkk,g,d⟩
 refine za (R0 fun _=>st (zJ (k:=.i64) (a:=((k:Nat):Int)) (b:=((l.length:Nat):Int)) rfl rfl (zd (za ?_))))
 cases e:decide (((k:Nat):Int)<((l.length:Nat):Int))
 have e:=fD e
 refine zg rfl (yr (yg (za (R0 fun _=>st (mV (Iv 0) (st (aS (Iv 0) (zd (zj (zK oY (show _=(Iv 0:Value)from rfl) ?_))))))))))
 refine⟨?_,d⟩
 rw[g,List.drop_of_length_le (by omega)];rfl
 have e:=tD e
 refine zh rfl (zl (za (zx (za (R0 fun _=>?_)))))
 have p:k<l.length:=bo
 refine st (zm (k:=1) (i:=k) mT pT rfl hl.sl rfl p ?_)
 have f:k<l.length:=bo
 obtain⟨h,hxe7⟩:=hl.intD f
 have m:=d.cells h (hl.foot (ne_of_lt f))
 refine st (lD (Iv ((l.getD k 0))) kT rfl (m.get (j:=0) rfl) (st (aS (Iv ((l.getD k 0))) (zd (za (R0 fun _=>st (mV (Iv ((l.getD k 0))) (st (mV (Iv 0) (st (yh (k:=.i64) (a:=(l.getD k 0)) (b:=0) rfl rfl (zd ?_))))))))))))
 cases c: !decide ((l.getD k 0)=0)
 have c:=zu c
 refine zg rfl (zl (R0 fun _=>?_))
 have o:InR ((k+1:Nat):Int):=bo
 refine st (yb (r:=((k+1:Nat):Int)) (k:=.i64) (a:=((k:Nat):Int)) (b:=1) rfl rfl (by rw[show(((k:Nat):Int)+1:Int)=((k+1:Nat):Int)from bo];exact zM o) (st (mV (Iw (k+1)) (zd ?_))))
 exact⟨_,by omega,k+1,_,rfl,sSf,by omega,(by rw[g,List.drop_eq_getElem_cons (by omega)];simp only[orL];rw[if_neg (by rw[←zF 0 (by omega)];simpa using c)]),d⟩
 have c:=zy c
 refine zh rfl (za (R0 fun _=>st (mV (Iv ((l.getD k 0))) (st (aS (Iv ((l.getD k 0))) (zd (zj (zK oY (show _=(Iv ((l.getD k 0)):Value)from rfl) ?_))))))))
 refine⟨?_,d⟩
 rw[g,List.drop_eq_getElem_cons (by omega)];simp only[orL];rw[if_pos (by rw[←zF 0 (by omega)];simpa using c),←zF 0 (by omega)]
theorem KM {G:Nat→Prop}{W w:World}{Rs:List HP}{x:Int}(hx:InR x)(hS0:Sep G W Rs w):Ret Tryz.prog 55 [.int .i64 (x)] w (fun r w'=>r=(.bool (decide (x<0)):Value)∧Sep G W Rs w'):=by
 refine zi (args:=[Iv x]) Tryz.func55 rfl rfl ?_
 refine za (R0 fun _=>st (aS (.bool false) (zd (za (R0 fun _=>st (mV (Iv x) (st (zJ (k:=.i64) (a:=x) (b:=0) rfl rfl (st (aS (.bool (decide (x<0))) (zd (zj (zK Tryz.results55 (show _=(.bool (decide (x<0)):Value)from rfl) ?_)))))))))))))
 refine⟨rfl,hS0⟩
theorem Wo {G:Nat→Prop}{W w:World}{Rs:List HP}{e:Ev}{de0:Value}(hde0:RdS W G de0 e.deps)(oe:e.Ok)(hS0:Sep G W Rs w):Ret Tryz.prog 37 [.agg (e.cells de0).toArray] w (fun r w'=> ∃(v:Value),r=(.agg (e.cells v).toArray:Value)∧Sep G W ((RowE (α:=Int) own 3 v e.deps)::Rs) w'):=by
 have hde0s:_*8≤_:=hde0.small
 refine zi (args:=[.agg (e.cells de0).toArray]) Tryz.func37 rfl rfl ?_
 refine za (R0 fun _=>st (zN (v:=.agg (e.cells de0).toArray) rfl ?_))
 intro w3 b2 n
 refine st (zt rT ?_)
 intro w7 p o
 have i:=(hS0.new n).new o
 refine zd (za (R0 fun _=>st (xf rfl (st (lD de0 nT rfl (zb (i.b1) rfl) (st (cL pY (xV (l:=e.deps) (vl:=de0) hde0 i) ?_)))))))
 rintro g w10 ⟨_,rfl,a⟩
 have d:=a.r0
 have hr12s:_*8≤_:=d.2
 refine st (xf rfl (stn (yz (v:=g) (c:=[Iv (e.origin),Iv (e.seq),Iv (e.lam),de0,Iv (e.typ),Iv (e.agg),Iv (e.field),Iv (e.op),Iv (e.arg),Iv (e.key)]) (c':=[Iv (e.origin),Iv (e.seq),Iv (e.lam),g,Iv (e.typ),Iv (e.agg),Iv (e.field),Iv (e.op),Iv (e.arg),Iv (e.key)]) Tryz.sizeOf39 rfl rfl (a.b2) d.1.one rfl rfl ?_)))
 intro w13 j
 have ok15:Ev.Ok e:=⟨(show InR (e.origin)from oe.origin),(show InR (e.seq)from oe.seq),(show InR (e.lam)from oe.lam),(show InR (e.typ)from oe.typ),(show InR (e.agg)from oe.agg),(show InR (e.field)from oe.field),(show InR (e.op)from oe.op),(show InR (e.arg)from oe.arg),(show InR (e.key)from oe.key)⟩
 have f:=a.pt2 j
 refine zd (za (R0 fun _=>st (zf (k:=10) oT lT rfl rfl (CellsAt.all (f.b2)) (stn (zq (v:=.agg (e.cells g).toArray) (c':=(e.cells g).toArray) lT rfl rfl (f.b1) (ye ⟨rfl,rfl,rfl,d.1.one,rfl,rfl,rfl,rfl,rfl,rfl,trivial⟩) yqc rfl ?_)))))
 intro w17 m
 have h:=f.pt1 m
 refine zd (zj (QX (b:=p) Tryz.results37 oT lT rfl rfl (CellsAt.all (h.b1)) ?_))
 refine⟨g,rfl,(h.s3_a)⟩
theorem VT {G:Nat→Prop}{W w:World}{Rs:List HP}{vl:Value}{l:List Int}(hl:RdS W G vl l)(hS0:Sep G W Rs w):Ret Tryz.prog 74 [vl,.func (.func 55) #[] #[]] w (fun r w'=> ∃(c:Int),r=(.int .i64 (c):Value)∧(InR c)∧(c<0↔ ∀i,i<l.length→0≤l.getD i 0)∧Sep G W Rs w'):=by
 have hls:_*8≤_:=hl.small
 refine zi (args:=[vl,.func (.func 55) #[] #[]]) Tryz.func74 rfl rfl ?_
 refine za (R0 fun _=>st (aS (Iv 0) (zd (za (za (R0 fun _=>st (mV vl (st (zR (n:=l.length) mT rfl hl.sl (st (mV (Iv 0) (zd (zx (yq (fun mq σ u=> ∃(k:Nat) (ρ:Env),mq=l.length-k∧σ=yi ρ [(0,vl),(1,.func (.func 55) #[] #[]),(6,vl),(7,Iw l.length),(8,Iw k)]∧(k≤l.length)∧(∀i,i<k→0≤l.getD i 0)∧Sep G W Rs u) ⟨0,_,rfl,sSf,Nat.zero_le _,(fun i h=>absurd h (Nat.not_lt_zero i)),hS0⟩ ?_))))))))))))))
 rintro m2 σ3 w1 ⟨k,ρl1,rfl,rfl,hkk,hm,f⟩
 refine za (R0 fun _=>st (zJ (k:=.i64) (a:=((k:Nat):Int)) (b:=((l.length:Nat):Int)) rfl rfl (zd (za ?_))))
 cases e:decide (((k:Nat):Int)<((l.length:Nat):Int))
 have e:=fD e
 refine zg rfl (yr (yg (za (R0 fun _=>st (aS (Iv (-1)) (zd (zj (zK qY (show _=(Iv (-1):Value)from rfl) ?_))))))))
 refine⟨-1,rfl,?_,?_,f⟩
 decide
 exact⟨fun _ i hi=>hm i om,fun _=>by decide⟩
 have e:=tD e
 refine zh rfl (zl (za (zx (za (R0 fun _=>st (mV (Iw k) (st (aS (Iw k) (zd (za (R0 fun _=>st (mV (.func (.func 55) #[] #[]) (st (mV vl (st (mV (Iw k) ?_))))))))))))))))
 have t:k<l.length:=bo
 refine st (zm (k:=1) (i:=k) mT pT rfl hl.sl rfl t ?_)
 have m:k<l.length:=bo
 obtain⟨o,p⟩:=hl.intD m
 have q:=f.cells o (hl.foot (ne_of_lt m))
 refine st (lD (Iv ((l.getD k 0))) kT rfl (q.get (j:=0) rfl) (st (cL Tryz.call55 (KM (x:=(l.getD k 0)) p f) ?_)))
 rintro _ w10 ⟨rfl,g⟩
 refine zd ?_
 cases d:decide ((l.getD k 0)<0)
 have d:=fD d
 refine zg rfl (zl (R0 fun _=>?_))
 have s:InR ((k+1:Nat):Int):=bo
 refine st (yb (r:=((k+1:Nat):Int)) (k:=.i64) (a:=((k:Nat):Int)) (b:=1) rfl rfl (by rw[show(((k:Nat):Int)+1:Int)=((k+1:Nat):Int)from bo];exact zM s) (st (mV (Iw (k+1)) (zd ?_))))
 exact⟨_,by omega,k+1,_,rfl,sSf,by omega,(yV hm om),g⟩
 have d:=tD d
 refine zh rfl (za (R0 fun _=>st (mV (Iw k) (st (aS (Iw k) (zd (zj (zK qY (show _=(Iw k:Value)from rfl) ?_))))))))
 refine⟨((k:Nat):Int),rfl,?_,?_,g⟩
 show InR ((k:Nat):Int);omega
 refine⟨fun h=>by omega,fun h=>?_⟩
 have h8:=h k om
 omega
def YG (l:List Int):Bool:=l.any (fun x=>decide (x<0))
theorem negL_iff {l:List Int}:YG l=false↔ ∀i,i<l.length→0≤l.getD i 0:=by
 unfold YG
 rw[List.any_eq_false]
 constructor
 ·intro h i hi
  have:=h l[i] (List.getElem_mem hi)
  rw[zF 0 hi]
  simpa using this
 ·intro h x hx
  obtain⟨i,hi,rfl⟩:=List.getElem_of_mem hx
  have:=h i hi
  rw[zF 0 hi]at this
  simpa using this
theorem zag {l:List Int}{c:Int}(h:c<0↔YG l=false):decide (0≤c)=YG l:=by
 cases hb:YG l
 ·exact decide_eq_false (by have:=h.2 hb;omega)
 ·refine decide_eq_true ?_
  rcases Int.lt_or_le c 0 with h1|h1
  ·rw[h.1 h1]at hb;cases hb
  ·exact h1
theorem XE {G:Nat→Prop}{W w:World}{Rs:List HP}{vl:Value}{l:List Int}(hl:RdS W G vl l)(hS0:Sep G W Rs w):Ret Tryz.prog 56 [vl,.func (.func 55) #[] #[]] w (fun r w'=>r=(.bool ((YG l)):Value)∧Sep G W Rs w'):=by
 have hls:_*8≤_:=hl.small
 refine zi (args:=[vl,.func (.func 55) #[] #[]]) Tryz.func56 rfl rfl ?_
 refine za (R0 fun _=>st (aS (.bool false) (zd (za (R0 fun _=>st (mV vl (st (mV (.func (.func 55) #[] #[]) (st (cL Tryz.call74 (VT (l:=l) (vl:=vl) hl hS0) ?_))))))))))
 rintro _ w4 ⟨c,rfl,hc92,d,e⟩
 refine st (xv (k:=.i64) (a:=c) (b:=0) rfl rfl (st (aS (.bool (decide (0≤c))) (zd (zj (zK Tryz.results56 (show _=(.bool (decide (0≤c)):Value)from rfl) ?_))))))
 refine⟨?_,e⟩
 congr 1
 exact zag (d.trans negL_iff.symm)
def yv (e:Ev)(n:Int):Int:=
 if(((((decide (e.origin<0)||decide (n≤e.origin))||decide (min e.seq e.lam<1))||decide (min e.agg e.key<0))|| !decide (((e.deps.length:Nat):Int)=n))||YG e.deps)=true then 1
 else if(!decide (e.deps.getD e.origin.toNat 0=e.seq-1))=true then 9
 else if(decide (e.op<1)||decide (5<e.op))=true then 2
 else if((decide (min e.typ e.field<0)||decide (8≤e.typ))||decide (8≤e.field))=true then 8
 else 0
theorem JK {G:Nat→Prop}{W w:World}{Rs:List HP}{e:Ev}{de0:Value}(hde0:RdS W G de0 e.deps)(oe:e.Ok){n:Int}(hn:InR n)(hS0:Sep G W Rs w):Ret Tryz.prog 35 [.agg (e.cells de0).toArray,.int .i64 (n)] w (fun r w'=>r=(.int .i64 ((yv e n)):Value)∧Sep G W Rs w'):=by
 have hde0s:_*8≤_:=hde0.small
 refine zi (args:=[.agg (e.cells de0).toArray,Iv n]) Tryz.func35 rfl rfl ?_
 refine za (R0 fun _=>st (zN (v:=.agg (e.cells de0).toArray) rfl ?_))
 intro w3 b2 bi
 have m:=hS0.new bi
 refine st (aS (Iv 0) (zd (za (R0 fun _=>st (aS (.func (.func 55) #[] #[]) (zd (za (zx (za (zz kr (st (yD rfl (st (xD rfl (st (lD (Iv (e.origin)) kT rfl (zb (m.b0) rfl) (st (zJ (k:=.i64) (a:=e.origin) (b:=0) rfl rfl (st (mV (.bool (decide (e.origin<0))) (stc (V:=Ix b2 0) rfl rfl (fun bj=>?_) ?_)))))))))))))))))))))
 have hl6:=fD bj
 exact yD rfl ⟨rfl,rfl⟩
 refine stc (V:=Ix b2 0) rfl rfl (fun ax=>?_) ?_
 have hl8:=fD ax
 exact xD (if_pos ax) ⟨rfl,rfl⟩
 refine stc (V:=Iv (e.origin)) rfl rfl (fun ay=>?_) ?_
 have hl10:=fD ay
 exact lD (Iv (e.origin)) kT (if_pos ay) (zb (m.b0) rfl) ⟨rfl,rfl⟩
 refine stc (V:=Iv n) rfl rfl (fun az=>?_) ?_
 have hl12:=fD az
 exact mV (Iv n) ⟨rfl,rfl⟩
 refine stc (V:=.bool (decide (n≤e.origin))) rfl rfl (fun u=>?_) ?_
 have hl14:=fD u
 exact xv (k:=.i64) (a:=e.origin) (b:=n) (if_pos u) (if_pos u) ⟨rfl,rfl⟩
 refine st (zp (b:=decide (e.origin<0)) (b':=decide (n≤e.origin)) rfl (fun hbp=>(if_pos hbp)) (st (mV (.bool ((decide (e.origin<0))||(decide (n≤e.origin)))) (stc (V:=Ix b2 0) rfl rfl (fun aA=>?_) ?_))))
 have aB:=aA
 try simp only[ze]at aB
 exact yD rfl ⟨rfl,rfl⟩
 refine stc (V:=Ix b2 1) rfl rfl (fun L=>?_) ?_
 have aC:=L
 try simp only[ze]at aC
 exact Zz (if_pos L) ⟨rfl,rfl⟩
 refine stc (V:=Iv (e.seq)) rfl rfl (fun M=>?_) ?_
 have aD:=M
 try simp only[ze]at aD
 exact lD (Iv (e.seq)) kT (if_pos M) (zb (m.b0) rfl) ⟨rfl,rfl⟩
 refine stc (V:=Ix b2 2) rfl rfl (fun aE=>?_) ?_
 have aF:=aE
 try simp only[ze]at aF
 exact Zi rfl ⟨rfl,rfl⟩
 refine stc (V:=Iv (e.lam)) rfl rfl (fun N=>?_) ?_
 have aG:=N
 try simp only[ze]at aG
 exact lD (Iv (e.lam)) kT (if_pos N) (zb (m.b0) rfl) ⟨rfl,rfl⟩
 refine stc (V:=Iv (min e.seq e.lam)) rfl rfl (fun x=>?_) ?_
 have aH:=x
 try simp only[ze]at aH
 exact UP (k:=.i64) (a:=e.seq) (b:=e.lam) (if_pos x) (if_pos x) ⟨rfl,rfl⟩
 refine stc (V:=.bool (decide ((min e.seq e.lam)<1))) rfl rfl (fun O=>?_) ?_
 have aI:=O
 try simp only[ze]at aI
 exact zJ (k:=.i64) (a:=min e.seq e.lam) (b:=1) (if_pos O) rfl ⟨rfl,rfl⟩
 refine st (zp (b:=(decide (e.origin<0))||(decide (n≤e.origin))) (b':=decide ((min e.seq e.lam)<1)) rfl (fun hbp=>(if_pos hbp)) (st (mV (.bool (((decide (e.origin<0))||(decide (n≤e.origin)))||(decide ((min e.seq e.lam)<1)))) (stc (V:=Ix b2 5) rfl rfl (fun aJ=>?_) ?_))))
 have aK:=aJ
 try simp only[ze]at aK
 exact Xp rfl ⟨rfl,rfl⟩
 refine stc (V:=Iv (e.agg)) rfl rfl (fun P=>?_) ?_
 have aL:=P
 try simp only[ze]at aL
 exact lD (Iv (e.agg)) kT (if_pos P) (zb (m.b0) rfl) ⟨rfl,rfl⟩
 refine stc (V:=Ix b2 9) rfl rfl (fun aM=>?_) ?_
 have aN:=aM
 try simp only[ze]at aN
 exact YF rfl ⟨rfl,rfl⟩
 refine stc (V:=Iv (e.key)) rfl rfl (fun Q=>?_) ?_
 have aO:=Q
 try simp only[ze]at aO
 exact lD (Iv (e.key)) kT (if_pos Q) (zb (m.b0) rfl) ⟨rfl,rfl⟩
 refine stc (V:=Iv (min e.agg e.key)) rfl rfl (fun y=>?_) ?_
 have aP:=y
 try simp only[ze]at aP
 exact UP (k:=.i64) (a:=e.agg) (b:=e.key) (if_pos y) (if_pos y) ⟨rfl,rfl⟩
 refine stc (V:=.bool (decide ((min e.agg e.key)<0))) rfl rfl (fun R=>?_) ?_
 have aQ:=R
 try simp only[ze]at aQ
 exact zJ (k:=.i64) (a:=min e.agg e.key) (b:=0) (if_pos R) rfl ⟨rfl,rfl⟩
 refine st (zp (b:=((decide (e.origin<0))||(decide (n≤e.origin)))||(decide ((min e.seq e.lam)<1))) (b':=decide ((min e.agg e.key)<0)) rfl (fun hbp=>(if_pos hbp)) (st (mV (.bool ((((decide (e.origin<0))||(decide (n≤e.origin)))||(decide ((min e.seq e.lam)<1)))||(decide ((min e.agg e.key)<0)))) (stc (V:=Ix b2 3) rfl rfl (fun aR=>?_) ?_))))
 have aT:=aR
 try simp only[ze]at aT
 exact xf rfl ⟨rfl,rfl⟩
 refine stc (V:=de0) rfl rfl (fun S=>?_) ?_
 have aU:=S
 try simp only[ze]at aU
 exact lD de0 nT (if_pos S) (zb (m.b0) rfl) ⟨rfl,rfl⟩
 refine stc (V:=Iw e.deps.length) rfl rfl (fun T=>?_) ?_
 have aV:=T
 try simp only[ze]at aV
 exact zR (n:=e.deps.length) mT (if_pos T) hde0.sl ⟨rfl,rfl⟩
 refine stc (V:=Iv n) rfl rfl (fun aW=>?_) ?_
 have aX:=aW
 try simp only[ze]at aX
 exact mV (Iv n) ⟨rfl,rfl⟩
 refine stc (V:=.bool (!decide (((e.deps.length:Nat):Int)=n))) rfl rfl (fun z=>?_) ?_
 have aY:=z
 try simp only[ze]at aY
 exact yh (k:=.i64) (a:=((e.deps.length:Nat):Int)) (b:=n) (if_pos z) (if_pos z) ⟨rfl,rfl⟩
 refine st (zp (b:=(((decide (e.origin<0))||(decide (n≤e.origin)))||(decide ((min e.seq e.lam)<1)))||(decide ((min e.agg e.key)<0))) (b':= !decide (((e.deps.length:Nat):Int)=n)) rfl (fun hbp=>(if_pos hbp)) (st (mV (.bool (((((decide (e.origin<0))||(decide (n≤e.origin)))||(decide ((min e.seq e.lam)<1)))||(decide ((min e.agg e.key)<0)))||(!decide (((e.deps.length:Nat):Int)=n)))) (stc (V:=Ix b2 3) rfl rfl (fun aZ=>?_) ?_))))
 have ba:=aZ
 try simp only[ze]at ba
 exact xf rfl ⟨rfl,rfl⟩
 refine stc (V:=de0) rfl rfl (fun U=>?_) ?_
 have bb:=U
 try simp only[ze]at bb
 exact lD de0 nT (if_pos U) (zb (m.b0) rfl) ⟨rfl,rfl⟩
 refine stc (V:=.func (.func 55) #[] #[]) rfl rfl (fun bc=>?_) ?_
 have bd:=bc
 try simp only[ze]at bd
 exact mV (.func (.func 55) #[] #[]) ⟨rfl,rfl⟩
 refine stcw (V:=.bool ((YG e.deps))) (fun _ wq=>Sep G W ((Blk b2 (e.cells de0).toArray 41)::Rs) wq) m rfl rfl (fun A=>?_) (fun w61 X=>?_)
 have bf:=A
 try simp only[ze]at bf
 refine(zG (f:=56) (vals:=[de0,.func (.func 55) #[] #[]]) (cap:=[]) rfl (yK ⟨(if_pos A),(if_pos A),trivial⟩) Tryz.call56 (XE (l:=e.deps) (vl:=de0) hde0 m) ?_)
 rintro _ w59 ⟨rfl,bg⟩
 exact⟨rfl,bg⟩
 refine st (zp (b:=((((decide (e.origin<0))||(decide (n≤e.origin)))||(decide ((min e.seq e.lam)<1)))||(decide ((min e.agg e.key)<0)))||(!decide (((e.deps.length:Nat):Int)=n))) (b':=(YG e.deps)) rfl (fun hbp=>(if_pos hbp)) (st (aS (.bool ((((((decide (e.origin<0))||(decide (n≤e.origin)))||(decide ((min e.seq e.lam)<1)))||(decide ((min e.agg e.key)<0)))||(!decide (((e.deps.length:Nat):Int)=n)))||(YG e.deps))) (zd ?_))))
 cases t:(((((decide (e.origin<0))||(decide (n≤e.origin)))||(decide ((min e.seq e.lam)<1)))||(decide ((min e.agg e.key)<0)))||(!decide (((e.deps.length:Nat):Int)=n)))||(YG e.deps)
 have g:=t
 try simp only[ze]at t
 refine zg rfl (za ?_)
 refine WD4 (WF [fun vals wq=>Sep G W ((Blk b2 (e.cells de0).toArray 41)::Rs) wq]) (AF [Vl 0 (Ix b2 3),Vl 1 (de0),Vl 2 (Ix b2 0),Vl 3 (Ix b2 0),Vl 4 (Iv (e.origin)),Vl 5 (Ix (sb de0) (so de0+e.origin.toNat*1)),Vl 6 (Iv ((e.deps.getD e.origin.toNat 0))),Vl 7 (Ix b2 0),Vl 8 (Ix b2 1),Vl 9 (Iv (e.seq)),Vl 10 (Iv (e.seq-1)),Vl 11 (.bool (!decide ((e.deps.getD e.origin.toNat 0)=(e.seq-1)))),Vl 12 (.bool (!decide ((e.deps.getD e.origin.toNat 0)=(e.seq-1))))]) [[],[0],[],[2],[2,3],(rg 5),(rg 6),[],[7],[7,8],[7,8,9],(rg 11),(rg 12)] [] [(0,0),(0,0),(0,0),(0,0),(0,0),(0,0),(0,0),(0,0),(0,0),(0,0),(0,0),(0,0),(0,0)] X ⟨fun _ _ _ _ _ _ _=>obl rfl (xf rfl dR),ob1 0 fun _ _ (aa:Sep _ _ _ _) ab=>obl rfl (lD de0 nT (ab 0 dc) (zb (aa.b0) rfl) dR),fun _ _ _ _ _ _ _=>obl rfl (yD rfl dR),fun _ _ _ _ _ _ ac=>obl rfl (xD (ac 2 dc) dR),ob1 0 fun _ _ (ad:Sep _ _ _ _) ae=>obl rfl (lD (Iv (e.origin)) kT (ae 3 dc) (zb (ad.b0) rfl) dR),?_,?_,fun _ _ _ _ _ _ _=>obl rfl (yD rfl dR),fun _ _ _ _ _ _ af=>obl rfl (Zz (af 7 dc) dR),ob1 0 fun _ _ (ag:Sep _ _ _ _) ah=>obl rfl (lD (Iv (e.seq)) kT (ah 8 dc) (zb (ag.b0) rfl) dR),?_,ob1 0 fun _ _ _ B=>obl rfl (yh (k:=.i64) (a:=(e.deps.getD e.origin.toNat 0)) (b:=e.seq-1) (B 6 dc) (B 10 dc) dR),fun _ _ _ _ _ _ ai=>obl rfl (ya (v:=.bool (!decide ((e.deps.getD e.origin.toNat 0)=(e.seq-1)))) (ai 11 dc) dR),trivial⟩ ?_
 refine ob1 0 fun _ _ _ C=>(obl rfl ?_)
 have hi210:e.origin.toNat<e.deps.length:=bo
 exact zA (k:=1) (i:=e.origin) mT pT (C 1 dc) hde0.sl (C 4 dc) ⟨by omega,by omega⟩ dR
 refine ob1 0 fun _ _ (aj:Sep _ _ _ _) ak=>(obl rfl ?_)
 have D:e.origin.toNat<e.deps.length:=bo
 obtain⟨Y,hxe219⟩:=hde0.intD D
 have Z:=aj.cells Y (hde0.foot (ne_of_lt D))
 exact lD (Iv ((e.deps.getD e.origin.toNat 0))) kT (ak 5 dc) (Z.get (j:=0) rfl) dR
 refine ob1 0 fun _ _ _ al=>(obl rfl ?_)
 have am:InR (e.seq-1):=(by have h9:=oe.seq;omega)
 exact YH (r:=e.seq-1) (k:=.i64) (a:=e.seq) (b:=1) (al 9 (by decide)) rfl (by rw[show(e.seq-1:Int)=e.seq-1 from rfl];exact zM am) dR
 intro vals w268 an ao
 have c:Sep _ _ _ _:=an
 have bh:=ao 12 dc
 refine zZ (kv:=[(0,.agg (e.cells de0).toArray),(1,Iv n),(2,Ix b2 0),(4,Iv 0),(5,.func (.func 55) #[] #[]),(7,Ix b2 0),(8,Ix b2 0),(9,Iv (e.origin)),(10,.bool (decide (e.origin<0))),(11,.bool (decide (e.origin<0))),(17,.bool ((decide (e.origin<0))||(decide (n≤e.origin)))),(18,.bool ((decide (e.origin<0))||(decide (n≤e.origin)))),(26,.bool (((decide (e.origin<0))||(decide (n≤e.origin)))||(decide ((min e.seq e.lam)<1)))),(27,.bool (((decide (e.origin<0))||(decide (n≤e.origin)))||(decide ((min e.seq e.lam)<1)))),(34,.bool ((((decide (e.origin<0))||(decide (n≤e.origin)))||(decide ((min e.seq e.lam)<1)))||(decide ((min e.agg e.key)<0)))),(35,.bool ((((decide (e.origin<0))||(decide (n≤e.origin)))||(decide ((min e.seq e.lam)<1)))||(decide ((min e.agg e.key)<0)))),(41,.bool (((((decide (e.origin<0))||(decide (n≤e.origin)))||(decide ((min e.seq e.lam)<1)))||(decide ((min e.agg e.key)<0)))||(!decide (((e.deps.length:Nat):Int)=n)))),(42,.bool (((((decide (e.origin<0))||(decide (n≤e.origin)))||(decide ((min e.seq e.lam)<1)))||(decide ((min e.agg e.key)<0)))||(!decide (((e.deps.length:Nat):Int)=n)))),(47,.bool false),(6,.bool false),(48,.bool (!decide ((e.deps.getD e.origin.toNat 0)=(e.seq-1))))]) ⟨rfl,rfl,rfl,rfl,rfl,rfl,rfl,rfl,rfl,rfl,rfl,rfl,rfl,rfl,rfl,rfl,rfl,rfl,rfl,rfl,(by exact bh),trivial⟩ (fun ρw268=>?_)
 refine zd ?_
 cases h: !decide ((e.deps.getD e.origin.toNat 0)=(e.seq-1))
 have d:=h
 have h:=zu h
 refine zg rfl (za (zz kr (st (xS rfl (st (lD (Iv (e.op)) kT rfl (zb (c.b0) rfl) (st (zJ (k:=.i64) (a:=e.op) (b:=1) rfl rfl (st (mV (.bool (decide (e.op<1))) (stc (V:=Ix b2 7) rfl rfl (fun ap=>?_) ?_)))))))))))
 have hl275:=fD ap
 exact xS rfl ⟨rfl,rfl⟩
 refine stc (V:=Iv (e.op)) rfl rfl (fun E=>?_) ?_
 have hl277:=fD E
 exact lD (Iv (e.op)) kT (if_pos E) (zb (c.b0) rfl) ⟨rfl,rfl⟩
 refine stc (V:=.bool (decide (5<e.op))) rfl rfl (fun F=>?_) ?_
 have hl279:=fD F
 exact yU (k:=.i64) (a:=e.op) (b:=5) (if_pos F) rfl ⟨rfl,rfl⟩
 refine st (zp (b:=decide (e.op<1)) (b':=decide (5<e.op)) rfl (fun hbp=>(if_pos hbp)) (st (aS (.bool ((decide (e.op<1))||(decide (5<e.op)))) (zd ?_))))
 cases p:(decide (e.op<1))||(decide (5<e.op))
 have o:=p
 try simp only[ze]at p
 refine zg rfl (za (zz kr (st (Zu rfl (st (lD (Iv (e.typ)) kT rfl (zb (c.b0) rfl) (st (xW rfl (st (lD (Iv (e.field)) kT rfl (zb (c.b0) rfl) (st (UP (k:=.i64) (a:=e.typ) (b:=e.field) rfl rfl (st (zJ (k:=.i64) (a:=min e.typ e.field) (b:=0) rfl rfl (st (mV (.bool (decide ((min e.typ e.field)<0))) (stc (V:=Ix b2 4) rfl rfl (fun aq=>?_) ?_)))))))))))))))))
 have hl282:=fD aq
 exact Zu rfl ⟨rfl,rfl⟩
 refine stc (V:=Iv (e.typ)) rfl rfl (fun H=>?_) ?_
 have hl284:=fD H
 exact lD (Iv (e.typ)) kT (if_pos H) (zb (c.b0) rfl) ⟨rfl,rfl⟩
 refine stc (V:=.bool (decide (8≤e.typ))) rfl rfl (fun I=>?_) ?_
 have hl286:=fD I
 exact xv (k:=.i64) (a:=e.typ) (b:=8) (if_pos I) rfl ⟨rfl,rfl⟩
 refine st (zp (b:=decide ((min e.typ e.field)<0)) (b':=decide (8≤e.typ)) rfl (fun hbp=>(if_pos hbp)) (st (mV (.bool ((decide ((min e.typ e.field)<0))||(decide (8≤e.typ)))) (stc (V:=Ix b2 6) rfl rfl (fun ar=>?_) ?_))))
 have au:=ar
 try simp only[ze]at au
 exact xW rfl ⟨rfl,rfl⟩
 refine stc (V:=Iv (e.field)) rfl rfl (fun J=>?_) ?_
 have av:=J
 try simp only[ze]at av
 exact lD (Iv (e.field)) kT (if_pos J) (zb (c.b0) rfl) ⟨rfl,rfl⟩
 refine stc (V:=.bool (decide (8≤e.field))) rfl rfl (fun K=>?_) ?_
 have aw:=K
 try simp only[ze]at aw
 exact xv (k:=.i64) (a:=e.field) (b:=8) (if_pos K) rfl ⟨rfl,rfl⟩
 refine st (zp (b:=(decide ((min e.typ e.field)<0))||(decide (8≤e.typ))) (b':=decide (8≤e.field)) rfl (fun hbp=>(if_pos hbp)) (st (aS (.bool (((decide ((min e.typ e.field)<0))||(decide (8≤e.typ)))||(decide (8≤e.field)))) (zd ?_))))
 cases q:((decide ((min e.typ e.field)<0))||(decide (8≤e.typ)))||(decide (8≤e.field))
 have s:=q
 try simp only[ze]at q
 refine zg rfl (zl (za (R0 fun _=>st (aS (Iv 0) (zd (zj (zK vT (show _=(Iv 0:Value)from rfl) ?_)))))))
 refine⟨?_,(c.s1_)⟩
 unfold yv
 simp only[g,d,o,s,if_true,if_false,Bool.false_eq_true,↓reduceIte]
 have s:=q
 try simp only[ze]at q
 refine zh rfl (za (R0 fun _=>st (aS (Iv 8) (zd (zj (zK vT (show _=(Iv 8:Value)from rfl) ?_))))))
 refine⟨?_,(c.s1_)⟩
 unfold yv
 simp only[g,d,o,s,if_true,if_false,Bool.false_eq_true,↓reduceIte]
 have o:=p
 try simp only[ze]at p
 refine zh rfl (za (R0 fun _=>st (aS (Iv 2) (zd (zj (zK vT (show _=(Iv 2:Value)from rfl) ?_))))))
 refine⟨?_,(c.s1_)⟩
 unfold yv
 simp only[g,d,o,if_true,if_false,Bool.false_eq_true,↓reduceIte]
 have d:=h
 have h:=zy h
 refine zh rfl (za (R0 fun _=>st (aS (Iv 9) (zd (zj (zK vT (show _=(Iv 9:Value)from rfl) ?_))))))
 refine⟨?_,(c.s1_)⟩
 unfold yv
 simp only[g,d,if_true,if_false,Bool.false_eq_true,↓reduceIte]
 have g:=t
 try simp only[ze]at t
 refine zh rfl (za (R0 fun _=>st (aS (Iv 1) (zd (zj (zK vT (show _=(Iv 1:Value)from rfl) ?_))))))
 refine⟨?_,(X.s1_)⟩
 unfold yv
 simp only[g,if_true,if_false,Bool.false_eq_true,↓reduceIte]
def ltE (a b:Ev):Bool:=if(!decide (a.lam=b.lam))=true then decide (a.lam<b.lam)else if(!decide (a.origin=b.origin))=true then decide (a.origin<b.origin)else decide (a.seq<b.seq)
end
section
open Go.RowKit
def MildV (a b:Value):Prop:=b=a∨ ∃m n:Int,a=.int .i64 m∧b=.int .i64 n∧InR n
theorem IsSl.num {v:Value}{n:Nat}(h:IsSl v n)(m:Int):v≠ .int .i64 m:=by obtain⟨a,cap,rfl,_⟩:=h;intro e;cases e
section
variable {α:Type}[Rep α]{G:Nat→Prop}{W w w0:World}{As:List HP}{T:TypeId}{v:Value}{l:List α}{f0:Nat→Prop}{X:Nat→Nat→Prop}
end
section
variable {P:Program}{d:Option Tmp}{ty:TypeId}{pos:String}{af:Array Edge}{gd:Option (Nat×Bool)}{σ:Env}{w w0:World}{K:Value→World→Prop}{G:Nat→Prop}{W:World}{As:List HP}{f0:Nat→Prop}{X X':Nat→Nat→Prop}
end
def MildAll:List Value→List Value→Prop
 |a::xs,b::ys=>MildV a b∧MildAll xs ys
 |_,_=>True
theorem MildAll.at_: ∀{xs ys:List Value},MildAll xs ys→ ∀(j:Nat) v v',xs[j]? =some v→ys[j]? =some v'→MildV v v'
 |_::_,_::_,h,0,_,_,h1,h2=>by
  simp only[List.getElem?_cons_zero,Option.some.injEq]at h1 h2
  subst h1;subst h2;exact h.1
 |_::_,_::_,h,j+1,_,_,h1,h2=>MildAll.at_ h.2 j _ _ (by simpa using h1) (by simpa using h2)
 |[],_,_,j,_,_,h1,_=>by simp at h1
 |_::_,[],_,j,_,_,_,h2=>by simp at h2
theorem MildV.num {m n:Int}(h:InR n):MildV (.int .i64 m) (.int .i64 n):=.inr ⟨m,n,rfl,rfl,h⟩
end
section
set_option maxRecDepth 8000
set_option maxHeartbeats 4000000
open Go.Proofs Go.RowKit
theorem K2i:KLaw Tryz.prog 38 yR where
 inj:=by
  rintro⟨a,b⟩ ⟨c,d⟩ h
  simp only[yR,Value.agg.injEq,Array.mk.injEq,List.cons.injEq,Value.int.injEq,true_and,and_true]at h
  rw[h.1,h.2]
 desc:=⟨_,Tryz.underlying38,fun _ _=>rfl⟩
 check:=by
  intro w e k
  show(Instr.checkKey e 10000 38 (.agg #[.int .i64 k.1,.int .i64 k.2])).run Tryz.prog w=.ok () w
  rw[show(10000:Nat)=9998+1+1 from rfl,Instr.checkKey]
  simp[go_sem,ck3]
 eql:=by
  rintro w ⟨a,b⟩ ⟨c,d⟩
  rw[show decide ((a,b)=(c,d))=(a== c&&b== d) by rw[←Wl];simp]
  unfold Op.equal Op.maxDepth yR
  simp[go_sem]
  by_cases h1:a=c<;>by_cases h2:b=d<;>simp[h1,h2]
 stays:=by intro k;simp[Instr.sameBits,yR]
def EV (v:Value)(e:Ev):HP:=⟨fun w f=> ∃vd,v=.agg (e.cells vd).toArray∧e.Ok∧(RowE (α:=Int) own 3 vd e.deps).p w f,fun h hf=>by
 obtain⟨vd,h1,h2,h3⟩:=h
 exact⟨vd,h1,h2,HP.loc _ h3 hf⟩⟩
def YU:Value:=.agg ((⟨0,0,0,[],0,0,0,0,0,0⟩:Ev).cells (.slice none 0 0)).toArray
def ym (L:List Ev):Int×Int→Option Ev:=fun k=>L.find? (fun e=>decide (e.origin=k.1∧e.seq=k.2))
def xM (L:List Ev)(o:Nat):Nat:=(L.filter (fun e=>decide (e.origin=(o:Int)))).length
def zr (n:Nat)(L:List Ev):List Int:=(List.range n).map (fun o=>((xM L o:Nat):Int))
def zS (L:List Ev):Int:=L.foldr (fun e m=>max m e.lam) 0
def SetO (b:Nat)(n:Nat)(L:List Ev):HP:=Ex1 fun vv=>Ex1 fun m=>Star [Blk b #[vv,.map (some m),.int .i64 (zS L)] 89,RowE (α:=Int) own 3 vv (zr n L),MapO yR EV m (ym L)]
section
variable {G:Nat→Prop}{W w:World}{As:List HP}{b n:Nat}{L:List Ev}
theorem SetO.open (h:Sep G W (SetO b n L::As) w): ∃vv m,Sep G W (Blk b #[vv,.map (some m),.int .i64 (zS L)] 89::RowE (α:=Int) own 3 vv (zr n L)::MapO yR EV m (ym L)::As) w:=by
 obtain⟨vv,h⟩:=h.openEx
 obtain⟨m,h⟩:=h.openEx
 exact⟨vv,m,h.openStar⟩
theorem SetO.close {vv:Value}{m:Nat}{t:Int}{v:List Int}{X:Int×Int→Option Ev}(h:Sep G W (Blk b #[vv,.map (some m),.int .i64 t] 89::RowE (α:=Int) own 3 vv v::MapO yR EV m X::As) w)(ht:t=zS L)(hv:v=zr n L)(hX:X=ym L):Sep G W (SetO b n L::As) w:=by
 subst ht hv hX
 have h:=Sep.closeStar (Bs:=[Blk b #[vv,.map (some m),.int .i64 (zS L)] 89,RowE (α:=Int) own 3 vv (zr n L),MapO yR EV m (ym L)]) h
 exact Sep.closeEx (A:=fun vv=>Ex1 fun m=>Star [Blk b #[vv,.map (some m),.int .i64 (zS L)] 89,RowE (α:=Int) own 3 vv (zr n L),MapO yR EV m (ym L)]) vv (Sep.closeEx (A:=fun m=>Star [Blk b #[vv,.map (some m),.int .i64 (zS L)] 89,RowE (α:=Int) own 3 vv (zr n L),MapO yR EV m (ym L)]) m h)
structure SetR (W:World) (G:Nat→Prop) (m:Nat) (R:List ((Int×Int)×Value)) (L:List Ev):Prop where
 gm:G m
 is:IsMap yR W m R
 at_: ∀k,∃(x:Ev) (vd:Value),x=(ym L k).getD default∧(yw R k).getD YU=.agg (x.cells vd).toArray∧x.Ok∧RdS W G vd x.deps∧(yw R k).isSome=(ym L k).isSome
theorem IsMap.move {κ:Type}[DecidableEq κ]{enc:κ→Value}{W w:World}{m:Nat}{R:List (κ×Value)}(h:IsMap enc W m R)(e:w.heap[m]? =W.heap[m]?):IsMap enc w m R:=by
 obtain⟨es,c,h1,h2⟩:=h
 exact⟨es,c,e.trans h1,h2⟩
theorem SetR.base {G':Nat→Prop}{W':World}{m:Nat}{R:List ((Int×Int)×Value)}(h:SetR W G m R L)(hb:Base G W G' W'):SetR W' G' m R L:=
 ⟨(hb m h.gm h.is.lt).2,h.is.move (hb m h.gm h.is.lt).1,fun k=>by
  obtain⟨x,vd,h1,h2,h3,h4,h5⟩:=h.at_ k
  exact⟨x,vd,h1,h2,h3,h4.base hb,h5⟩⟩
theorem MapO.rd {m:Nat}(h:(MapO yR EV m (ym L)).p W G): ∃R,SetR W G m R L:=by
 obtain⟨R,g,h1,h2,h3,h4⟩:=h
 refine⟨R,h1,h2,fun k=>?_⟩
 have h5:=h3 k
 cases hR:yw R k with
 |none=>
  cases hX:ym L k with
  |none=>exact⟨default,.slice none 0 0,rfl,rfl,by constructor<;>decide,RdS.nil _ _,rfl⟩
  |some x=>rw[hR,hX]at h5;exact h5.elim
 |some v=>
  cases hX:ym L k with
  |none=>rw[hR,hX]at h5;exact h5.elim
  |some x=>
   rw[hR,hX]at h5
   obtain⟨vd,e1,e2,e3⟩:=h5
   exact⟨x,vd,rfl,e1,e2,(RowE.rd e3).weak (fun b _ hb=>(h4.sub k b hb).1),rfl⟩
theorem SetO.sh (h:(SetO b n L).p W G): ∃vv m R,(Blk b #[vv,.map (some m),.int .i64 (zS L)] 89).p W G∧RdS W G vv (zr n L)∧SetR W G m R L:=by
 obtain⟨vv,m,h⟩:=h
 obtain⟨R,hR⟩:=MapO.rd (Star.at_ h (i:=2) rfl)
 exact⟨vv,m,R,Star.at_ h (i:=0) rfl,RowE.rd (T:=3) (Star.at_ h (i:=1) rfl),hR⟩
theorem YP {K:Value→World→Prop}{P:Program}{d:Option Tmp}{ty:TypeId}{pos:String}{af:Array Edge}{g:Option (Nat×Bool)}{σ:Env}{t kt et:TypeId}{x y:Operand}{m:Nat}{R:List ((Int×Int)×Value)}{k:Int×Int}{v:Value}{bb:Bool}(h:Sep G W As w)(hr:SetR W G m R L)(hK:KLaw P kt yR)(hU:P.underlying t=some (.map kt et))(hZ: ∀w,(zeroValue et).run P w=.ok YU w)
 (hx:ev σ x=.map (some m)) (hy:ev σ y=yR k) (hv:(yw R k).getD YU=v) (hb:(yw R k).isSome=bb) (hk:K (.tuple #[v,.bool bb]) w):opV P ⟨d,.lookup t x y true,ty,pos,af,g⟩ σ w K:=by
 subst hv hb
 exact YS hK hU hZ hx hy (hr.is.move (h.gb hr.gm)) hk
end
theorem Jy {n:Nat}:List.replicate n (0:Int)=zr n []:=by
 unfold zr xM
 refine List.ext_getElem (by simp) (fun i h1 h2=>by simp)
theorem xl {n:Nat}{L:List Ev}:(zr n L).length=n:=by simp[zr]
theorem WR {n:Nat}{L:List Ev}{o:Nat}(h:o<n):(zr n L).getD o 0=((xM L o:Nat):Int):=by simp[zr,h]
theorem Qu {G:Nat→Prop}{W w:World}{Rs:List HP}{n:Nat}(hn:n≤1000)(hS0:Sep G W Rs w):Ret Tryz.prog 25 [.int .i64 ((n:Nat):Int)] w (fun r w'=> ∃(b:Nat),r=(.pointer (some ⟨b,0,none⟩):Value)∧Sep G W ((SetO b n ([]:List Ev))::Rs) w'):=by
 refine zi (args:=[Iw n]) Tryz.func25 rfl rfl ?_
 refine za (R0 fun _=>st (aS (.pointer none) (zd (za (R0 fun _=>st (mV (Iw n) (st (YB (α:=Int) (T:=3) (bytes:=8) (n:=n) (x1:=(0:Int)) mT ⟨_,_,rfl,rfl,rfl,rfl,rfl,fun _ _=>⟨rfl,by decide⟩⟩ rfl rfl rfl (by show n*8≤140737488355328;omega) ?_))))))))
 intro l d m he3 hl4 o
 have f:Sep G W ((RowE (α:=Int) own 3 (Iy d n n) (List.replicate n (0:Int)))::Rs) l:=hS0.made m o
 have g:=f.r0
 have hr8s:_*8≤_:=g.2
 refine st (Zy ?_)
 intro p q
 obtain⟨a,e⟩: ∃z,z=l.heap.size:=⟨_,rfl⟩;rw[←e]
 have h:Sep G W ((MapO yR EV a (fun _=>none))::(RowE (α:=Int) own 3 (Iy d n n) (List.replicate n (0:Int)))::Rs) p:=(by rw[e];exact f.mapoNew q)
 refine st (zP (parts':=[(0,(Iy d n n)),(1,.map (some a))]) (v:=.agg #[(Iy d n n),.map (some a),Iv 0]) rfl (by obtain⟨_,_,i,_⟩:=g.1;rw[show(Iy d n n)=Value.slice _ _ _ from i];simp[Instr.build,Instr.fill,go_sem]) (st (zN (v:=.agg #[(Iy d n n),.map (some a),Iv 0]) rfl ?_)))
 intro s c j
 refine st (aS (Ix c 0) (zd (zj (zK Tryz.results25 (show _=(Ix c 0:Value)from rfl) ?_))))
 have k:Sep G W ((SetO c n ([]:List Ev))::Rs) s:=SetO.close ((h.new j).s3_acb) rfl Jy rfl
 refine⟨c,rfl,k⟩
theorem KE {G:Nat→Prop}{W w:World}{Rs:List HP}{b:Nat}{n:Nat}{L:List Ev}(hb:(SetO b n L).p W G)(hS0:Sep G W Rs w):Ret Tryz.prog 33 [.pointer (some ⟨b,0,none⟩)] w (fun r w'=> ∃(v:Value),r=(v:Value)∧Sep G W ((RowE (α:=Int) own 3 v (zr n L))::Rs) w'):=by
 refine zi (args:=[Ix b 0]) Tryz.func33 rfl rfl ?_
 obtain⟨c,m2,R3,g,d,hr6⟩:=SetO.sh hb
 have hsm7:(zr n L).length*8≤140737488355328:=d.small
 refine za (R0 fun _=>st (aS (Iz) (zd (za (R0 fun _=>st (mV (Ix b 0) (st (zB (b:=b) (o:=0) rfl (st (XK rfl (st (lD c nT rfl (zb (hS0.gblk g) rfl) (st (cL pY (xV (l:=zr n L) (vl:=c) d hS0) ?_))))))))))))))
 rintro e w9 ⟨_,rfl,a⟩
 have f:=a.r0
 have hr11s:_*8≤_:=f.2
 refine st (aS e (zd (zj (zK Tryz.results33 (show _=(e:Value)from rfl) ?_))))
 refine⟨e,rfl,a⟩
theorem KD {G:Nat→Prop}{W w:World}{Rs:List HP}{b:Nat}{n:Nat}{L:List Ev}(hb:(SetO b n L).p W G)(hS0:Sep G W Rs w):Ret Tryz.prog 20 [.pointer (some ⟨b,0,none⟩)] w (fun r w'=>r=(.int .i64 (zS L):Value)∧Sep G W Rs w'):=by
 refine zi (args:=[Ix b 0]) Tryz.func20 rfl rfl ?_
 obtain⟨vv1,m2,R3,a,c,hr6⟩:=SetO.sh hb
 have hsm7:(zr n L).length*8≤140737488355328:=c.small
 refine za (R0 fun _=>st (aS (Iv 0) (zd (za (R0 fun _=>st (mV (Ix b 0) (st (zB (b:=b) (o:=0) rfl (st (Ul rfl (st (lD (Iv (zS L)) kT rfl (zb (hS0.gblk a) rfl) (st (aS (Iv (zS L)) (zd (zj (zK Tryz.results20 (show _=(Iv (zS L):Value)from rfl) ?_)))))))))))))))))
 refine⟨rfl,hS0⟩
end
section
set_option maxRecDepth 8000
set_option maxHeartbeats 4000000
open Go.Proofs Go.RowKit
def xw (L:List Ev)(e:Ev)(o:Nat):Bool:=decide (e.deps.getD o 0=0)||match ym L ((o:Int),e.deps.getD o 0)with
 |none=>false
 |some x=>decide (x.lam<e.lam)&&(List.range x.deps.length).all fun i=>decide (x.deps.getD i 0≤e.deps.getD i 0)
theorem zbM {L:List Ev}{e:Ev}{o:Nat}(h:e.deps.getD o 0=0):xw L e o=true:=by unfold xw;rw[decide_eq_true h];rfl
theorem zbr {L:List Ev}{e:Ev}{o:Nat}(h: ¬e.deps.getD o 0=0)(hn:(ym L ((o:Int),e.deps.getD o 0)).isSome=false):xw L e o=false:=by
 unfold xw
 rw[Option.isSome_eq_false_iff,Option.isNone_iff_eq_none]at hn
 rw[hn,decide_eq_false h];rfl
theorem UM {L:List Ev}{e x:Ev}{o:Nat}(h: ¬e.deps.getD o 0=0)(hx:x=(ym L ((o:Int),e.deps.getD o 0)).getD default)(hn:(ym L ((o:Int),e.deps.getD o 0)).isSome=true):
 xw L e o=(decide (x.lam<e.lam)&&(List.range x.deps.length).all fun i=>decide (x.deps.getD i 0≤e.deps.getD i 0)):=by
 unfold xw
 obtain⟨y,hy⟩:=Option.isSome_iff_exists.1 hn
 rw[hy]at hx
 simp only[Option.getD_some]at hx
 subst hx
 rw[hy];simp only[decide_eq_false h,Bool.false_or]
theorem ZL {L:List Ev}{k:Int×Int}{x:Ev}(h:ym L k=some x):x∈L∧x.origin=k.1∧x.seq=k.2:=by
 have h1:=List.mem_of_find?_eq_some h
 have h2:=List.find?_some h
 simp only[decide_eq_true_eq]at h2
 exact⟨h1,h2⟩
theorem Ke {n:Nat}{L:List Ev}{k:Int×Int}{x:Ev}(hl: ∀y∈L,y.deps.length=n)(hx:x=(ym L k).getD default)(hn:(ym L k).isSome=true):x.deps.length=n:=by
 obtain⟨y,hy⟩:=Option.isSome_iff_exists.1 hn
 rw[hy]at hx
 simp only[Option.getD_some]at hx
 subst hx
 exact hl _ (ZL hy).1
theorem zaI {G:Nat→Prop}{W w:World}{Rs:List HP}{b:Nat}{n:Nat}{L:List Ev}(hb:(SetO b n L).p W G){e:Ev}{de0:Value}(hde0:RdS W G de0 e.deps)(oe:e.Ok){o:Nat}(ho:o<n)(hS0:Sep G W Rs w)(hel:e.deps.length=n)(hlen: ∀y∈L,y.deps.length=n):Ret Tryz.prog 36 [.pointer (some ⟨b,0,none⟩),.agg (e.cells de0).toArray,.int .i64 ((o:Nat):Int)] w (fun r w'=>r=(.bool ((xw L e o)):Value)∧Sep G W Rs w'):=by
 have hde0s:_*8≤_:=hde0.small
 refine zi (args:=[Ix b 0,.agg (e.cells de0).toArray,Iw o]) Tryz.func36 rfl rfl ?_
 obtain⟨vv1,m2,R3,ak,al,Q⟩:=SetO.sh hb
 have hsm7:(zr n L).length*8≤140737488355328:=al.small
 refine za (R0 fun _=>st (zN (v:=.agg (e.cells de0).toArray) rfl ?_))
 intro w10 S am
 have g:=hS0.new am
 refine st (aS (.bool false) (zd (za (R0 fun _=>st (xf rfl (st (lD de0 nT rfl (zb (g.b0) rfl) (st (mV (Iw o) ?_)))))))))
 have T:o<e.deps.length:=bo
 refine st (zm (k:=1) (i:=o) mT pT rfl hde0.sl rfl T ?_)
 have C:o<e.deps.length:=bo
 obtain⟨J,hxe13⟩:=hde0.intD C
 have K:=g.cells J (hde0.foot (ne_of_lt C))
 refine st (lD (Iv ((e.deps.getD o 0))) kT rfl (K.get (j:=0) rfl) (st (aS (Iv ((e.deps.getD o 0))) (zd (za (za (R0 fun _=>st (mV (Iv ((e.deps.getD o 0))) (st (yc (k:=.i64) (a:=(e.deps.getD o 0)) (b:=0) rfl rfl (zd ?_)))))))))))
 cases d:decide ((e.deps.getD o 0)=0)
 have hc16r:=d
 have d:=fD d
 refine zg rfl (zl (za (yx (by kernel_rfl) (fun _=>(st (mV (Ix b 0) (st (zB (b:=b) (o:=0) rfl (st (Ve rfl (st (lD (.map (some m2)) Tryz.isAgg87 rfl (zb (g.gblk ak) rfl) (st (mV (Iw o) (st (mV (Iv ((e.deps.getD o 0))) (st (zP (parts':=[(0,Iw o),(1,Iv ((e.deps.getD o 0)))]) (v:=.agg #[Iw o,Iv ((e.deps.getD o 0))]) rfl (by simp+zetaDelta [Instr.build,Instr.fill,Ev.cells,go_sem,Mv.cells,Fld.cells,Typ.cells,Prj.cells,Dcl.cells,Cel.cells,AskR.cells,CelS.cells,Ev.cells,Ent.cells,Sta.cells]) ?_))))))))))))))))))
 obtain⟨c,f,z,U,hok21,l,X⟩:=Q.at_ (((o:Nat):Int),(e.deps.getD o 0))
 have hsm24:c.deps.length*8≤140737488355328:=l.small
 refine st (YP (k:=(((o:Nat):Int),(e.deps.getD o 0))) g Q K2i Tryz.underlying87 rT rfl (show _=(.agg #[Iw o,Iv ((e.deps.getD o 0))]:Value)from rfl) U X (st (mV (.tuple #[.agg (c.cells f).toArray,.bool ((ym L (((o:Nat):Int),(e.deps.getD o 0))).isSome)]) (st (zk (vs:=[.agg (c.cells f).toArray,.bool ((ym L (((o:Nat):Int),(e.deps.getD o 0))).isSome)]) (i:=0) (v:=.agg (c.cells f).toArray) rfl rfl (st (zk (vs:=[.agg (c.cells f).toArray,.bool ((ym L (((o:Nat):Int),(e.deps.getD o 0))).isSome)]) (i:=1) (v:=.bool ((ym L (((o:Nat):Int),(e.deps.getD o 0))).isSome)) rfl rfl (st (zt rT ?_)))))))))
 intro w27 R Y
 have D:=g.new Y
 refine stn (zq (v:=.agg (c.cells f).toArray) (c':=(c.cells f).toArray) lT rfl rfl (D.b0) (ye ⟨rfl,rfl,rfl,l.sl.one,rfl,rfl,rfl,rfl,rfl,rfl,trivial⟩) yqc rfl ?_)
 intro w29 Z
 have t:=D.pt0 Z
 refine st (aS (.bool ((ym L (((o:Nat):Int),(e.deps.getD o 0))).isSome)) (zd (za (za (zz kr (st (mV (.bool ((ym L (((o:Nat):Int),(e.deps.getD o 0))).isSome)) (st (yF (a:=(ym L (((o:Nat):Int),(e.deps.getD o 0))).isSome) rfl (st (mV (.bool (!((ym L (((o:Nat):Int),(e.deps.getD o 0))).isSome))) (stc (V:=Ix R 2) rfl rfl (fun aa=>?_) ?_))))))))))))
 have ab:=aa
 try simp only[ze]at ab
 exact Zi rfl ⟨rfl,rfl⟩
 refine stc (V:=Iv (c.lam)) rfl rfl (fun E=>?_) ?_
 have ac:=E
 try simp only[ze]at ac
 exact lD (Iv (c.lam)) kT (if_pos E) (zb (t.b0) rfl) ⟨rfl,rfl⟩
 refine stc (V:=Ix S 2) rfl rfl (fun ad=>?_) ?_
 have ae:=ad
 try simp only[ze]at ae
 exact Zi rfl ⟨rfl,rfl⟩
 refine stc (V:=Iv (e.lam)) rfl rfl (fun F=>?_) ?_
 have af:=F
 try simp only[ze]at af
 exact lD (Iv (e.lam)) kT (if_pos F) (zb (t.b1) rfl) ⟨rfl,rfl⟩
 refine stc (V:=.bool (decide (e.lam≤c.lam))) rfl rfl (fun B=>?_) ?_
 have ag:=B
 try simp only[ze]at ag
 exact xv (k:=.i64) (a:=c.lam) (b:=e.lam) (if_pos B) (if_pos B) ⟨rfl,rfl⟩
 refine st (zp (b:= !((ym L (((o:Nat):Int),(e.deps.getD o 0))).isSome)) (b':=decide (e.lam≤c.lam)) rfl (fun hbp=>(if_pos hbp)) (zd ?_))
 cases A:(!((ym L (((o:Nat):Int),(e.deps.getD o 0))).isSome))||(decide (e.lam≤c.lam))
 have s:=A
 try simp only[ze]at A
 have q:=s
 simp only[Bool.or_eq_false_iff,Bool.not_eq_false',decide_eq_false_iff_not,Bool.not_eq_eq_eq_not,Bool.not_false]at q
 have hxl9:=Ke hlen z q.1
 refine zg rfl (zl (za (za (R0 fun _=>st (xf rfl (st (lD f nT rfl (zb (t.b0) rfl) (st (zR (n:=c.deps.length) mT rfl l.sl (st (mV (Iv 0) (zd (zx (yq (fun mq σ wq=> ∃(k:Nat) (ρ:Env),mq=c.deps.length-k∧σ=yi ρ [(0,Ix b 0),(4,Ix S 0),(40,f),(41,Iw c.deps.length),(42,Iw k)]∧(k≤c.deps.length)∧(∀i,i<k→c.deps.getD i 0≤e.deps.getD i 0)∧Sep G W ((Blk R (c.cells f).toArray 41)::(Blk S (e.cells de0).toArray 41)::Rs) wq) ⟨0,_,rfl,sSf,Nat.zero_le _,(fun i h=>absurd h (Nat.not_lt_zero i)),t⟩ ?_))))))))))))))
 rintro m44 σ45 w43 ⟨k,ρl1,rfl,rfl,hkk,hm,m⟩
 refine za (R0 fun _=>st (zJ (k:=.i64) (a:=((k:Nat):Int)) (b:=((c.deps.length:Nat):Int)) rfl rfl (zd (za ?_))))
 cases u:decide (((k:Nat):Int)<((c.deps.length:Nat):Int))
 have hc47r:=u
 have u:=fD u
 refine zg rfl (yr (yg (za (R0 fun _=>st (aS (.bool true) (zd (zj (zK mR (show _=(.bool true:Value)from rfl) ?_))))))))
 refine⟨?_,(m.s2_)⟩
 rw[UM d z q.1,decide_eq_true (show c.lam<e.lam by omega),Bool.true_and]
 rw[List.all_eq_true.2 (fun i hi=>decide_eq_true (hm i (by have:=List.mem_range.1 hi;omega)))]
 have u:=tD u
 refine zh rfl (zl (za (zx (za (R0 fun _=>st (mV (Iw k) ?_))))))
 have ah:k<c.deps.length:=bo
 refine st (zm (k:=1) (i:=k) mT pT rfl l.sl rfl ah ?_)
 have H:k<c.deps.length:=bo
 obtain⟨M,hxe50⟩:=l.intD H
 have N:=m.cells M (l.foot (ne_of_lt H))
 refine st (lD (Iv ((c.deps.getD k 0))) kT rfl (N.get (j:=0) rfl) (st (aS (Iw k) (st (aS (Iv ((c.deps.getD k 0))) (zd (za (R0 fun _=>st (mV (Iv ((c.deps.getD k 0))) (st (xf rfl (st (lD de0 nT rfl (zb (m.b1) rfl) (st (mV (Iw k) ?_)))))))))))))))
 have ai:k<e.deps.length:=bo
 refine st (zm (k:=1) (i:=k) mT pT rfl hde0.sl rfl ai ?_)
 have I:k<e.deps.length:=bo
 obtain⟨O,hxe54⟩:=hde0.intD I
 have P:=m.cells O (hde0.foot (ne_of_lt I))
 refine st (lD (Iv ((e.deps.getD k 0))) kT rfl (P.get (j:=0) rfl) (st (yU (k:=.i64) (a:=(c.deps.getD k 0)) (b:=(e.deps.getD k 0)) rfl rfl (zd ?_))))
 cases x:decide ((e.deps.getD k 0)<(c.deps.getD k 0))
 have hc57r:=x
 have x:=fD x
 refine zg rfl (zl (R0 fun _=>?_))
 have aj:InR ((k+1:Nat):Int):=bo
 refine st (yb (r:=((k+1:Nat):Int)) (k:=.i64) (a:=((k:Nat):Int)) (b:=1) rfl rfl (by rw[show(((k:Nat):Int)+1:Int)=((k+1:Nat):Int)from bo];exact zM aj) (st (mV (Iw (k+1)) (zd ?_))))
 exact⟨_,by omega,k+1,_,rfl,sSf,by omega,(yV hm om),m⟩
 have x:=tD x
 refine zh rfl (za (R0 fun _=>st (aS (.bool false) (zd (zj (zK mR (show _=(.bool false:Value)from rfl) ?_))))))
 refine⟨?_,(m.s2_)⟩
 rw[UM d z q.1,decide_eq_true (show c.lam<e.lam by omega),Bool.true_and]
 congr 1
 symm
 rw[List.all_eq_false]
 exact⟨k,List.mem_range.2 (by omega),by simp only[decide_eq_true_eq];omega⟩
 have s:=A
 try simp only[ze]at A
 refine zh rfl (za (R0 fun _=>st (aS (.bool false) (zd (zj (zK mR (show _=(.bool false:Value)from rfl) ?_))))))
 refine⟨?_,(t.s2_)⟩
 cases q:(ym L (((o:Nat):Int),(e.deps.getD o 0))).isSome
 rw[zbr d q]
 rw[UM d z q]
 have h9: ¬c.lam<e.lam:=by rw[q]at s;simpa using s
 simp[h9]
 have d:=tD d
 refine zh rfl (za (R0 fun _=>st (aS (.bool true) (zd (zj (zK mR (show _=(.bool true:Value)from rfl) ?_))))))
 refine⟨?_,(g.s1_)⟩
 rw[zbM d]
end
end Go.Proofs.YtbbabhaalmkbkaaGreatDoor
