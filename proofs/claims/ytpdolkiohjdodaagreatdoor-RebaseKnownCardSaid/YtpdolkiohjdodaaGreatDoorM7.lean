import Derived.Test.YtpdolkiohjdodaaGreatDoorM6
set_option maxRecDepth 8000
set_option maxHeartbeats 4000000
set_option linter.unusedSimpArgs false
set_option linter.unusedVariables false
set_option linter.unusedSectionVars false
set_option linter.deprecated false
open Go.Proofs.Tryz renaming isAgg3→kT,sizeOf55→lT,underlying42→mT,sizeOf57→nT,isAgg55→oT,sizeOf52→pT,isAgg52→qT,underlying26→rT,isAgg53→sT,sizeOf3→tT,isAgg46→uT,underlying46→vT,results84→wT,results58→kR,call67→lR,isAgg42→mR,sizeOf48→nR,underlying53→oR,sizeOf105→pR,results83→qR,zeroValue48→rR,isAgg25→sR,sizeOf25→tR,results17→uR,results22→vR,zeroValue57→wR,isAgg48→kY,zeroValue55→lY,results5→mY,call51→nY,isAgg4→oY,underlying73→pY,underlying55→qY,underlying70→rY
namespace Go.Proofs.YtpdolkiohjdodaaGreatDoor
variable {G:Nat→Prop}{W w:World}{Rs:List HP}
section
open Go.Proofs Go.RowKit
def yr (d:Dcl)(k:Int×Int)(L:List Ent):Sta:=⟨((yw k L:Nat):Int),stL d k L⟩
theorem xc (d:Dcl)(l:List Ev):(zk d l).length=l.length:=by
 induction l using ZB with
 |h0=>rfl
 |h1 l e ih=>rw[xF,List.length_append,List.length_append,ih];rfl
theorem Wd {d:Dcl}{l:List Ev}{k:Nat}(h:k<l.length):zk d (l.take (k+1))=zk d (l.take k)++[ye d (zk d (l.take k)) (l.getD k default)]:=by rw[List.take_getD (d:=default) h,xF]
theorem zcm {d:Dcl}{l:List Ev}{k:Nat}(h:l.length≤1000000):(zk d (l.take k)).length≤1000000:=by rw[xc,List.length_take];omega
set_option maxHeartbeats 8000000 in
theorem zbc {b:Nat}{d:Dcl}{L:List Ent}{e:Ev}{de0:Value}(hde0:RdS W G de0 e.deps)(oe:e.Ok)(hKN:RdS W G (.slice (some ⟨0,0,none⟩) 6 6) kindsL)(hS0:Sep G W ((ViewO b d L L)::Rs) w)(hd:DclOk d)(hinv:Inv d L)(hml:L.length≤1000000):Ret Tryz.prog 63 [.pointer (some ⟨b,0,none⟩),.agg (e.cells de0).toArray] w (fun r w'=> ∃(v:Value),r=(.agg ((ye d L e).cells v).toArray:Value)∧Sep G W ((ViewO b d (L++[ye d L e]) (L++[ye d L e]))::(RowE (α:=Int) own 3 v e.deps)::Rs) w'):=by
 refine zn Tryz.func63 rfl rfl ?_
 refine za (R0 fun _=>st (zX rfl ?_))
 intro w3 b2 bz
 let bF:=Blk b2 (e.cells de0).toArray 55
 refine st (zG wR ?_)
 intro w7 U bA
 let bo:=Blk U #[Iv 0,Iv 0,Iv 0,(Iz),Iv 0,Iv 0,Iv 0,Iv 0,Iv 0,Iv 0,.bool false,Iv 0,Iv 0] 57
 have bb:=(hS0.new bz).new bA
 refine zb (za (R0 fun _=>st (mV (Ix b 0) (st (zh oT lT rfl rfl (zo (bb.b1)) (st (cL lR (WH hde0 oe bb) ?_)))))))
 rintro _ w10 ⟨v9,rfl,ah⟩
 have bd:=ah.r0
 refine st (cL Tryz.call82 (D_try oe hKN (ah.mv3) hd hinv hml) ?_)
 rintro _ w15 ⟨rfl,V,be⟩
 refine st (mV (.tuple #[.bool ((yh d L e).1),.agg #[Iv ((yh d L e).2.1),Iv ((yh d L e).2.2)]]) (st (zz rfl rfl (st (zz rfl rfl (st (zG Tryz.zeroValue52 ?_)))))))
 intro w19 T bf
 let bB:=Blk T #[Iv ((yh d L e).2.1),Iv ((yh d L e).2.2)] 52
 have ai:=be.new bf
 refine st (aS (.bool ((yh d L e).1)) (stn (zy (v:=.agg #[Iv ((yh d L e).2.1),Iv ((yh d L e).2.2)]) pT rfl rfl (ai.b0) (yo ⟨rfl,rfl,zl⟩) yqc rfl ?_)))
 intro bC bg
 refine zb (za ?_)
 have hek:Ent.Ok (ye d L e):=⟨oe,V.1,V.2⟩
 obtain⟨q,s,t,A,B,bh⟩:=ViewO.open ((ai.pt0 bg).mv1)
 let bE:=xk Zr E2 B (yN (L++[ye d L e]))
 let bD:=xk Zv E1 A (zj d (L++[ye d L e]))
 have H:Sep G W ((BkV b q s t A B)::(RwT q d.types)::(RwP s d.projs)::(RwN t L)::bD::bE::bB::bo::bF::Rs) bC:=bh
 have bi:=H.r1
 have bj:=H.r2
 have bk:=H.r3
 refine WD4 ((fun TT F C D I=>WF [fun vals z=>Sep G W (F::C::D::I::TT) z,fun vals z=> ∃g,(vals 6=(.agg (e.cells g).toArray:Value))∧Sep G W ((RwI g e.deps)::F::C::D::I::TT) z,fun vals z=> ∃g l,(vals 6=(.agg (e.cells g).toArray:Value))∧(vals 10=((Iy l 1 1):Value))∧Sep G W ((Blk l ((ye d L e).cells g).toArray 57)::(RwI g e.deps)::F::C::D::I::TT) z,fun vals z=> ∃g l j,(vals 6=(.agg (e.cells g).toArray:Value))∧(vals 10=((Iy l 1 1):Value))∧(vals 11=j)∧Sep G W ((RwN j (L++[(ye d L e)]))::F::C::D::TT) z,fun vals z=> ∃g l j,(vals 6=(.agg (e.cells g).toArray:Value))∧(vals 10=((Iy l 1 1):Value))∧(vals 11=j)∧Sep G W ((RwN j (L++[(ye d L e)]))::(BkV b q s j A B)::C::D::TT) z]) (bD::bE::bB::bo::bF::Rs) (BkV b q s t A B) (RwT q d.types) (RwP s d.projs) (RwN t L)) (AF [Vl 0 (Ix b 0),Vl 1 (Ix b 0),Vl 2 (Ix b 0),Vl 3 (Ix b 2),Vl 4 t,Vl 5 (.agg (e.cells de0).toArray),fun _=>True,Vl 7 (.bool ((yh d L e).1)),Vl 8 (.agg #[Iv ((yh d L e).2.1),Iv ((yh d L e).2.2)]),fun vals=> ∀(g:Value),vals 6=(.agg (e.cells g).toArray:Value)→vals 9=(.agg ((ye d L e).cells g).toArray:Value),fun _=>True,fun _=>True,Vl 12 (Ix b 0),Vl 13 (Ix b 2),fun _=>True]) [[],[],[1],[1,2],[1,2,3],[],[5],[],[],[5,6,7,8],[5,6,7,8,9],[1,2,3,4,5,6,7,8,9,10],(rg 12),(rg 13),(rg 14)] [6,10,11,14] [(0,3),(0,2),(0,2),(0,2),(0,2),(0,0),(0,0),(0,1),(0,1),(1,1),(1,1),(2,2),(3,3),(3,3),(3,3)] H ⟨fun _ _ _ _ _ _ _=>obl rfl (mV (Ix b 0) dR),fun _ _ _ _ _ _ _=>obl rfl (mV (Ix b 0) dR),fun _ _ _ _ _ _ ao=>obl rfl (zm (ao 1 dc) dR),fun _ _ _ _ _ _ ap=>obl rfl (UE (ap 2 dc) dR),?_,ob1 0 fun _ _ (aq:Sep _ _ _ _) _=>obl rfl (zh oT lT rfl rfl (zo (aq.b8)) dR),?_,fun _ _ _ _ _ _ _=>obl rfl (mV (.bool ((yh d L e).1)) dR),?_,?_,?_,?_,fun _ _ _ _ _ _ ar=>obl rfl (zm (ar 0 dc) dR),fun _ _ _ _ _ _ au=>obl rfl (UE (au 12 dc) dR),?_,zl⟩ ?_ (hlocA:=xi ⟨dA,dA,dA,dA,dA,dA,dT,dA,dA,fun vals p u h=>fun g E=>(u 9 (.inl rfl)).trans (h g ((u 6 (.inr dc)).symm.trans E)),dT,dT,dA,dA,dT,zl⟩)
 refine fun J _ _ bl bm K N=>?_
 have hkk:=UT bl bm
 rcases hkk with rfl|rfl|rfl
 have av:=K
 exact obl rfl (lD t mR (N 3 dc) (zd (av.b0) rfl) dR)
 obtain⟨g,m,aw⟩:=K
 exact obl rfl (lD t mR (N 3 dc) (zd (aw.b1) rfl) dR)
 obtain⟨g,l,m,y,ax⟩:=K
 exact obl rfl (lD t mR (N 3 dc) (zd (ax.b2) rfl) dR)
 refine ob1 0 fun vals _ (bn:Sep _ _ _ _) bp=>(obl rfl ((zW (vals:=[.agg (e.cells de0).toArray]) rfl (yM ⟨(bp 5 dc),zl⟩) lR (WH hde0 oe bn) ?_)))
 rintro _ w84 ⟨g,rfl,aj⟩
 have bq:=aj.r0
 exact fun p u n=>⟨(exiA g (zA u aj)),zl⟩
 refine fun O _ _ br bs X _=>?_
 have hkk:=xE br bs
 rcases hkk with rfl|rfl
 have ay:=X
 exact obl rfl (zh qT pT rfl rfl (zo (ay.b6)) dR)
 obtain⟨g,m,az⟩:=X
 exact obl rfl (zh qT pT rfl rfl (zo (az.b7)) dR)
 refine ob1 1 fun _ _ aA Y=>?_
 obtain⟨g,m,hS229⟩:=aA
 refine obl rfl (zV (parts':=[(0,.agg (e.cells g).toArray),(1,.bool ((yh d L e).1)),(2,.agg #[Iv ((yh d L e).2.1),Iv ((yh d L e).2.2)])]) (v:=.agg ((ye d L e).cells g).toArray) (Za ⟨rfl,m,rfl,(Y 7 (by decide)),rfl,(Y 8 (by decide)),zl⟩) (by simp+zetaDelta [Instr.build,Instr.fill,go_sem,Ent.cells,Ev.cells,ye]) (fun p u n=>⟨rfl,?_⟩))
 intro v83q E
 rw[n 6 (by decide)]at E;cases m.symm.trans E
 exact u
 refine ob1 1 fun vals _ aB aC=>?_
 obtain⟨g,m,aD⟩:=aB
 have bt:=aC 9 dc g m
 refine obl rfl ((zH (k:=13) (parts':=[(0,.agg ((ye d L e).cells g).toArray)]) (c:=((ye d L e).cells g).toArray) mT nT wR dc (Za ⟨rfl,bt,zl⟩) kr ?_))
 intro w120 l aE
 exact fun p u n=>⟨(exiA g (exiA l (zA ((n 6 dc).trans m) (zA u (aD.new aE))))),zl⟩
 refine ob1 2 fun _ _ aF aG=>?_
 obtain⟨g,l,m,y,Z⟩:=aF
 refine obl rfl ?_
 have ak:=Z.b0
 refine(yq (Z.s11_fbcdeghijk) zbD (aG 4 (by decide)) y ak (fun _ _ hN=>⟨_,rfl,RowE.soft hN,hek⟩) yqb rfl ?_)
 intro j w131 aa
 have aH:=aa.r0
 exact fun p u n=>⟨(exiA g (exiA l (exiA j (zA ((n 6 dc).trans m) (zA ((n 10 dc).trans y) (zA u aa)))))),zl⟩
 refine ob1 3 fun _ _ aI aJ=>?_
 obtain⟨g,l,j,m,y,P,Q⟩:=aI
 refine obl rfl ?_
 have ab:=Q.r0
 refine(ym Tryz.sizeOf42 (aJ 13 dc) P (Q.b1) ab.1.one rfl rfl ?_)
 intro w160 aK
 exact fun p u n=>⟨(exiA g (exiA l (exiA j (zA ((n 6 dc).trans m) (zA ((n 10 dc).trans y) (zA ((n 11 dc).trans P) (Q.pt1 aK))))))),zl⟩
 intro vals w246 aL hA248
 obtain⟨g,l,j,m,y,P,aM⟩:=aL
 refine yg (kv:=[(0,Ix b 0),(1,.agg (e.cells de0).toArray),(3,Ix b2 0),(4,Ix U 0),(8,Ix b 0),(9,.agg (e.cells de0).toArray),(10,.agg (e.cells v9).toArray),(11,.tuple #[.bool ((yh d L e).1),.agg #[Iv ((yh d L e).2.1),Iv ((yh d L e).2.2)]]),(7,.tuple #[.bool ((yh d L e).1),.agg #[Iv ((yh d L e).2.1),Iv ((yh d L e).2.2)]]),(12,.bool ((yh d L e).1)),(13,.agg #[Iv ((yh d L e).2.1),Iv ((yh d L e).2.2)]),(6,Ix T 0),(5,.bool ((yh d L e).1))]) sEv (fun ρw246=>(zb (za ?_)))
 refine WD4 ((fun TT F C D I al am an bc=>WF [fun vals z=>Sep G W (F::C::D::I::al::am::an::bc::TT) z,fun vals z=> ∃a,(vals 1=(.agg (e.cells a).toArray:Value))∧Sep G W ((RwI a e.deps)::F::C::D::I::al::am::an::bc::TT) z,fun vals z=> ∃a,(vals 1=(.agg (e.cells a).toArray:Value))∧Sep G W ((RwI a e.deps)::F::C::D::I::al::am::an::(Blk U ((ye d L e).cells a).toArray 57)::TT) z]) (bF::Rs) (RwN j (L++[(ye d L e)])) (BkV b q s j A B) (RwT q d.types) (RwP s d.projs) bD bE bB bo) (AF [Vl 0 (.agg (e.cells de0).toArray),fun _=>True,Vl 2 (.bool ((yh d L e).1)),Vl 3 (.agg #[Iv ((yh d L e).2.1),Iv ((yh d L e).2.2)]),fun vals=> ∀(a:Value),vals 1=(.agg (e.cells a).toArray:Value)→vals 4=(.agg ((ye d L e).cells a).toArray:Value),fun _=>True]) [[],[0],[],[],(rg 4),(rg 5)] [1,5] [(0,0),(0,0),(0,1),(0,1),(1,1),(1,1)] aM ⟨ob1 0 fun _ _ (aN:Sep _ _ _ _) _=>obl rfl (zh oT lT rfl rfl (zo (aN.b8)) dR),?_,fun _ _ _ _ _ _ _=>obl rfl (mV (.bool ((yh d L e).1)) dR),?_,?_,?_,zl⟩ ?_ (hlocA:=xi ⟨dA,dT,dA,dA,fun vals p u h=>fun a E=>(u 4 (.inl rfl)).trans (h a ((u 1 (.inr dc)).symm.trans E)),dT,zl⟩)
 refine ob1 0 fun vals _ (aO:Sep _ _ _ _) aP=>(obl rfl ((zW (vals:=[.agg (e.cells de0).toArray]) rfl (yM ⟨(aP 0 dc),zl⟩) lR (WH hde0 oe aO) ?_)))
 rintro _ w266 ⟨a,rfl,ac⟩
 have aQ:=ac.r0
 exact fun p u n=>⟨(exiA a (zA u ac)),zl⟩
 refine fun R _ _ bu bv ad _=>?_
 have hkk:=xE bu bv
 rcases hkk with rfl|rfl
 have aR:=ad
 exact obl rfl (zh qT pT rfl rfl (zo (aR.b6)) dR)
 obtain⟨a,x,aT⟩:=ad
 exact obl rfl (zh qT pT rfl rfl (zo (aT.b7)) dR)
 refine ob1 1 fun _ _ aU ae=>?_
 obtain⟨a,x,hS331⟩:=aU
 refine obl rfl (zV (parts':=[(0,.agg (e.cells a).toArray),(1,.bool ((yh d L e).1)),(2,.agg #[Iv ((yh d L e).2.1),Iv ((yh d L e).2.2)])]) (v:=.agg ((ye d L e).cells a).toArray) (Za ⟨rfl,x,rfl,(ae 2 (by decide)),rfl,(ae 3 (by decide)),zl⟩) (by simp+zetaDelta [Instr.build,Instr.fill,go_sem,Ent.cells,Ev.cells,ye]) (fun p u n=>⟨rfl,?_⟩))
 intro v265q E
 rw[n 1 (by decide)]at E;cases x.symm.trans E
 exact u
 refine ob1 1 fun vals _ aV aW=>?_
 obtain⟨a,x,S⟩:=aV
 have bw:=aW 4 dc a x
 refine obl rfl ?_
 have af:=S.r0
 refine(zy (v:=.agg ((ye d L e).cells a).toArray) nT rfl bw (S.b8) (yo ⟨rfl,rfl,rfl,af.1.one,rfl,rfl,rfl,rfl,rfl,rfl,rfl,rfl,rfl,zl⟩) yqc rfl ?_)
 intro w300 aX
 exact fun p u n=>⟨(exiA a (zA ((n 1 dc).trans x) (S.pt8 aX))),zl⟩
 intro vals bx aY hA336
 obtain⟨a,x,ag⟩:=aY
 refine yg (kv:=[(0,Ix b 0),(1,.agg (e.cells de0).toArray),(3,Ix b2 0),(4,Ix U 0),(8,Ix b 0),(9,.agg (e.cells de0).toArray),(10,.agg (e.cells v9).toArray),(11,.tuple #[.bool ((yh d L e).1),.agg #[Iv ((yh d L e).2.1),Iv ((yh d L e).2.2)]]),(7,.tuple #[.bool ((yh d L e).1),.agg #[Iv ((yh d L e).2.1),Iv ((yh d L e).2.2)]]),(12,.bool ((yh d L e).1)),(13,.agg #[Iv ((yh d L e).2.1),Iv ((yh d L e).2.2)]),(6,Ix T 0),(5,.bool ((yh d L e).1))]) sEv (fun ρw334=>(zb (zq (Yd Tryz.results63 Tryz.isAgg57 nT rfl rfl (zo (ag.b8)) ?_))))
 have aZ:Sep _ _ ((ViewO b d (L++[ye d L e]) (L++[ye d L e]))::_) _:=ViewO.close (ag.s10_cdebfgahij)
 have ba:Sep G W ((ViewO b d (L++[ye d L e]) (L++[ye d L e]))::(RwI a e.deps)::Rs) bx:=aZ.sel 5 [0,1] (xq _ _) rfl rfl
 refine⟨a,rfl,ba⟩
theorem Ut {b:Nat}{d:Dcl}{L:List Ent}{ty:Int}(hty:InR ty){no:Int}(hno:InR no)(hS0:Sep G W ((ViewO b d L L)::Rs) w):Ret Tryz.prog 49 [.pointer (some ⟨b,0,none⟩),.int .i64 (ty),.int .i64 (no)] w (fun r w'=> ∃(v:Value),r=(.tuple #[.agg ((yr d (ty,no) L).cells v).toArray,.bool ((zj d L (ty,no)).isSome)]:Value)∧Sep G W ((ViewO b d L L)::(RowE (α:=Cel) own 105 v (stL d (ty,no) L))::Rs) w'):=by
 refine zn Tryz.func49 rfl rfl ?_
 refine za (R0 fun _=>st (zG rR ?_))
 intro U b2 V
 refine st (aS (.bool false) (zb (za (R0 fun _=>?_))))
 obtain⟨f,g,h,m,j,B⟩:=ViewO.open ((hS0.new V).mv1)
 let aa:=Blk b #[f,g,h,.map (some m),.map (some j)] 118
 have c:Sep G W (aa::(RowE (α:=Typ) own 83 f d.types)::(RowE own 73 g d.projs)::(RowE own 57 h L)::(xk Zv E1 m (zj d L))::(xk Zr E2 j (yN L))::(Blk b2 #[Iv 0,(Iz)] 48)::Rs) U:=B
 have C:=c.r1
 have hr12s:_*24≤_:=C.2
 have D:=c.r2
 have hr13s:_*40≤_:=D.2
 have E:=c.r3
 have hr14s:_*120≤_:=E.2
 obtain⟨vs16,A,F⟩:=(c.mv4).mapoTake QD (ty,no)
 obtain⟨a,rfl,H⟩:=Ug (F.mv1) A
 have e:Sep G W ((RowE (α:=Cel) own 105 a (stL d (ty,no) L))::(Yb Zv E1 QD m (zj d L) (ty,no) (.agg #[Iw (yw (ty,no) L),a]))::aa::(RowE own 83 f d.types)::(RowE own 73 g d.projs)::(RowE own 57 h L)::(xk Zr E2 j (yN L))::(Blk b2 #[Iv 0,(Iz)] 48)::Rs) U:=H
 have p:=e.r0
 have hr22s:_*32≤_:=p.2
 have hve9:=WJ (ty,no) L
 refine st (mV (Ix b 0) (st (zm rfl (st (UA rfl (st (lD (.map (some m)) Tryz.isAgg115 rfl (zd (e.b2) rfl) (st (mV (Iv ty) (st (mV (Iv no) (st (zV (parts':=[(0,Iv ty),(1,Iv no)]) (v:=.agg #[Iv ty,Iv no]) rfl (by simp+zetaDelta [Instr.build,Instr.fill,go_sem,Yx]) (st (YA e (i:=1) rfl K2 Tryz.underlying115 rR rfl rfl (st (mV (.tuple #[.agg #[Iw (yw (ty,no) L),a],.bool (((zj d L) (ty,no)).isSome)]) (st (zz rfl rfl ?_)))))))))))))))))))
 refine st (zz rfl rfl (st (zG rR ?_)))
 intro w25 X I
 have q:=e.new I
 refine stn (zy (v:=.agg #[Iw (yw (ty,no) L),a]) nR rfl rfl (q.b0) (yo ⟨rfl,p.1.one,zl⟩) yqc rfl ?_)
 intro w27 J
 have K:Sta.Ok (⟨((yw (ty,no) L:Nat):Int),stL d (ty,no) L⟩:Sta):=⟨(show InR (((yw (ty,no) L:Nat):Int))from om)⟩
 have s:=q.pt0 J
 refine st (aS (.bool (((zj d L) (ty,no)).isSome)) (zb (za (R0 fun _=>st (zh kY nR rfl rfl (zo (s.b0)) ?_)))))
 obtain⟨G32,N,hB35,O,P⟩:=(s.mv1).lend
 have n:=RowE.rd N
 refine st (cL Tryz.call75 (zbs n K O) ?_)
 rintro _ w40 ⟨l,rfl,t⟩
 let Z:=((⟨((yw (ty,no) L:Nat):Int),stL d (ty,no) L⟩:Sta).cells l)
 have u:=t.r0
 have y:=P _ _ t
 refine st (mV (.bool (((zj d L) (ty,no)).isSome)) (stn (zy (v:=.agg Z.toArray) nR rfl rfl (y.b9) (yo ⟨rfl,u.1.one,zl⟩) yqc rfl ?_)))
 intro Y Q
 have z:=y.pt9 Q
 refine st (aS (.bool (((zj d L) (ty,no)).isSome)) (zb (zq (ZV Tryz.results49 kY nR rfl rfl (zo (z.b9)) rfl ?_))))
 have R:Sep _ _ ((Wc E1 (.agg #[Iw (yw (ty,no) L),a]) ((zj d L) (ty,no)))::_) _:=Ko z
 have S:Sep G W ((xk Zv E1 m (zj d L))::(RowE (α:=Cel) own 105 l ((⟨((yw (ty,no) L:Nat):Int),stL d (ty,no) L⟩:Sta).cls))::(Blk X ((⟨((yw (ty,no) L:Nat):Int),stL d (ty,no) L⟩:Sta).cells a).toArray 48)::aa::(RowE own 83 f d.types)::(RowE own 73 g d.projs)::(RowE own 57 h L)::(xk Zr E2 j (yN L))::(Blk b2 Z.toArray 48)::Rs) Y:=(R.mv3).mapoPut
 have T:Sep _ _ ((ViewO b d L L)::_) _:=ViewO.close (S.s9_defgahbci)
 refine⟨l,rfl,(T.s4_ab)⟩
theorem JG {b:Nat}{d:Dcl}{L:List Ent}(hS0:Sep G W ((ViewO b d L L)::Rs) w):Ret Tryz.prog 43 [.pointer (some ⟨b,0,none⟩)] w (fun r w'=> ∃(v:Value),r=(v:Value)∧Sep G W ((ViewO b d L L)::(RowE (α:=Ent) own 57 v L)::Rs) w'):=by
 refine zn Tryz.func43 rfl rfl ?_
 refine za (R0 fun _=>st (aS Iz (zb (za ?_))))
 obtain⟨g,h,m,D,E,ac⟩:=ViewO.open hS0
 have q:Sep G W ((Blk b #[g,h,m,.map (some D),.map (some E)] 118)::(RowE (α:=Typ) own 83 g d.types)::(RowE own 73 h d.projs)::(RowE own 57 m L)::(xk Zv E1 D (zj d L))::(xk Zr E2 E (yN L))::Rs) w:=ac
 have ad:=q.r1
 have ae:=q.r2
 have hr8s:_*40≤_:=ae.2
 have af:=q.r3
 have hr9s:_*120≤_:=af.2
 obtain⟨F,R,hB14,H,S⟩:=(q.mv3).lend
 have B:=RowE.rd R
 have hrd17s:_*120≤_:=B.small
 refine R0 fun _=>st (mV (Ix b 0) (st (zm rfl (st (UE rfl (st (lD m mR rfl (zd (H.b0) rfl) (st (cL Tryz.call66 (QR B H) ?_)))))))))
 rintro c w19 ⟨_,rfl,I⟩
 have J:=I.r0
 have hr21s:_*120≤_:=J.2
 refine st (aS c (zb (za (za (R0 fun _=>st (mV c (st (zC mT rfl J.1 (st (mV (Iv 0) (zb (zt ?_))))))))))))
 have T:=I.toMix
 refine zZ (fun mq σ wq=> ∃k ρ,mq=L.length-k∧σ=yf ρ [(0,Ix b 0),(2,(Iz)),(3,c),(11,Iw L.length),(12,Iw k)]∧(k≤L.length)∧Sep F w ((RowE (mix F w) 57 c (ZE k L))::(Blk b #[g,h,m,.map (some D),.map (some E)] 118)::(RowE own 83 g d.types)::(RowE own 73 h d.projs)::(xk Zv E1 D (zj d L))::(xk Zr E2 E (yN L))::Rs) wq) ⟨0,_,rfl,sSf,zY _,T⟩ ?_
 rintro m24 σ25 ag ⟨k,ρl1,rfl,rfl,hkk,s⟩
 have z:=s.r0
 rw[xY]at z
 refine za (R0 fun _=>st (zK rfl rfl (zb (za ?_))))
 cases t:decide (((k:Nat):Int)<((L.length:Nat):Int))
 have t:=fD t
 have K:Sep F w ((RowE (α:=Ent) own 57 c L)::(Blk b #[g,h,m,.map (some D),.map (some E)] 118)::(RowE own 83 g d.types)::(RowE own 73 h d.projs)::(xk Zv E1 D (zj d L))::(xk Zr E2 E (yN L))::Rs) ag:=s.ofMix om
 have U:=K.r0
 have hr30s:_*120≤_:=U.2
 refine ze rfl (ya (zR (za (R0 fun _=>st (mV c (st (aS c (zb (zq (zU Tryz.results43 (show _=(c:Value)from rfl) ?_))))))))))
 have V:=S _ _ K
 have X:Sep _ _ ((ViewO b d L L)::_) _:=ViewO.close (M:=L) (V.s7_cdeafgb)
 refine⟨c,rfl,X⟩
 have t:=tD t
 refine zg rfl (zp (za (zt (za (R0 fun _=>st (mV (Iw k) (st (aS (Iw k) (zb (R0 fun _=>st (mV c (st (mV (Iw k) (st (mV c (st (mV (Iw k) ?_)))))))))))))))))
 have Y:k<L.length:=bo
 refine st (zf (k:=13) mT nT rfl z.1 rfl Y (st (xx rfl ?_)))
 have N:k<L.length:=bo
 obtain⟨_,C,x,rfl,p,y⟩:=s.mixAt (i:=0) rfl (Nat.le_refl _) N
 rw[←zJ default N]at C p y
 refine st (zh oT lT rfl rfl (CellsAt.sub C 0 rfl) (st (cL lR (WH p y.ev s) ?_)))
 rintro _ w38 ⟨Q,rfl,O⟩
 have P:=O.r0
 have hr40s:_*8≤_:=P.2
 have Z:k<L.length:=bo
 refine st (zf (k:=13) mT nT rfl z.1 rfl Z (st (xx rfl ?_)))
 have A:k<L.length:=bo
 refine stn (YW (α:=Ent) (j:=k) (o:=0) (u:=.agg (((L.getD k default).ev).cells Q).toArray) (us:=((L.getD k default).ev).cells Q) (O.mv1) lT A rfl rfl rfl (yQ rfl) (yo ⟨rfl,rfl,rfl,P.1.one,rfl,rfl,rfl,rfl,rfl,rfl,zl⟩) (fun w f cs0 hr hN=>(by obtain⟨d,rfl,hd,hok⟩:=hr;rw[zJ default A];exact⟨_,rfl,(by rw[←zJ default A];exact RowE.soft hN),hok⟩)) ?_)
 intro w42 aa
 refine zb (R0 fun _=>?_)
 have ab:InR ((k+1:Nat):Int):=bo
 refine st (zO (r:=((k+1:Nat):Int)) rfl rfl (by rw[show(((k:Nat):Int)+1:Int)=((k+1:Nat):Int)from bo];exact zw ab) (st (mV (Iw (k+1)) (zb ?_))))
 exact⟨_,by omega,k+1,_,rfl,sSf,by omega,aa⟩
theorem zcE {d:Dcl}{dd0:Value}(hdd0:RdS W G dd0 d.types){dd1:Value}(hdd1:RdS W G dd1 d.projs)(od:d.Ok){vl:Value}{l:List Ev}(hl:RdS W G vl l)(hKN:RdS W G (.slice (some ⟨0,0,none⟩) 6 6) kindsL)(hS0:Sep G W Rs w)(hd:DclOk d)(hfew:l.length≤1000000):Ret Tryz.prog 80 [.agg (d.cells dd0 dd1).toArray,vl] w (fun r w'=> ∃(b:Nat),r=(.pointer (some ⟨b,0,none⟩):Value)∧Sep G W ((ViewO b d (zk d l) (zk d l))::Rs) w'):=by
 refine zn Tryz.func80 rfl rfl ?_
 refine za (R0 fun _=>st (zX rfl ?_))
 intro w3 b2 F
 have y:=hS0.new F
 refine st (aS (.pointer none) (zb (za (R0 fun _=>st (zh sR tR rfl rfl (zo (y.b0)) (st (cL Tryz.call36 (JX hdd0 hdd1 od y) ?_)))))))
 rintro _ w6 ⟨g,rfl,H⟩
 refine st (aS (Ix g 0) (zb (za (za (R0 fun _=>st (mV vl (st (zC rT rfl hl.sl (st (mV (Iv 0) (zb (zt (zZ (fun mq σ I=> ∃k ρ,mq=l.length-k∧σ=yf ρ [(2,Ix b2 0),(5,Ix g 0),(10,vl),(11,Iw l.length),(12,Iw k)]∧(k≤l.length)∧Sep G W ((ViewO g d (zk d (l.take k)) (zk d (l.take k)))::(Blk b2 (d.cells dd0 dd1).toArray 25)::Rs) I) ⟨0,_,rfl,sSf,zY _,H⟩ ?_)))))))))))))
 rintro m9 σ10 w8 ⟨k,ρl1,rfl,rfl,hkk,h⟩
 refine za (R0 fun _=>st (zK rfl rfl (zb (za ?_))))
 cases f:decide (((k:Nat):Int)<((l.length:Nat):Int))
 have f:=fD f
 refine ze rfl (ya (zR (za (R0 fun _=>st (mV (Ix g 0) (st (aS (Ix g 0) (zb (zq (zU Tryz.results80 rfl ?_))))))))))
 have j:=h.s2_a
 have hkn:k=l.length:=by omega
 rw[hkn,List.take_length]at j
 refine⟨g,rfl,j⟩
 have f:=tD f
 refine zg rfl (zp (za (zt (za (R0 fun _=>?_)))))
 have z:k<l.length:=bo
 refine st (zf rT lT rfl hl.sl rfl z ?_)
 have m:k<l.length:=bo
 obtain⟨u,c,o⟩:=hl.evD m
 have x:=h.cells u (hl.foot (ne_of_lt m))
 refine st (zh oT lT rfl rfl x (st (zG lY ?_)))
 intro w21 b20 A
 have p:=h.new A
 refine stn (zy (v:=.agg ((l.gd k).cells (zT W (sb vl) (so vl+k*10+3))).toArray) lT rfl rfl (p.b0) (yo ⟨rfl,rfl,rfl,c.sl.one,rfl,rfl,rfl,rfl,rfl,rfl,zl⟩) yqc rfl ?_)
 intro w23 B
 have q:=p.pt0 B
 refine zb (R0 fun _=>st (mV (Ix g 0) (st (zh oT lT rfl rfl (zo (q.b0)) (st (cL Tryz.call63 (zbc c o hKN (q.mv1) hd ((Inv.run hd _)) ((zcm hfew))) ?_))))))
 rintro _ w28 ⟨v27,rfl,s⟩
 have C:=s.r1
 refine zb (R0 fun _=>?_)
 have D:InR ((k+1:Nat):Int):=bo
 refine st (zO (r:=((k+1:Nat):Int)) rfl rfl (by rw[show(((k:Nat):Int)+1:Int)=((k+1:Nat):Int)from bo];exact zw D) (st (mV (Iw (k+1)) (zb ?_))))
 have t:=s.s4_ad
 have E:(zk d (l.take (k+1)))=((zk d (l.take k))++[ye d (zk d (l.take k)) (l.gd k)]):=(Wd om)
 rw[←E]at t
 exact⟨_,by omega,k+1,_,rfl,sSf,by omega,t⟩
def KU (e:Ev)(n:Int):Prop:=(0≤e.origin∧e.origin<n∧(e.deps.length:Int)=n∧1≤e.seq)∧ ∀i,i<e.deps.length→0≤e.deps.getD i 0
theorem zbm {α:Type}[Inhabited α]{P:α→Prop}{l:List α}{x:α}(h: ∀i,i<l.length→P (l.getD i default))(hx:P x): ∀i,i<(l++[x]).length→P ((l++[x]).getD i default):=by
 intro i hi
 rcases Nat.lt_or_ge i l.length with h1|h1
 ·have e:(l++[x]).getD i default=l.getD i default:=by rw[List.getD_eq_getElem?_getD,List.getD_eq_getElem?_getD,List.getElem?_append_left h1]
  rw[e];exact h i h1
 ·have e:i=l.length:=by rw[List.length_append,List.length_singleton]at hi;omega
  subst e
  rw[List.getD_eq_getElem?_getD,List.getElem?_append_right (Nat.le_refl _),Nat.sub_self];exact hx
theorem Uy {d:Dcl}{dd0:Value}(hdd0:RdS W G dd0 d.types){dd1:Value}(hdd1:RdS W G dd1 d.projs)(od:d.Ok)(hS0:Sep G W Rs w):Ret Tryz.prog 5 [.agg (d.cells dd0 dd1).toArray] w (fun r w'=> ∃(b:Bool),r=(.bool b:Value)∧(b=true→DclOk d∧Xq d)∧Sep G W Rs w'):=by
 refine zn Tryz.func5 rfl rfl ?_
 refine za (R0 fun _=>st (zX rfl ?_))
 intro w3 b2 m
 have h:=hS0.new m
 refine st (aS (.bool false) (zb (za (zF kr (st (zh sR tR rfl rfl (zo (h.b0)) (st (cL Tryz.call28 (zcK hdd0 hdd1 od h) ?_))))))))
 rintro _ w6 ⟨i,rfl,f⟩
 refine st (yD rfl (st (mV (.bool (!i)) (stc (V:=.agg (d.cells dd0 dd1).toArray) rfl rfl (fun n=>?_) ?_))))
 have o:=n
 exact zh sR tR rfl rfl (zo (f.b0)) rflB
 cases e: !i
 refine stx rfl rfl (stx rfl rfl (st (yt rfl rfl (st (aS (.bool false) (zb (zq (zU mY rfl ?_))))))))
 refine⟨false,rfl,?_,(f.s1_)⟩
 intro j
 cases j
 refine sty rfl rfl (cL Tryz.call29 (zbE hdd0 hdd1 od f) ?_)
 rintro _ w15 ⟨c,rfl,hin13,g,l⟩
 refine sty rfl rfl (zS rfl rfl (st (yC rfl rfl (st (aS (.bool (decide (c=0))) (zb (zq (zU mY rfl ?_))))))))
 refine⟨decide (c=0),rfl,?_,(l.s1_)⟩
 intro j
 exact g (by simpa using j)
theorem zap {e:Ev}{de0:Value}(hde0:RdS W G de0 e.deps)(oe:e.Ok){n:Int}(hn:InR n)(hS0:Sep G W Rs w):Ret Tryz.prog 58 [.agg (e.cells de0).toArray,.int .i64 (n)] w (fun r w'=> ∃(c:Int),r=(.int .i64 (c):Value)∧(InR c)∧(c=0→KU e n)∧Sep G W Rs w'):=by
 refine zn Tryz.func58 rfl rfl ?_
 refine za (R0 fun _=>st (zX rfl ?_))
 intro w3 b2 bi
 have f:=hS0.new bi
 refine st (aS (Iv 0) (zb (za (za (zF kr (st (xe rfl (st (Xv rfl (st (lD (Iv (e.origin)) kT rfl (zd (f.b0) rfl) (st (zK rfl rfl (st (mV (.bool (decide (e.origin<0))) (stc (V:=Ix b2 0) rfl rfl (fun bj=>?_) ?_))))))))))))))))
 exact xe rfl rflB
 refine stc (V:=Ix b2 0) rfl rfl (fun aE=>?_) ?_
 exact Xv (ifpC aE) rflB
 refine stc (V:=Iv (e.origin)) rfl rfl (fun aF=>?_) ?_
 exact lD (Iv (e.origin)) kT (ifpC aF) (zd (f.b0) rfl) rflB
 refine stc (V:=Iv n) rfl rfl (fun aG=>?_) ?_
 exact mV (Iv n) rflB
 refine stc (V:=.bool (decide (n≤e.origin))) rfl rfl (fun p=>?_) ?_
 exact xv (ifpC p) (ifpC p) rflB
 refine st (zI rfl (fun hbp=>(ifpC hbp)) (st (mV (.bool ((decide (e.origin<0))||(decide (n≤e.origin)))) (stc (V:=Ix b2 0) rfl rfl (fun aH=>?_) ?_))))
 have aI:=aH
 exact xe rfl rflB
 refine stc (V:=Ix b2 1) rfl rfl (fun K=>?_) ?_
 have aJ:=K
 exact XW (ifpC K) rflB
 refine stc (V:=Iv (e.seq)) rfl rfl (fun L=>?_) ?_
 have aK:=L
 exact lD (Iv (e.seq)) kT (ifpC L) (zd (f.b0) rfl) rflB
 refine stc (V:=.bool (decide (e.seq<1))) rfl rfl (fun M=>?_) ?_
 have aL:=M
 exact zK (ifpC M) rfl rflB
 refine st (zI rfl (fun hbp=>(ifpC hbp)) (st (mV (.bool (((decide (e.origin<0))||(decide (n≤e.origin)))||(decide (e.seq<1)))) (stc (V:=Ix b2 2) rfl rfl (fun aM=>?_) ?_))))
 have aN:=aM
 exact UC rfl rflB
 refine stc (V:=Iv (e.lam)) rfl rfl (fun N=>?_) ?_
 have aO:=N
 exact lD (Iv (e.lam)) kT (ifpC N) (zd (f.b0) rfl) rflB
 refine stc (V:=.bool (decide (e.lam<1))) rfl rfl (fun O=>?_) ?_
 have aP:=O
 exact zK (ifpC O) rfl rflB
 refine st (zI rfl (fun hbp=>(ifpC hbp)) (st (mV (.bool ((((decide (e.origin<0))||(decide (n≤e.origin)))||(decide (e.seq<1)))||(decide (e.lam<1)))) (stc (V:=Ix b2 5) rfl rfl (fun aQ=>?_) ?_))))
 have aR:=aQ
 exact Zc rfl rflB
 refine stc (V:=Iv (e.agg)) rfl rfl (fun P=>?_) ?_
 have aT:=P
 exact lD (Iv (e.agg)) kT (ifpC P) (zd (f.b0) rfl) rflB
 refine stc (V:=.bool (decide (e.agg<0))) rfl rfl (fun Q=>?_) ?_
 have aU:=Q
 exact zK (ifpC Q) rfl rflB
 refine st (zI rfl (fun hbp=>(ifpC hbp)) (st (mV (.bool (((((decide (e.origin<0))||(decide (n≤e.origin)))||(decide (e.seq<1)))||(decide (e.lam<1)))||(decide (e.agg<0)))) (stc (V:=Ix b2 9) rfl rfl (fun aV=>?_) ?_))))
 have aW:=aV
 exact Ki rfl rflB
 refine stc (V:=Iv (e.key)) rfl rfl (fun R=>?_) ?_
 have aX:=R
 exact lD (Iv (e.key)) kT (ifpC R) (zd (f.b0) rfl) rflB
 refine stc (V:=.bool (decide (e.key<0))) rfl rfl (fun S=>?_) ?_
 have aY:=S
 exact zK (ifpC S) rfl rflB
 refine st (zI rfl (fun hbp=>(ifpC hbp)) (st (mV (.bool ((((((decide (e.origin<0))||(decide (n≤e.origin)))||(decide (e.seq<1)))||(decide (e.lam<1)))||(decide (e.agg<0)))||(decide (e.key<0)))) (stc (V:=Ix b2 3) rfl rfl (fun aZ=>?_) ?_))))
 have ba:=aZ
 exact xW rfl rflB
 refine stc (V:=de0) rfl rfl (fun T=>?_) ?_
 have bb:=T
 try simp only[zi]at bb
 exact lD de0 sT (ifpC T) (zd (f.b0) rfl) rflB
 refine stc (V:=Iw e.deps.length) rfl rfl (fun U=>?_) ?_
 have bc:=U
 try simp only[zi]at bc
 exact zC oR (ifpC U) hde0.sl rflB
 refine stc (V:=Iv n) rfl rfl (fun bd=>?_) ?_
 have be:=bd
 try simp only[zi]at be
 exact mV (Iv n) rflB
 refine stc (V:=.bool (!decide (((e.deps.length:Nat):Int)=n))) rfl rfl (fun q=>?_) ?_
 have bf:=q
 try simp only[zi]at bf
 exact yy (ifpC q) (ifpC q) rflB
 refine st (zI rfl (fun hbp=>(ifpC hbp)) (zb ?_))
 cases X:((((((decide (e.origin<0))||(decide (n≤e.origin)))||(decide (e.seq<1)))||(decide (e.lam<1)))||(decide (e.agg<0)))||(decide (e.key<0)))||(!decide (((e.deps.length:Nat):Int)=n))
 try simp only[zi]at X
 refine ze rfl (zp (za (za (R0 fun _=>st (aS (Iv 0) (zb (zt (zZ (fun mq σ wq=> ∃k ρ,mq=e.deps.length-k∧σ=yf ρ [(1,Iv n),(2,Ix b2 0),(5,Iw k)]∧(k≤e.deps.length)∧(∀i,i<k→0≤e.deps.getD i 0)∧Sep G W ((Blk b2 (e.cells de0).toArray 55)::Rs) wq) ⟨0,_,rfl,sSf,zY _,(fun i h=>absurd h (yO i)),f⟩ ?_))))))))
 rintro m53 σ54 w52 ⟨k,ρl1,rfl,rfl,hkk,hm,m⟩
 refine za (za (R0 fun _=>st (mV (Iw k) (st (mV (Iv n) (st (zK rfl rfl (zb ?_))))))))
 cases o:decide (((k:Nat):Int)<n)
 have o:=fD o
 refine ze rfl (ya (zR (za (za ?_))))
 refine WD4 (WF [fun vals wq=>Sep G W ((Blk b2 (e.cells de0).toArray 55)::Rs) wq]) (AF [Vl 0 (Ix b2 3),Vl 1 de0,Vl 2 (Ix b2 0),Vl 3 (Ix b2 0),Vl 4 (Iv (e.origin)),Vl 5 (Ix (sb de0) (so de0+e.origin.toNat*1)),Vl 6 (Iv ((e.deps.getD e.origin.toNat 0))),Vl 7 (Ix b2 0),Vl 8 (Ix b2 1),Vl 9 (Iv (e.seq)),Vl 10 (Iv (e.seq-1)),Vl 11 (.bool (!decide ((e.deps.getD e.origin.toNat 0)=(e.seq-1))))]) [[],[0],[],[2],[2,3],(rg 5),(rg 6),[],[7],[7,8],[7,8,9],(rg 11)] [] [(0,0),(0,0),(0,0),(0,0),(0,0),(0,0),(0,0),(0,0),(0,0),(0,0),(0,0),(0,0)] m ⟨fun _ _ _ _ _ _ _=>obl rfl (xW rfl dR),ob1 0 fun _ _ (ac:Sep _ _ _ _) ad=>obl rfl (lD de0 sT (ad 0 dc) (zd (ac.b0) rfl) dR),fun _ _ _ _ _ _ _=>obl rfl (xe rfl dR),fun _ _ _ _ _ _ ae=>obl rfl (Xv (ae 2 dc) dR),ob1 0 fun _ _ (af:Sep _ _ _ _) ag=>obl rfl (lD (Iv (e.origin)) kT (ag 3 dc) (zd (af.b0) rfl) dR),?_,?_,fun _ _ _ _ _ _ _=>obl rfl (xe rfl dR),fun _ _ _ _ _ _ ah=>obl rfl (XW (ah 7 dc) dR),ob1 0 fun _ _ (ai:Sep _ _ _ _) aj=>obl rfl (lD (Iv (e.seq)) kT (aj 8 dc) (zd (ai.b0) rfl) dR),?_,ob1 0 fun _ _ _ s=>obl rfl (yy (s 6 dc) (s 10 dc) dR),zl⟩ ?_
 refine ob1 0 fun _ _ _ t=>(obl rfl ?_)
 exact zB oR tT (t 1 dc) hde0.sl (t 4 dc) ⟨by omega,by omega⟩ dR
 refine ob1 0 fun _ _ (ak:Sep _ _ _ _) al=>(obl rfl ?_)
 have u:e.origin.toNat<e.deps.length:=bo
 obtain⟨Y,hxe205⟩:=hde0.intD u
 have Z:=ak.cells Y (hde0.foot (ne_of_lt u))
 exact lD (Iv ((e.deps.getD e.origin.toNat 0))) kT (al 5 dc) (Z.get (j:=0) rfl) dR
 refine ob1 0 fun _ _ _ am=>(obl rfl ?_)
 have an:InR (e.seq-1):=(by have J:=oe.seq;omega)
 exact xK (r:=e.seq-1) (b:=1) (am 9 (by decide)) rfl (by rw[show(e.seq-1:Int)=e.seq-1 from rfl];exact zw an) dR
 intro vals w247 ao ap
 have d:=ao
 have bh:=ap 11 dc
 refine yg (kv:=[(1,Iv n),(2,Ix b2 0),(5,Iw k),(45,Iw k),(46,Iv n),(47,.bool false),(67,.bool (!decide ((e.deps.getD e.origin.toNat 0)=(e.seq-1))))]) ⟨rfl,rfl,rfl,rfl,rfl,rfl,(by exact bh),zl⟩ (fun ρw247=>(zb ?_))
 cases g: !decide ((e.deps.getD e.origin.toNat 0)=(e.seq-1))
 have g:=zQ g
 refine ze rfl (zp (za (za (zF kr (st (Ze rfl (st (lD (Iv (e.op)) kT rfl (zd (d.b0) rfl) (st (zK rfl rfl (st (mV (.bool (decide (e.op<1))) (stc (V:=Ix b2 7) rfl rfl (fun aq=>?_) ?_)))))))))))))
 exact Ze rfl rflB
 refine stc (V:=Iv (e.op)) rfl rfl (fun x=>?_) ?_
 exact lD (Iv (e.op)) kT (ifpC x) (zd (d.b0) rfl) rflB
 refine stc (V:=.bool (decide (5<e.op))) rfl rfl (fun y=>?_) ?_
 exact xh (ifpC y) rfl rflB
 refine st (zI rfl (fun hbp=>(ifpC hbp)) (zb ?_))
 cases z:(decide (e.op<1))||(decide (5<e.op))
 refine ze rfl (zp (za (za (zF kr (st (xm rfl (st (lD (Iv (e.typ)) kT rfl (zd (d.b0) rfl) (st (zK rfl rfl (st (mV (.bool (decide (e.typ<0))) (stc (V:=Ix b2 4) rfl rfl (fun ar=>?_) ?_)))))))))))))
 exact xm rfl rflB
 refine stc (V:=Iv (e.typ)) rfl rfl (fun A=>?_) ?_
 exact lD (Iv (e.typ)) kT (ifpC A) (zd (d.b0) rfl) rflB
 refine stc (V:=.bool (decide (7<e.typ))) rfl rfl (fun B=>?_) ?_
 exact xh (ifpC B) rfl rflB
 refine st (zI rfl (fun hbp=>(ifpC hbp)) (st (mV (.bool ((decide (e.typ<0))||(decide (7<e.typ)))) (stc (V:=Ix b2 6) rfl rfl (fun au=>?_) ?_))))
 have av:=au
 exact xM rfl rflB
 refine stc (V:=Iv (e.field)) rfl rfl (fun C=>?_) ?_
 have aw:=C
 exact lD (Iv (e.field)) kT (ifpC C) (zd (d.b0) rfl) rflB
 refine stc (V:=.bool (decide (e.field<0))) rfl rfl (fun D=>?_) ?_
 have ax:=D
 exact zK (ifpC D) rfl rflB
 refine st (zI rfl (fun hbp=>(ifpC hbp)) (st (mV (.bool (((decide (e.typ<0))||(decide (7<e.typ)))||(decide (e.field<0)))) (stc (V:=Ix b2 6) rfl rfl (fun ay=>?_) ?_))))
 have az:=ay
 exact xM rfl rflB
 refine stc (V:=Iv (e.field)) rfl rfl (fun E=>?_) ?_
 have aA:=E
 exact lD (Iv (e.field)) kT (ifpC E) (zd (d.b0) rfl) rflB
 refine stc (V:=.bool (decide (7<e.field))) rfl rfl (fun F=>?_) ?_
 have aB:=F
 exact xh (ifpC F) rfl rflB
 refine st (zI rfl (fun hbp=>(ifpC hbp)) (zb ?_))
 cases H:(((decide (e.typ<0))||(decide (7<e.typ)))||(decide (e.field<0)))||(decide (7<e.field))
 refine ze rfl (zp (za (R0 fun _=>st (aS (Iv 0) (zb (zq (zU kR rfl ?_)))))))
 refine⟨0,rfl,?_,?_,(d.s1_)⟩
 decide
 intro J
 exact⟨⟨by omega,by omega,by omega,by omega⟩,fun i hi=>hm i om⟩
 refine zg rfl (za (R0 fun _=>st (aS (Iv 8) (zb (zq (zU kR rfl ?_))))))
 refine⟨8,rfl,?_,?_,(d.s1_)⟩
 decide
 intro J
 omega
 refine zg rfl (za (R0 fun _=>st (aS (Iv 2) (zb (zq (zU kR rfl ?_))))))
 refine⟨2,rfl,?_,?_,(d.s1_)⟩
 decide
 intro J
 omega
 have g:=yn g
 refine zg rfl (za (R0 fun _=>st (aS (Iv 9) (zb (zq (zU kR rfl ?_))))))
 refine⟨9,rfl,?_,?_,(d.s1_)⟩
 decide
 intro J
 omega
 have o:=tD o
 refine zg rfl (zp (za (zt (za (R0 fun _=>st (xW rfl (st (lD de0 sT rfl (zd (m.b0) rfl) (st (mV (Iw k) ?_))))))))))
 have aC:k<e.deps.length:=bo
 refine st (zf oR tT rfl hde0.sl rfl aC ?_)
 have I:k<e.deps.length:=bo
 obtain⟨aa,hxe284⟩:=hde0.intD I
 have ab:=m.cells aa (hde0.foot (ne_of_lt I))
 refine st (lD (Iv ((e.deps.getD k 0))) kT rfl (ab.get (j:=0) rfl) (st (zK rfl rfl (zb ?_))))
 cases l:decide ((e.deps.getD k 0)<0)
 have l:=fD l
 refine ze rfl (zp (R0 fun _=>st (mV (Iw k) ?_)))
 have aD:InR ((k+1:Nat):Int):=bo
 refine st (zO (r:=((k+1:Nat):Int)) rfl rfl (by rw[show(((k:Nat):Int)+1:Int)=((k+1:Nat):Int)from bo];exact zw aD) (st (aS (Iw (k+1)) (zb ?_))))
 exact⟨_,by omega,k+1,_,rfl,sSf,by omega,(xf hm om),m⟩
 have l:=tD l
 refine zg rfl (za (R0 fun _=>st (aS (Iv 1) (zb (zq (zU kR rfl ?_))))))
 refine⟨1,rfl,?_,?_,(m.s1_)⟩
 decide
 intro J
 omega
 refine zg rfl (za (R0 fun _=>st (aS (Iv 1) (zb (zq (zU kR rfl ?_))))))
 refine⟨1,rfl,?_,?_,(f.s1_)⟩
 decide
 intro J
 omega
theorem zbe {n:Int}(hn:InR n){vl:Value}{l:List Ev}(hl:RdS W G vl l)(hS0:Sep G W Rs w):Ret Tryz.prog 32 [.int .i64 (n),vl] w (fun r w'=> ∃(v:Value) (l2:List Ev),r=(v:Value)∧(l2.length≤60)∧(∀i,i<l2.length→KU (l2.getD i default) n)∧Sep G W ((RowE (α:=Ev) (shr G W) 55 v l2)::Rs) w'):=by
 have hls:_*96≤_:=hl.small
 refine zn Tryz.func32 rfl rfl ?_
 refine za (R0 fun _=>st (aS Iz (zb (za (R0 fun _=>st (aS Iz (zb (za (za (R0 fun _=>st (aS (Iv 0) (zb (zt ?_)))))))))))))
 have aa:Sep G W ((RowE (α:=Ev) (shr G W) 55 Iz [])::Rs) w:=hS0.rowNil (shr G W) 55
 refine zZ (fun mq σ wq=> ∃k vo l2 ρ,mq=l.length-k∧σ=yf ρ [(0,Iv n),(1,vl),(5,vo),(6,Iw k)]∧(k≤l.length)∧(l2.length≤60)∧(∀i,i<l2.length→KU (l2.gd i) n)∧Sep G W ((RowE (shr G W) 55 vo l2)::Rs) wq) ⟨0,(Iz),[],_,rfl,sSf,zY _,zY _,(fun i h=>absurd h (yO i)),aa⟩ ?_
 rintro m3 σ4 w2 ⟨k,vo,l2,ρl1,rfl,rfl,hkk,u,hft,g⟩
 let ac:=zT W (sb vl) (so vl+k*10+3)
 have J:=g.r0
 have hr6s:_*96≤_:=J.2
 refine za (za (zF kr (st (mV (Iw k) (st (mV vl (st (zC rT rfl hl.sl (st (zK rfl rfl (st (mV (.bool (decide (((k:Nat):Int)<((l.length:Nat):Int)))) (stc (V:=vo) rfl rfl (fun ab=>?_) ?_)))))))))))))
 have hl8:=tD ab
 exact mV vo rflB
 refine stc (V:=Iw l2.length) rfl rfl (fun K=>?_) ?_
 have hl10:=tD K
 exact zC rT (ifpC K) J.1 rflB
 refine stc (V:=.bool (decide (((l2.length:Nat):Int)<60))) rfl rfl (fun x=>?_) ?_
 have hl12:=tD x
 exact zK (ifpC x) rfl rflB
 refine st (zx rfl (fun hbp=>(ifpC hbp)) (zb ?_))
 cases y:(decide (((k:Nat):Int)<((l.length:Nat):Int)))&&(decide (((l2.length:Nat):Int)<60))
 try simp only[zi]at y
 refine ze rfl (ya (zR (za (R0 fun _=>st (mV vo (st (aS vo (zb (zq (zU Tryz.results32 rfl ?_))))))))))
 refine⟨vo,l2,rfl,?_,?_,g⟩
 exact u
 exact hft
 try simp only[zi]at y
 refine zg rfl (zp (za (zt (za (zF kr (st (mV vl (st (mV (Iw k) ?_)))))))))
 have M:k<l.length:=bo
 refine st (zf rT lT rfl hl.sl rfl M (st (xW rfl ?_)))
 have m:k<l.length:=bo
 obtain⟨o,d,q⟩:=hl.evD m
 have hsm17:((l.gd k).deps).length*8≤140737488355328:=d.small
 have D:=g.cells o (hl.foot (ne_of_lt m))
 refine st (lD ac sT rfl (D.get rfl) (st (zC oR rfl d.sl (st (mV (Iv n) (st (zS rfl rfl (st (mV (.bool (decide (((((l.gd k).deps).length:Nat):Int)=n))) (stc (V:=vl) rfl rfl (fun N=>?_) ?_))))))))))
 have hl20:=tD N
 exact mV vl rflB
 refine stc (V:=Iw k) rfl rfl (fun O=>?_) ?_
 have hl22:=tD O
 exact mV (Iw k) rflB
 refine stc (V:=Ix (sb vl) (so vl+k*10)) rfl rfl (fun s=>?_) ?_
 have hl24:=tD s
 have Q:k<l.length:=bo
 exact zf rT lT (ifpC s) hl.sl (ifpC s) Q rflB
 refine stc (V:=.agg ((l.gd k).cells ac).toArray) rfl rfl (fun z=>?_) ?_
 have hl27:=tD z
 have E:=g.cells o (hl.foot (ne_of_lt m))
 exact zh oT lT rfl (ifpC z) E rflB
 refine stc (V:=Iv n) rfl rfl (fun R=>?_) ?_
 have hl31:=tD R
 exact mV (Iv n) rflB
 cases f:decide (((((l.gd k).deps).length:Nat):Int)=n)
 have hg32r:=f
 have f:=fD f
 refine stx rfl rfl (stx rfl rfl (st (yt rfl rfl (zb (ze rfl (zp (R0 fun _=>st (mV (Iw k) ?_))))))))
 have S:InR ((k+1:Nat):Int):=bo
 refine st (zO (r:=((k+1:Nat):Int)) rfl rfl (by rw[show(((k:Nat):Int)+1:Int)=((k+1:Nat):Int)from bo];exact zw S) (st (aS (Iw (k+1)) (zb ?_))))
 exact⟨_,by omega,k+1,vo,l2,_,rfl,sSf,by omega,u,hft,g⟩
 have f:=tD f
 refine sty rfl rfl (cL Tryz.call58 (zap d q hn g) ?_)
 rintro _ w37 ⟨A,rfl,hc935,F,t⟩
 refine sty rfl rfl (zS rfl rfl (st (yC rfl rfl (zb ?_))))
 cases p:decide (A=0)
 have p:=fD p
 refine ze rfl (zp (R0 fun _=>st (mV (Iw k) ?_)))
 have T:InR ((k+1:Nat):Int):=bo
 refine st (zO (r:=((k+1:Nat):Int)) rfl rfl (by rw[show(((k:Nat):Int)+1:Int)=((k+1:Nat):Int)from bo];exact zw T) (st (aS (Iw (k+1)) (zb ?_))))
 exact⟨_,by omega,k+1,vo,l2,_,rfl,sSf,by omega,u,hft,t⟩
 have p:=tD p
 refine zg rfl (R0 fun _=>st (mV vo (st (mV vl (st (mV (Iw k) ?_))))))
 have U:k<l.length:=bo
 refine st (zf rT lT rfl hl.sl rfl U ?_)
 have H:=t.cells o (hl.foot (ne_of_lt m))
 refine st (zh oT lT rfl rfl H (st (zH (c:=((l.gd k).cells ac).toArray) rT lT lY dc rfl kr ?_)))
 intro w46 b45 X
 have B:=t.new X
 have I:=B.b0
 refine st (yq ((B.s2_b).emp1) Us rfl rfl I (fun _ _ _=>(show _ from⟨_,rfl,d,q⟩)) yqb rfl ?_)
 intro L w48 C
 have Y:=C.r0
 refine st (aS L (zb (R0 fun _=>st (mV (Iw k) ?_))))
 have Z:InR ((k+1:Nat):Int):=bo
 refine st (zO (r:=((k+1:Nat):Int)) rfl rfl (by rw[show(((k:Nat):Int)+1:Int)=((k+1:Nat):Int)from bo];exact zw Z) (st (aS (Iw (k+1)) (zb ?_))))
 exact⟨_,by omega,k+1,L,(l2++[(l.getD k default)]),_,rfl,sSf,by omega,(by rw[List.length_append,List.length_singleton];omega),(zbm (P:=fun e=>KU e n) hft (F (by omega))),C⟩
theorem Qf {a:Ev}{da0:Value}(hda0:RdS W G da0 a.deps)(oa:a.Ok){b:Ev}{db0:Value}(hdb0:RdS W G db0 b.deps)(ob:b.Ok)(hS0:Sep G W Rs w):Ret Tryz.prog 44 [.agg (a.cells da0).toArray,.agg (b.cells db0).toArray] w (fun r w'=>r=(.bool (decide (a=b)):Value)∧Sep G W Rs w'):=by
 refine zn Tryz.func44 rfl rfl ?_
 refine za (R0 fun _=>st (zX rfl ?_))
 intro w3 b2 aX
 refine st (zX rfl ?_)
 intro w7 g aY
 have d:=(hS0.new aX).new aY
 refine st (aS (.bool false) (zb (za (zF kr (st (xe rfl (st (zh qT pT rfl rfl (CellsAt.sub (zo (d.b1)) 0 rfl) (st (xe rfl (st (zh qT pT rfl rfl (CellsAt.sub (zo (d.b0)) 0 rfl) (st (ZP KP rfl rfl (st (mV (.bool (decide (a.origin=b.origin∧a.seq=b.seq))) (stc (V:=Ix b2 2) rfl rfl (fun aZ=>?_) ?_)))))))))))))))))
 exact UC rfl rflB
 refine stc (V:=Iv (a.lam)) rfl rfl (fun q=>?_) ?_
 exact lD (Iv (a.lam)) kT (ifpC q) (zd (d.b1) rfl) rflB
 refine stc (V:=Ix g 2) rfl rfl (fun M=>?_) ?_
 exact UC rfl rflB
 refine stc (V:=Iv (b.lam)) rfl rfl (fun s=>?_) ?_
 exact lD (Iv (b.lam)) kT (ifpC s) (zd (d.b0) rfl) rflB
 refine stc (V:=.bool (decide (a.lam=b.lam))) rfl rfl (fun h=>?_) ?_
 exact zS (ifpC h) (ifpC h) rflB
 refine st (zx rfl (fun hbp=>(ifpC hbp)) (st (mV (.bool ((decide (a.origin=b.origin∧a.seq=b.seq))&&(decide (a.lam=b.lam)))) (stc (V:=Ix b2 3) rfl rfl (fun N=>?_) ?_))))
 have O:=N
 try simp only[zi]at O
 exact xW rfl rflB
 refine stc (V:=da0) rfl rfl (fun t=>?_) ?_
 have P:=t
 try simp only[zi]at P
 exact lD da0 sT (ifpC t) (zd (d.b1) rfl) rflB
 refine stc (V:=Ix g 3) rfl rfl (fun Q=>?_) ?_
 have R:=Q
 try simp only[zi]at R
 exact xW rfl rflB
 refine stc (V:=db0) rfl rfl (fun u=>?_) ?_
 have S:=u
 try simp only[zi]at S
 exact lD db0 sT (ifpC u) (zd (d.b0) rfl) rflB
 refine zdh (V:=.bool (decide (a.deps=b.deps))) (fun _ wq=>Sep G W ((Blk g (b.cells db0).toArray 55)::(Blk b2 (a.cells da0).toArray 55)::Rs) wq) d rfl rfl (fun i=>?_) (fun w31 c=>?_)
 have T:=i
 try simp only[zi]at T
 refine(zW (vals:=[da0,db0]) rfl (yM ⟨(ifpC i),(ifpC i),zl⟩) nY (Vh hda0 hdb0 d) ?_)
 rintro _ w29 ⟨rfl,U⟩
 exact⟨rfl,U⟩
 refine st (zx rfl (fun hbp=>(ifpC hbp)) (st (mV (.bool (((decide (a.origin=b.origin∧a.seq=b.seq))&&(decide (a.lam=b.lam)))&&(decide (a.deps=b.deps)))) (stc (V:=Ix b2 4) rfl rfl (fun X=>?_) ?_))))
 have Y:=X
 try simp only[zi]at Y
 exact xm rfl rflB
 refine stc (V:=Iv (a.typ)) rfl rfl (fun x=>?_) ?_
 have Z:=x
 try simp only[zi]at Z
 exact lD (Iv (a.typ)) kT (ifpC x) (zd (c.b1) rfl) rflB
 refine stc (V:=Ix g 4) rfl rfl (fun aa=>?_) ?_
 have ab:=aa
 try simp only[zi]at ab
 exact xm rfl rflB
 refine stc (V:=Iv (b.typ)) rfl rfl (fun y=>?_) ?_
 have ac:=y
 try simp only[zi]at ac
 exact lD (Iv (b.typ)) kT (ifpC y) (zd (c.b0) rfl) rflB
 refine stc (V:=.bool (decide (a.typ=b.typ))) rfl rfl (fun j=>?_) ?_
 have ad:=j
 try simp only[zi]at ad
 exact zS (ifpC j) (ifpC j) rflB
 refine st (zx rfl (fun hbp=>(ifpC hbp)) (st (mV (.bool ((((decide (a.origin=b.origin∧a.seq=b.seq))&&(decide (a.lam=b.lam)))&&(decide (a.deps=b.deps)))&&(decide (a.typ=b.typ)))) (stc (V:=Ix b2 5) rfl rfl (fun ae=>?_) ?_))))
 have af:=ae
 try simp only[zi]at af
 exact Zc rfl rflB
 refine stc (V:=Iv (a.agg)) rfl rfl (fun z=>?_) ?_
 have ag:=z
 try simp only[zi]at ag
 exact lD (Iv (a.agg)) kT (ifpC z) (zd (c.b1) rfl) rflB
 refine stc (V:=Ix g 5) rfl rfl (fun ah=>?_) ?_
 have ai:=ah
 try simp only[zi]at ai
 exact Zc rfl rflB
 refine stc (V:=Iv (b.agg)) rfl rfl (fun A=>?_) ?_
 have aj:=A
 try simp only[zi]at aj
 exact lD (Iv (b.agg)) kT (ifpC A) (zd (c.b0) rfl) rflB
 refine stc (V:=.bool (decide (a.agg=b.agg))) rfl rfl (fun l=>?_) ?_
 have ak:=l
 try simp only[zi]at ak
 exact zS (ifpC l) (ifpC l) rflB
 refine st (zx rfl (fun hbp=>(ifpC hbp)) (st (mV (.bool (((((decide (a.origin=b.origin∧a.seq=b.seq))&&(decide (a.lam=b.lam)))&&(decide (a.deps=b.deps)))&&(decide (a.typ=b.typ)))&&(decide (a.agg=b.agg)))) (stc (V:=Ix b2 6) rfl rfl (fun al=>?_) ?_))))
 have am:=al
 try simp only[zi]at am
 exact xM rfl rflB
 refine stc (V:=Iv (a.field)) rfl rfl (fun B=>?_) ?_
 have an:=B
 try simp only[zi]at an
 exact lD (Iv (a.field)) kT (ifpC B) (zd (c.b1) rfl) rflB
 refine stc (V:=Ix g 6) rfl rfl (fun ao=>?_) ?_
 have ap:=ao
 try simp only[zi]at ap
 exact xM rfl rflB
 refine stc (V:=Iv (b.field)) rfl rfl (fun C=>?_) ?_
 have aq:=C
 try simp only[zi]at aq
 exact lD (Iv (b.field)) kT (ifpC C) (zd (c.b0) rfl) rflB
 refine stc (V:=.bool (decide (a.field=b.field))) rfl rfl (fun m=>?_) ?_
 have ar:=m
 try simp only[zi]at ar
 exact zS (ifpC m) (ifpC m) rflB
 refine st (zx rfl (fun hbp=>(ifpC hbp)) (st (mV (.bool ((((((decide (a.origin=b.origin∧a.seq=b.seq))&&(decide (a.lam=b.lam)))&&(decide (a.deps=b.deps)))&&(decide (a.typ=b.typ)))&&(decide (a.agg=b.agg)))&&(decide (a.field=b.field)))) (stc (V:=Ix b2 7) rfl rfl (fun au=>?_) ?_))))
 have av:=au
 try simp only[zi]at av
 exact Ze rfl rflB
 refine stc (V:=Iv (a.op)) rfl rfl (fun D=>?_) ?_
 have aw:=D
 try simp only[zi]at aw
 exact lD (Iv (a.op)) kT (ifpC D) (zd (c.b1) rfl) rflB
 refine stc (V:=Ix g 7) rfl rfl (fun ax=>?_) ?_
 have ay:=ax
 try simp only[zi]at ay
 exact Ze rfl rflB
 refine stc (V:=Iv (b.op)) rfl rfl (fun E=>?_) ?_
 have az:=E
 try simp only[zi]at az
 exact lD (Iv (b.op)) kT (ifpC E) (zd (c.b0) rfl) rflB
 refine stc (V:=.bool (decide (a.op=b.op))) rfl rfl (fun n=>?_) ?_
 have aA:=n
 try simp only[zi]at aA
 exact zS (ifpC n) (ifpC n) rflB
 refine st (zx rfl (fun hbp=>(ifpC hbp)) (st (mV (.bool (((((((decide (a.origin=b.origin∧a.seq=b.seq))&&(decide (a.lam=b.lam)))&&(decide (a.deps=b.deps)))&&(decide (a.typ=b.typ)))&&(decide (a.agg=b.agg)))&&(decide (a.field=b.field)))&&(decide (a.op=b.op)))) (stc (V:=Ix b2 8) rfl rfl (fun aB=>?_) ?_))))
 have aC:=aB
 try simp only[zi]at aC
 exact xy rfl rflB
 refine stc (V:=Iv (a.arg)) rfl rfl (fun F=>?_) ?_
 have aD:=F
 try simp only[zi]at aD
 exact lD (Iv (a.arg)) kT (ifpC F) (zd (c.b1) rfl) rflB
 refine stc (V:=Ix g 8) rfl rfl (fun aE=>?_) ?_
 have aF:=aE
 try simp only[zi]at aF
 exact xy rfl rflB
 refine stc (V:=Iv (b.arg)) rfl rfl (fun H=>?_) ?_
 have aG:=H
 try simp only[zi]at aG
 exact lD (Iv (b.arg)) kT (ifpC H) (zd (c.b0) rfl) rflB
 refine stc (V:=.bool (decide (a.arg=b.arg))) rfl rfl (fun o=>?_) ?_
 have aH:=o
 try simp only[zi]at aH
 exact zS (ifpC o) (ifpC o) rflB
 refine st (zx rfl (fun hbp=>(ifpC hbp)) (st (mV (.bool ((((((((decide (a.origin=b.origin∧a.seq=b.seq))&&(decide (a.lam=b.lam)))&&(decide (a.deps=b.deps)))&&(decide (a.typ=b.typ)))&&(decide (a.agg=b.agg)))&&(decide (a.field=b.field)))&&(decide (a.op=b.op)))&&(decide (a.arg=b.arg)))) (stc (V:=Ix b2 9) rfl rfl (fun aI=>?_) ?_))))
 have aJ:=aI
 try simp only[zi]at aJ
 exact Ki rfl rflB
 refine stc (V:=Iv (a.key)) rfl rfl (fun I=>?_) ?_
 have aK:=I
 try simp only[zi]at aK
 exact lD (Iv (a.key)) kT (ifpC I) (zd (c.b1) rfl) rflB
 refine stc (V:=Ix g 9) rfl rfl (fun aL=>?_) ?_
 have aM:=aL
 try simp only[zi]at aM
 exact Ki rfl rflB
 refine stc (V:=Iv (b.key)) rfl rfl (fun J=>?_) ?_
 have aN:=J
 try simp only[zi]at aN
 exact lD (Iv (b.key)) kT (ifpC J) (zd (c.b0) rfl) rflB
 refine stc (V:=.bool (decide (a.key=b.key))) rfl rfl (fun p=>?_) ?_
 have aO:=p
 try simp only[zi]at aO
 exact zS (ifpC p) (ifpC p) rflB
 refine st (zx rfl (fun hbp=>(ifpC hbp)) (st (aS (.bool (((((((((decide (a.origin=b.origin∧a.seq=b.seq))&&(decide (a.lam=b.lam)))&&(decide (a.deps=b.deps)))&&(decide (a.typ=b.typ)))&&(decide (a.agg=b.agg)))&&(decide (a.field=b.field)))&&(decide (a.op=b.op)))&&(decide (a.arg=b.arg)))&&(decide (a.key=b.key)))) (zb (zq (zU Tryz.results44 (show _=(.bool (((((((((decide (a.origin=b.origin∧a.seq=b.seq))&&(decide (a.lam=b.lam)))&&(decide (a.deps=b.deps)))&&(decide (a.typ=b.typ)))&&(decide (a.agg=b.agg)))&&(decide (a.field=b.field)))&&(decide (a.op=b.op)))&&(decide (a.arg=b.arg)))&&(decide (a.key=b.key))):Value)from rfl) ?_))))))
 refine⟨?_,(c.s2_)⟩
 congr 1
 rw[Bool.eq_iff_iff]
 simp only[Bool.and_eq_true,decide_eq_true_eq,Ev.eq_iff]
 constructor
 rintro⟨⟨⟨⟨⟨⟨⟨⟨L,h3⟩,h4⟩,h5⟩,h6⟩,h7⟩,h8⟩,h9⟩,K⟩;exact⟨L.1,L.2,h3,h4,h5,h6,h7,h8,h9,K⟩
 rintro⟨L,h2,h3,h4,h5,h6,h7,h8,h9,K⟩;exact⟨⟨⟨⟨⟨⟨⟨⟨⟨L,h2⟩,h3⟩,h4⟩,h5⟩,h6⟩,h7⟩,h8⟩,h9⟩,K⟩
theorem zbQ {a b:Ent}(h1:a.ev=b.ev)(h2:(a.void== b.void)=true)(h3:a.byO=b.byO∧a.byS=b.byS):a=b:=by
 rw[Ent.eq_iff];exact⟨h1,by simpa using h2,h3.1,h3.2⟩
theorem zao {a b:Ent}(h:(a.ev=b.ev∧(a.void== b.void)=true)∧a.byO=b.byO∧a.byS=b.byS):a=b:=zbQ h.1.1 h.1.2 h.2
theorem Xk {va:Value}{a:List Ent}(ha:RdS W G va a){vb:Value}{b:List Ent}(hb:RdS W G vb b)(hS0:Sep G W Rs w):Ret Tryz.prog 17 [va,vb] w (fun r w'=>r=(.bool (decide (a=b)):Value)∧Sep G W Rs w'):=by
 have has:_*120≤_:=ha.small
 have hbs:_*120≤_:=hb.small
 refine zn Tryz.func17 rfl rfl ?_
 refine za (R0 fun _=>st (aS (.bool false) (zb (za (za (R0 fun _=>st (mV va (st (zC mT rfl ha.sl (st (mV vb (st (zC mT rfl hb.sl (st (yy rfl rfl (zb ?_))))))))))))))))
 cases V: !decide (((a.length:Nat):Int)=((b.length:Nat):Int))
 have V:=zQ V
 refine ze rfl (zp (za (za (R0 fun _=>st (aS (Iv 0) (zb (zt (zZ (fun mq σ wq=> ∃k ρ,mq=a.length-k∧σ=yf ρ [(0,va),(1,vb),(5,Iw k)]∧(k≤a.length)∧(∀i,i<k→a.gd i=b.gd i)∧Sep G W Rs wq) ⟨0,_,rfl,sSf,zY _,(fun i h=>absurd h (yO i)),hS0⟩ ?_))))))))
 rintro m3 σ4 w2 ⟨k,ρl1,rfl,rfl,hkk,hm,bX⟩
 let cd:=zT W (sb vb) (so vb+k*13+3)
 let cc:=zT W (sb va) (so va+k*13+3)
 let ca:=b.gd k
 let bZ:=a.gd k
 let cb:=(bZ.void)== (ca.void)
 let aC:=decide (((a.gd k).ev)=((b.gd k).ev))
 refine za (za (R0 fun _=>st (mV (Iw k) (st (mV va (st (zC mT rfl ha.sl (st (zK rfl rfl (zb ?_))))))))))
 cases ae:decide (((k:Nat):Int)<((a.length:Nat):Int))
 have ae:=fD ae
 refine ze rfl (ya (zR (za (R0 fun _=>st (aS (.bool true) (zb (zq (zU uR (show _=(.bool true:Value)from rfl) ?_))))))))
 refine⟨?_,bX⟩
 rw[decide_eq_true (XC (by omega) (fun i hi=>hm i (by omega)))]
 have ae:=tD ae
 refine zg rfl (zp (za (zt (za ?_))))
 refine WD4 (WF [fun vals wq=>Sep G W Rs wq,fun vals wq=>(vals 10=(.bool aC:Value))∧Sep G W Rs wq]) (AF [Vl 0 va,Vl 1 (Iw k),Vl 2 (Ix (sb va) (so va+k*13)),Vl 3 (Ix (sb va) (so va+k*13)),Vl 4 (.agg ((bZ.ev).cells cc).toArray),Vl 5 vb,Vl 6 (Iw k),Vl 7 (Ix (sb vb) (so vb+k*13)),Vl 8 (Ix (sb vb) (so vb+k*13)),Vl 9 (.agg ((ca.ev).cells cd).toArray),fun _=>True,Vl 11 (.bool (!aC)),Vl 12 (.bool (!aC)),Vl 13 (if(!aC)=false then va else undef),Vl 14 (if(!aC)=false then Iw k else undef),Vl 15 (if(!aC)=false then Ix (sb va) (so va+k*13)else undef),Vl 16 (if(!aC)=false then Ix (sb va) (so va+k*13+10)else undef),Vl 17 (if(!aC)=false then .bool (bZ.void)else undef),Vl 18 (if(!aC)=false then vb else undef),Vl 19 (if(!aC)=false then Iw k else undef),Vl 20 (if(!aC)=false then Ix (sb vb) (so vb+k*13)else undef),Vl 21 (if(!aC)=false then Ix (sb vb) (so vb+k*13+10)else undef),Vl 22 (if(!aC)=false then .bool (ca.void)else undef),Vl 23 (if(!aC)=false then .bool (!cb)else undef),Vl 24 (.bool ((!aC)||(!cb))),Vl 25 (.bool ((!aC)||(!cb))),Vl 26 (if((!aC)||(!cb))=false then va else undef),Vl 27 (if((!aC)||(!cb))=false then Iw k else undef),Vl 28 (if((!aC)||(!cb))=false then Ix (sb va) (so va+k*13)else undef),Vl 29 (if((!aC)||(!cb))=false then Ix (sb va) (so va+k*13+11)else undef),Vl 30 (if((!aC)||(!cb))=false then .agg #[Iv (bZ.byO),Iv (bZ.byS)]else undef),Vl 31 (if((!aC)||(!cb))=false then vb else undef),Vl 32 (if((!aC)||(!cb))=false then Iw k else undef),Vl 33 (if((!aC)||(!cb))=false then Ix (sb vb) (so vb+k*13)else undef),Vl 34 (if((!aC)||(!cb))=false then Ix (sb vb) (so vb+k*13+11)else undef),Vl 35 (if((!aC)||(!cb))=false then .agg #[Iv (ca.byO),Iv (ca.byS)]else undef),Vl 36 (if((!aC)||(!cb))=false then .bool (!decide (bZ.byO=ca.byO∧bZ.byS=ca.byS))else undef),Vl 37 (.bool (((!aC)||(!cb))||(!decide (bZ.byO=ca.byO∧bZ.byS=ca.byS))))]) [[],[],[0,1],[0,1,2],(rg 4),[],[],[5,6],[5,6,7],[5,6,7,8],(rg 10),(rg 11),(rg 12),(rg 13),(rg 13),(rg 15),(rg 16),(rg 17),(rg 13),(rg 13),[0,1,2,3,4,5,6,7,8,9,10,11,12,18,19],[0,1,2,3,4,5,6,7,8,9,10,11,12,18,19,20],[0,1,2,3,4,5,6,7,8,9,10,11,12,18,19,20,21],(rg 23),(rg 24),(rg 25),(rg 26),(rg 26),(rg 28),(rg 29),(rg 30),(rg 26),(rg 26),[0,1,2,3,4,5,6,7,8,9,10,11,12,13,14,15,16,17,18,19,20,21,22,23,24,25,31,32],[0,1,2,3,4,5,6,7,8,9,10,11,12,13,14,15,16,17,18,19,20,21,22,23,24,25,31,32,33],[0,1,2,3,4,5,6,7,8,9,10,11,12,13,14,15,16,17,18,19,20,21,22,23,24,25,31,32,33,34],(rg 36),(rg 37)] [10] [(0,0),(0,0),(0,0),(0,0),(0,0),(0,0),(0,0),(0,0),(0,0),(0,0),(0,0),(1,1),(1,1),(1,1),(1,1),(1,1),(1,1),(1,1),(1,1),(1,1),(1,1),(1,1),(1,1),(1,1),(1,1),(1,1),(1,1),(1,1),(1,1),(1,1),(1,1),(1,1),(1,1),(1,1),(1,1),(1,1),(1,1),(1,1)] bX ⟨fun _ _ _ _ _ _ _=>obl rfl (mV va dR),fun _ _ _ _ _ _ _=>obl rfl (mV (Iw k) dR),?_,fun _ _ _ _ _ _ aU=>obl rfl (xx (aU 2 dc) dR),?_,fun _ _ _ _ _ _ _=>obl rfl (mV vb dR),fun _ _ _ _ _ _ _=>obl rfl (mV (Iw k) dR),?_,fun _ _ _ _ _ _ aV=>obl rfl (xx (aV 7 dc) dR),?_,?_,?_,fun _ _ _ _ _ _ aW=>obl rfl (zP (aW 11 dc) dR),?_,?_,?_,?_,?_,?_,?_,?_,?_,?_,?_,fun _ _ _ _ _ _ af=>obl rfl (zI (af 12 dc) (fun hbp=>(zr (af 23 dc) (ifpC hbp))) dR),fun _ _ _ _ _ _ aX=>obl rfl (zP (aX 24 dc) dR),?_,?_,?_,?_,?_,?_,?_,?_,?_,?_,?_,fun _ _ _ _ _ _ ag=>obl rfl (zI (ag 25 dc) (fun hbp=>(zr (ag 36 dc) (ifpC hbp))) dR),zl⟩ ?_
 refine ob1 0 fun _ _ _ ah=>(obl rfl ?_)
 have aY:k<a.length:=bo
 exact zf (k:=13) mT nT (ah 0 dc) ha.sl (ah 1 dc) aY dR
 refine ob1 0 fun _ _ (aZ:Sep _ _ _ _) ba=>(obl rfl ?_)
 have ai:k<a.length:=bo
 obtain⟨aD,X,hoke431⟩:=ha.entD ai
 have hsm433:((a.gd k).ev.deps).length*8≤140737488355328:=X.small
 have aE:=aZ.cells aD (ha.foot (ne_of_lt ai))
 exact zh oT lT rfl (ba 3 dc) (CellsAt.sub aE 0 rfl) dR
 refine ob1 0 fun _ _ _ aj=>(obl rfl ?_)
 have bb:k<b.length:=bo
 exact zf (k:=13) mT nT (aj 5 dc) hb.sl (aj 6 dc) bb dR
 refine ob1 0 fun _ _ (bc:Sep _ _ _ _) bd=>(obl rfl ?_)
 have ak:k<b.length:=bo
 obtain⟨aF,Y,hoke472⟩:=hb.entD ak
 have hsm474:((b.gd k).ev.deps).length*8≤140737488355328:=Y.small
 have aG:=bc.cells aF (hb.foot (ne_of_lt ak))
 exact zh oT lT rfl (bd 8 dc) (CellsAt.sub aG 0 rfl) dR
 refine ob1 0 fun vals _ (Z:Sep _ _ _ _) aH=>(obl rfl ?_)
 have aI:k<a.length:=bo
 obtain⟨be,O,aJ⟩:=ha.entD aI
 have hsm100:((a.gd k).ev.deps).length*8≤140737488355328:=O.small
 have hcw101:=Z.cells be (ha.foot (ne_of_lt aI))
 have al:k<b.length:=bo
 obtain⟨aK,N,aB⟩:=hb.entD al
 have hsm104:((b.gd k).ev.deps).length*8≤140737488355328:=N.small
 have hcw105:=Z.cells aK (hb.foot (ne_of_lt al))
 refine(zW (vals:=[.agg ((bZ.ev).cells cc).toArray,.agg ((ca.ev).cells cd).toArray]) rfl (yM ⟨(aH 4 dc),(aH 9 dc),zl⟩) Tryz.call44 (Qf (a:=(bZ.ev)) (b:=(ca.ev)) O aJ.ev N aB.ev Z) ?_)
 rintro _ w106 ⟨rfl,bf⟩
 exact fun c d hv'=>⟨(zA d bf),zl⟩
 refine ob1 1 fun _ _ bg _=>?_
 obtain⟨g,hS482⟩:=bg
 exact obl rfl (yD g dR)
 refine fun _ _ _ _ _ _ bh=>(zN rfl rfl (bh 12 dc) (fun D=>?_) yd)
 have hl498:=zQ D
 exact mV va (yc D)
 refine fun _ _ _ _ _ _ bi=>(zN rfl rfl (bi 12 dc) (fun E=>?_) yd)
 have hl507:=zQ E
 exact mV (Iw k) (yc E)
 refine ob1 1 fun _ _ bj P=>?_
 obtain⟨g,hS514⟩:=bj
 refine zN rfl rfl (P 12 dc) (fun l=>?_) yd
 have hl519:=zQ l
 have bk:k<a.length:=bo
 exact zf (k:=13) mT nT (zr (P 13 dc) (ifpC l)) ha.sl (zr (P 14 dc) (ifpC l)) bk (yc l)
 refine fun _ _ _ _ _ _ am=>(zN rfl rfl (am 12 dc) (fun t=>?_) yd)
 have hl530:=zQ t
 exact Vp (zr (am 15 dc) (ifpC t)) (yc t)
 refine ob1 1 fun _ _ bl an=>?_
 obtain⟨g,bm⟩:=bl
 refine zN rfl rfl (an 12 dc) (fun u=>?_) yd
 have hl541:=zQ u
 have ao:k<a.length:=bo
 obtain⟨aL,aa,hoke542⟩:=ha.entD ao
 have hsm544:((a.gd k).ev.deps).length*8≤140737488355328:=aa.small
 have aM:=bm.cells aL (ha.foot (ne_of_lt ao))
 exact lD (.bool (bZ.void)) oY (zr (an 16 dc) (ifpC u)) (aM.get (j:=10) rfl) (yc u)
 refine fun _ _ _ _ _ _ bn=>(zN rfl rfl (bn 12 dc) (fun F=>?_) yd)
 have hl554:=zQ F
 exact mV vb (yc F)
 refine fun _ _ _ _ _ _ bp=>(zN rfl rfl (bp 12 dc) (fun H=>?_) yd)
 have hl563:=zQ H
 exact mV (Iw k) (yc H)
 refine ob1 1 fun _ _ bq Q=>?_
 obtain⟨g,hS570⟩:=bq
 refine zN rfl rfl (Q 12 dc) (fun m=>?_) yd
 have hl575:=zQ m
 have br:k<b.length:=bo
 exact zf (k:=13) mT nT (zr (Q 18 dc) (ifpC m)) hb.sl (zr (Q 19 dc) (ifpC m)) br (yc m)
 refine fun _ _ _ _ _ _ ap=>(zN rfl rfl (ap 12 dc) (fun x=>?_) yd)
 have hl586:=zQ x
 exact Vp (zr (ap 20 dc) (ifpC x)) (yc x)
 refine ob1 1 fun _ _ bs aq=>?_
 obtain⟨g,bt⟩:=bs
 refine zN rfl rfl (aq 12 dc) (fun y=>?_) yd
 have hl597:=zQ y
 have ar:k<b.length:=bo
 obtain⟨aN,ab,hoke598⟩:=hb.entD ar
 have hsm600:((b.gd k).ev.deps).length*8≤140737488355328:=ab.small
 have aO:=bt.cells aN (hb.foot (ne_of_lt ar))
 exact lD (.bool (ca.void)) oY (zr (aq 21 dc) (ifpC y)) (aO.get (j:=10) rfl) (yc y)
 refine ob1 1 fun _ _ bu R=>?_
 obtain⟨g,hS608⟩:=bu
 refine zN rfl rfl (R 12 dc) (fun o=>?_) yd
 have hl613:=zQ o
 exact UD Tryz.underlying4 (zr (R 17 dc) (ifpC o)) (zr (R 22 dc) (ifpC o)) (yc o)
 refine fun _ _ _ _ _ _ bv=>(zN rfl rfl (bv 25 dc) (fun I=>?_) yd)
 have bw:=I
 try simp only[zi]at bw
 exact mV va (yc I)
 refine fun _ _ _ _ _ _ bx=>(zN rfl rfl (bx 25 dc) (fun J=>?_) yd)
 have bz:=J
 try simp only[zi]at bz
 exact mV (Iw k) (yc J)
 refine ob1 1 fun _ _ bA S=>?_
 obtain⟨g,hS653⟩:=bA
 refine zN rfl rfl (S 25 dc) (fun p=>?_) yd
 have bB:=p
 try simp only[zi]at bB
 have bC:k<a.length:=bo
 exact zf (k:=13) mT nT (zr (S 26 dc) (ifpC p)) ha.sl (zr (S 27 dc) (ifpC p)) bC (yc p)
 refine fun _ _ _ _ _ _ au=>(zN rfl rfl (au 25 dc) (fun z=>?_) yd)
 have bD:=z
 try simp only[zi]at bD
 exact zaI (zr (au 28 dc) (ifpC z)) (yc z)
 refine ob1 1 fun _ _ bE av=>?_
 obtain⟨g,bF⟩:=bE
 refine zN rfl rfl (av 25 dc) (fun A=>?_) yd
 have bG:=A
 try simp only[zi]at bG
 have aw:k<a.length:=bo
 obtain⟨aP,ac,hoke681⟩:=ha.entD aw
 have hsm683:((a.gd k).ev.deps).length*8≤140737488355328:=ac.small
 have aQ:=bF.cells aP (ha.foot (ne_of_lt aw))
 exact zh qT pT rfl (zr (av 29 dc) (ifpC A)) (CellsAt.sub aQ 11 rfl) (yc A)
 refine fun _ _ _ _ _ _ bH=>(zN rfl rfl (bH 25 dc) (fun K=>?_) yd)
 have bI:=K
 try simp only[zi]at bI
 exact mV vb (yc K)
 refine fun _ _ _ _ _ _ bJ=>(zN rfl rfl (bJ 25 dc) (fun L=>?_) yd)
 have bK:=L
 try simp only[zi]at bK
 exact mV (Iw k) (yc L)
 refine ob1 1 fun _ _ bL T=>?_
 obtain⟨g,hS709⟩:=bL
 refine zN rfl rfl (T 25 dc) (fun q=>?_) yd
 have bM:=q
 try simp only[zi]at bM
 have bN:k<b.length:=bo
 exact zf (k:=13) mT nT (zr (T 31 dc) (ifpC q)) hb.sl (zr (T 32 dc) (ifpC q)) bN (yc q)
 refine fun _ _ _ _ _ _ ax=>(zN rfl rfl (ax 25 dc) (fun B=>?_) yd)
 have bO:=B
 try simp only[zi]at bO
 exact zaI (zr (ax 33 dc) (ifpC B)) (yc B)
 refine ob1 1 fun _ _ bP ay=>?_
 obtain⟨g,bQ⟩:=bP
 refine zN rfl rfl (ay 25 dc) (fun C=>?_) yd
 have bR:=C
 try simp only[zi]at bR
 have az:k<b.length:=bo
 obtain⟨aR,ad,hoke737⟩:=hb.entD az
 have hsm739:((b.gd k).ev.deps).length*8≤140737488355328:=ad.small
 have aT:=bQ.cells aR (hb.foot (ne_of_lt az))
 exact zh qT pT rfl (zr (ay 34 dc) (ifpC C)) (CellsAt.sub aT 11 rfl) (yc C)
 refine ob1 1 fun _ _ bS U=>?_
 obtain⟨g,hS747⟩:=bS
 refine zN rfl rfl (U 25 dc) (fun s=>?_) yd
 have bT:=s
 try simp only[zi]at bT
 exact XO (e:=decide (bZ.byO=ca.byO∧bZ.byS=ca.byS)) (xs:=#[Iv (bZ.byO),Iv (bZ.byS)]) (ys:=#[Iv (ca.byO),Iv (ca.byS)]) zaC (zr (U 30 dc) (ifpC s)) (zr (U 35 dc) (ifpC s)) (yc s)
 intro vals w761 bU bV
 obtain⟨g,aA⟩:=bU
 have bY:=bV 37 dc
 refine yg (kv:=[(0,va),(1,vb),(5,Iw k),(11,Iw k),(12,va),(13,Iw a.length),(14,.bool true),(54,.bool (((!aC)||(!cb))||(!decide (bZ.byO=ca.byO∧bZ.byS=ca.byS))))]) ⟨rfl,rfl,rfl,rfl,rfl,rfl,rfl,(by exact bY),zl⟩ (fun ρw761=>(zb ?_))
 cases M:((!(decide (((a.gd k).ev)=((b.gd k).ev))))||(!(((a.gd k).void)== ((b.gd k).void))))||(!decide ((a.gd k).byO=(b.gd k).byO∧(a.gd k).byS=(b.gd k).byS))
 try simp only[zi]at M
 refine ze rfl (zp (R0 fun _=>st (mV (Iw k) ?_)))
 have bW:InR ((k+1:Nat):Int):=bo
 refine st (zO (r:=((k+1:Nat):Int)) rfl rfl (by rw[show(((k:Nat):Int)+1:Int)=((k+1:Nat):Int)from bo];exact zw bW) (st (aS (Iw (k+1)) (zb ?_))))
 exact⟨_,by omega,k+1,_,rfl,sSf,by omega,(xf hm (zao M)),aA⟩
 try simp only[zi]at M
 refine zg rfl (za (R0 fun _=>st (aS (.bool false) (zb (zq (zU uR (show _=(.bool false:Value)from rfl) ?_))))))
 refine⟨?_,aA⟩
 rw[decide_eq_false (fun e=>by subst e;first|omega|(simp at M))]
 have V:=yn V
 refine zg rfl (za (R0 fun _=>st (aS (.bool false) (zb (zq (zU uR (show _=(.bool false:Value)from rfl) ?_))))))
 refine⟨?_,hS0⟩
 rw[decide_eq_false (fun e=>by subst e;first|omega|(simp at V))]
theorem zaJ {a b:Cel}(h1:a.n=b.n)(h2:a.set=b.set):a=b:=by cases a;cases b;simp_all
theorem zbz {a b:Sta}(h1:a.ver=b.ver)(h2:a.cls=b.cls):a=b:=by cases a;cases b;simp_all
theorem Wp {x:Sta}{dx0:Value}(hdx0:RdS W G dx0 x.cls)(ox:x.Ok){y:Sta}{dy0:Value}(hdy0:RdS W G dy0 y.cls)(oy:y.Ok)(hS0:Sep G W Rs w):Ret Tryz.prog 22 [.agg (x.cells dx0).toArray,.agg (y.cells dy0).toArray] w (fun r w'=>r=(.bool (decide (x=y)):Value)∧Sep G W Rs w'):=by
 let bx:=((x.cls.length:Nat):Int)
 have hdx0s:_*32≤_:=hdx0.small
 have hdy0s:_*32≤_:=hdy0.small
 refine zn Tryz.func22 rfl rfl ?_
 refine za (R0 fun _=>st (zX rfl ?_))
 intro w3 b2 bq
 refine st (zX rfl ?_)
 intro w7 O br
 have J:=(hS0.new bq).new br
 refine st (aS (.bool false) (zb (za (za (zF kr (st (XZ rfl (st (lD (Iv (x.ver)) kT rfl (zd (J.b1) rfl) (st (XZ rfl (st (lD (Iv (y.ver)) kT rfl (zd (J.b0) rfl) (st (yy rfl rfl (st (mV (.bool (!decide (x.ver=y.ver))) (stc (V:=Ix b2 1) rfl rfl (fun bs=>?_) ?_))))))))))))))))))
 have hl10:=zQ bs
 exact xo rfl rflB
 refine stc (V:=dx0) rfl rfl (fun aq=>?_) ?_
 have hl12:=zQ aq
 exact lD dx0 uT (ifpC aq) (zd (J.b1) rfl) rflB
 refine stc (V:=Iw x.cls.length) rfl rfl (fun ar=>?_) ?_
 have hl14:=zQ ar
 exact zC vT (ifpC ar) hdx0.sl rflB
 refine stc (V:=Ix O 1) rfl rfl (fun bm=>?_) ?_
 have hl16:=zQ bm
 exact xo rfl rflB
 refine stc (V:=dy0) rfl rfl (fun au=>?_) ?_
 have hl18:=zQ au
 exact lD dy0 uT (ifpC au) (zd (J.b0) rfl) rflB
 refine stc (V:=Iw y.cls.length) rfl rfl (fun av=>?_) ?_
 have hl20:=zQ av
 exact zC vT (ifpC av) hdy0.sl rflB
 refine stc (V:=.bool (!decide (bx=((y.cls.length:Nat):Int)))) rfl rfl (fun P=>?_) ?_
 have hl22:=zQ P
 exact yy (ifpC P) (ifpC P) rflB
 refine st (zI rfl (fun hbp=>(ifpC hbp)) (zb ?_))
 cases Q:(!decide (x.ver=y.ver))||(!decide (((x.cls.length:Nat):Int)=((y.cls.length:Nat):Int)))
 try simp only[zi]at Q
 refine ze rfl (zp (za (za (R0 fun _=>st (aS (Iv 0) (zb (zt (zZ (fun mq σ wq=> ∃k ρ,mq=x.cls.length-k∧σ=yf ρ [(2,Ix b2 0),(3,Ix O 0),(5,Iw k)]∧(k≤x.cls.length)∧(∀i,i<k→x.cls.getD i default=y.cls.getD i default)∧Sep G W ((Blk O (y.cells dy0).toArray 48)::(Blk b2 (x.cells dx0).toArray 48)::Rs) wq) ⟨0,_,rfl,sSf,zY _,(fun i h=>absurd h (yO i)),J⟩ ?_))))))))
 rintro m25 σ26 w24 ⟨k,ρl1,rfl,rfl,hkk,hm,R⟩
 let bw:=zT W (sb dy0) (so dy0+k*2+1)
 let bv:=zT W (sb dx0) (so dx0+k*2+1)
 let bu:=((x.cls.getD k default).set)=((y.cls.getD k default).set)
 let aw:=((x.cls.getD k default).n)=((y.cls.getD k default).n)
 refine za (za (R0 fun _=>st (mV (Iw k) (st (xo rfl (st (lD dx0 uT rfl (zd (R.b1) rfl) (st (zC vT rfl hdx0.sl (st (zK rfl rfl (zb ?_))))))))))))
 cases K:decide (((k:Nat):Int)<((x.cls.length:Nat):Int))
 have K:=fD K
 refine ze rfl (ya (zR (za (R0 fun _=>st (aS (.bool true) (zb (zq (zU vR (show _=(.bool true:Value)from rfl) ?_))))))))
 refine⟨?_,(R.s2_)⟩
 rw[decide_eq_true (zbz (by omega) (XC (by omega) (fun i hi=>hm i (by omega))))]
 have K:=tD K
 refine zg rfl (zp (za (zt (za ?_))))
 refine WD4 ((fun TT bl=>WF [fun vals wq=>Sep G W (bl::TT) wq,fun vals wq=>(vals 26=(if(!decide aw)=false then(.bool (decide bu):Value)else undef))∧Sep G W (bl::TT) wq]) ((Blk b2 (x.cells dx0).toArray 48)::Rs) (Blk O (y.cells dy0).toArray 48)) (AF [Vl 0 (Ix b2 1),Vl 1 dx0,Vl 2 (Iw k),Vl 3 (Ix (sb dx0) (so dx0+k*2)),Vl 4 (Ix (sb dx0) (so dx0+k*2)),Vl 5 (Iv ((x.cls.getD k default).n)),Vl 6 (Ix O 1),Vl 7 dy0,Vl 8 (Iw k),Vl 9 (Ix (sb dy0) (so dy0+k*2)),Vl 10 (Ix (sb dy0) (so dy0+k*2)),Vl 11 (Iv ((y.cls.getD k default).n)),Vl 12 (.bool (!decide aw)),Vl 13 (.bool (!decide aw)),Vl 14 (if(!decide aw)=false then Ix b2 1 else undef),Vl 15 (if(!decide aw)=false then dx0 else undef),Vl 16 (if(!decide aw)=false then Iw k else undef),Vl 17 (if(!decide aw)=false then Ix (sb dx0) (so dx0+k*2)else undef),Vl 18 (if(!decide aw)=false then Ix (sb dx0) (so dx0+k*2+1)else undef),Vl 19 (if(!decide aw)=false then bv else undef),Vl 20 (if(!decide aw)=false then Ix O 1 else undef),Vl 21 (if(!decide aw)=false then dy0 else undef),Vl 22 (if(!decide aw)=false then Iw k else undef),Vl 23 (if(!decide aw)=false then Ix (sb dy0) (so dy0+k*2)else undef),Vl 24 (if(!decide aw)=false then Ix (sb dy0) (so dy0+k*2+1)else undef),Vl 25 (if(!decide aw)=false then bw else undef),fun _=>True,Vl 27 (if(!decide aw)=false then .bool (!(decide bu))else undef),Vl 28 (.bool ((!decide aw)||(!(decide bu))))]) [[],[0],[],[0,1,2],(rg 4),(rg 5),[],[6],[],[6,7,8],[6,7,8,9],[6,7,8,9,10],(rg 12),(rg 13),(rg 14),(rg 15),(rg 14),(rg 17),(rg 18),(rg 19),(rg 14),[0,1,2,3,4,5,6,7,8,9,10,11,12,13,20],(rg 14),[0,1,2,3,4,5,6,7,8,9,10,11,12,13,20,21,22],[0,1,2,3,4,5,6,7,8,9,10,11,12,13,20,21,22,23],[0,1,2,3,4,5,6,7,8,9,10,11,12,13,20,21,22,23,24],(rg 26),(rg 27),(rg 28)] [26] [(0,0),(0,0),(0,0),(0,0),(0,0),(0,0),(0,0),(0,0),(0,0),(0,0),(0,0),(0,0),(0,0),(0,0),(0,0),(0,0),(0,0),(0,0),(0,0),(0,0),(0,0),(0,0),(0,0),(0,0),(0,0),(0,0),(0,0),(1,1),(1,1)] R ⟨fun _ _ _ _ _ _ _=>obl rfl (xo rfl dR),ob1 0 fun _ _ (aH:Sep _ _ _ _) aI=>obl rfl (lD dx0 uT (aI 0 dc) (zd (aH.b1) rfl) dR),fun _ _ _ _ _ _ _=>obl rfl (mV (Iw k) dR),?_,fun _ _ _ _ _ _ aJ=>obl rfl (xa (aJ 3 dc) dR),?_,fun _ _ _ _ _ _ _=>obl rfl (xo rfl dR),ob1 0 fun _ _ (aK:Sep _ _ _ _) aL=>obl rfl (lD dy0 uT (aL 6 dc) (zd (aK.b0) rfl) dR),fun _ _ _ _ _ _ _=>obl rfl (mV (Iw k) dR),?_,fun _ _ _ _ _ _ aM=>obl rfl (xa (aM 9 dc) dR),?_,ob1 0 fun _ _ _ Y=>obl rfl (yy (Y 5 dc) (Y 11 dc) dR),fun _ _ _ _ _ _ aN=>obl rfl (zP (aN 12 dc) dR),?_,?_,?_,?_,?_,?_,?_,?_,?_,?_,?_,?_,?_,?_,fun _ _ _ _ _ _ Z=>obl rfl (zI (Z 13 dc) (fun hbp=>(zr (Z 27 dc) (ifpC hbp))) dR),zl⟩ ?_
 refine ob1 0 fun _ _ _ aa=>(obl rfl ?_)
 have aO:k<x.cls.length:=bo
 exact zf (k:=2) vT pR (aa 1 dc) hdx0.sl (aa 2 dc) aO dR
 refine ob1 0 fun _ _ (aP:Sep _ _ _ _) aQ=>(obl rfl ?_)
 have ab:k<x.cls.length:=bo
 obtain⟨ax,S,hoke364⟩:=hdx0.celD ab
 have hsm366:((x.cls.getD k default).set).length*8≤140737488355328:=S.small
 have ay:=aP.cells ax (hdx0.foot (ne_of_lt ab))
 exact lD (Iv ((x.cls.getD k default).n)) kT (aQ 4 dc) (ay.get (j:=0) rfl) dR
 refine ob1 0 fun _ _ _ ac=>(obl rfl ?_)
 have aR:k<y.cls.length:=bo
 exact zf (k:=2) vT pR (ac 7 dc) hdy0.sl (ac 8 dc) aR dR
 refine ob1 0 fun _ _ (aT:Sep _ _ _ _) aU=>(obl rfl ?_)
 have ad:k<y.cls.length:=bo
 obtain⟨az,T,hoke413⟩:=hdy0.celD ad
 have hsm415:((y.cls.getD k default).set).length*8≤140737488355328:=T.small
 have aA:=aT.cells az (hdy0.foot (ne_of_lt ad))
 exact lD (Iv ((y.cls.getD k default).n)) kT (aU 10 dc) (aA.get (j:=0) rfl) dR
 refine fun _ _ _ _ _ _ aV=>(zN rfl rfl (aV 13 dc) (fun B=>?_) yd)
 have hl441:=zQ B
 exact xo rfl (yc B)
 refine ob1 0 fun _ _ (aW:Sep _ _ _ _) ae=>(zN rfl rfl (ae 13 dc) (fun o=>?_) yd)
 have hl452:=zQ o
 exact lD dx0 uT (zr (ae 14 dc) (ifpC o)) (zd (aW.b1) rfl) (yc o)
 refine fun _ _ _ _ _ _ aX=>(zN rfl rfl (aX 13 dc) (fun C=>?_) yd)
 have hl461:=zQ C
 exact mV (Iw k) (yc C)
 refine ob1 0 fun _ _ _ L=>(zN rfl rfl (L 13 dc) (fun g=>?_) yd)
 have hl473:=zQ g
 have aY:k<x.cls.length:=bo
 exact zf (k:=2) vT pR (zr (L 15 dc) (ifpC g)) hdx0.sl (zr (L 16 dc) (ifpC g)) aY (yc g)
 refine fun _ _ _ _ _ _ af=>(zN rfl rfl (af 13 dc) (fun p=>?_) yd)
 have hl484:=zQ p
 exact yY (zr (af 17 dc) (ifpC p)) (yc p)
 refine ob1 0 fun _ _ (aZ:Sep _ _ _ _) ag=>(zN rfl rfl (ag 13 dc) (fun q=>?_) yd)
 have hl495:=zQ q
 have ah:k<x.cls.length:=bo
 obtain⟨aB,U,hoke496⟩:=hdx0.celD ah
 have hsm498:((x.cls.getD k default).set).length*8≤140737488355328:=U.small
 have aC:=aZ.cells aB (hdx0.foot (ne_of_lt ah))
 exact lD bv sT (zr (ag 18 dc) (ifpC q)) (aC.get (j:=1) rfl) (yc q)
 refine fun _ _ _ _ _ _ ba=>(zN rfl rfl (ba 13 dc) (fun D=>?_) yd)
 have hl508:=zQ D
 exact xo rfl (yc D)
 refine ob1 0 fun _ _ (bb:Sep _ _ _ _) ai=>(zN rfl rfl (ai 13 dc) (fun s=>?_) yd)
 have hl519:=zQ s
 exact lD dy0 uT (zr (ai 20 dc) (ifpC s)) (zd (bb.b0) rfl) (yc s)
 refine fun _ _ _ _ _ _ bc=>(zN rfl rfl (bc 13 dc) (fun E=>?_) yd)
 have hl528:=zQ E
 exact mV (Iw k) (yc E)
 refine ob1 0 fun _ _ _ M=>(zN rfl rfl (M 13 dc) (fun l=>?_) yd)
 have hl540:=zQ l
 have bd:k<y.cls.length:=bo
 exact zf (k:=2) vT pR (zr (M 21 dc) (ifpC l)) hdy0.sl (zr (M 22 dc) (ifpC l)) bd (yc l)
 refine fun _ _ _ _ _ _ aj=>(zN rfl rfl (aj 13 dc) (fun t=>?_) yd)
 have hl551:=zQ t
 exact yY (zr (aj 23 dc) (ifpC t)) (yc t)
 refine ob1 0 fun _ _ (be:Sep _ _ _ _) ak=>(zN rfl rfl (ak 13 dc) (fun u=>?_) yd)
 have hl562:=zQ u
 have al:k<y.cls.length:=bo
 obtain⟨aD,X,hoke563⟩:=hdy0.celD al
 have hsm565:((y.cls.getD k default).set).length*8≤140737488355328:=X.small
 have aE:=be.cells aD (hdy0.foot (ne_of_lt al))
 exact lD bw sT (zr (ak 24 dc) (ifpC u)) (aE.get (j:=1) rfl) (yc u)
 refine ob1 0 fun vals bn (F:Sep _ _ _ _) N=>(zN rfl rfl (N 13 dc) (fun m=>?_) (fun m c d bt=>?_))
 have hl289:=zQ m
 have am:k<x.cls.length:=bo
 obtain⟨aF,H,hoke290⟩:=hdx0.celD am
 have hsm292:((x.cls.getD k default).set).length*8≤140737488355328:=H.small
 have hcw293:=F.cells aF (hdx0.foot (ne_of_lt am))
 have an:k<y.cls.length:=bo
 obtain⟨aG,I,hoke294⟩:=hdy0.celD an
 have hsm296:((y.cls.getD k default).set).length*8≤140737488355328:=I.small
 have hcw297:=F.cells aG (hdy0.foot (ne_of_lt an))
 refine(zW (vals:=[bv,bw]) rfl (yM ⟨(zr (N 19 dc) (ifpC m)),(zr (N 25 dc) (ifpC m)),zl⟩) nY (Vh (a:=(x.cls.getD k default).set) (va:=bv) (b:=(y.cls.getD k default).set) (vb:=bw) H I F) ?_)
 rintro _ w298 ⟨rfl,bf⟩
 exact fun c d bt=>⟨(zA (d.trans (ifpC m).symm) bf),zl⟩
 refine⟨?_,zl⟩
 show(c 26=(if(!decide aw)=false then(.bool (decide bu):Value)else undef))∧Sep G W ((Blk O (y.cells dy0).toArray 48)::(Blk b2 (x.cells dx0).toArray 48)::Rs) bn
 exact⟨(d.trans (ifnC m).symm),F⟩
 refine ob1 1 fun _ _ bg bh=>?_
 obtain⟨ao,hS573⟩:=bg
 refine zN rfl rfl (bh 13 dc) (fun z=>?_) yd
 have hl576:=zQ z
 exact yD (zr ao (ifpC z)) (yc z)
 intro vals w585 bi bj
 obtain⟨ao,ap⟩:=bi
 have bp:=bj 28 dc
 refine yg (kv:=[(2,Ix b2 0),(3,Ix O 0),(5,Iw k),(20,Iw k),(21,Ix b2 1),(22,dx0),(23,Iw x.cls.length),(24,.bool true),(55,.bool ((!decide aw)||(!(decide bu))))]) ⟨rfl,rfl,rfl,rfl,rfl,rfl,rfl,rfl,(by exact bp),zl⟩ (fun ρw585=>(zb ?_))
 cases A:(!decide (((x.cls.getD k default).n)=((y.cls.getD k default).n)))||(!(decide (((x.cls.getD k default).set)=((y.cls.getD k default).set))))
 try simp only[zi]at A
 refine ze rfl (zp (R0 fun _=>st (mV (Iw k) ?_)))
 have bk:InR ((k+1:Nat):Int):=bo
 refine st (zO (r:=((k+1:Nat):Int)) rfl rfl (by rw[show(((k:Nat):Int)+1:Int)=((k+1:Nat):Int)from bo];exact zw bk) (st (aS (Iw (k+1)) (zb ?_))))
 exact⟨_,by omega,k+1,_,rfl,sSf,by omega,(xf hm (zaJ A.1 A.2)),ap⟩
 try simp only[zi]at A
 refine zg rfl (za (R0 fun _=>st (aS (.bool false) (zb (zq (zU vR (show _=(.bool false:Value)from rfl) ?_))))))
 refine⟨?_,(ap.s2_)⟩
 rw[decide_eq_false (fun e=>by subst e;first|omega|(simp at A))]
 try simp only[zi]at Q
 refine zg rfl (za (R0 fun _=>st (aS (.bool false) (zb (zq (zU vR (show _=(.bool false:Value)from rfl) ?_))))))
 refine⟨?_,(J.s2_)⟩
 rw[decide_eq_false (fun e=>by subst e;first|omega|(simp at Q))]
theorem Ur {d:Dcl}{k:Int×Int}{L:List Ent}(h:L.length≤1000000):Sta.Ok (yr d k L):=⟨show InR ((yw k L:Nat):Int) by have:=WJ k L;omega⟩
theorem zdb:Elem Tryz.prog 67 70 3 24:=⟨Tryz.underlying67,_,_,rfl,rfl,rfl,rfl,rfl⟩
def zD (p:Prj)(e:Ev)(reg:Int):Option Int:=if p.pgroup=1 then some e.agg else if p.pgroup=2 then some e.arg else if p.pgroup=3 then some reg else none
theorem WI {p:Prj}{e:Ev}{reg:Int}(oe:e.Ok)(hr:InR reg):InR ((zD p e reg).getD 0):=by
 unfold zD
 split
 ·exact oe.agg
 ·split
  ·exact oe.arg
  ·split
   ·exact hr
   ·decide
def yV (p:Prj)(r:Row)(arg:Int):Int:=if p.pmake=1 then r.count else if p.pmake=2 then IntKind.i64.wrap (r.value+arg)else if p.pmake=5∨(r.count=1∧(p.pmake=3∨p.pmake=4))then arg else if p.pmake=3 then min r.value arg else if p.pmake=4 then max r.value arg else 0
def ZM (p:Prj)(L:List (Int×Row))(e:Ent)(reg:Int):List (Int×Row):=match zD p e.ev reg with
 |none=>L
 |some g=>if e.void=true∨e.ev.typ≠p.ptyp∨e.ev.field≠p.pfield then L else
  xP L g ⟨g,yV p ⟨g,((yi L g).getD ⟨0,0,0⟩).value,((yi L g).getD ⟨0,0,0⟩).count+1⟩ e.ev.arg,((yi L g).getD ⟨0,0,0⟩).count+1⟩
theorem Zt {d:Option Tmp}{ty:TypeId}{pos:String}{af:Array Edge}{g:Option (Nat×Bool)}{σ:Env}{w:World}{K:Value→World→Prop}{x:Operand}{b o:Nat}(hx:ev σ x=.pointer (some ⟨b,o,none⟩))(h:K (.pointer (some ⟨b,o+0,none⟩)) w):opV Tryz.prog ⟨d,.fieldAddr 121 x 0,ty,pos,af,g⟩ σ w K:=zu Tryz.underlying121 rfl rfl (fun w=>⟨4,Tryz.sizeOf73 w⟩) hx h
theorem zcP {d:Option Tmp}{ty:TypeId}{pos:String}{af:Array Edge}{g:Option (Nat×Bool)}{σ:Env}{w:World}{K:Value→World→Prop}{x:Operand}{b o:Nat}(hx:ev σ x=.pointer (some ⟨b,o,none⟩))(h:K (.pointer (some ⟨b,o+2,none⟩)) w):opV Tryz.prog ⟨d,.fieldAddr 73 x 2,ty,pos,af,g⟩ σ w K:=zu pY rfl rfl (fun w=>⟨0,tT w⟩) hx h
theorem JR {d:Option Tmp}{ty:TypeId}{pos:String}{af:Array Edge}{g:Option (Nat×Bool)}{σ:Env}{w:World}{K:Value→World→Prop}{x:Operand}{b o:Nat}(hx:ev σ x=.pointer (some ⟨b,o,none⟩))(h:K (.pointer (some ⟨b,o+8,none⟩)) w):opV Tryz.prog ⟨d,.fieldAddr 55 x 7,ty,pos,af,g⟩ σ w K:=zu qY rfl rfl (fun w=>⟨0,tT w⟩) hx h
theorem zcG {d:Option Tmp}{ty:TypeId}{pos:String}{af:Array Edge}{g:Option (Nat×Bool)}{σ:Env}{w:World}{K:Value→World→Prop}{x:Operand}{b o:Nat}(hx:ev σ x=.pointer (some ⟨b,o,none⟩))(h:K (.pointer (some ⟨b,o+5,none⟩)) w):opV Tryz.prog ⟨d,.fieldAddr 55 x 4,ty,pos,af,g⟩ σ w K:=zu qY rfl rfl (fun w=>⟨0,tT w⟩) hx h
theorem zbJ {w:World}{a m:Nat}{p:Prj}(ha:w.heap[a]? =some (.cells #[.int .i64 (p.ptyp),.int .i64 (p.pfield),.int .i64 (p.pgroup),.int .i64 (p.pby),.int .i64 (p.pmake),.map (some m)] 121))(op:p.Ok){Fe:Nat→Prop}{e:Ev}{de0:Value}(he0:RdS w Fe de0 e.deps)(oe:e.Ok){reg:Int}(hreg:InR reg):Ret Tryz.prog 83 [.pointer (some ⟨a,0,none⟩),.agg (e.cells de0).toArray,.int .i64 (reg)] w (fun r w'=>r=.tuple #[.int .i64 ((zD p e reg).getD 0),.bool (zD p e reg).isSome]∧Ext w w'):=by
 have he0s:_*8≤_:=he0.small
 refine zn (args:=[.pointer (some ⟨a,0,none⟩),.agg (e.cells de0).toArray,.int .i64 (reg)]) Tryz.func83 rfl rfl ?_
 refine za ?_
 refine zL (by kernel_rfl) (fun _=>?_)
 refine st (zX (v:=.agg (e.cells de0).toArray) rfl (fun w1 b2 hn1=>?_))
 have hb3:w1.heap[b2]? =some (.cells (e.cells de0).toArray 55):=hn1.at_
 have hs4:=hn1.size;have hs4e:=hn1.eq
 refine st (zM (v:=.int .i64 (0)) rfl ?_)
 refine st (zM (v:=.bool false) rfl ?_)
 refine zb ?_
 refine za ?_
 refine za ?_
 refine zL (by kernel_rfl) (fun _=>?_)
 refine st (zP (v:=.pointer (some ⟨a,0,none⟩)) rfl ?_)
 refine st (zm (b:=a) (o:=0) rfl ?_)
 refine st (Zt rfl ?_)
 refine st (zcP rfl ?_)
 have h5:=hn1.ext.keep ha (fun h=>h)
 refine st (yF (v:=.int .i64 (p.pgroup)) kT rfl (zd h5 rfl) ?_)
 refine zb ?_
 refine zt ?_
 refine za ?_
 refine zL (by kernel_rfl) (fun _=>?_)
 refine st (zS (k:=.i64) (a:=p.pgroup) (b:=1) rfl rfl ?_)
 refine st (zM (v:=.bool (decide (p.pgroup=1))) rfl ?_)
 refine zb ?_
 cases hc6:decide (p.pgroup=1)
 ·skip
  have hc6:=of_decide_eq_false hc6
  refine ze rfl ?_
  refine za ?_
  refine zL (by kernel_rfl) (fun _=>?_)
  refine st (zS (k:=.i64) (a:=p.pgroup) (b:=2) rfl rfl ?_)
  refine st (zM (v:=.bool (decide (p.pgroup=2))) rfl ?_)
  refine zb ?_
  cases hc7:decide (p.pgroup=2)
  ·skip
   have hc7:=of_decide_eq_false hc7
   refine ze rfl ?_
   refine za ?_
   refine zL (by kernel_rfl) (fun _=>?_)
   refine st (zS (k:=.i64) (a:=p.pgroup) (b:=3) rfl rfl ?_)
   refine st (zM (v:=.bool (decide (p.pgroup=3))) rfl ?_)
   refine zb ?_
   cases hc8:decide (p.pgroup=3)
   ·skip
    have hc8:=of_decide_eq_false hc8
    refine ze rfl ?_
    refine zp ?_
    refine za ?_
    refine zL (by kernel_rfl) (fun _=>?_)
    refine st (zM (v:=.int .i64 (0)) rfl ?_)
    refine st (zM (v:=.bool false) rfl ?_)
    refine zb ?_
    refine zq ?_
    refine Kr qR (show _=(.int .i64 (0):Value)from rfl) (show _=(.bool false:Value)from rfl) ?_
    refine⟨?_,hn1.ext⟩
    unfold zD
    (repeat (first|rw[ifpC (by omega)]|rw[ifnC (by omega)]))
    rfl
   ·skip
    have hc8:=of_decide_eq_true hc8
    refine zg rfl ?_
    refine za ?_
    refine zL (by kernel_rfl) (fun _=>?_)
    refine st (zP (v:=.int .i64 reg) rfl ?_)
    refine st (zM (v:=.int .i64 reg) rfl ?_)
    refine st (zM (v:=.bool true) rfl ?_)
    refine zb ?_
    refine zq ?_
    refine Kr qR (show _=(.int .i64 (reg):Value)from rfl) (show _=(.bool true:Value)from rfl) ?_
    refine⟨?_,hn1.ext⟩
    unfold zD
    (repeat (first|rw[ifpC (by omega)]|rw[ifnC (by omega)]))
    rfl
  ·skip
   have hc7:=of_decide_eq_true hc7
   refine zg rfl ?_
   refine za ?_
   refine zL (by kernel_rfl) (fun _=>?_)
   refine st (JR rfl ?_)
   refine st (yF (v:=.int .i64 (e.arg)) kT rfl (zd hb3 rfl) ?_)
   refine st (zM (v:=.int .i64 (e.arg)) rfl ?_)
   refine st (zM (v:=.bool true) rfl ?_)
   refine zb ?_
   refine zq ?_
   refine Kr qR (show _=(.int .i64 (e.arg):Value)from rfl) (show _=(.bool true:Value)from rfl) ?_
   refine⟨?_,hn1.ext⟩
   unfold zD
   (repeat (first|rw[ifpC (by omega)]|rw[ifnC (by omega)]))
   rfl
 ·skip
  have hc6:=of_decide_eq_true hc6
  refine zg rfl ?_
  refine za ?_
  refine zL (by kernel_rfl) (fun _=>?_)
  refine st (zcG rfl ?_)
  refine st (yF (v:=.int .i64 (e.agg)) kT rfl (zd hb3 rfl) ?_)
  refine st (zM (v:=.int .i64 (e.agg)) rfl ?_)
  refine st (zM (v:=.bool true) rfl ?_)
  refine zb ?_
  refine zq ?_
  refine Kr qR (show _=(.int .i64 (e.agg):Value)from rfl) (show _=(.bool true:Value)from rfl) ?_
  refine⟨?_,hn1.ext⟩
  unfold zD
  (repeat (first|rw[ifpC (by omega)]|rw[ifnC (by omega)]))
  rfl
theorem Uu {d:Option Tmp}{ty:TypeId}{pos:String}{af:Array Edge}{g:Option (Nat×Bool)}{σ:Env}{w:World}{K:Value→World→Prop}{x:Operand}{b o:Nat}(hx:ev σ x=.pointer (some ⟨b,o,none⟩))(h:K (.pointer (some ⟨b,o+2,none⟩)) w):opV Tryz.prog ⟨d,.fieldAddr 70 x 2,ty,pos,af,g⟩ σ w K:=zu rY rfl rfl (fun w=>⟨0,tT w⟩) hx h
theorem Xn {d:Option Tmp}{ty:TypeId}{pos:String}{af:Array Edge}{g:Option (Nat×Bool)}{σ:Env}{w:World}{K:Value→World→Prop}{x:Operand}{b o:Nat}(hx:ev σ x=.pointer (some ⟨b,o,none⟩))(h:K (.pointer (some ⟨b,o+4,none⟩)) w):opV Tryz.prog ⟨d,.fieldAddr 73 x 4,ty,pos,af,g⟩ σ w K:=zu pY rfl rfl (fun w=>⟨0,tT w⟩) hx h
theorem Uj {d:Option Tmp}{ty:TypeId}{pos:String}{af:Array Edge}{g:Option (Nat×Bool)}{σ:Env}{w:World}{K:Value→World→Prop}{x:Operand}{b o:Nat}(hx:ev σ x=.pointer (some ⟨b,o,none⟩))(h:K (.pointer (some ⟨b,o+1,none⟩)) w):opV Tryz.prog ⟨d,.fieldAddr 70 x 1,ty,pos,af,g⟩ σ w K:=zu rY rfl rfl (fun w=>⟨0,tT w⟩) hx h
theorem zdA {w:World}{a m:Nat}{p:Prj}(ha:w.heap[a]? =some (.cells #[.int .i64 (p.ptyp),.int .i64 (p.pfield),.int .i64 (p.pgroup),.int .i64 (p.pby),.int .i64 (p.pmake),.map (some m)] 121))(op:p.Ok){q:Row}(oq:q.Ok){arg:Int}(harg:InR arg):Ret Tryz.prog 84 [.pointer (some ⟨a,0,none⟩),.agg (q.cells).toArray,.int .i64 (arg)] w (fun r w'=>r=.int .i64 (yV p q arg)∧Ext w w'):=by
 refine zn (args:=[.pointer (some ⟨a,0,none⟩),.agg (q.cells).toArray,.int .i64 (arg)]) Tryz.func84 rfl rfl ?_
 refine za ?_
 refine zL (by kernel_rfl) (fun _=>?_)
 refine st (zX (v:=.agg (q.cells).toArray) rfl (fun w1 b2 hn1=>?_))
 have hb3:w1.heap[b2]? =some (.cells (q.cells).toArray 70):=hn1.at_
 have hs4:=hn1.size;have hs4e:=hn1.eq
 refine st (zM (v:=.int .i64 (0)) rfl ?_)
 refine zb ?_
 refine za ?_
 refine zL (by kernel_rfl) (fun _=>?_)
 refine st (Uu rfl ?_)
 refine st (yF (v:=.int .i64 (q.count)) kT rfl (zd hb3 rfl) ?_)
 refine st (zS (k:=.i64) (a:=q.count) (b:=1) rfl rfl ?_)
 refine st (zM (v:=.bool (decide (q.count=1))) rfl ?_)
 refine zb ?_
 refine za ?_
 refine zt ?_
 refine za ?_
 refine zL (by kernel_rfl) (fun _=>?_)
 refine st (zP (v:=.pointer (some ⟨a,0,none⟩)) rfl ?_)
 refine st (zm (b:=a) (o:=0) rfl ?_)
 refine st (Zt rfl ?_)
 refine st (Xn rfl ?_)
 have h5:=hn1.ext.keep ha (fun h=>h)
 refine st (yF (v:=.int .i64 (p.pmake)) kT rfl (zd h5 rfl) ?_)
 refine st (zS (k:=.i64) (a:=p.pmake) (b:=1) rfl rfl ?_)
 refine st (zM (v:=.bool (decide (p.pmake=1))) rfl ?_)
 refine zb ?_
 cases hc6:decide (p.pmake=1)
 ·skip
  have hc6:=of_decide_eq_false hc6
  refine ze rfl ?_
  refine za ?_
  refine zL (by kernel_rfl) (fun _=>?_)
  refine st (zP (v:=.pointer (some ⟨a,0,none⟩)) rfl ?_)
  refine st (zm (b:=a) (o:=0) rfl ?_)
  refine st (Zt rfl ?_)
  refine st (Xn rfl ?_)
  refine st (yF (v:=.int .i64 (p.pmake)) kT rfl (zd h5 rfl) ?_)
  refine st (zS (k:=.i64) (a:=p.pmake) (b:=2) rfl rfl ?_)
  refine st (zM (v:=.bool (decide (p.pmake=2))) rfl ?_)
  refine zb ?_
  cases hc7:decide (p.pmake=2)
  ·skip
   have hc7:=of_decide_eq_false hc7
   refine ze rfl ?_
   refine za ?_
   refine za ?_
   refine zL (by kernel_rfl) (fun _=>?_)
   refine st (zP (v:=.pointer (some ⟨a,0,none⟩)) rfl ?_)
   refine st (zm (b:=a) (o:=0) rfl ?_)
   refine st (Zt rfl ?_)
   refine st (Xn rfl ?_)
   refine st (yF (v:=.int .i64 (p.pmake)) kT rfl (zd h5 rfl) ?_)
   refine st (zS (k:=.i64) (a:=p.pmake) (b:=5) rfl rfl ?_)
   refine st (zM (v:=.bool (decide (p.pmake=5))) rfl ?_)
   refine zb ?_
   cases hc8:decide (p.pmake=5)
   ·skip
    have hc8:=of_decide_eq_false hc8
    refine ze rfl ?_
    refine zF (by kernel_rfl) ?_
    refine st (zP (v:=.bool (decide (q.count=1))) rfl ?_)
    refine st (zP (v:=.bool (decide (q.count=1))) rfl ?_)
    refine stc (V:=.pointer (some ⟨a,0,none⟩)) rfl rfl (fun hb9=>?_) ?_
    ·have hl10:(decide (q.count=1))=true:=hb9
     have hl10:=of_decide_eq_true hl10
     exact zP (v:=.pointer (some ⟨a,0,none⟩)) rfl rflB
    refine stc (V:=.pointer (some ⟨a,0,none⟩)) rfl rfl (fun hb11=>?_) ?_
    ·have hl12:(decide (q.count=1))=true:=hb11
     have hl12:=of_decide_eq_true hl12
     exact zm (b:=a) (o:=0) (show _=(.pointer (some ⟨a,0,none⟩):Value)from(ifpC hb11)) rflB
    refine stc (V:=.pointer (some ⟨a,0,none⟩)) rfl rfl (fun hb13=>?_) ?_
    ·have hl14:(decide (q.count=1))=true:=hb13
     have hl14:=of_decide_eq_true hl14
     exact Zt (show _=(.pointer (some ⟨a,0,none⟩):Value)from(ifpC hb13)) rflB
    refine stc (V:=.pointer (some ⟨a,4,none⟩)) rfl rfl (fun hb15=>?_) ?_
    ·have hl16:(decide (q.count=1))=true:=hb15
     have hl16:=of_decide_eq_true hl16
     exact Xn (show _=(.pointer (some ⟨a,0,none⟩):Value)from(ifpC hb15)) rflB
    refine stc (V:=.int .i64 (p.pmake)) rfl rfl (fun hb17=>?_) ?_
    ·have hl18:(decide (q.count=1))=true:=hb17
     have hl18:=of_decide_eq_true hl18
     exact yF (v:=.int .i64 (p.pmake)) kT (show _=(.pointer (some ⟨a,4,none⟩):Value)from(ifpC hb17)) (zd h5 rfl) rflB
    refine stc (V:=.bool (decide (p.pmake=3))) rfl rfl (fun hb19=>?_) ?_
    ·have hl20:(decide (q.count=1))=true:=hb19
     have hl20:=of_decide_eq_true hl20
     exact zS (k:=.i64) (a:=p.pmake) (b:=3) (show _=(.int .i64 (p.pmake):Value)from(ifpC hb19)) rfl rflB
    refine stc (V:=.bool (decide (p.pmake=3))) rfl rfl (fun hb21=>?_) ?_
    ·have hl22:(decide (q.count=1))=true:=hb21
     have hl22:=of_decide_eq_true hl22
     exact zP (v:=.bool (decide (p.pmake=3))) (show _=(.bool (decide (p.pmake=3)):Value)from(ifpC hb21)) rflB
    refine yZ (V:=.pointer (some ⟨a,0,none⟩)) rfl rfl (fun hb23=>?_) ?_
    ·have hl24:(decide (q.count=1))=true:=hb23.1
     have hl24:=of_decide_eq_true hl24
     have hl25:(decide (p.pmake=3))=false:=hb23.2
     have hl25:=of_decide_eq_false hl25
     exact zP (v:=.pointer (some ⟨a,0,none⟩)) rfl rflB
    refine yZ (V:=.pointer (some ⟨a,0,none⟩)) rfl rfl (fun hb26=>?_) ?_
    ·have hl27:(decide (q.count=1))=true:=hb26.1
     have hl27:=of_decide_eq_true hl27
     have hl28:(decide (p.pmake=3))=false:=hb26.2
     have hl28:=of_decide_eq_false hl28
     exact zm (b:=a) (o:=0) (show _=(.pointer (some ⟨a,0,none⟩):Value)from(ifpC ⟨hb26.1,hb26.2⟩)) rflB
    refine yZ (V:=.pointer (some ⟨a,0,none⟩)) rfl rfl (fun hb29=>?_) ?_
    ·have hl30:(decide (q.count=1))=true:=hb29.1
     have hl30:=of_decide_eq_true hl30
     have hl31:(decide (p.pmake=3))=false:=hb29.2
     have hl31:=of_decide_eq_false hl31
     exact Zt (show _=(.pointer (some ⟨a,0,none⟩):Value)from(ifpC ⟨hb29.1,hb29.2⟩)) rflB
    refine yZ (V:=.pointer (some ⟨a,4,none⟩)) rfl rfl (fun hb32=>?_) ?_
    ·have hl33:(decide (q.count=1))=true:=hb32.1
     have hl33:=of_decide_eq_true hl33
     have hl34:(decide (p.pmake=3))=false:=hb32.2
     have hl34:=of_decide_eq_false hl34
     exact Xn (show _=(.pointer (some ⟨a,0,none⟩):Value)from(ifpC ⟨hb32.1,hb32.2⟩)) rflB
    refine yZ (V:=.int .i64 (p.pmake)) rfl rfl (fun hb35=>?_) ?_
    ·have hl36:(decide (q.count=1))=true:=hb35.1
     have hl36:=of_decide_eq_true hl36
     have hl37:(decide (p.pmake=3))=false:=hb35.2
     have hl37:=of_decide_eq_false hl37
     exact yF (v:=.int .i64 (p.pmake)) kT (show _=(.pointer (some ⟨a,4,none⟩):Value)from(ifpC ⟨hb35.1,hb35.2⟩)) (zd h5 rfl) rflB
    refine yZ (V:=.bool (decide (p.pmake=4))) rfl rfl (fun hb38=>?_) ?_
    ·have hl39:(decide (q.count=1))=true:=hb38.1
     have hl39:=of_decide_eq_true hl39
     have hl40:(decide (p.pmake=3))=false:=hb38.2
     have hl40:=of_decide_eq_false hl40
     exact zS (k:=.i64) (a:=p.pmake) (b:=4) (show _=(.int .i64 (p.pmake):Value)from(ifpC ⟨hb38.1,hb38.2⟩)) rfl rflB
    refine stc (V:=.bool ((decide (p.pmake=3))||(decide (p.pmake=4)))) rfl rfl (fun hb41=>?_) ?_
    ·have hl42:(decide (q.count=1))=true:=hb41
     have hl42:=of_decide_eq_true hl42
     exact zI (b:=decide (p.pmake=3)) (b':=decide (p.pmake=4)) (show _=(.bool (decide (p.pmake=3)):Value)from(ifpC hb41)) (fun hbp=>(show _=(.bool (decide (p.pmake=4)):Value)from(ifpC ⟨hb41,hbp⟩))) rflB
    refine st (zx (b:=decide (q.count=1)) (b':=(decide (p.pmake=3))||(decide (p.pmake=4))) rfl (fun hbp=>(show _=(.bool ((decide (p.pmake=3))||(decide (p.pmake=4))):Value)from(ifpC hbp))) ?_)
    refine st (zM (v:=.bool ((decide (q.count=1))&&((decide (p.pmake=3))||(decide (p.pmake=4))))) rfl ?_)
    refine zb ?_
    cases hc43:(decide (q.count=1))&&((decide (p.pmake=3))||(decide (p.pmake=4)))
    ·skip
     simp only[xI]at hc43
     refine ze rfl ?_
     refine za ?_
     refine zL (by kernel_rfl) (fun _=>?_)
     refine st (zP (v:=.pointer (some ⟨a,0,none⟩)) rfl ?_)
     refine st (zm (b:=a) (o:=0) rfl ?_)
     refine st (Zt rfl ?_)
     refine st (Xn rfl ?_)
     refine st (yF (v:=.int .i64 (p.pmake)) kT rfl (zd h5 rfl) ?_)
     refine st (zS (k:=.i64) (a:=p.pmake) (b:=3) rfl rfl ?_)
     refine st (zM (v:=.bool (decide (p.pmake=3))) rfl ?_)
     refine zb ?_
     cases hc44:decide (p.pmake=3)
     ·skip
      have hc44:=of_decide_eq_false hc44
      refine ze rfl ?_
      refine za ?_
      refine zL (by kernel_rfl) (fun _=>?_)
      refine st (zP (v:=.pointer (some ⟨a,0,none⟩)) rfl ?_)
      refine st (zm (b:=a) (o:=0) rfl ?_)
      refine st (Zt rfl ?_)
      refine st (Xn rfl ?_)
      refine st (yF (v:=.int .i64 (p.pmake)) kT rfl (zd h5 rfl) ?_)
      refine st (zS (k:=.i64) (a:=p.pmake) (b:=4) rfl rfl ?_)
      refine st (zM (v:=.bool (decide (p.pmake=4))) rfl ?_)
      refine zb ?_
      cases hc45:decide (p.pmake=4)
      ·skip
       have hc45:=of_decide_eq_false hc45
       refine ze rfl ?_
       refine zp ?_
       refine za ?_
       refine zL (by kernel_rfl) (fun _=>?_)
       refine st (zM (v:=.int .i64 (0)) rfl ?_)
       refine zb ?_
       refine zq ?_
       refine zU wT (show _=(.int .i64 (0):Value)from rfl) ?_
       refine⟨?_,hn1.ext⟩
       unfold yV
       (repeat (first|rw[ifpC (by omega)]|rw[ifnC (by omega)]))
      ·skip
       have hc45:=of_decide_eq_true hc45
       refine zg rfl ?_
       refine za ?_
       refine zL (by kernel_rfl) (fun _=>?_)
       refine st (Uj rfl ?_)
       refine st (yF (v:=.int .i64 (q.value)) kT rfl (zd hb3 rfl) ?_)
       refine st (zP (v:=.int .i64 arg) rfl ?_)
       refine st (Ul (k:=.i64) (a:=q.value) (b:=arg) rfl rfl ?_)
       refine st (zM (v:=.int .i64 (max q.value arg)) rfl ?_)
       refine zb ?_
       refine zq ?_
       refine zU wT (show _=(.int .i64 (max q.value arg):Value)from rfl) ?_
       refine⟨?_,hn1.ext⟩
       unfold yV
       (repeat (first|rw[ifpC (by omega)]|rw[ifnC (by omega)]))
     ·skip
      have hc44:=of_decide_eq_true hc44
      refine zg rfl ?_
      refine za ?_
      refine zL (by kernel_rfl) (fun _=>?_)
      refine st (Uj rfl ?_)
      refine st (yF (v:=.int .i64 (q.value)) kT rfl (zd hb3 rfl) ?_)
      refine st (zP (v:=.int .i64 arg) rfl ?_)
      refine st (zbk (k:=.i64) (a:=q.value) (b:=arg) rfl rfl ?_)
      refine st (zM (v:=.int .i64 (min q.value arg)) rfl ?_)
      refine zb ?_
      refine zq ?_
      refine zU wT (show _=(.int .i64 (min q.value arg):Value)from rfl) ?_
      refine⟨?_,hn1.ext⟩
      unfold yV
      (repeat (first|rw[ifpC (by omega)]|rw[ifnC (by omega)]))
    ·skip
     simp only[xI]at hc43
     refine zg rfl ?_
     refine za ?_
     refine zL (by kernel_rfl) (fun _=>?_)
     refine st (zP (v:=.int .i64 arg) rfl ?_)
     refine st (zM (v:=.int .i64 arg) rfl ?_)
     refine zb ?_
     refine zq ?_
     refine zU wT (show _=(.int .i64 (arg):Value)from rfl) ?_
     refine⟨?_,hn1.ext⟩
     unfold yV
     (repeat (first|rw[ifpC (by omega)]|rw[ifnC (by omega)]))
   ·skip
    have hc8:=of_decide_eq_true hc8
    refine zg rfl ?_
    refine zp ?_
    refine zg rfl ?_
    refine za ?_
    refine zL (by kernel_rfl) (fun _=>?_)
    refine st (zP (v:=.int .i64 arg) rfl ?_)
    refine st (zM (v:=.int .i64 arg) rfl ?_)
    refine zb ?_
    refine zq ?_
    refine zU wT (show _=(.int .i64 (arg):Value)from rfl) ?_
    refine⟨?_,hn1.ext⟩
    unfold yV
    (repeat (first|rw[ifpC (by omega)]|rw[ifnC (by omega)]))
  ·skip
   have hc7:=of_decide_eq_true hc7
   refine zg rfl ?_
   refine za ?_
   refine zL (by kernel_rfl) (fun _=>?_)
   refine st (Uj rfl ?_)
   refine st (yF (v:=.int .i64 (q.value)) kT rfl (zd hb3 rfl) ?_)
   refine st (zP (v:=.int .i64 arg) rfl ?_)
   refine st (zO (r:=IntKind.i64.wrap (q.value+arg)) (k:=.i64) (a:=q.value) (b:=arg) rfl rfl rfl ?_)
   refine st (zM (v:=.int .i64 (IntKind.i64.wrap (q.value+arg))) rfl ?_)
   refine zb ?_
   refine zq ?_
   refine zU wT (show _=(.int .i64 (IntKind.i64.wrap (q.value+arg)):Value)from rfl) ?_
   refine⟨?_,hn1.ext⟩
   unfold yV
   (repeat (first|rw[ifpC (by omega)]|rw[ifnC (by omega)]))
 ·skip
  have hc6:=of_decide_eq_true hc6
  refine zg rfl ?_
  refine za ?_
  refine zL (by kernel_rfl) (fun _=>?_)
  refine st (Uu rfl ?_)
  refine st (yF (v:=.int .i64 (q.count)) kT rfl (zd hb3 rfl) ?_)
  refine st (zM (v:=.int .i64 (q.count)) rfl ?_)
  refine zb ?_
  refine zq ?_
  refine zU wT (show _=(.int .i64 (q.count):Value)from rfl) ?_
  refine⟨?_,hn1.ext⟩
  unfold yV
  (repeat (first|rw[ifpC (by omega)]|rw[ifnC (by omega)]))
end
end Go.Proofs.YtpdolkiohjdodaaGreatDoor
