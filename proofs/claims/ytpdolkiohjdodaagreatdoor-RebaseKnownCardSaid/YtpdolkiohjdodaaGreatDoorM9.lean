import Derived.Test.YtpdolkiohjdodaaGreatDoorM8
import Derived.Shelf.SlSortCmp.NoneTotal
set_option maxRecDepth 8000
set_option maxHeartbeats 4000000
set_option linter.unusedSimpArgs false
set_option linter.unusedVariables false
set_option linter.unusedSectionVars false
set_option linter.deprecated false
open Go.Proofs.Tryz renaming underlying26→kT,sizeOf55→lT,isAgg3→mT,isAgg26→nT,sizeOf73→oT,isAgg74→pT,isAgg55→qT,isAgg75→rT,sizeOf77→sT,underlying23→tT,underlying75→uT,sizeOf83→vT,underlying78→wT,isAgg52→kR,sizeOf52→lR,sizeOf70→mR,call49→nR,zeroValue48→oR,sizeOf48→pR,isAgg23→qR,zeroValue55→rR,isAgg73→sR,sizeOf92→tR,underlying22→uR,underlying81→vR,isAgg78→wR,call63→kY,zeroValue57→lY,sizeOf57→mY,sizeOf26→nY,call38→oY,zeroValue73→pY,isAgg46→qY,underlying46→rY,isAgg92→sY,isAgg22→tY,zeroValue83→uY,sizeOf87→vY,underlying67→wY,results79→kA,isAgg70→lA,zeroValue70→mA,results31→nA
namespace Go.Proofs.YtpdolkiohjdodaaGreatDoor
variable {G:Nat→Prop}{W w:World}{Rs:List HP}
section
open Go.Proofs Go.RowKit
theorem zdp {b:Nat}{d:Dcl}{every:Nat}{evs:List Ev}{e:Ev}{de0:Value}(hde0:RdS W G de0 e.deps)(oe:e.Ok)(hKN:RdS W G (.slice (some ⟨0,0,none⟩) 6 6) kindsL)(hS0:Sep G W ((BaseO b d every evs)::Rs) w)(hd:DclOk d)(hp:Xq d)(hfew:evs.length≤100000):Ret Tryz.prog 42 [.pointer (some ⟨b,0,none⟩),.agg (e.cells de0).toArray] w (fun r w'=>r=(.tuple #[]:Value)∧Sep G W ((BaseO b d every (evs++[e]))::Rs) w'):=by
 have hde0s:_*8≤_:=hde0.small
 have hKNs:_*8≤_:=hKN.small
 refine zn (args:=[Ix b 0,.agg (e.cells de0).toArray]) Tryz.func42 rfl rfl ?_
 obtain⟨ar,E,y,C,m,B,q,eS⟩:=BaseO.open hS0
 let fa:=ViewO m d (zk d (evs++[e])) (zk d (evs++[e]))
 let eZ:=Blk b #[E,y,Iw every,C,Ix m 0,B,q] 80
 have au:Sep G W (eZ::(RowE (α:=Typ) own 83 E d.types)::(RowE (α:=Prj) own 73 y d.projs)::(RowE (α:=Ev) own 55 C evs)::(ViewO m d (zk d evs) (zk d evs))::(yx B (prs d evs))::(xg q (yK d every evs))::Rs) w:=eS
 have eT:=au.r1
 have hr9s:_*24≤_:=eT.2
 have ba:=au.r2
 have hr10s:_*40≤_:=ba.2
 have ek:=au.r3
 have hr11s:_*96≤_:=ek.2
 refine za (R0 fun _=>st (zX (v:=.agg (e.cells de0).toArray) rfl ?_))
 intro w14 I el
 let fb:=Blk I (e.cells de0).toArray 55
 refine zb (za ?_)
 refine WD6 ((fun TT M N V X Y ai aj=>WF [fun vals H=>Sep G W (M::N::V::X::Y::ai::TT) H,fun vals H=> ∃(u:Value),(vals 6=(.agg ((ye d (zk d evs) e).cells u).toArray:Value))∧Sep G W (aj::(RowE (α:=Int) own 3 u e.deps)::M::N::V::X::Y::TT) H,fun vals H=> ∃(s:Nat),(vals 7=(Ix s 0:Value))∧Sep G W ((Blk s #[Iv 0,Iv 0,Iv 0,(Iz),Iv 0,Iv 0,Iv 0,Iv 0,Iv 0,Iv 0,.bool false,Iv 0,Iv 0] 57)::M::N::V::X::Y::ai::TT) H,fun vals H=> ∃(u:Value) (s:Nat),(vals 6=(.agg ((ye d (zk d evs) e).cells u).toArray:Value))∧(vals 7=(Ix s 0:Value))∧Sep G W ((Blk s #[Iv 0,Iv 0,Iv 0,(Iz),Iv 0,Iv 0,Iv 0,Iv 0,Iv 0,Iv 0,.bool false,Iv 0,Iv 0] 57)::aj::(RowE (α:=Int) own 3 u e.deps)::M::N::V::X::Y::TT) H,fun _ _=>True,fun _ _=>True,fun _ _=>True,fun vals H=> ∃(u:Value) (s:Nat),(vals 6=(.agg ((ye d (zk d evs) e).cells u).toArray:Value))∧(vals 7=(Ix s 0:Value))∧Sep G W ((Blk s ((ye d (zk d evs) e).cells u).toArray 57)::aj::(RowE (α:=Int) own 3 u e.deps)::M::N::V::X::Y::TT) H]) ((yx B (prs d evs))::(xg q (yK d every evs))::Rs) fb eZ (RowE (α:=Typ) own 83 E d.types) (RowE (α:=Prj) own 73 y d.projs) (RowE (α:=Ev) own 55 C evs) (ViewO m d (zk d evs) (zk d evs)) (ViewO m d ((zk d evs)++[ye d (zk d evs) e]) ((zk d evs)++[ye d (zk d evs) e]))) (AF [Vl 0 (Ix b 0),Vl 1 (Ix b 0),Vl 2 (Ix b 4),Vl 3 (Ix b 4),Vl 4 (Ix m 0),Vl 5 (.agg (e.cells de0).toArray),fun _=>True,fun _=>True,fun _=>True]) [[],[0],[0,1],[0,1,2],(rg 4),[],(rg 6),[],(rg 8)] [6,7,8] [[0,2],[0,2],[0,2],[0,2],[0,2],[0,2],[0,2],[0,1],[3]] (au.new el) ⟨fun _ _ _ _ _ _=>obl rfl (mV (Ix b 0) dR),fun _ _ _ _ _ em=>obl rfl (zm (b:=b) (o:=0) (em 0 dc) dR),fun _ _ _ _ _ bU=>obl rfl (Zw (bU 1 dc) dR),fun _ _ _ _ _ bV=>obl rfl (Vo (bV 2 dc) dR),?_,?_,?_,?_,?_,zl⟩ ?_
 intro en vals w116 bW bd be
 have aH:en∈[0,2]:=bW
 simp only[yA]at aH
 rcases aH with rfl|rfl
 have bX:Sep _ _ _ _:=bd
 exact obl rfl (lD (Ix m 0) pT (be 3 dc) (zd (bX.b1) rfl) dR)
 obtain⟨s,Z,bY⟩:=bd
 exact obl rfl (lD (Ix m 0) pT (be 3 dc) (zd (bY.b2) rfl) dR)
 intro eo vals w125 bZ bf hA126
 have aI:eo∈[0,2]:=bZ
 simp only[yA]at aI
 rcases aI with rfl|rfl
 have ca:Sep _ _ _ _:=bf
 exact obl rfl (zh (k:=10) qT lT rfl rfl (zo (ca.b0)) dR)
 obtain⟨s,Z,cb⟩:=bf
 exact obl rfl (zh (k:=10) qT lT rfl rfl (zo (cb.b1)) dR)
 intro er vals w132 cc bg ak
 have aJ:er∈[0,2]:=cc
 simp only[yA]at aJ
 rcases aJ with rfl|rfl
 have cd:Sep _ _ _ _:=bg
 refine obl rfl ((zW (f:=63) (vals:=[Ix m 0,.agg (e.cells de0).toArray]) (cap:=[]) rfl (yM ⟨(ak 4 (by decide)),(ak 5 (by decide)),zl⟩) kY (zbc (e:=e) hde0 oe hKN (cd.mv5) hd ((Inv.run hd _)) ((by rw[xc];omega))) ?_))
 rintro _ w141 ⟨u,rfl,bh⟩
 have ce:=bh.r1
 have hr143s:_*8≤_:=ce.2
 exact fun A F z=>⟨(exiA u (zA F bh)),zl⟩
 obtain⟨s,Z,cf⟩:=bg
 refine obl rfl ((zW (f:=63) (vals:=[Ix m 0,.agg (e.cells de0).toArray]) (cap:=[]) rfl (yM ⟨(ak 4 (by decide)),(ak 5 (by decide)),zl⟩) kY (zbc (e:=e) hde0 oe hKN (cf.mv6) hd ((Inv.run hd _)) ((by rw[xc];omega))) ?_))
 rintro _ w149 ⟨u,rfl,bi⟩
 have cg:=bi.r1
 have hr151s:_*8≤_:=cg.2
 exact fun A F z=>⟨(exiA u (exiA s (zA F (zA ((z 7 dc).trans Z) (bi.mv2))))),zl⟩
 intro es vals w154 ch bj hA155
 have aK:es∈[0,1]:=ch
 simp only[yA]at aK
 rcases aK with rfl|rfl
 have ci:Sep _ _ _ _:=bj
 refine obl rfl ((zG lY ?_))
 intro w161 s cj
 exact fun A F z=>⟨(exiA s (zA F (ci.new cj))),zl⟩
 obtain⟨u,ao,ck⟩:=bj
 refine obl rfl ((zG lY ?_))
 intro w166 s cl
 exact fun A F z=>⟨(exiA u (exiA s (zA ((z 6 dc).trans ao) (zA F (ck.new cl))))),zl⟩
 intro et vals w169 cm cn hA170
 have aL:et∈[3]:=cm
 simp only[yA]at aL
 subst aL
 obtain⟨u,s,ao,Z,av⟩:=cn
 refine obl rfl ?_
 have bk:=av.r2
 have hr176s:_*8≤_:=bk.2
 refine(zy (v:=.agg ((ye d (zk d evs) e).cells u).toArray) (c':=((ye d (zk d evs) e).cells u).toArray) mY Z ao (av.b0) (yo ⟨rfl,rfl,rfl,bk.1.one,rfl,rfl,rfl,rfl,rfl,rfl,rfl,rfl,rfl,zl⟩) yqc rfl ?_)
 intro w174 co
 exact fun A F z=>⟨(exiA u (exiA s (zA ((z 6 dc).trans ao) (zA ((z 7 dc).trans Z) (av.pt0 co))))),zl⟩
 intro vals eu cp hA180
 obtain⟨u,s,ao,Z,al⟩:=cp
 let eY:=Blk s ((ye d (zk d evs) e).cells u).toArray 57
 refine yg (kv:=[(0,Ix b 0),(1,.agg (e.cells de0).toArray),(3,Ix I 0),(4,Ix s 0)]) ⟨rfl,rfl,rfl,(by exact Z),zl⟩ (fun ρw178=>(zb (za ?_)))
 have ew:((ye d (zk d evs) e)).Ok:=zbP oe (al.evOk (i:=7) rfl)
 try simp+zetaDelta only at al
 rw[←xF]at al
 have cq:Sep G W (eY::fa::(RowE (α:=Int) own 3 u e.deps)::fb::eZ::(RowE (α:=Typ) own 83 E d.types)::(RowE (α:=Prj) own 73 y d.projs)::(RowE (α:=Ev) own 55 C evs)::(yx B (prs d evs))::(xg q (yK d every evs))::Rs) eu:=al
 refine WD6 ((fun TT M N=>WF [fun vals H=>Sep G W (M::N::TT) H,fun vals H=> ∃(g:Value),(vals 9=(.tuple #[.agg ((yr d (e.typ,e.agg) (zk d (evs++[e]))).cells g).toArray,.bool ((zj d (zk d (evs++[e])) (e.typ,e.agg)).isSome)]:Value))∧Sep G W (N::(RowE (α:=Cel) own 105 g (stL d (e.typ,e.agg) (zk d (evs++[e]))))::M::TT) H,fun vals H=> ∃(p:Nat),(vals 13=(Ix p 0:Value))∧Sep G W ((Blk p #[Iv 0,(Iz)] 48)::M::N::TT) H,fun vals H=> ∃(g:Value) (p:Nat),(vals 9=(.tuple #[.agg ((yr d (e.typ,e.agg) (zk d (evs++[e]))).cells g).toArray,.bool ((zj d (zk d (evs++[e])) (e.typ,e.agg)).isSome)]:Value))∧(vals 13=(Ix p 0:Value))∧Sep G W ((Blk p #[Iv 0,(Iz)] 48)::N::(RowE (α:=Cel) own 105 g (stL d (e.typ,e.agg) (zk d (evs++[e]))))::M::TT) H,fun _ _=>True,fun _ _=>True,fun _ _=>True,fun vals H=> ∃(g:Value) (p:Nat),(vals 9=(.tuple #[.agg ((yr d (e.typ,e.agg) (zk d (evs++[e]))).cells g).toArray,.bool ((zj d (zk d (evs++[e])) (e.typ,e.agg)).isSome)]:Value))∧(vals 13=(Ix p 0:Value))∧Sep G W ((Blk p ((yr d (e.typ,e.agg) (zk d (evs++[e]))).cells g).toArray 48)::N::(RowE (α:=Cel) own 105 g (stL d (e.typ,e.agg) (zk d (evs++[e]))))::M::TT) H]) ((RowE (α:=Int) own 3 u e.deps)::fb::eZ::(RowE (α:=Typ) own 83 E d.types)::(RowE (α:=Prj) own 73 y d.projs)::(RowE (α:=Ev) own 55 C evs)::(yx B (prs d evs))::(xg q (yK d every evs))::Rs) eY fa) (AF [Vl 0 (Ix b 0),Vl 1 (Ix b 0),Vl 2 (Ix b 4),Vl 3 (Ix b 4),Vl 4 (Ix m 0),Vl 5 (Ix I 4),Vl 6 (Iv (e.typ)),Vl 7 (Ix I 5),Vl 8 (Iv (e.agg)),fun _=>True,fun vals=> ∀(g:Value),vals 9=(.tuple #[.agg ((yr d (e.typ,e.agg) (zk d (evs++[e]))).cells g).toArray,.bool ((zj d (zk d (evs++[e])) (e.typ,e.agg)).isSome)]:Value)→vals 10=(.tuple #[.agg ((yr d (e.typ,e.agg) (zk d (evs++[e]))).cells g).toArray,.bool ((zj d (zk d (evs++[e])) (e.typ,e.agg)).isSome)]:Value),fun vals=> ∀(g:Value),vals 9=(.tuple #[.agg ((yr d (e.typ,e.agg) (zk d (evs++[e]))).cells g).toArray,.bool ((zj d (zk d (evs++[e])) (e.typ,e.agg)).isSome)]:Value)→vals 11=(.agg ((yr d (e.typ,e.agg) (zk d (evs++[e]))).cells g).toArray:Value),Vl 12 (.bool ((zj d (zk d (evs++[e])) (e.typ,e.agg)).isSome)),fun _=>True,fun _=>True,Vl 15 (.bool ((zj d (zk d (evs++[e])) (e.typ,e.agg)).isSome))]) [[],[0],[0,1],[0,1,2],(rg 4),[],[5],[],[7],(rg 9),(rg 10),(rg 11),(rg 11),[],[0,1,2,3,4,5,6,7,8,9,10,11,13],(rg 15)] [9,13,14] [[0,2],[0,2],[0,2],[0,2],[0,2],[0,2],[0,2],[0,2],[0,2],[0,2],[1,3],[1,3],[1,3,7],[0,1],[3],[7]] cq ⟨fun _ _ _ _ _ _=>obl rfl (mV (Ix b 0) dR),fun _ _ _ _ _ cr=>obl rfl (zm (b:=b) (o:=0) (cr 0 dc) dR),fun _ _ _ _ _ cs=>obl rfl (Zw (cs 1 dc) dR),fun _ _ _ _ _ ct=>obl rfl (Vo (ct 2 dc) dR),?_,fun _ _ _ _ _ _=>obl rfl (xm rfl dR),?_,fun _ _ _ _ _ _=>obl rfl (Zc rfl dR),?_,?_,?_,?_,?_,?_,?_,fun _ _ _ _ _ cu=>obl rfl (zM (v:=.bool ((zj d (zk d (evs++[e])) (e.typ,e.agg)).isSome)) (cu 12 dc) dR),zl⟩ ?_ (hlocA:=xi ⟨dA,dA,dA,dA,dA,dA,dA,dA,dA,dT,fun vals A F h=>fun g Q=>(F 10 (.inl rfl)).trans (h g ((F 9 (.inr dc)).symm.trans Q)),fun vals A F h=>fun g Q=>(F 11 (.inl rfl)).trans (h g ((F 9 (.inr dc)).symm.trans Q)),dA,dT,dT,dA,zl⟩)
 intro ex vals w329 cv bl bm
 have aM:ex∈[0,2]:=cv
 simp only[yA]at aM
 rcases aM with rfl|rfl
 have cw:Sep _ _ _ _:=bl
 exact obl rfl (lD (Ix m 0) pT (bm 3 dc) (zd (cw.b4) rfl) dR)
 obtain⟨p,J,cx⟩:=bl
 exact obl rfl (lD (Ix m 0) pT (bm 3 dc) (zd (cx.b5) rfl) dR)
 intro ey vals w343 cy bn bp
 have aN:ey∈[0,2]:=cy
 simp only[yA]at aN
 rcases aN with rfl|rfl
 have cz:Sep _ _ _ _:=bn
 exact obl rfl (lD (Iv (e.typ)) mT (bp 5 dc) (zd (cz.b3) rfl) dR)
 obtain⟨p,J,cA⟩:=bn
 exact obl rfl (lD (Iv (e.typ)) mT (bp 5 dc) (zd (cA.b4) rfl) dR)
 intro ez vals w357 cB bq br
 have aO:ez∈[0,2]:=cB
 simp only[yA]at aO
 rcases aO with rfl|rfl
 have cC:Sep _ _ _ _:=bq
 exact obl rfl (lD (Iv (e.agg)) mT (br 7 dc) (zd (cC.b3) rfl) dR)
 obtain⟨p,J,cD⟩:=bq
 exact obl rfl (lD (Iv (e.agg)) mT (br 7 dc) (zd (cD.b4) rfl) dR)
 intro eA vals w366 cE bs ab
 have aP:eA∈[0,2]:=cE
 simp only[yA]at aP
 rcases aP with rfl|rfl
 have cF:Sep _ _ _ _:=bs
 refine obl rfl ((zW (f:=49) (vals:=[Ix m 0,Iv (e.typ),Iv (e.agg)]) (cap:=[]) rfl (yM ⟨(ab 4 dc),(ab 6 dc),(ab 8 dc),zl⟩) nR (Ut (ty:=e.typ) (no:=e.agg) oe.typ oe.agg (cF.mv1)) ?_))
 rintro _ w376 ⟨g,rfl,bt⟩
 have cG:=bt.r1
 have hr378s:_*32≤_:=cG.2
 exact fun A F z=>⟨(exiA g (zA F bt)),zl⟩
 obtain⟨p,J,cH⟩:=bs
 refine obl rfl ((zW (f:=49) (vals:=[Ix m 0,Iv (e.typ),Iv (e.agg)]) (cap:=[]) rfl (yM ⟨(ab 4 dc),(ab 6 dc),(ab 8 dc),zl⟩) nR (Ut (ty:=e.typ) (no:=e.agg) oe.typ oe.agg (cH.mv2)) ?_))
 rintro _ w385 ⟨g,rfl,bu⟩
 have cI:=bu.r1
 have hr387s:_*32≤_:=cI.2
 exact fun A F z=>⟨(exiA g (exiA p (zA F (zA ((z 13 dc).trans J) (bu.mv2))))),zl⟩
 intro eB vals w390 cJ bv hA391
 have aQ:eB∈[1,3]:=cJ
 simp only[yA]at aQ
 rcases aQ with rfl|rfl
 obtain⟨g,t,hS394⟩:=bv
 refine obl rfl (zP (v:=.tuple #[.agg ((yr d (e.typ,e.agg) (zk d (evs++[e]))).cells g).toArray,.bool ((zj d (zk d (evs++[e])) (e.typ,e.agg)).isSome)]) t (fun A F z=>⟨rfl,?_⟩))
 intro aw Q
 rw[z 9 (by decide)]at Q;cases t.symm.trans Q
 exact F
 obtain⟨g,p,t,J,hS395⟩:=bv
 refine obl rfl (zP (v:=.tuple #[.agg ((yr d (e.typ,e.agg) (zk d (evs++[e]))).cells g).toArray,.bool ((zj d (zk d (evs++[e])) (e.typ,e.agg)).isSome)]) t (fun A F z=>⟨rfl,?_⟩))
 intro aw Q
 rw[z 9 (by decide)]at Q;cases t.symm.trans Q
 exact F
 intro eC vals w397 cK bw bx
 have aR:eC∈[1,3]:=cK
 simp only[yA]at aR
 rcases aR with rfl|rfl
 obtain⟨g,t,hS401⟩:=bw
 let fd:=(yr d (e.typ,e.agg) (zk d (evs++[e]))).cells g
 have eD:vals 10=(.tuple #[.agg fd.toArray,.bool ((zj d (zk d (evs++[e])) (e.typ,e.agg)).isSome)]:Value):=bx 10 dc g t
 refine obl rfl (zz (vs:=[.agg fd.toArray,.bool ((zj d (zk d (evs++[e])) (e.typ,e.agg)).isSome)]) (i:=0) (v:=.agg fd.toArray) eD rfl (fun A F z=>⟨rfl,?_⟩))
 intro aw Q
 rw[z 9 (by decide)]at Q;cases t.symm.trans Q
 exact F
 obtain⟨g,p,t,J,hS403⟩:=bw
 let fe:=(yr d (e.typ,e.agg) (zk d (evs++[e]))).cells g
 have eE:vals 10=(.tuple #[.agg fe.toArray,.bool ((zj d (zk d (evs++[e])) (e.typ,e.agg)).isSome)]:Value):=bx 10 dc g t
 refine obl rfl (zz (vs:=[.agg fe.toArray,.bool ((zj d (zk d (evs++[e])) (e.typ,e.agg)).isSome)]) (i:=0) (v:=.agg fe.toArray) eE rfl (fun A F z=>⟨rfl,?_⟩))
 intro aw Q
 rw[z 9 (by decide)]at Q;cases t.symm.trans Q
 exact F
 intro eF vals w406 cM ax ay
 have aT:eF∈[1,3,7]:=cM
 simp only[yA]at aT
 rcases aT with rfl|rfl|rfl
 obtain⟨g,t,hS410⟩:=ax
 have eG:vals 10=(.tuple #[.agg ((yr d (e.typ,e.agg) (zk d (evs++[e]))).cells g).toArray,.bool ((zj d (zk d (evs++[e])) (e.typ,e.agg)).isSome)]:Value):=ay 10 dc g t
 exact obl rfl (zz (vs:=[.agg ((yr d (e.typ,e.agg) (zk d (evs++[e]))).cells g).toArray,.bool ((zj d (zk d (evs++[e])) (e.typ,e.agg)).isSome)]) (i:=1) (v:=.bool ((zj d (zk d (evs++[e])) (e.typ,e.agg)).isSome)) eG rfl dR)
 obtain⟨g,p,t,J,hS412⟩:=ax
 have eH:vals 10=(.tuple #[.agg ((yr d (e.typ,e.agg) (zk d (evs++[e]))).cells g).toArray,.bool ((zj d (zk d (evs++[e])) (e.typ,e.agg)).isSome)]:Value):=ay 10 dc g t
 exact obl rfl (zz (vs:=[.agg ((yr d (e.typ,e.agg) (zk d (evs++[e]))).cells g).toArray,.bool ((zj d (zk d (evs++[e])) (e.typ,e.agg)).isSome)]) (i:=1) (v:=.bool ((zj d (zk d (evs++[e])) (e.typ,e.agg)).isSome)) eH rfl dR)
 obtain⟨g,p,t,J,hS414⟩:=ax
 have eI:vals 10=(.tuple #[.agg ((yr d (e.typ,e.agg) (zk d (evs++[e]))).cells g).toArray,.bool ((zj d (zk d (evs++[e])) (e.typ,e.agg)).isSome)]:Value):=ay 10 dc g t
 exact obl rfl (zz (vs:=[.agg ((yr d (e.typ,e.agg) (zk d (evs++[e]))).cells g).toArray,.bool ((zj d (zk d (evs++[e])) (e.typ,e.agg)).isSome)]) (i:=1) (v:=.bool ((zj d (zk d (evs++[e])) (e.typ,e.agg)).isSome)) eI rfl dR)
 intro eJ vals w417 cN bz hA418
 have aU:eJ∈[0,1]:=cN
 simp only[yA]at aU
 rcases aU with rfl|rfl
 have cO:Sep _ _ _ _:=bz
 refine obl rfl ((zG oR ?_))
 intro w424 p cP
 exact fun A F z=>⟨(exiA p (zA F (cO.new cP))),zl⟩
 obtain⟨g,t,cQ⟩:=bz
 refine obl rfl ((zG oR ?_))
 intro w429 p cR
 exact fun A F z=>⟨(exiA g (exiA p (zA ((z 9 dc).trans t) (zA F (cQ.new cR))))),zl⟩
 intro eK vals w432 cS cT cU
 have aV:eK∈[3]:=cS
 simp only[yA]at aV
 subst aV
 obtain⟨g,p,t,J,az⟩:=cT
 let ff:=(yr d (e.typ,e.agg) (zk d (evs++[e]))).cells g
 refine obl rfl ?_
 have eL:vals 11=(.agg ff.toArray:Value):=cU 11 dc g t
 have bA:=az.r2
 have hr440s:_*32≤_:=bA.2
 refine(zy (v:=.agg ff.toArray) (c':=ff.toArray) pR J eL (az.b0) (yo ⟨rfl,bA.1.one,zl⟩) yqc rfl ?_)
 intro w438 cV
 exact fun A F z=>⟨(exiA g (exiA p (zA ((z 9 dc).trans t) (zA ((z 13 dc).trans J) (az.pt0 cV))))),zl⟩
 intro vals S cW hA450
 obtain⟨g,p,t,J,cX⟩:=cW
 let eX:=Blk p ((yr d (e.typ,e.agg) (zk d (evs++[e]))).cells g).toArray 48
 refine yg (kv:=[(0,Ix b 0),(1,.agg (e.cells de0).toArray),(3,Ix I 0),(4,Ix s 0),(5,Ix p 0)]) ⟨rfl,rfl,rfl,rfl,(by exact J),zl⟩ (fun ρw448=>(zb (za (za ?_))))
 obtain⟨G453,cY,hB456,cZ,da⟩:=(cX.mv2).lend
 have aa:=RowE.rd cY
 have hrd459s:_*32≤_:=aa.small
 obtain⟨T,db,am,bB,dd⟩:=(cZ.mv3).lend
 have aW:=RowE.rd db
 have hrd467s:_*8≤_:=aW.small
 refine R0 fun _=>st (mV (Ix b 0) (st (zm (b:=b) (o:=0) rfl (st (XU rfl (st (xJ rfl (st (lD y qR rfl (zd (bB.b4) rfl) (st (zC (n:=d.projs.length) tT rfl ba.1 (st (mV (Iv 0) (zb (zt ?_)))))))))))))))
 have ah:(prs d (evs++[e])).length=(prs d evs).length:=by rw[Yr,Yr]
 have eM:(prs d evs).length=d.projs.length:=Yr _ _
 refine zZ (fun mq σ H=> ∃(k:Nat) (ρ:Env),mq=d.projs.length-k∧σ=yf ρ [(0,Ix b 0),(3,Ix I 0),(4,Ix s 0),(5,Ix p 0),(34,y),(35,Iw d.projs.length),(36,Iw k)]∧(k≤d.projs.length)∧Sep T S ((Blk p ((yr d (e.typ,e.agg) (zk d (evs++[e]))).cells g).toArray 48)::(ViewO m d (zk d (evs++[e])) (zk d (evs++[e])))::(Blk s ((ye d (zk d evs) e).cells u).toArray 57)::(Blk I (e.cells de0).toArray 55)::(Blk b #[E,y,Iw every,C,Ix m 0,B,q] 80)::(RowE (α:=Typ) own 83 E d.types)::(RowE (α:=Prj) own 73 y d.projs)::(RowE (α:=Ev) own 55 C evs)::(yx B (ZC (prs d (evs++[e])) (prs d evs) k))::(xg q (yK d every evs))::Rs) H) ⟨0,_,rfl,sSf,zY _,bB⟩ ?_
 rintro m469 σ470 w468 ⟨k,ρl1,rfl,rfl,hkk,af⟩
 refine za (R0 fun _=>st (zK (k:=.i64) (a:=((k:Nat):Int)) (b:=((d.projs.length:Nat):Int)) rfl rfl (zb (za ?_))))
 cases an:decide (((k:Nat):Int)<((d.projs.length:Nat):Int))
 have an:=fD an
 have eN:ZC (prs d (evs++[e])) (prs d evs) k=(prs d (evs++[e])):=JZ ah om
 try simp+zetaDelta only at af
 rw[eN]at af
 refine ze rfl (ya (zR (za ?_)))
 have de:=dd _ _ af
 have df:=da _ _ de
 refine WD4 ((fun TT M N V X Y ai aj aX aY bL=>WF [fun vals H=>Sep G W (M::N::V::X::Y::ai::aj::aX::aY::bL::TT) H,fun vals H=> ∃(D:Value),(vals 6=(.agg (e.cells D).toArray:Value))∧Sep G W ((RowE (α:=Int) own 3 D e.deps)::M::N::V::X::Y::ai::aj::aX::aY::bL::TT) H,fun vals H=> ∃(D:Value) (K:Nat),(vals 6=(.agg (e.cells D).toArray:Value))∧(vals 7=((Iy K 1 1):Value))∧Sep G W ((Blk K (e.cells D).toArray 55)::(RowE (α:=Int) own 3 D e.deps)::M::N::V::X::Y::ai::aj::aX::aY::bL::TT) H,fun vals H=> ∃(D:Value) (K:Nat) (L:Value),(vals 6=(.agg (e.cells D).toArray:Value))∧(vals 7=((Iy K 1 1):Value))∧(vals 8=(L:Value))∧Sep G W ((RowE (α:=Ev) own 55 L (evs++[e]))::M::N::V::X::Y::ai::aj::aX::aY::TT) H,fun vals H=> ∃(D:Value) (K:Nat) (L:Value),(vals 6=(.agg (e.cells D).toArray:Value))∧(vals 7=((Iy K 1 1):Value))∧(vals 8=(L:Value))∧Sep G W ((RowE (α:=Ev) own 55 L (evs++[e]))::M::N::V::X::Y::ai::(Blk b #[E,y,Iw every,L,Ix m 0,B,q] 80)::aX::aY::TT) H]) ((yx B (prs d (evs++[e])))::(xg q (yK d every evs))::Rs) (RowE (α:=Cel) own 105 g (stL d (e.typ,e.agg) (zk d (evs++[e])))) (RowE (α:=Int) own 3 u e.deps) eX fa eY fb eZ (RowE (α:=Typ) own 83 E d.types) (RowE (α:=Prj) own 73 y d.projs) (RowE (α:=Ev) own 55 C evs)) (AF [Vl 0 (Ix b 0),Vl 1 (Ix b 0),Vl 2 (Ix b 0),Vl 3 (Ix b 3),Vl 4 C,Vl 5 (.agg (e.cells de0).toArray),fun _=>True,fun _=>True,fun _=>True,Vl 9 (Ix b 0),Vl 10 (Ix b 3),fun _=>True]) [[],[],[1],[1,2],[1,2,3],[],[5],[5,6],[1,2,3,4,5,6,7],(rg 9),(rg 10),(rg 11)] [6,7,8,11] [(0,3),(0,2),(0,2),(0,2),(0,2),(0,0),(0,0),(1,1),(2,2),(3,3),(3,3),(3,3)] df ⟨fun _ _ _ _ _ _ _=>obl rfl (mV (Ix b 0) dR),fun _ _ _ _ _ _ _=>obl rfl (mV (Ix b 0) dR),fun _ _ _ _ _ _ dg=>obl rfl (zm (b:=b) (o:=0) (dg 1 dc) dR),fun _ _ _ _ _ _ dh=>obl rfl (ZS (dh 2 dc) dR),?_,ob1 0 fun _ _ (di:Sep _ _ _ _) _=>obl rfl (zh (k:=10) qT lT rfl rfl (zo (di.b5)) dR),?_,?_,?_,fun _ _ _ _ _ _ dj=>obl rfl (zm (b:=b) (o:=0) (dj 0 dc) dR),fun _ _ _ _ _ _ dk=>obl rfl (ZS (dk 9 dc) dR),?_,zl⟩ ?_
 refine fun ap _ _ eO eP aA aB=>?_
 have hkk:=UT eO eP
 rcases hkk with rfl|rfl|rfl
 have dl:Sep _ _ _ _:=aA
 exact obl rfl (lD C nT (aB 3 dc) (zd (dl.b6) rfl) dR)
 obtain⟨D,P,dm⟩:=aA
 exact obl rfl (lD C nT (aB 3 dc) (zd (dm.b7) rfl) dR)
 obtain⟨D,K,P,ac,dp⟩:=aA
 exact obl rfl (lD C nT (aB 3 dc) (zd (dp.b8) rfl) dR)
 refine ob1 0 fun vals _ (dq:Sep _ _ _ _) dr=>(obl rfl ((zW (f:=65) (vals:=[.agg (e.cells de0).toArray]) (cap:=[]) rfl (yM ⟨(dr 5 dc),zl⟩) Tryz.call65 (zaH (e:=e) hde0 oe dq) ?_)))
 rintro _ w525 ⟨D,rfl,bC⟩
 have ds:=bC.r0
 have hr527s:_*8≤_:=ds.2
 exact fun A F z=>⟨(exiA D (zA F bC)),zl⟩
 refine ob1 1 fun _ _ dt _=>?_
 obtain⟨D,P,du⟩:=dt
 refine obl rfl ((zH (k:=10) (parts':=[(0,.agg (e.cells D).toArray)]) (c:=(e.cells D).toArray) kT lT rR dc (Za ⟨rfl,P,zl⟩) kr ?_))
 intro w538 K dv
 exact fun A F z=>⟨(exiA D (exiA K (zA ((z 6 dc).trans P) (zA F (du.new dv))))),zl⟩
 refine ob1 2 fun _ _ dw dx=>?_
 obtain⟨D,K,P,ac,bD⟩:=dw
 refine obl rfl ?_
 have bM:=bD.b0
 refine(yq (src:=own) (bytes:=96) (x1:=e) (bD.s14_lbcdefghijkmn) Us (dx 4 (by decide)) ac bM (fun _ _ hN=>⟨_,rfl,RowE.soft hN,oe⟩) yqb rfl ?_)
 intro L w549 bE
 have dy:=bE.r0
 have hr554s:_*96≤_:=dy.2
 exact fun A F z=>⟨(exiA D (exiA K (exiA L (zA ((z 6 dc).trans P) (zA ((z 7 dc).trans ac) (zA F bE)))))),zl⟩
 refine ob1 3 fun _ _ dz dB=>?_
 obtain⟨D,K,L,P,ac,aC,aD⟩:=dz
 refine obl rfl ?_
 have bF:=aD.r0
 have hr580s:_*96≤_:=bF.2
 refine(ym (v:=L) (c:=[E,y,Iw every,C,Ix m 0,B,q]) (c':=[E,y,Iw every,L,Ix m 0,B,q]) nY (dB 10 dc) aC (aD.b7) bF.1.one rfl rfl ?_)
 intro w578 dD
 exact fun A F z=>⟨(exiA D (exiA K (exiA L (zA ((z 6 dc).trans P) (zA ((z 7 dc).trans ac) (zA ((z 8 dc).trans aC) (aD.pt7 dD))))))),zl⟩
 intro vals w641 dE hA643
 obtain⟨D,K,L,P,ac,aC,dF⟩:=dE
 refine yg (kv:=[(0,Ix b 0),(3,Ix I 0),(4,Ix s 0),(5,Ix p 0),(34,y),(35,Iw d.projs.length),(36,Iw k),(37,.bool false)]) sEv (fun ρw641=>(zb (zL (by kernel_rfl) (fun _=>(st (mV (Ix b 0) (st (cL oY (zaG hKN (dF.s12_hijaklbcdefg) hd ((by rw[List.length_append,List.length_singleton];omega)) ((zby ar (by omega))) (ar.1)) ?_))))))))
 rintro _ bN ⟨vpts2646,rfl,ad⟩
 have dG:=ad.r1
 have hr649s:_*24≤_:=dG.2
 have dH:=ad.r2
 have hr650s:_*40≤_:=dH.2
 have dI:=ad.r3
 have hr651s:_*96≤_:=dI.2
 refine zb (Xe Tryz.results42 ?_)
 have eQ:=Jm (d:=d) (l:=evs) (e:=e) ar.1
 try simp+zetaDelta only at ad
 rw[eQ]at ad
 have dJ:Sep G W ((BaseO b d every (evs++[e]))::(RowE (α:=Cel) own 105 g (stL d (e.typ,e.agg) (zk d (evs++[e]))))::(RowE (α:=Int) own 3 u e.deps)::eX::eY::fb::Rs) bN:=BaseO.close (d:=d) (every:=every) (evs:=(evs++[e])) ar (ad.s12_abcdjefghikl)
 have dK:Sep G W ((BaseO b d every (evs++[e]))::Rs) bN:=dJ.sel 6 [0] (xq _ _) rfl rfl
 refine⟨rfl,dK⟩
 have an:=tD an
 refine zg rfl (zp (za (zt (za (R0 fun _=>st (mV (Iw k) ?_))))))
 have dL:k<d.projs.length:=bo
 refine st (zf (k:=5) (i:=k) tT oT rfl ba.1 rfl dL ?_)
 have dM:k<d.projs.length:=bo
 obtain⟨_,_,bO,rfl,hoke656⟩:=af.rowAtD (i:=6) (j:=k) rfl dM
 refine st (zh (k:=5) sR oT rfl rfl bO (st (zG pY ?_)))
 intro w660 R dN
 let fc:=Blk R ((d.projs.getD k default).cells).toArray 73
 have bG:=af.new dN
 refine st (aS (Iw k) (stn (zy (v:=.agg ((d.projs.getD k default).cells).toArray) (c':=((d.projs.getD k default).cells).toArray) oT rfl rfl (bG.b0) (yo ⟨rfl,rfl,rfl,rfl,rfl,zl⟩) yqc rfl ?_)))
 intro w662 dO
 have U:=bG.pt0 dO
 refine zb (za (R0 fun _=>st (aS (Iv 0) (zb (za (za ?_))))))
 have hby9:0≤(d.projs.getD k default).pby:=(hp.2 k om).1
 refine R0 fun _=>st (Wk rfl (st (lD (Iv ((d.projs.getD k default).pby)) mT rfl (zd (U.b0) rfl) (st (xo rfl (st (lD g qY rfl (zd (U.b1) rfl) (st (zC (n:=(stL d (e.typ,e.agg) (zk d (evs++[e]))).length) rY rfl (zv aa am).sl (st (zK (k:=.i64) (a:=(d.projs.getD k default).pby) (b:=(((stL d (e.typ,e.agg) (zk d (evs++[e]))).length:Nat):Int)) rfl rfl (zb ?_))))))))))))
 refine Yu (fun σ H=> ∃(O:Int) (ρ:Env),σ=yf ρ [(0,Ix b 0),(3,Ix I 0),(4,Ix s 0),(5,Ix p 0),(34,y),(35,Iw d.projs.length),(36,Iw k),(8,Ix R 0),(7,Iw k),(9,Iv O)]∧(O=(WT d (d.projs.getD k default) (zk d (evs++[e])) e)∧InR O)∧Sep T S (fc::eX::fa::eY::fb::eZ::(RowE (α:=Typ) own 83 E d.types)::(RowE (α:=Prj) own 73 y d.projs)::(RowE (α:=Ev) own 55 C evs)::(yx B (ZC (prs d (evs++[e])) (prs d evs) k))::(xg q (yK d every evs))::Rs) H) ?_ ?_
 cases ae:decide (((d.projs.getD k default).pby)<(((stL d (e.typ,e.agg) (zk d (evs++[e]))).length:Nat):Int))
 have ae:=fD ae
 refine ze rfl (zp ?_)
 exact⟨rfl,0,_,yG ⟨(show _=(Ix b 0:Value)from rfl),(show _=(Ix I 0:Value)from rfl),(show _=(Ix s 0:Value)from rfl),(show _=(Ix p 0:Value)from rfl),(show _=(y:Value)from rfl),(show _=(Iw d.projs.length:Value)from rfl),(show _=(Iw k:Value)from rfl),(show _=(Ix R 0:Value)from rfl),(show _=(Iw k:Value)from rfl),(show _=(Iv 0:Value)from rfl),zl⟩,⟨(by unfold WT;rw[ifnC (by simpa using ae)]),(by decide)⟩,U⟩
 have ae:=tD ae
 refine zg rfl (R0 fun _=>st (xo rfl (st (lD g qY rfl (zd (U.b1) rfl) (st (Wk rfl (st (lD (Iv ((d.projs.getD k default).pby)) mT rfl (zd (U.b0) rfl) ?_))))))))
 have hi666:((d.projs.getD k default).pby).toNat<(stL d (e.typ,e.agg) (zk d (evs++[e]))).length:=bo
 refine st (zB (k:=2) (i:=(d.projs.getD k default).pby) rY Tryz.sizeOf105 rfl (zv aa am).sl rfl ⟨by omega,by omega⟩ (st (xa rfl ?_)))
 have bH:((d.projs.getD k default).pby).toNat<(stL d (e.typ,e.agg) (zk d (evs++[e]))).length:=bo
 obtain⟨bP,bb,bK⟩:=(zv aa am).celD bH
 have hsm669:(((stL d (e.typ,e.agg) (zk d (evs++[e]))).getD (((d.projs.getD k default).pby).toNat) default).set).length*8≤140737488355328:=bb.small
 have bQ:=U.cells bP ((zv aa am).foot (ne_of_lt bH))
 refine st (lD (Iv (((stL d (e.typ,e.agg) (zk d (evs++[e]))).getD (((d.projs.getD k default).pby).toNat) default).n)) mT rfl (bQ.get (j:=0) rfl) (st (aS (Iv (((stL d (e.typ,e.agg) (zk d (evs++[e]))).getD (((d.projs.getD k default).pby).toNat) default).n)) (zb ?_))))
 exact⟨rfl,((stL d (e.typ,e.agg) (zk d (evs++[e]))).getD (((d.projs.getD k default).pby).toNat) default).n,_,yG ⟨(show _=(Ix b 0:Value)from rfl),(show _=(Ix I 0:Value)from rfl),(show _=(Ix s 0:Value)from rfl),(show _=(Ix p 0:Value)from rfl),(show _=(y:Value)from rfl),(show _=(Iw d.projs.length:Value)from rfl),(show _=(Iw k:Value)from rfl),(show _=(Ix R 0:Value)from rfl),(show _=(Iw k:Value)from rfl),(show _=(Iv (((stL d (e.typ,e.agg) (zk d (evs++[e]))).getD (((d.projs.getD k default).pby).toNat) default).n):Value)from rfl),zl⟩,⟨(by unfold WT;rw[ifpC (by simpa using ae)]),bK.n⟩,U⟩
 rintro _ bc ⟨O,ρj1,rfl,bR,dP⟩
 have eR:=bR.1
 obtain⟨x,ag,dQ⟩:=ZipW.open (dP.mv9)
 have aZ:Sep T S ((RowE (α:=PtC) own 92 B x)::(Star (Zip Zj x (ZC (prs d (evs++[e])) (prs d evs) k)))::fc::eX::fa::eY::fb::eZ::(RowE (α:=Typ) own 83 E d.types)::(RowE (α:=Prj) own 73 y d.projs)::(RowE (α:=Ev) own 55 C evs)::(xg q (yK d every evs))::Rs) bc:=dQ
 have bI:=aZ.r0
 have hr677s:_*8≤_:=bI.2
 have hsl9:x.length=d.projs.length:=by rw[ag,VF ah,eM]
 have aE:Sep T S ((ProjO ((x.getD k default).b) (((ZC (prs d (evs++[e])) (prs d evs) k).getD k default).1) (((ZC (prs d (evs++[e])) (prs d evs) k).getD k default).2))::(Star ((Zip Zj x (ZC (prs d (evs++[e])) (prs d evs) k)).set k Emp))::(RowE (α:=PtC) own 92 B x)::(Blk R ((d.projs.getD k default).cells).toArray 73)::(Blk p ((yr d (e.typ,e.agg) (zk d (evs++[e]))).cells g).toArray 48)::(ViewO m d (zk d (evs++[e])) (zk d (evs++[e])))::(Blk s ((ye d (zk d evs) e).cells u).toArray 57)::(Blk I (e.cells de0).toArray 55)::(Blk b #[E,y,Iw every,C,Ix m 0,B,q] 80)::(RowE (α:=Typ) own 83 E d.types)::(RowE (α:=Prj) own 73 y d.projs)::(RowE (α:=Ev) own 55 C evs)::(xg q (yK d every evs))::Rs) bc:=ZipW.take ag (by rw[VF ah];omega) (aZ.mv1)
 have eU:(ZC (prs d (evs++[e])) (prs d evs) k).getD k default=((d.projs.getD k default),ZJ d (d.projs.getD k default) evs):=(zbh ah om).trans (UN om)
 try simp+zetaDelta only at aE
 rw[eU]at aE
 have dS:Sep T S ((ProjO ((x.getD k default).b) (d.projs.getD k default) (ZJ d (d.projs.getD k default) evs))::(Star ((Zip Zj x (ZC (prs d (evs++[e])) (prs d evs) k)).set k Emp))::(RowE (α:=PtC) own 92 B x)::fc::eX::fa::eY::fb::eZ::(RowE (α:=Typ) own 83 E d.types)::(RowE (α:=Prj) own 73 y d.projs)::(RowE (α:=Ev) own 55 C evs)::(xg q (yK d every evs))::Rs) bc:=aE
 refine WD4 ((fun TT=>WF [fun vals H=>Sep T S ((ProjO ((x.getD k default).b) (d.projs.getD k default) (ZJ d (d.projs.getD k default) evs))::TT) H,fun vals H=>(vals 10=(.tuple #[]:Value))∧Sep T S ((ProjO ((x.getD k default).b) (d.projs.getD k default) (ZM (d.projs.getD k default) (ZJ d (d.projs.getD k default) evs) (ye d (zk d evs) e) O))::TT) H]) ((Star ((Zip Zj x (ZC (prs d (evs++[e])) (prs d evs) k)).set k Emp))::(RowE (α:=PtC) own 92 B x)::fc::eX::fa::eY::fb::eZ::(RowE (α:=Typ) own 83 E d.types)::(RowE (α:=Prj) own 73 y d.projs)::(RowE (α:=Ev) own 55 C evs)::(xg q (yK d every evs))::Rs)) (AF [Vl 0 (Ix b 0),Vl 1 (Ix b 0),Vl 2 (Ix b 4),Vl 3 (Ix b 5),Vl 4 B,Vl 5 (Iw k),Vl 6 (Ix (sb B) (so B+k*1)),Vl 7 (Ix ((x.getD k default).b) 0),Vl 8 (.agg ((ye d (zk d evs) e).cells u).toArray),Vl 9 (Iv O),fun _=>True]) [[],[0],[0,1],[0,1,2],(rg 4),[],(rg 6),(rg 7),[],[],(rg 10)] [10] [(0,0),(0,0),(0,0),(0,0),(0,0),(0,0),(0,0),(0,0),(0,0),(0,0),(0,0)] dS ⟨fun _ _ _ _ _ _ _=>obl rfl (mV (Ix b 0) dR),fun _ _ _ _ _ _ dU=>obl rfl (zm (b:=b) (o:=0) (dU 0 dc) dR),fun _ _ _ _ _ _ dV=>obl rfl (Zw (dV 1 dc) dR),fun _ _ _ _ _ _ dW=>obl rfl (YM (dW 2 dc) dR),ob1 0 fun _ _ (dX:Sep _ _ _ _) dY=>obl rfl (lD B rT (dY 3 dc) (zd (dX.b8) rfl) dR),fun _ _ _ _ _ _ _=>obl rfl (mV (Iw k) dR),?_,?_,ob1 0 fun _ _ (dZ:Sep _ _ _ _) _=>obl rfl (zh (k:=13) Tryz.isAgg57 mY rfl rfl (zo (dZ.b6)) dR),fun _ _ _ _ _ _ _=>obl rfl (mV (Iv O) dR),?_,zl⟩ ?_
 refine ob1 0 fun _ _ _ bJ=>(obl rfl ?_)
 have ea:k<x.length:=bo
 exact zf (k:=1) (i:=k) uT tR (bJ 4 dc) bI.1 (bJ 5 dc) ea dR
 refine ob1 0 fun _ _ (eb:Sep _ _ _ _) ec=>(obl rfl ?_)
 have ed:k<x.length:=bo
 obtain⟨_,_,aq,rfl,hpke827⟩:=eb.rowAtD (i:=2) (j:=k) rfl ed
 have aq:CellsAt _ _ _ [Ix ((x.getD k default).b) 0]:=aq
 exact lD (Ix ((x.getD k default).b) 0) sY (ec 6 dc) (aq.get (j:=0) rfl) dR
 refine ob1 0 fun vals _ (ee:Sep _ _ _ _) aF=>(obl rfl ((zW (f:=64) (vals:=[Ix ((x.getD k default).b) 0,.agg ((ye d (zk d evs) e).cells u).toArray,Iv O]) (cap:=[]) rfl (yM ⟨(aF 7 dc),(aF 8 dc),(aF 9 dc),zl⟩) Tryz.call64 (zdd (e:=(ye d (zk d evs) e)) (reg:=O) aW ew bR.2 ee ((fun g9=>by have h9:=(Kf (Zs d (d.projs.getD k default) evs) g9).2;omega))) ?_)))
 rintro _ w765 ⟨rfl,ef⟩
 exact fun A F z=>⟨(zA F ef),zl⟩
 intro vals bS eg hA844
 obtain⟨he767,eh⟩:=eg
 refine yg (kv:=[(0,Ix b 0),(3,Ix I 0),(4,Ix s 0),(5,Ix p 0),(34,y),(35,Iw d.projs.length),(36,Iw k),(8,Ix R 0),(7,Iw k),(9,Iv O)]) sEv (fun ρw842=>(zb ?_))
 have ei:Sep T S ((Star (Zip Zj x ((ZC (prs d (evs++[e])) (prs d evs) k).set k (((d.projs.getD k default),ZM (d.projs.getD k default) (ZJ d (d.projs.getD k default) evs) (ye d (zk d evs) e) O):PR))))::(RowE (α:=PtC) own 92 B x)::(Blk R ((d.projs.getD k default).cells).toArray 73)::(Blk p ((yr d (e.typ,e.agg) (zk d (evs++[e]))).cells g).toArray 48)::(ViewO m d (zk d (evs++[e])) (zk d (evs++[e])))::(Blk s ((ye d (zk d evs) e).cells u).toArray 57)::(Blk I (e.cells de0).toArray 55)::(Blk b #[E,y,Iw every,C,Ix m 0,B,q] 80)::(RowE (α:=Typ) own 83 E d.types)::(RowE (α:=Prj) own 73 y d.projs)::(RowE (α:=Ev) own 55 C evs)::(xg q (yK d every evs))::Rs) bS:=ZipW.put (i:=k) (c:=(((d.projs.getD k default),ZM (d.projs.getD k default) (ZJ d (d.projs.getD k default) evs) (ye d (zk d evs) e) O):PR)) ag (by rw[VF ah];omega) eh
 have bT:x.length=((ZC (prs d (evs++[e])) (prs d evs) k).set k (((d.projs.getD k default),ZM (d.projs.getD k default) (ZJ d (d.projs.getD k default) evs) (ye d (zk d evs) e) O):PR)).length:=by rw[List.length_set];exact ag
 have aG:Sep T S ((yx B ((ZC (prs d (evs++[e])) (prs d evs) k).set k (((d.projs.getD k default),ZM (d.projs.getD k default) (ZJ d (d.projs.getD k default) evs) (ye d (zk d evs) e) O):PR)))::fc::eX::fa::eY::fb::eZ::(RowE (α:=Typ) own 83 E d.types)::(RowE (α:=Prj) own 73 y d.projs)::(RowE (α:=Ev) own 55 C evs)::(xg q (yK d every evs))::Rs) bS:=ZipW.mk bT (ei.mv1)
 have eV:(((d.projs.getD k default),ZM (d.projs.getD k default) (ZJ d (d.projs.getD k default) evs) (ye d (zk d evs) e) O):PR)=(prs d (evs++[e])).getD k default:=by rw[UN (by omega),XX,eR]
 have eW:(ZC (prs d (evs++[e])) (prs d evs) k).set k (((d.projs.getD k default),ZM (d.projs.getD k default) (ZJ d (d.projs.getD k default) evs) (ye d (zk d evs) e) O):PR)=ZC (prs d (evs++[e])) (prs d evs) (k+1):=by rw[eV];exact zaj ah (by omega)
 try simp+zetaDelta only at aG
 rw[eW]at aG
 refine R0 fun _=>?_
 have ej:InR ((k+1:Nat):Int):=bo
 refine st (zO (r:=((k+1:Nat):Int)) (k:=.i64) (a:=((k:Nat):Int)) (b:=1) rfl rfl (by rw[show(((k:Nat):Int)+1:Int)=((k+1:Nat):Int)from bo];exact zw ej) (st (mV (Iw (k+1)) (zb ?_))))
 exact⟨_,by omega,k+1,_,rfl,sSf,by omega,(aG.s11_cdefghijak)⟩
theorem YD {d:Dcl}{dd0:Value}(hdd0:RdS W G dd0 d.types){dd1:Value}(hdd1:RdS W G dd1 d.projs)(od:d.Ok){every:Int}(hevery:InR every)(hKN:RdS W G (.slice (some ⟨0,0,none⟩) 6 6) kindsL)(hS0:Sep G W Rs w)(hd:DclOk d):Ret Tryz.prog 9 [.agg (d.cells dd0 dd1).toArray,.int .i64 (every)] w (fun r w'=> ∃(b:Nat) (ev:Nat),r=(.pointer (some ⟨b,0,none⟩):Value)∧(((ev:Nat):Int)=max 1 every)∧Sep G W ((BaseO b d ev ([]:List Ev))::Rs) w'):=by
 have hdd0s:_*24≤_:=hdd0.small
 have hdd1s:_*40≤_:=hdd1.small
 have hKNs:_*8≤_:=hKN.small
 refine zn (args:=[.agg (d.cells dd0 dd1).toArray,Iv every]) Tryz.func9 rfl rfl ?_
 refine za (R0 fun _=>st (zX (v:=.agg (d.cells dd0 dd1).toArray) rfl ?_))
 intro w3 b2 cA
 have bP:=hS0.new cA
 refine st (aS (.pointer none) (zb (za (R0 fun _=>st (xJ rfl (st (lD dd1 qR rfl (zd (bP.b0) rfl) (st (cL Tryz.call33 (Vm (l:=d.projs) (vl:=dd1) hdd1 bP) ?_)))))))))
 rintro h w6 ⟨_,rfl,bQ⟩
 have aj:=bQ.r0
 have hr8s:_*40≤_:=aj.2
 refine st (zV (parts':=[(1,h)]) (v:=.agg #[(Iz),h]) rfl (by obtain⟨_,_,cB,_⟩:=aj.1;rw[show h=Value.slice _ _ _ from cB];simp[Instr.build,Instr.fill,go_sem,Dcl.cells,Typ.cells]) (st (mV (Iv every) (st (Ul (k:=.i64) (a:=1) (b:=every) rfl rfl (st (zV (parts':=[(0,.agg #[(Iz),h]),(1,Iv (max 1 every))]) (v:=.agg #[(Iz),h,Iv (max 1 every),(Iz),.pointer none,(Iz),(Iz)]) rfl (by simp[Instr.build,Instr.fill,go_sem,Dcl.cells,Typ.cells]) (st (zX (v:=.agg #[(Iz),h,Iv (max 1 every),(Iz),.pointer none,(Iz),(Iz)]) rfl ?_)))))))))
 intro w12 e bR
 have aL:=bQ.new bR
 refine st (aS (Ix e 0) (zb (za (za (R0 fun _=>st (yH rfl (st (lD dd0 tY rfl (zd (aL.b2) rfl) (st (zC (n:=d.types.length) uR rfl hdd0.sl (st (mV (Iv 0) (zb (zt ?_))))))))))))))
 have bS:Sep _ _ ((RowE (α:=Typ) own 83 Iz ([]:List Typ))::_) _:=aL.rowNil own 83
 refine zZ (fun mq σ B=> ∃(k:Nat) (vo:Value) (ρ:Env),mq=d.types.length-k∧σ=yf ρ [(2,Ix b2 0),(4,.pointer none),(5,Ix e 0),(21,dd0),(22,Iw d.types.length),(23,Iw k)]∧(k≤d.types.length)∧Sep G W ((RowE (α:=Typ) own 83 vo (d.types.take k))::(Blk e #[vo,h,Iv (max 1 every),(Iz),.pointer none,(Iz),(Iz)] 80)::(RowE (α:=Prj) own 73 h d.projs)::(Blk b2 (d.cells dd0 dd1).toArray 25)::Rs) B) ⟨0,(Iz),_,rfl,sSf,zY _,bS⟩ ?_
 rintro m16 σ17 w15 ⟨k,vo,ρl1,rfl,rfl,hkk,C⟩
 have bT:=C.r0
 have hr19s:_*24≤_:=bT.2
 refine za (R0 fun _=>st (zK (k:=.i64) (a:=((k:Nat):Int)) (b:=((d.types.length:Nat):Int)) rfl rfl (zb (za ?_))))
 cases P:decide (((k:Nat):Int)<((d.types.length:Nat):Int))
 have P:=fD P
 have hkn:k=d.types.length:=by omega
 rw[hkn,List.take_of_length_le (Nat.le_refl d.types.length)]at C
 have bU:=C.r0
 have hr21s:_*24≤_:=bU.2
 refine ze rfl (ya (zR (za (R0 fun _=>st (mV (Ix e 0) (st (mV (Ix e 0) (st (zm (b:=e) (o:=0) rfl (st (XU rfl (st (zh (k:=2) (cs:=[vo,h]) Tryz.isAgg25 Tryz.sizeOf25 rfl rfl (CellsAt.sub (zo (C.b1)) 0 (cs2:=[vo,h]) rfl) ?_)))))))))))))
 obtain⟨G22,bV,hB25,bW,bX⟩:=C.lend
 have ak:=RowE.rd bV
 have hrd28s:_*24≤_:=ak.small
 obtain⟨G30,bY,bZ,ca,cb⟩:=(bW.mv1).lend
 have al:=RowE.rd bY
 have hrd36s:_*40≤_:=al.small
 refine st (cL Tryz.call36 (JX (d:=d) (zv ak bZ) al od ca) ?_)
 rintro _ w38 ⟨y,rfl,cc⟩
 have cd:=cb _ _ cc
 have aM:=bX _ _ cd
 refine st (zm (b:=e) (o:=0) rfl (st (Zw rfl (st (Vo rfl (stn (ym (v:=Ix y 0) (c:=[vo,h,Iv (max 1 every),(Iz),.pointer none,(Iz),(Iz)]) (c':=[vo,h,Iv (max 1 every),(Iz),Ix y 0,(Iz),(Iz)]) Tryz.sizeOf74 rfl rfl (aM.b3) rfl rfl rfl ?_)))))))
 intro cC ce
 have aN:=aM.pt3 ce
 refine zb (za (za (R0 fun _=>st (mV (Ix e 0) (st (zm (b:=e) (o:=0) rfl (st (XU rfl (st (xJ rfl (st (lD h qR rfl (zd (aN.b3) rfl) (st (zC (n:=d.projs.length) tT rfl aj.1 (st (mV (Iv 0) (zb (zt ?_))))))))))))))))))
 have cf:Sep G W ((yx Iz ([]:List PR))::(RowE (α:=Typ) own 83 vo d.types)::(RowE (α:=Prj) own 73 h d.projs)::(ViewO y d [] [])::(Blk e #[vo,h,Iv (max 1 every),(Iz),Ix y 0,(Iz),(Iz)] 80)::(Blk b2 (d.cells dd0 dd1).toArray 25)::Rs) cC:=ZipW.nil Zj 92 aN
 have cg:(prs d []).length=d.projs.length:=Yr _ _
 refine zZ (fun mq σ B=> ∃(k:Nat) (vw:Value) (ρ:Env),mq=d.projs.length-k∧σ=yf ρ [(4,.pointer none),(5,Ix e 0),(73,h),(74,Iw d.projs.length),(75,Iw k)]∧(k≤d.projs.length)∧Sep G W ((yx vw ((prs d []).take k))::(RowE (α:=Typ) own 83 vo d.types)::(RowE (α:=Prj) own 73 h d.projs)::(ViewO y d [] [])::(Blk e #[vo,h,Iv (max 1 every),(Iz),Ix y 0,vw,(Iz)] 80)::(Blk b2 (d.cells dd0 dd1).toArray 25)::Rs) B) ⟨0,(Iz),_,rfl,sSf,zY _,cf⟩ ?_
 rintro m47 σ48 cD ⟨k,vw,ρl2,rfl,rfl,hkk,K⟩
 refine za (R0 fun _=>st (zK (k:=.i64) (a:=((k:Nat):Int)) (b:=((d.projs.length:Nat):Int)) rfl rfl (zb (za ?_))))
 cases Q:decide (((k:Nat):Int)<((d.projs.length:Nat):Int))
 have Q:=fD Q
 have hkn:k=d.projs.length:=by omega
 rw[hkn,List.take_of_length_le (Nat.le_of_eq cg)]at K
 refine ze rfl (ya (zR (za ?_)))
 obtain⟨F,aO⟩: ∃n:Nat,((n:Nat):Int)=max 1 every:=⟨(max 1 every).toNat,by omega⟩
 rw[←aO]at K
 have am:1≤F∧F≤9223372036854775807:=by omega
 have ch:Sep _ _ ((RowE (α:=Ev) own 55 Iz ([]:List Ev))::_) _:=K.rowNil own 55
 have ci:Sep G W ((xg Iz ([]:List (List PR)))::(RowE (α:=Ev) own 55 Iz ([]:List Ev))::(yx vw (prs d []))::(RowE (α:=Typ) own 83 vo d.types)::(RowE (α:=Prj) own 73 h d.projs)::(ViewO y d [] [])::(Blk e #[vo,h,Iw F,(Iz),Ix y 0,vw,(Iz)] 80)::(Blk b2 (d.cells dd0 dd1).toArray 25)::Rs) cD:=ZipW.nil PtA 77 ch
 refine zL (by kernel_rfl) (fun _=>(st (mV (Ix e 0) (st (cL oY (zaG hKN (ci.s8_gdebcafh) hd ((zY _)) ((by simp)) (am.1)) ?_)))))
 rintro _ cE ⟨vpts254,rfl,L⟩
 have cj:=L.r1
 have hr57s:_*24≤_:=cj.2
 have ck:=L.r2
 have hr58s:_*40≤_:=ck.2
 have cl:=L.r3
 have hr59s:_*96≤_:=cl.2
 refine zb (za (R0 fun _=>st (mV (Ix e 0) (st (aS (Ix e 0) (zb (zq (zU Tryz.results9 (show _=(Ix e 0:Value)from rfl) ?_))))))))
 have cm:(YH (([]:List Ev)).length F ([]:List (List PR)) (prs d []))=yK d F []:=Js (d:=d) (every:=F)
 rw[cm]at L
 have cn:Sep G W ((BaseO e d F ([]:List Ev))::(Blk b2 (d.cells dd0 dd1).toArray 25)::Rs) cE:=BaseO.close (d:=d) (every:=F) (evs:=([]:List Ev)) am (L.s8_abcdgefh)
 refine⟨e,F,rfl,?_,(cn.s2_a)⟩
 exact aO
 have Q:=tD Q
 refine zg rfl (zp (za (zt (za (R0 fun _=>?_)))))
 have co:k<d.projs.length:=bo
 refine st (zf (k:=5) (i:=k) tT oT rfl aj.1 rfl co ?_)
 have cp:k<d.projs.length:=bo
 obtain⟨_,_,aY,rfl,aP⟩:=K.rowAtD (i:=2) (j:=k) rfl cp
 refine st (zh (k:=5) sR oT rfl rfl aY (st (zG pY ?_)))
 intro w68 an cq
 have aQ:=K.new cq
 refine stn (zy (v:=.agg ((d.projs.getD k default).cells).toArray) (c':=((d.projs.getD k default).cells).toArray) oT rfl rfl (aQ.b0) (yo ⟨rfl,rfl,rfl,rfl,rfl,zl⟩) yqc rfl ?_)
 intro cF cr
 refine zb ?_
 obtain⟨D,ao,ct⟩:=ZipW.open ((aQ.pt0 cr).mv1)
 have ap:Sep G W ((RowE (α:=PtC) own 92 vw D)::(Star (Zip Zj D ((prs d []).take k)))::(Blk an ((d.projs.getD k default).cells).toArray 73)::(RowE (α:=Typ) own 83 vo d.types)::(RowE (α:=Prj) own 73 h d.projs)::(ViewO y d [] [])::(Blk e #[vo,h,Iv (max 1 every),(Iz),Ix y 0,vw,(Iz)] 80)::(Blk b2 (d.cells dd0 dd1).toArray 25)::Rs) cF:=ct
 have cu:=ap.r0
 have hr77s:_*8≤_:=cu.2
 have hsn9:D.length=k:=by rw[ao,List.length_take];omega
 refine WD4 ((fun TT aR ab ac ad ae af aq=>WF [fun vals B=>Sep G W (aR::ab::ac::ad::ae::af::aq::TT) B,fun vals B=> ∃(g:Nat),(vals 7=(Ix g 0:Value))∧Sep G W ((ProjO g (d.projs.getD k default) [])::aR::ab::ac::ad::ae::af::aq::TT) B,fun vals B=> ∃(g:Nat) (t:Nat),(vals 7=(Ix g 0:Value))∧(vals 8=((Iy t 1 1):Value))∧Sep G W ((Blk t #[Ix g 0] 92)::(ProjO g (d.projs.getD k default) [])::aR::ab::ac::ad::ae::af::aq::TT) B,fun vals B=> ∃(g:Nat) (t:Nat) (m:Value),(vals 7=(Ix g 0:Value))∧(vals 8=((Iy t 1 1):Value))∧(vals 9=(m:Value))∧Sep G W ((RowE (α:=PtC) own 92 m (D++[(⟨g⟩:PtC)]))::(ProjO g (d.projs.getD k default) [])::ab::ac::ad::ae::af::aq::TT) B,fun vals B=> ∃(g:Nat) (t:Nat) (m:Value),(vals 7=(Ix g 0:Value))∧(vals 8=((Iy t 1 1):Value))∧(vals 9=(m:Value))∧Sep G W ((RowE (α:=PtC) own 92 m (D++[(⟨g⟩:PtC)]))::(ProjO g (d.projs.getD k default) [])::ab::ac::ad::ae::af::(Blk e #[vo,h,Iv (max 1 every),(Iz),Ix y 0,m,(Iz)] 80)::TT) B]) ((Blk b2 (d.cells dd0 dd1).toArray 25)::Rs) (RowE (α:=PtC) own 92 vw D) (Star (Zip Zj D ((prs d []).take k))) (Blk an ((d.projs.getD k default).cells).toArray 73) (RowE (α:=Typ) own 83 vo d.types) (RowE (α:=Prj) own 73 h d.projs) (ViewO y d [] []) (Blk e #[vo,h,Iv (max 1 every),(Iz),Ix y 0,vw,(Iz)] 80)) (AF [Vl 0 (Ix e 0),Vl 1 (Ix e 0),Vl 2 (Ix e 0),Vl 3 (Ix e 4),Vl 4 (Ix e 5),Vl 5 vw,Vl 6 (.agg ((d.projs.getD k default).cells).toArray),fun _=>True,fun _=>True,fun _=>True,Vl 10 (Ix e 0),Vl 11 (Ix e 4),Vl 12 (Ix e 5),fun _=>True]) [[],[],[1],[1,2],[1,2,3],[1,2,3,4],[],[6],[6,7],[1,2,3,4,5,6,7,8],(rg 10),(rg 11),(rg 12),(rg 13)] [7,8,9,13] [(0,3),(0,2),(0,2),(0,2),(0,2),(0,2),(0,0),(0,0),(1,1),(2,2),(3,3),(3,3),(3,3),(3,3)] ap ⟨fun _ _ _ _ _ _ _=>obl rfl (mV (Ix e 0) dR),fun _ _ _ _ _ _ _=>obl rfl (mV (Ix e 0) dR),fun _ _ _ _ _ _ aZ=>obl rfl (zm (b:=e) (o:=0) (aZ 1 dc) dR),fun _ _ _ _ _ _ ba=>obl rfl (Zw (ba 2 dc) dR),fun _ _ _ _ _ _ bb=>obl rfl (YM (bb 3 dc) dR),?_,ob1 0 fun _ _ (bc:Sep _ _ _ _) _=>obl rfl (zh (k:=5) sR oT rfl rfl (zo (bc.b2)) dR),?_,?_,?_,fun _ _ _ _ _ _ bd=>obl rfl (zm (b:=e) (o:=0) (bd 0 dc) dR),fun _ _ _ _ _ _ be=>obl rfl (Zw (be 10 dc) dR),fun _ _ _ _ _ _ bf=>obl rfl (YM (bf 11 dc) dR),?_,zl⟩ ?_
 refine fun M _ _ cv cw R S=>?_
 have hkk:=UT cv cw
 rcases hkk with rfl|rfl|rfl
 have bg:Sep _ _ _ _:=R
 exact obl rfl (lD vw rT (S 4 dc) (zd (bg.b6) rfl) dR)
 obtain⟨g,z,bh⟩:=R
 exact obl rfl (lD vw rT (S 4 dc) (zd (bh.b7) rfl) dR)
 obtain⟨g,t,z,A,bi⟩:=R
 exact obl rfl (lD vw rT (S 4 dc) (zd (bi.b8) rfl) dR)
 refine ob1 0 fun vals _ (bj:Sep _ _ _ _) bk=>(obl rfl ((zW (f:=37) (vals:=[.agg ((d.projs.getD k default).cells).toArray]) (cap:=[]) rfl (yM ⟨(bk 6 dc),zl⟩) Tryz.call37 (zdB (p:=(d.projs.getD k default)) aP bj) ?_)))
 rintro _ w135 ⟨g,rfl,bl⟩
 exact fun T hv H=>⟨(exiA g (zA hv bl)),zl⟩
 refine ob1 1 fun _ _ bm _=>?_
 obtain⟨g,z,bn⟩:=bm
 refine obl rfl ((zH (k:=1) (parts':=[(0,Ix g 0)]) (c:=#[Ix g 0]) uT tR Tryz.zeroValue92 dc (Za ⟨rfl,z,zl⟩) kr ?_))
 intro w147 t bp
 exact fun T hv H=>⟨(exiA g (exiA t (zA ((H 7 dc).trans z) (zA hv (bn.new bp))))),zl⟩
 refine ob1 2 fun _ _ bq br=>?_
 obtain⟨g,t,z,A,ar⟩:=bq
 refine obl rfl ?_
 have aT:=ar.b0
 refine(yq (src:=own) (bytes:=8) (x1:=(⟨g⟩:PtC)) ((ar.s10_cbdefghij).emp1) el75 (br 5 (by decide)) A aT (fun _ _ _=>(show _ from⟨rfl,⟨⟩⟩)) yqb rfl ?_)
 intro m w158 au
 have bs:=au.r0
 have hr164s:_*8≤_:=bs.2
 exact fun T hv H=>⟨(exiA g (exiA t (exiA m (zA ((H 7 dc).trans z) (zA ((H 8 dc).trans A) (zA hv au)))))),zl⟩
 refine ob1 3 fun _ _ bt bu=>?_
 obtain⟨g,t,m,z,A,U,V⟩:=bt
 refine obl rfl ?_
 have av:=V.r0
 have hr197s:_*8≤_:=av.2
 refine(ym (v:=m) (c:=[vo,h,Iv (max 1 every),(Iz),Ix y 0,vw,(Iz)]) (c':=[vo,h,Iv (max 1 every),(Iz),Ix y 0,m,(Iz)]) Tryz.sizeOf75 (bu 12 dc) U (V.b7) av.1.one rfl rfl ?_)
 intro w195 bv
 exact fun T hv H=>⟨(exiA g (exiA t (exiA m (zA ((H 7 dc).trans z) (zA ((H 8 dc).trans A) (zA ((H 9 dc).trans U) (V.pt7 bv))))))),zl⟩
 intro vals cx bw hA274
 obtain⟨g,t,m,z,A,U,bx⟩:=bw
 refine yg (kv:=[(4,.pointer none),(5,Ix e 0),(73,h),(74,Iw d.projs.length),(75,Iw k),(76,.bool true),(77,Ix (sb h) (so h+k*5)),(78,.agg ((d.projs.getD k default).cells).toArray),(11,Ix an 0)]) sEv (fun ρw272=>(zb ?_))
 have bz:Sep G W ((yx m (((prs d []).take k)++[(((d.projs.getD k default),[]):PR)]))::(Blk an ((d.projs.getD k default).cells).toArray 73)::(RowE (α:=Typ) own 83 vo d.types)::(RowE (α:=Prj) own 73 h d.projs)::(ViewO y d [] [])::(Blk e #[vo,h,Iv (max 1 every),(Iz),Ix y 0,m,(Iz)] 80)::(Blk b2 (d.cells dd0 dd1).toArray 25)::Rs) cx:=ZipW.snoc (s:=(⟨g⟩:PtC)) (c:=(((d.projs.getD k default),[]):PR)) ao (bx.s9_acbdefghi)
 refine R0 fun _=>?_
 have bA:InR ((k+1:Nat):Int):=bo
 refine st (zO (r:=((k+1:Nat):Int)) (k:=.i64) (a:=((k:Nat):Int)) (b:=1) rfl rfl (by rw[show(((k:Nat):Int)+1:Int)=((k+1:Nat):Int)from bo];exact zw bA) (st (mV (Iw (k+1)) (zb ?_))))
 have aw:=bz.s7_acdefg
 have cG:(prs d []).take (k+1)=(((prs d []).take k)++[(((d.projs.getD k default),[]):PR)]):=by rw[List.take_getD (d:=default) (by omega),UN (by omega)];rfl
 rw[←cG]at aw
 exact⟨_,by omega,k+1,m,_,rfl,sSf,by omega,aw⟩
 have P:=tD P
 refine zg rfl (zp (za (zt (za (R0 fun _=>?_)))))
 have bB:k<d.types.length:=bo
 refine st (zf (k:=1) (i:=k) uR vT rfl hdd0.sl rfl bB ?_)
 have ax:k<d.types.length:=bo
 obtain⟨aU,E,hoke281⟩:=hdd0.typD ax
 have hsm283:((d.types.getD k default).fields).length*48≤140737488355328:=E.small
 have aV:=C.cells aU (hdd0.foot (ne_of_lt ax))
 refine st (zh (k:=1) Tryz.isAgg83 vT rfl rfl aV (st (zG uY ?_)))
 intro w287 ah bC
 have ay:=C.new bC
 refine stn (zy (v:=.agg ((d.types.getD k default).cells (zT W (sb dd0) (so dd0+k*1+0))).toArray) (c':=((d.types.getD k default).cells (zT W (sb dd0) (so dd0+k*1+0))).toArray) vT rfl rfl (ay.b0) (yo ⟨E.sl.one,zl⟩) yqc rfl ?_)
 intro w289 bD
 have az:=ay.pt0 bD
 refine zb (za (R0 fun _=>st (yU rfl (st (lD (zT W (sb dd0) (so dd0+k*1+0)) Tryz.isAgg81 rfl (zd (az.b0) rfl) (st (cL Tryz.call34 (WR (l:=(d.types.getD k default).fields) (vl:=(zT W (sb dd0) (so dd0+k*1+0))) E az) ?_)))))))
 rintro x w293 ⟨_,rfl,aA⟩
 have aB:=aA.r0
 have hr295s:_*48≤_:=aB.2
 refine st (aS x (zb (za (za (R0 fun _=>st (mV x (st (zC (n:=((d.types.getD k default).fields).length) vR rfl aB.1 (st (mV (Iv 0) (zb (zt ?_))))))))))))
 have bE:=aA.toMix
 refine zZ (fun mq σ B=> ∃(q:Nat) (ρ:Env),mq=((d.types.getD k default).fields).length-q∧σ=yf ρ [(2,Ix b2 0),(4,.pointer none),(5,Ix e 0),(7,Ix ah 0),(8,x),(21,dd0),(22,Iw d.types.length),(23,Iw k),(31,Iw (((d.types.getD k default).fields).length)),(32,Iw q)]∧(q≤((d.types.getD k default).fields).length)∧Sep G W ((RowE (α:=Bool×Fld) (mix (α:=Fld) G W) 87 x (ZE q ((d.types.getD k default).fields)))::(Blk ah ((d.types.getD k default).cells (zT W (sb dd0) (so dd0+k*1+0))).toArray 83)::(RowE (α:=Typ) own 83 vo (d.types.take k))::(Blk e #[vo,h,Iv (max 1 every),(Iz),.pointer none,(Iz),(Iz)] 80)::(RowE (α:=Prj) own 73 h d.projs)::(Blk b2 (d.cells dd0 dd1).toArray 25)::Rs) B) ⟨0,_,rfl,sSf,zY _,bE⟩ ?_
 rintro m298 σ299 cy ⟨q,ρl3,rfl,rfl,hkq,I⟩
 have X:=I.r0
 rw[xY]at X
 refine za (R0 fun _=>st (zK (k:=.i64) (a:=((q:Nat):Int)) (b:=((((d.types.getD k default).fields).length:Nat):Int)) rfl rfl (zb (za ?_))))
 cases J:decide (((q:Nat):Int)<((((d.types.getD k default).fields).length:Nat):Int))
 have J:=fD J
 have Y:Sep G W ((RowE (α:=Fld) own 87 x ((d.types.getD k default).fields))::(Blk ah ((d.types.getD k default).cells (zT W (sb dd0) (so dd0+k*1+0))).toArray 83)::(RowE (α:=Typ) own 83 vo (d.types.take k))::(Blk e #[vo,h,Iv (max 1 every),(Iz),.pointer none,(Iz),(Iz)] 80)::(RowE (α:=Prj) own 73 h d.projs)::(Blk b2 (d.cells dd0 dd1).toArray 25)::Rs) cy:=I.ofMix om
 have aC:=Y.r0
 have hr304s:_*48≤_:=aC.2
 refine ze rfl (ya (zR (R0 fun _=>st (mV (Ix e 0) (st (mV (Ix e 0) (st (zm (b:=e) (o:=0) rfl (st (XU rfl (st (yH rfl (st (lD vo tY rfl (zd (Y.b3) rfl) (st (mV x ?_))))))))))))))))
 have bF:Typ.Ok (d.types.getD k default):=⟨⟩
 refine st (zV (parts':=[(0,x)]) (v:=.agg ((d.types.getD k default).cells x).toArray) rfl (by obtain⟨_,_,bG,_⟩:=aC.1;rw[show x=Value.slice _ _ _ from bG];simp[Instr.build,Instr.fill,go_sem,Dcl.cells,Typ.cells]) (st (zH (k:=1) (parts':=[(0,.agg ((d.types.getD k default).cells x).toArray)]) (c:=((d.types.getD k default).cells x).toArray) uR vT uY (by decide) rfl (by kernel_rfl) ?_)))
 intro w309 b308 bH
 have aD:=Y.new bH
 have aW:=aD.b0
 refine st (yq (src:=own) (bytes:=24) (x1:=(d.types.getD k default)) (aD.s7_dbcefg) zdf rfl rfl aW (fun _ _ hN=>⟨_,rfl,RowE.soft hN,bF⟩) yqb rfl ?_)
 intro ai w311 Z
 have aE:=Z.r0
 have hr316s:_*24≤_:=aE.2
 refine st (zm (b:=e) (o:=0) rfl (st (XU rfl (st (yH rfl (stn (ym (v:=ai) (c:=[vo,h,Iv (max 1 every),(Iz),.pointer none,(Iz),(Iz)]) (c':=[ai,h,Iv (max 1 every),(Iz),.pointer none,(Iz),(Iz)]) Tryz.sizeOf22 rfl rfl (Z.b2) aE.1.one rfl rfl ?_)))))))
 intro w317 bI
 refine zb (R0 fun _=>?_)
 have bJ:InR ((k+1:Nat):Int):=bo
 refine st (zO (r:=((k+1:Nat):Int)) (k:=.i64) (a:=((k:Nat):Int)) (b:=1) rfl rfl (by rw[show(((k:Nat):Int)+1:Int)=((k+1:Nat):Int)from bo];exact zw bJ) (st (mV (Iw (k+1)) (zb ?_))))
 have aF:=(Z.pt2 bI).s5_acde
 have bK:(d.types.take (k+1))=(d.types.take k)++[(d.types.getD k default)]:=(List.take_getD om)
 rw[←bK]at aF
 exact⟨_,by omega,k+1,ai,_,rfl,sSf,by omega,aF⟩
 have J:=tD J
 refine zg rfl (zp (za (zt (za (R0 fun _=>st (mV (Iw q) (st (aS (Iw q) (zb (R0 fun _=>st (mV x (st (mV (Iw q) (st (mV x (st (mV (Iw q) ?_)))))))))))))))))
 have bL:q<((d.types.getD k default).fields).length:=bo
 refine st (zf (k:=4) (i:=q) vR vY rfl X.1 rfl bL (st (yT rfl ?_)))
 have aG:q<((d.types.getD k default).fields).length:=bo
 obtain⟨_,ag,O,rfl,N,aK⟩:=I.mixAt (i:=0) (j:=q) rfl (Nat.le_refl _) aG
 rw[←zJ default aG]at ag N aK
 refine st (lD O Tryz.isAgg85 rfl (ag.get (j:=3) rfl) (st (cL Tryz.call35 (Wi (l:=(((d.types.getD k default).fields).getD q default).moves) (vl:=O) N I) ?_)))
 rintro aX w327 ⟨_,rfl,aH⟩
 have aa:=aH.r0
 have hr329s:_*32≤_:=aa.2
 have bM:q<((d.types.getD k default).fields).length:=bo
 refine st (zf (k:=4) (i:=q) vR vY rfl X.1 rfl bM (st (yT rfl ?_)))
 have aI:q<((d.types.getD k default).fields).length:=bo
 refine stn (YW (α:=Fld) (j:=q) (o:=3) (u:=aX) (us:=[aX]) (aH.mv1) Tryz.sizeOf85 aI rfl rfl (congrArg Array.toList (xw aa.1.one)) (yQ rfl) (yo ⟨aa.1.one,zl⟩) (fun w f cs0 hr hN=>(by obtain⟨d,rfl,hd,hok⟩:=hr;exact⟨_,rfl,(by rw[←zJ default aI];exact RowE.soft hN),hok⟩)) ?_)
 intro w331 bN
 refine zb (R0 fun _=>?_)
 have bO:InR ((q+1:Nat):Int):=bo
 refine st (zO (r:=((q+1:Nat):Int)) (k:=.i64) (a:=((q:Nat):Int)) (b:=1) rfl rfl (by rw[show(((q:Nat):Int)+1:Int)=((q+1:Nat):Int)from bo];exact zw bO) (st (mV (Iw (q+1)) (zb ?_))))
 exact⟨_,by omega,q+1,_,rfl,sSf,by omega,bN⟩
theorem zdn {b:Nat}{d:Dcl}{every:Nat}{evs:List Ev}{n:Nat}(hn:n<evs.length)(hKN:RdS W G (.slice (some ⟨0,0,none⟩) 6 6) kindsL)(hS0:Sep G W ((BaseO b d every evs)::Rs) w)(hd:DclOk d)(hfew:evs.length≤1000000):Ret Tryz.prog 41 [.pointer (some ⟨b,0,none⟩),.int .i64 ((n:Nat):Int)] w (fun r w'=>r=(.tuple #[]:Value)∧Sep G W ((BaseO b d every (evs.take (n/every*every)))::Rs) w'):=by
 have hKNs:_*8≤_:=hKN.small
 refine zn (args:=[Ix b 0,Iw n]) Tryz.func41 rfl rfl ?_
 obtain⟨Y,p,q,aI,h,t,u,aT⟩:=BaseO.open hS0
 let aV:=ViewO h d (zk d evs) (zk d evs)
 have D:Sep G W ((Blk b #[p,q,Iw every,aI,Ix h 0,t,u] 80)::(RowE (α:=Typ) own 83 p d.types)::(RowE (α:=Prj) own 73 q d.projs)::(RowE (α:=Ev) own 55 aI evs)::aV::(yx t (prs d evs))::(xg u (yK d every evs))::Rs) w:=aT
 have aU:=D.r1
 have hr9s:_*24≤_:=aU.2
 have aL:=D.r2
 have hr10s:_*40≤_:=aL.2
 have aM:=D.r3
 have hr11s:_*96≤_:=aM.2
 refine za ?_
 have hdz9:(0:Int)≤((n:Nat):Int)/((every:Nat):Int):=Int.ediv_nonneg om om
 have hdv9:n/every≤n:=Nat.div_le_self ..
 have hdm9:n/every*every≤n:=Nat.div_mul_le_self ..
 have aN:=XK d every evs
 have hdd9:n/every≤evs.length/every:=Nat.div_le_div_right om
 refine zL (by kernel_rfl) (fun _=>(st (mV (Iw n) (st (mV (Ix b 0) (st (zm (b:=b) (o:=0) rfl (st (Kx rfl (st (lD (Iw every) mT rfl (zd (D.b0) rfl) (st (Kj (r:=((n/every:Nat):Int)) rfl rfl (by omega) (by rw[show Int.tdiv (((n:Nat):Int)) (((every:Nat):Int))=((n/every:Nat):Int)from(Int.ofNat_tdiv _ _).symm];exact zw (by omega)) (st (aS (Iw (n/every)) (zb (za ?_)))))))))))))))))
 obtain⟨l,e,rfl,hcap14⟩:=D.rowSome (i:=3) rfl om
 let aX:=Iy l evs.length e
 let aP:=Iy l ((n/every)*every) e
 have aO:Sep G W ((Blk b #[p,q,Iw every,aX,Ix h 0,t,u] 80)::(RowE (α:=Typ) own 83 p d.types)::(RowE (α:=Prj) own 73 q d.projs)::(RowE (α:=Ev) own 55 aX evs)::aV::(yx t (prs d evs))::(xg u (yK d every evs))::Rs) w:=D
 refine WD4 ((fun TT=>WF [fun vals wq=>Sep G W ((Blk b #[p,q,Iw every,aX,Ix h 0,t,u] 80)::TT) wq,fun vals wq=>Sep G W ((Blk b #[p,q,Iw every,aP,Ix h 0,t,u] 80)::TT) wq]) ((RowE (α:=Typ) own 83 p d.types)::(RowE (α:=Prj) own 73 q d.projs)::(RowE (α:=Ev) own 55 aX evs)::aV::(yx t (prs d evs))::(xg u (yK d every evs))::Rs)) (AF [Vl 0 (Ix b 0),Vl 1 (Ix b 0),Vl 2 (Ix b 0),Vl 3 (Ix b 3),Vl 4 aX,Vl 5 (Iw (n/every)),Vl 6 (Ix b 0),Vl 7 (Ix b 0),Vl 8 (Ix b 2),Vl 9 (Iw every),Vl 10 (Iw ((n/every)*every)),Vl 11 aP,Vl 12 (Ix b 0),Vl 13 (Ix b 3),fun _=>True]) [[],[],[1],[1,2],[1,2,3],[],[],[6],[6,7],[6,7,8],[5,6,7,8,9],[1,2,3,4,5,6,7,8,9,10],(rg 12),(rg 13),(rg 14)] [14] [(0,0),(0,0),(0,0),(0,0),(0,0),(0,0),(0,0),(0,0),(0,0),(0,0),(0,0),(0,0),(0,0),(0,0),(0,0)] aO ⟨fun _ _ _ _ _ _ _=>obl rfl (mV (Ix b 0) dR),fun _ _ _ _ _ _ _=>obl rfl (mV (Ix b 0) dR),fun _ _ _ _ _ _ aa=>obl rfl (zm (b:=b) (o:=0) (aa 1 dc) dR),fun _ _ _ _ _ _ ab=>obl rfl (ZS (ab 2 dc) dR),ob1 0 fun _ _ (ac:Sep _ _ _ _) ad=>obl rfl (lD aX nT (ad 3 dc) (zd (ac.b0) rfl) dR),fun _ _ _ _ _ _ _=>obl rfl (mV (Iw (n/every)) dR),fun _ _ _ _ _ _ _=>obl rfl (mV (Ix b 0) dR),fun _ _ _ _ _ _ ae=>obl rfl (zm (b:=b) (o:=0) (ae 6 dc) dR),fun _ _ _ _ _ _ af=>obl rfl (Kx (af 7 dc) dR),ob1 0 fun _ _ (ag:Sep _ _ _ _) ah=>obl rfl (lD (Iw every) mT (ah 8 dc) (zd (ag.b0) rfl) dR),?_,ob1 0 fun _ _ _ O=>obl rfl (Vg (k:=10) (g:=l) (n:=evs.length) (c:=e) (j:=((n/every)*every)) kT lT (O 4 dc) (O 10 dc) om om dR),fun _ _ _ _ _ _ ai=>obl rfl (zm (b:=b) (o:=0) (ai 0 dc) dR),fun _ _ _ _ _ _ aj=>obl rfl (ZS (aj 12 dc) dR),?_,zl⟩ ?_
 refine ob1 0 fun _ _ _ P=>(obl rfl ?_)
 have ak:InR (((n/every)*every:Nat):Int):=bo
 exact Uw (r:=(((n/every)*every:Nat):Int)) (k:=.i64) (a:=((n/every:Nat):Int)) (b:=((every:Nat):Int)) (P 5 (by decide)) (P 9 (by decide)) (by rw[show(((n/every:Nat):Int)*((every:Nat):Int):Int)=(((n/every)*every:Nat):Int)from bo];exact zw ak) dR
 refine ob1 0 fun _ _ (Q:Sep _ _ _ _) R=>(obl rfl ((ym (v:=aP) (c:=[p,q,Iw every,aX,Ix h 0,t,u]) (c':=[p,q,Iw every,aP,Ix h 0,t,u]) nY (R 13 dc) (R 11 dc) (Q.b0) rfl rfl rfl ?_)))
 intro w126 al
 exact fun vals' hv hv'=>⟨(Q.pt0 al),zl⟩
 intro vals N am hA232
 have an:Sep _ _ _ _:=am
 refine yg (kv:=[(0,Ix b 0),(1,Iw n),(5,Iw n),(6,Ix b 0),(7,Ix b 0),(8,Ix b 2),(9,Iw every),(10,Iw (n/every)),(4,Iw (n/every))]) sEv (fun ρw230=>(zb (za ?_)))
 have S:Sep G W ((RowE (α:=Ev) own 55 (Iy l ((n/every)*every) e) (evs.take (n/every*every)))::(Blk b #[p,q,Iw every,(Iy l ((n/every)*every) e),Ix h 0,t,u] 80)::(RowE (α:=Typ) own 83 p d.types)::(RowE (α:=Prj) own 73 q d.projs)::(ViewO h d (zk d evs) (zk d evs))::(yx t (prs d evs))::(xg u (yK d every evs))::Rs) N:=(an.mv3).rowCut rfl om
 have ao:=S.r0
 have hr236s:_*96≤_:=ao.2
 obtain⟨x,L,ap⟩:=ZipW.open (S.mv6)
 have F:Sep G W ((RowE (α:=PtV) own 77 u x)::(Star (Zip PtA x (yK d every evs)))::(RowE (α:=Ev) own 55 aP (evs.take (n/every*every)))::(Blk b #[p,q,Iw every,aP,Ix h 0,t,u] 80)::(RowE (α:=Typ) own 83 p d.types)::(RowE (α:=Prj) own 73 q d.projs)::aV::(yx t (prs d evs))::Rs) N:=ap
 have aq:=F.r0
 have hr241s:_*32≤_:=aq.2
 have hsl9:x.length=evs.length/every+1:=by rw[L,aN]
 obtain⟨m,f,rfl,hcap244⟩:=F.rowSome (i:=0) rfl om
 let aW:=Iy m (n/every+1) f
 let aY:=Blk b #[p,q,Iw every,aP,Ix h 0,t,aW] 80
 have T:Sep G W ((RowE (α:=PtV) own 77 (Iy m x.length f) x)::(Star (Zip PtA x (yK d every evs)))::(RowE (α:=Ev) own 55 aP (evs.take (n/every*every)))::(Blk b #[p,q,Iw every,aP,Ix h 0,t,(Iy m x.length f)] 80)::(RowE (α:=Typ) own 83 p d.types)::(RowE (α:=Prj) own 73 q d.projs)::aV::(yx t (prs d evs))::Rs) N:=F
 refine R0 fun _=>st (mV (Ix b 0) (st (zm (b:=b) (o:=0) rfl (st (Xw rfl (st (lD (Iy m x.length f) wR rfl (zd (T.b3) rfl) (st (mV (Iw (n/every)) ?_)))))))))
 have ar:InR ((n/every+1:Nat):Int):=bo
 refine st (zO (r:=((n/every+1:Nat):Int)) (k:=.i64) (a:=((n/every:Nat):Int)) (b:=1) rfl rfl (by rw[show(((n/every:Nat):Int)+1:Int)=((n/every+1:Nat):Int)from bo];exact zw ar) (st (UF (k:=2) (g:=m) (n:=x.length) (c:=f) (i:=(n/every+1)) wT sT rfl rfl (by omega) (by omega) (stn (Jn (α:=PtV) (g:=m) (n:=x.length) (c:=f) (i:=(n/every+1)) wT Tryz.zeroValue77 rfl (yo ⟨rfl,rfl,zl⟩) T rfl (by omega) rfl ?_)))))
 intro w247 E
 have au:=E.r0
 have hr249s:_*32≤_:=au.2
 refine zb (za (R0 fun _=>st (mV (Ix b 0) (st (mV (Ix b 0) (st (zm (b:=b) (o:=0) rfl (st (Xw rfl (st (lD (Iy m x.length f) wR rfl (zd (E.b3) rfl) (st (mV (Iw (n/every)) ?_)))))))))))))
 have av:InR ((n/every+1:Nat):Int):=bo
 refine st (zO (r:=((n/every+1:Nat):Int)) (k:=.i64) (a:=((n/every:Nat):Int)) (b:=1) rfl rfl (by rw[show(((n/every:Nat):Int)+1:Int)=((n/every+1:Nat):Int)from bo];exact zw av) (st (Vg (k:=2) (g:=m) (n:=x.length) (c:=f) (j:=(n/every+1)) wT sT rfl rfl (by omega) (by omega) (st (zm (b:=b) (o:=0) rfl (st (Xw rfl (stn (ym (v:=(Iy m (n/every+1) f)) (c:=[p,q,Iw every,(Iy l ((n/every)*every) e),Ix h 0,t,(Iy m x.length f)]) (c':=[p,q,Iw every,(Iy l ((n/every)*every) e),Ix h 0,t,(Iy m (n/every+1) f)]) Tryz.sizeOf78 rfl rfl (E.b3) rfl rfl rfl ?_)))))))))
 intro I aw
 refine zb ?_
 have U:Sep G W ((xg aW ((yK d every evs).take (n/every+1)))::(RowE (α:=Ev) own 55 aP (evs.take (n/every*every)))::aY::(RowE (α:=Typ) own 83 p d.types)::(RowE (α:=Prj) own 73 q d.projs)::aV::(yx t (prs d evs))::Rs) I:=ZipW.cut L (E.pt3 aw)
 have aQ:(yK d every evs).take (n/every+1)=(yK d every (evs.take (n/every*every))):=zbu Y.1 om
 rw[aQ]at U
 have aJ:(evs.take (n/every*every)).length=n/every*every:=by rw[List.length_take];omega
 have Z:(evs.take (n/every*every)).length/every=n/every:=by rw[aJ,Nat.mul_div_cancel _ (by omega)]
 have aR:(yK d every (evs.take (n/every*every))).length=n/every+1:=by rw[XK,Z]
 obtain⟨s,C,ax⟩:=ZipW.open U
 have M:Sep G W ((RowE (α:=PtV) own 77 aW s)::(Star (Zip PtA s (yK d every (evs.take (n/every*every)))))::(RowE (α:=Ev) own 55 aP (evs.take (n/every*every)))::aY::(RowE (α:=Typ) own 83 p d.types)::(RowE (α:=Prj) own 73 q d.projs)::aV::(yx t (prs d evs))::Rs) I:=ax
 have V:=M.r0
 have hr258s:_*32≤_:=V.2
 have hsl8:s.length=n/every+1:=by rw[C,aR]
 have X:Sep G W ((yx ((s.getD (n/every) default).v) ((yK d every (evs.take (n/every*every))).getD (n/every) default))::(Star ((Zip PtA s (yK d every (evs.take (n/every*every)))).set (n/every) Emp))::(RowE (α:=PtV) own 77 (Iy m (n/every+1) f) s)::(RowE (α:=Ev) own 55 (Iy l ((n/every)*every) e) (evs.take (n/every*every)))::(Blk b #[p,q,Iw every,(Iy l ((n/every)*every) e),Ix h 0,t,(Iy m (n/every+1) f)] 80)::(RowE (α:=Typ) own 83 p d.types)::(RowE (α:=Prj) own 73 q d.projs)::(ViewO h d (zk d evs) (zk d evs))::(yx t (prs d evs))::Rs) I:=ZipW.take C om (M.mv1)
 have aK:(yK d every (evs.take (n/every*every))).getD (n/every) default=prs d (evs.take (n/every*every)):=by rw[zbO (by rw[Z];omega),List.take_of_length_le (by rw[aJ];exact Nat.le_refl _)]
 rw[aK]at X
 have J:Sep G W ((yx ((s.getD (n/every) default).v) (prs d (evs.take (n/every*every))))::(Star ((Zip PtA s (yK d every (evs.take (n/every*every)))).set (n/every) Emp))::(RowE (α:=PtV) own 77 aW s)::(RowE (α:=Ev) own 55 aP (evs.take (n/every*every)))::aY::(RowE (α:=Typ) own 83 p d.types)::(RowE (α:=Prj) own 73 q d.projs)::aV::(yx t (prs d evs))::Rs) I:=X
 refine R0 fun _=>st (mV (Ix b 0) (st (mV (Ix b 0) (st (mV (Ix b 0) (st (zm (b:=b) (o:=0) rfl (st (Xw rfl (st (lD aW wR rfl (zd (J.b4) rfl) (st (mV (Iw (n/every)) ?_)))))))))))))
 have ay:n/every<s.length:=bo
 refine st (zf (k:=2) (i:=n/every) wT sT rfl V.1 rfl ay ?_)
 have az:n/every<s.length:=bo
 obtain⟨_,_,H,rfl,hpke263⟩:=J.rowAtD (i:=2) (j:=n/every) rfl az
 have H:CellsAt _ _ _ [Ix ((s.getD (n/every) default).b) 0,((s.getD (n/every) default).v)]:=H
 refine st (zh (k:=2) Tryz.isAgg77 sT rfl rfl H (st (cL Tryz.call60 (zbq hKN (J.s9_efgdabchi) hd ((by rw[List.length_take];omega))) ?_)))
 rintro _ w268 ⟨y,z,rfl,B⟩
 have aA:=B.r1
 have hr270s:_*24≤_:=aA.2
 have aB:=B.r2
 have hr271s:_*40≤_:=aB.2
 have aC:=B.r3
 have hr272s:_*96≤_:=aC.2
 refine st (zm (b:=b) (o:=0) rfl (st (Zw rfl (stn (zy (v:=.agg #[Ix y 0,z]) (c':=#[p,q,Iw every,aP,Ix y 0,z,aW]) sT rfl rfl (B.b0) (yo ⟨rfl,(B.zipSl (A:=Zj) (i:=6) rfl).one,zl⟩) yqc rfl ?_)))))
 intro K aD
 refine zb (Xe Tryz.results41 ?_)
 have aE:Sep G W ((yx ((s.getD (n/every) default).v) ((yK d every (evs.take (n/every*every))).getD (n/every) default))::(Star ((Zip PtA s (yK d every (evs.take (n/every*every)))).set (n/every) Emp))::(Blk b #[p,q,Iw every,aP,Ix y 0,z,aW] 80)::(RowE (α:=Typ) own 83 p d.types)::(RowE (α:=Prj) own 73 q d.projs)::(RowE (α:=Ev) own 55 aP (evs.take (n/every*every)))::(ViewO y d (zk d (evs.take (n/every*every))) (zk d (evs.take (n/every*every))))::(yx z (prs d (evs.take (n/every*every))))::(RowE (α:=PtV) own 77 aW s)::aV::(yx t (prs d evs))::Rs) K:=(by rw[aK];exact((B.pt0 aD).s11_ehabcdfgijk))
 have aF:Sep G W ((Star (Zip PtA s (yK d every (evs.take (n/every*every)))))::(Blk b #[p,q,Iw every,(Iy l ((n/every)*every) e),Ix y 0,z,(Iy m (n/every+1) f)] 80)::(RowE (α:=Typ) own 83 p d.types)::(RowE (α:=Prj) own 73 q d.projs)::(RowE (α:=Ev) own 55 (Iy l ((n/every)*every) e) (evs.take (n/every*every)))::(ViewO y d (zk d (evs.take (n/every*every))) (zk d (evs.take (n/every*every))))::(yx z (prs d (evs.take (n/every*every))))::(RowE (α:=PtV) own 77 (Iy m (n/every+1) f) s)::(ViewO h d (zk d evs) (zk d evs))::(yx t (prs d evs))::Rs) K:=ZipW.back (i:=(n/every)) C om aE
 have aG:Sep G W ((xg aW (yK d every (evs.take (n/every*every))))::(Blk b #[p,q,Iw every,aP,Ix y 0,z,aW] 80)::(RowE (α:=Typ) own 83 p d.types)::(RowE (α:=Prj) own 73 q d.projs)::(RowE (α:=Ev) own 55 aP (evs.take (n/every*every)))::(ViewO y d (zk d (evs.take (n/every*every))) (zk d (evs.take (n/every*every))))::(yx z (prs d (evs.take (n/every*every))))::aV::(yx t (prs d evs))::Rs) K:=ZipW.mk C (aF.mv7)
 have aH:Sep G W ((BaseO b d every (evs.take (n/every*every)))::aV::(yx t (prs d evs))::Rs) K:=BaseO.close (d:=d) (every:=every) (evs:=(evs.take (n/every*every))) Y (aG.s9_bcdefgahi)
 refine⟨rfl,(aH.s3_a)⟩
theorem yqf {p:Prop}(h:p:=by first|omega|(refine⟨?_,?_⟩<;>omega)):p:=h
theorem Ve {l:List Ev}{F k q:Nat}(hq:q=F)(hk:F+k<l.length):l.take (F+(k+1))=l.take (F+k)++[(l.drop q).getD k default]:=by
 subst hq
 rw[←Nat.add_assoc,List.take_getD (d:=default) hk,List.getD_eq_getElem?_getD,List.getD_eq_getElem?_getD,List.getElem?_drop]
theorem Xa {every:Nat}{l evs:List Ev}{p:Nat}(h:Zo l evs=p)(hp:p<evs.length):yv every l evs=p/every*every:=by unfold yv;rw[h,if_pos hp]
theorem VB {every:Nat}{l evs:List Ev}{p:Nat}(h:Zo l evs=p)(hp: ¬p<evs.length):yv every l evs=p:=by unfold yv;rw[h,if_neg hp]
theorem Ud {l evs:List Ev}{p q:Nat}(h:UZ l evs)(h1:p≤l.length∧p≤evs.length)(h3: ∀i,i<p→Zq (l.getD i default) (evs.getD i default))(hq:q≤p):evs.take q=l.take q:=JA h (by omega) (by omega) (fun i hi=>h3 i (by omega))
theorem xu {b:Nat}{d:Dcl}{every:Nat}{evs:List Ev}{vl:Value}{l:List Ev}(hl:RdS W G vl l)(hKN:RdS W G (.slice (some ⟨0,0,none⟩) 6 6) kindsL)(hS0:Sep G W ((BaseO b d every evs)::Rs) w)(hd:DclOk d)(hp:Xq d)(hone:UZ l evs)(hfew:evs.length≤1000)(hfl:l.length≤1000):Ret Tryz.prog 13 [.pointer (some ⟨b,0,none⟩),vl] w (fun r w'=>r=(.int .i64 (((l.length-yv every l evs):Nat):Int):Value)∧Sep G W ((BaseO b d every l)::Rs) w'):=by
 have hls:_*96≤_:=hl.small
 have hKNs:_*8≤_:=hKN.small
 refine zn (args:=[Ix b 0,vl]) Tryz.func13 rfl rfl ?_
 obtain⟨aK,U,V,j,s,X,t,bP⟩:=BaseO.open hS0
 have aa:Sep G W ((Blk b #[U,V,Iw every,j,Ix s 0,X,t] 80)::(RowE (α:=Typ) own 83 U d.types)::(RowE (α:=Prj) own 73 V d.projs)::(RowE (α:=Ev) own 55 j evs)::(ViewO s d (zk d evs) (zk d evs))::(yx X (prs d evs))::(xg t (yK d every evs))::Rs) w:=bP
 have bQ:=aa.r1
 have hr9s:_*24≤_:=bQ.2
 have bG:=aa.r2
 have hr10s:_*40≤_:=bG.2
 have aL:=aa.r3
 have hr11s:_*96≤_:=aL.2
 refine za (R0 fun _=>st (aS (Iv 0) (zb (za ?_))))
 obtain⟨bF,bH,ab,bI,bJ⟩:=(aa.mv3).lend
 have A:=RowE.rd bH
 have hrd19s:_*96≤_:=A.small
 refine R0 fun _=>st (aS (Iv 0) (zb (za (zt (zZ (fun mq σ wq=> ∃(p:Nat) (ρ:Env),mq=l.length-p∧σ=yf ρ [(0,Ix b 0),(1,vl),(4,Iv 0),(5,Iw p)]∧(p≤l.length∧p≤evs.length)∧(∀i,i<p→Zq (l.getD i default) (evs.getD i default))∧Sep bF w ((Blk b #[U,V,Iw every,j,Ix s 0,X,t] 80)::(RowE (α:=Typ) own 83 U d.types)::(RowE (α:=Prj) own 73 V d.projs)::(ViewO s d (zk d evs) (zk d evs))::(yx X (prs d evs))::(xg t (yK d every evs))::Rs) wq) ⟨0,_,rfl,sSf,⟨zY _,zY _⟩,(fun i h=>absurd h (yO i)),bI⟩ ?_)))))
 rintro m21 σ22 w20 ⟨p,ρl1,rfl,rfl,hpl,hsm,bK⟩
 refine za (za ?_)
 refine WD4 (WF [fun vals wq=>Sep bF w ((Blk b #[U,V,Iw every,j,Ix s 0,X,t] 80)::(RowE (α:=Typ) own 83 U d.types)::(RowE (α:=Prj) own 73 V d.projs)::(ViewO s d (zk d evs) (zk d evs))::(yx X (prs d evs))::(xg t (yK d every evs))::Rs) wq]) (AF [Vl 0 (Iw p),Vl 1 vl,Vl 2 (Iw l.length),Vl 3 (Ix b 0),Vl 4 (Ix b 0),Vl 5 (Ix b 3),Vl 6 j,Vl 7 (Iw evs.length),Vl 8 (Iv (min ((l.length:Nat):Int) ((evs.length:Nat):Int))),Vl 9 (.bool (decide (((p:Nat):Int)<(min ((l.length:Nat):Int) ((evs.length:Nat):Int))))),Vl 10 (.bool (decide (((p:Nat):Int)<(min ((l.length:Nat):Int) ((evs.length:Nat):Int))))),Vl 11 (if(decide (((p:Nat):Int)<(min ((l.length:Nat):Int) ((evs.length:Nat):Int))))=true then vl else undef),Vl 12 (if(decide (((p:Nat):Int)<(min ((l.length:Nat):Int) ((evs.length:Nat):Int))))=true then Iw p else undef),Vl 13 (if(decide (((p:Nat):Int)<(min ((l.length:Nat):Int) ((evs.length:Nat):Int))))=true then Ix (sb vl) (so vl+p*10)else undef),Vl 14 (if(decide (((p:Nat):Int)<(min ((l.length:Nat):Int) ((evs.length:Nat):Int))))=true then Ix (sb vl) (so vl+p*10)else undef),Vl 15 (if(decide (((p:Nat):Int)<(min ((l.length:Nat):Int) ((evs.length:Nat):Int))))=true then .agg #[Iv ((l.getD p default).origin),Iv ((l.getD p default).seq)]else undef),Vl 16 (if(decide (((p:Nat):Int)<(min ((l.length:Nat):Int) ((evs.length:Nat):Int))))=true then Ix b 0 else undef),Vl 17 (if(decide (((p:Nat):Int)<(min ((l.length:Nat):Int) ((evs.length:Nat):Int))))=true then Ix b 0 else undef),Vl 18 (if(decide (((p:Nat):Int)<(min ((l.length:Nat):Int) ((evs.length:Nat):Int))))=true then Ix b 3 else undef),Vl 19 (if(decide (((p:Nat):Int)<(min ((l.length:Nat):Int) ((evs.length:Nat):Int))))=true then j else undef),Vl 20 (if(decide (((p:Nat):Int)<(min ((l.length:Nat):Int) ((evs.length:Nat):Int))))=true then Iw p else undef),Vl 21 (if(decide (((p:Nat):Int)<(min ((l.length:Nat):Int) ((evs.length:Nat):Int))))=true then Ix (sb j) (so j+p*10)else undef),Vl 22 (if(decide (((p:Nat):Int)<(min ((l.length:Nat):Int) ((evs.length:Nat):Int))))=true then Ix (sb j) (so j+p*10)else undef),Vl 23 (if(decide (((p:Nat):Int)<(min ((l.length:Nat):Int) ((evs.length:Nat):Int))))=true then .agg #[Iv ((evs.getD p default).origin),Iv ((evs.getD p default).seq)]else undef),Vl 24 (if(decide (((p:Nat):Int)<(min ((l.length:Nat):Int) ((evs.length:Nat):Int))))=true then .bool (decide ((l.getD p default).origin=(evs.getD p default).origin∧(l.getD p default).seq=(evs.getD p default).seq))else undef),Vl 25 (.bool ((decide (((p:Nat):Int)<(min ((l.length:Nat):Int) ((evs.length:Nat):Int))))&&(decide ((l.getD p default).origin=(evs.getD p default).origin∧(l.getD p default).seq=(evs.getD p default).seq))))]) [[],[],[1],[],[3],[3,4],[3,4,5],[3,4,5,6],[1,2,3,4,5,6,7],(rg 9),(rg 10),(rg 11),(rg 11),(rg 13),(rg 14),(rg 15),(rg 11),[0,1,2,3,4,5,6,7,8,9,10,16],[0,1,2,3,4,5,6,7,8,9,10,16,17],[0,1,2,3,4,5,6,7,8,9,10,16,17,18],(rg 11),[0,1,2,3,4,5,6,7,8,9,10,16,17,18,19,20],[0,1,2,3,4,5,6,7,8,9,10,16,17,18,19,20,21],[0,1,2,3,4,5,6,7,8,9,10,16,17,18,19,20,21,22],(rg 24),(rg 25)] [] [(0,0),(0,0),(0,0),(0,0),(0,0),(0,0),(0,0),(0,0),(0,0),(0,0),(0,0),(0,0),(0,0),(0,0),(0,0),(0,0),(0,0),(0,0),(0,0),(0,0),(0,0),(0,0),(0,0),(0,0),(0,0),(0,0)] bK ⟨fun _ _ _ _ _ _ _=>obl rfl (mV (Iw p) dR),fun _ _ _ _ _ _ _=>obl rfl (mV vl dR),ob1 0 fun _ _ _ aZ=>obl rfl (zC (n:=l.length) kT (aZ 1 dc) (zv hl ab).sl dR),fun _ _ _ _ _ _ _=>obl rfl (mV (Ix b 0) dR),fun _ _ _ _ _ _ ba=>obl rfl (zm (b:=b) (o:=0) (ba 3 dc) dR),fun _ _ _ _ _ _ bb=>obl rfl (ZS (bb 4 dc) dR),ob1 0 fun _ _ (bc:Sep _ _ _ _) bd=>obl rfl (lD j nT (bd 5 dc) (zd (bc.b0) rfl) dR),ob1 0 fun _ _ _ be=>obl rfl (zC (n:=evs.length) kT (be 6 dc) A.sl dR),ob1 0 fun _ _ _ an=>obl rfl (zbk (k:=.i64) (a:=((l.length:Nat):Int)) (b:=((evs.length:Nat):Int)) (an 2 dc) (an 7 dc) dR),ob1 0 fun _ _ _ ao=>obl rfl (zK (k:=.i64) (a:=((p:Nat):Int)) (b:=min ((l.length:Nat):Int) ((evs.length:Nat):Int)) (ao 0 dc) (ao 8 dc) dR),fun _ _ _ _ _ _ bf=>obl rfl (zP (v:=.bool (decide (((p:Nat):Int)<(min ((l.length:Nat):Int) ((evs.length:Nat):Int))))) (bf 9 dc) dR),?_,?_,?_,?_,?_,?_,?_,?_,?_,?_,?_,?_,?_,?_,fun _ _ _ _ _ _ ap=>obl rfl (zx (b:=decide (((p:Nat):Int)<(min ((l.length:Nat):Int) ((evs.length:Nat):Int)))) (b':=decide ((l.getD p default).origin=(evs.getD p default).origin∧(l.getD p default).seq=(evs.getD p default).seq)) (ap 10 dc) (fun hbp=>(zr (ap 24 dc) (ifpC hbp))) dR),zl⟩ ?_
 refine fun _ _ _ _ _ _ bg=>(zN rfl rfl (bg 10 dc) (fun M=>?_) yd)
 have hl357:=tD M
 exact mV vl (yc M)
 refine fun _ _ _ _ _ _ bh=>(zN rfl rfl (bh 10 dc) (fun N=>?_) yd)
 have hl366:=tD N
 exact mV (Iw p) (yc N)
 refine ob1 0 fun _ _ _ ac=>(zN rfl rfl (ac 10 dc) (fun u=>?_) yd)
 have hl378:=tD u
 have bi:p<l.length:=bo
 exact zf (k:=10) (i:=p) kT lT (zr (ac 11 dc) (ifpC u)) (zv hl ab).sl (zr (ac 12 dc) (ifpC u)) bi (yc u)
 refine fun _ _ _ _ _ _ aq=>(zN rfl rfl (aq 10 dc) (fun B=>?_) yd)
 have hl389:=tD B
 exact xe (zr (aq 13 dc) (ifpC B)) (yc B)
 refine ob1 0 fun _ _ (bj:Sep _ _ _ _) ar=>(zN rfl rfl (ar 10 dc) (fun C=>?_) yd)
 have hl400:=tD C
 have au:p<l.length:=bo
 obtain⟨aM,al,hoke401⟩:=(zv hl ab).evD au
 have hsm403:((l.getD p default).deps).length*8≤140737488355328:=al.small
 have aN:=bj.cells aM ((zv hl ab).foot (ne_of_lt au))
 exact zh (k:=2) (cs:=[Iv ((l.getD p default).origin),Iv ((l.getD p default).seq)]) kR lR rfl (zr (ar 14 dc) (ifpC C)) (CellsAt.sub aN 0 (cs2:=[Iv ((l.getD p default).origin),Iv ((l.getD p default).seq)]) rfl) (yc C)
 refine fun _ _ _ _ _ _ bk=>(zN rfl rfl (bk 10 dc) (fun O=>?_) yd)
 have hl413:=tD O
 exact mV (Ix b 0) (yc O)
 refine fun _ _ _ _ _ _ av=>(zN rfl rfl (av 10 dc) (fun D=>?_) yd)
 have hl423:=tD D
 exact zm (b:=b) (o:=0) (zr (av 16 dc) (ifpC D)) (yc D)
 refine fun _ _ _ _ _ _ aw=>(zN rfl rfl (aw 10 dc) (fun E=>?_) yd)
 have hl433:=tD E
 exact ZS (zr (aw 17 dc) (ifpC E)) (yc E)
 refine ob1 0 fun _ _ (bl:Sep _ _ _ _) ax=>(zN rfl rfl (ax 10 dc) (fun F=>?_) yd)
 have hl444:=tD F
 exact lD j nT (zr (ax 18 dc) (ifpC F)) (zd (bl.b0) rfl) (yc F)
 refine fun _ _ _ _ _ _ bm=>(zN rfl rfl (bm 10 dc) (fun P=>?_) yd)
 have hl453:=tD P
 exact mV (Iw p) (yc P)
 refine ob1 0 fun _ _ _ ad=>(zN rfl rfl (ad 10 dc) (fun x=>?_) yd)
 have hl465:=tD x
 have bn:p<evs.length:=bo
 exact zf (k:=10) (i:=p) kT lT (zr (ad 19 dc) (ifpC x)) A.sl (zr (ad 20 dc) (ifpC x)) bn (yc x)
 refine fun _ _ _ _ _ _ ay=>(zN rfl rfl (ay 10 dc) (fun H=>?_) yd)
 have hl476:=tD H
 exact xe (zr (ay 21 dc) (ifpC H)) (yc H)
 refine ob1 0 fun _ _ (bp:Sep _ _ _ _) az=>(zN rfl rfl (az 10 dc) (fun I=>?_) yd)
 have hl487:=tD I
 have aA:p<evs.length:=bo
 obtain⟨aO,am,hoke488⟩:=A.evD aA
 have hsm490:((evs.getD p default).deps).length*8≤140737488355328:=am.small
 have aP:=bp.cells aO (A.foot (ne_of_lt aA))
 exact zh (k:=2) (cs:=[Iv ((evs.getD p default).origin),Iv ((evs.getD p default).seq)]) kR lR rfl (zr (az 22 dc) (ifpC I)) (CellsAt.sub aP 0 (cs2:=[Iv ((evs.getD p default).origin),Iv ((evs.getD p default).seq)]) rfl) (yc I)
 refine ob1 0 fun _ _ _ ae=>(zN rfl rfl (ae 10 dc) (fun y=>?_) yd)
 have hl503:=tD y
 exact ZP (e:=decide ((l.getD p default).origin=(evs.getD p default).origin∧(l.getD p default).seq=(evs.getD p default).seq)) (xs:=#[Iv ((l.getD p default).origin),Iv ((l.getD p default).seq)]) (ys:=#[Iv ((evs.getD p default).origin),Iv ((evs.getD p default).seq)]) KP (zr (ae 15 dc) (ifpC y)) (zr (ae 23 dc) (ifpC y)) (yc y)
 intro vals aQ bq br
 have aB:Sep _ _ _ _:=bq
 have bL:=br 25 dc
 refine yg (kv:=[(0,Ix b 0),(1,vl),(4,Iv 0),(5,Iw p),(34,.bool ((decide (((p:Nat):Int)<(min ((l.length:Nat):Int) ((evs.length:Nat):Int))))&&(decide ((l.getD p default).origin=(evs.getD p default).origin∧(l.getD p default).seq=(evs.getD p default).seq))))]) ⟨rfl,rfl,rfl,rfl,(by exact bL),zl⟩ (fun ρw512=>(zb ?_))
 cases Q:(decide (((p:Nat):Int)<(min ((l.length:Nat):Int) ((evs.length:Nat):Int))))&&(decide ((l.getD p default).origin=(evs.getD p default).origin∧(l.getD p default).seq=(evs.getD p default).seq))
 have S:=Q
 try simp only[zi]at Q
 have aR:Zo l evs=p:=Yc hpl.1 hpl.2 hsm (fun h1 h2 h3=>by
  have T:=S
  have h8:decide ((p:Int)<min ((l.length:Nat):Int) ((evs.length:Nat):Int))=true:=by rw[decide_eq_true_eq];omega
  rw[Bool.and_eq_false_iff]at T
  rcases T with T|T
  ·rw[h8]at T;cases T
  ·have h7:=fD T;exact h7 h3)
 refine ze rfl (ya (zR (za (za ?_))))
 have af:=bJ _ _ aB
 refine R0 fun _=>st (mV (Iw p) (st (mV (Ix b 0) (st (zm (b:=b) (o:=0) rfl (st (ZS rfl (st (lD j nT rfl (zd (af.b1) rfl) (st (zC (n:=evs.length) kT rfl aL.1 (st (zK (k:=.i64) (a:=((p:Nat):Int)) (b:=((evs.length:Nat):Int)) rfl rfl (zb (Yu (fun σ wq=> ∃(g:Nat) (ρ:Env),σ=yf ρ [(0,Ix b 0),(1,vl),(4,Iv 0)]∧(g=yv every l evs∧g≤l.length)∧Sep G W ((BaseO b d every (l.take g))::Rs) wq) ?_ ?_)))))))))))))))
 cases R:decide (((p:Nat):Int)<((evs.length:Nat):Int))
 have R:=fD R
 refine ze rfl (zp ?_)
 have ag:Sep G W ((BaseO b d every evs)::Rs) aQ:=BaseO.close (d:=d) (every:=every) (evs:=evs) aK (af.s7_bcdaefg)
 have aT:evs=l.take p:=by rw[←Ud (q:=p) hone hpl hsm (Nat.le_refl _)];exact(List.take_of_length_le (by omega)).symm
 try simp+zetaDelta only at ag
 rw[aT]at ag
 exact⟨rfl,p,_,yG ⟨(show _=(Ix b 0:Value)from rfl),(show _=(vl:Value)from rfl),(show _=(Iv 0:Value)from rfl),zl⟩,⟨(VB aR om).symm,by omega⟩,ag⟩
 have R:=tD R
 refine zg rfl ?_
 have bs:Sep G W ((BaseO b d every evs)::Rs) aQ:=BaseO.close (d:=d) (every:=every) (evs:=evs) aK (af.s7_bcdaefg)
 have bM:p/every*every≤p:=Nat.div_mul_le_self ..
 refine R0 fun _=>st (mV (Ix b 0) (st (mV (Iw p) ?_)))
 refine st (cL Tryz.call41 (zdn (n:=p) yqf hKN bs hd om) ?_)
 rintro _ w524 ⟨rfl,ah⟩
 refine zb ?_
 have aT:=Ud (q:=p/every*every) hone hpl hsm bM
 try simp+zetaDelta only at ah
 rw[aT]at ah
 exact⟨rfl,p/every*every,_,yG ⟨(show _=(Ix b 0:Value)from rfl),(show _=(vl:Value)from rfl),(show _=(Iv 0:Value)from rfl),zl⟩,⟨(Xa aR om).symm,by omega⟩,ah⟩
 rintro _ aU ⟨g,ρj1,rfl,bR,bt⟩
 refine za ?_
 have aV:(l.take g).length=g:=by rw[List.length_take];omega
 obtain⟨aW,aC,aD,ai,Y,aE,Z,bu⟩:=BaseO.open bt
 have m:Sep G W ((Blk b #[aC,aD,Iw every,ai,Ix Y 0,aE,Z] 80)::(RowE (α:=Typ) own 83 aC d.types)::(RowE (α:=Prj) own 73 aD d.projs)::(RowE (α:=Ev) own 55 ai (l.take g))::(ViewO Y d (zk d (l.take g)) (zk d (l.take g)))::(yx aE (prs d (l.take g)))::(xg Z (yK d every (l.take g)))::Rs) aU:=bu
 have bv:=m.r1
 have hr536s:_*24≤_:=bv.2
 have bw:=m.r2
 have hr537s:_*40≤_:=bw.2
 have aF:=m.r3
 have hr538s:_*96≤_:=aF.2
 refine R0 fun _=>st (mV vl (st (mV (Ix b 0) (st (zm (b:=b) (o:=0) rfl (st (ZS rfl (st (lD ai nT rfl (zd (m.b0) rfl) (st (zC (n:=(l.take g).length) kT rfl aF.1 ?_)))))))))))
 refine st (Ym (i:=(l.take g).length) (k:=10) (n:=l.length) kT lT rfl hl.sl rfl bo (st (aS (xU 10 vl ((l.take g).length) l.length) (zb (za (za ?_))))))
 have bx:Sep G W ((BaseO b d every (l.take g))::Rs) aU:=BaseO.close (d:=d) (every:=every) (evs:=(l.take g)) aW m
 have bN:(l.drop ((l.take g).length)).length=l.length-g:=by rw[List.length_drop,aV]
 refine R0 fun _=>st (mV (xU 10 vl ((l.take g).length) l.length) ?_)
 have L:=RdS.sub_lo (i:=(l.take g).length) hl (by first|omega|(simp only[List.length_drop,List.length_take];omega))
 have h540s:_*96≤_:=L.small
 refine st (zC (n:=(l.drop ((l.take g).length)).length) kT rfl L.sl (st (mV (Iv 0) (zb (zt (zZ (fun mq σ wq=> ∃(k:Nat) (ρ:Env),mq=(l.drop ((l.take g).length)).length-k∧σ=yf ρ [(0,Ix b 0),(6,(xU 10 vl ((l.take g).length) l.length)),(54,(xU 10 vl ((l.take g).length) l.length)),(55,Iw ((l.drop ((l.take g).length)).length)),(56,Iw k)]∧(k≤(l.drop ((l.take g).length)).length)∧Sep G W ((BaseO b d every (l.take (g+k)))::Rs) wq) ⟨0,_,rfl,sSf,zY _,bx⟩ ?_))))))
 rintro m542 σ543 w541 ⟨k,ρl2,rfl,rfl,hkk,J⟩
 refine za (R0 fun _=>st (zK (k:=.i64) (a:=((k:Nat):Int)) (b:=(((l.drop ((l.take g).length)).length:Nat):Int)) rfl rfl (zb (za ?_))))
 cases K:decide (((k:Nat):Int)<(((l.drop ((l.take g).length)).length:Nat):Int))
 have hc545r:=K
 have K:=fD K
 refine ze rfl (ya (zR (za (R0 fun _=>st (mV (xU 10 vl ((l.take g).length) l.length) (st (zC (n:=(l.drop ((l.take g).length)).length) kT rfl L.sl (st (aS (Iw ((l.drop ((l.take g).length)).length)) (zb (zq (zU Tryz.results13 (show _=(Iw ((l.drop ((l.take g).length)).length):Value)from rfl) ?_))))))))))))
 have bO:l.take (g+k)=l:=List.take_of_length_le om
 try simp+zetaDelta only at J
 rw[bO]at J
 refine⟨?_,J⟩
 rw[bN,bR.1]
 have K:=tD K
 refine zg rfl (zp (za (zt (za (R0 fun _=>?_)))))
 have bz:k<(l.drop ((l.take g).length)).length:=bo
 refine st (zf (k:=10) (i:=k) kT lT rfl L.sl rfl bz ?_)
 have aG:k<(l.drop ((l.take g).length)).length:=bo
 obtain⟨aX,z,aJ⟩:=L.evD aG
 have hsm549:(((l.drop ((l.take g).length)).getD k default).deps).length*8≤140737488355328:=z.small
 have aY:=J.cells aX (L.foot (ne_of_lt aG))
 refine st (zh (k:=10) qT lT rfl rfl aY (st (zG rR ?_)))
 intro w553 b552 bA
 have aH:=J.new bA
 refine stn (zy (v:=.agg (((l.drop ((l.take g).length)).getD k default).cells (zT W (sb (xU 10 vl ((l.take g).length) l.length)) (so (xU 10 vl ((l.take g).length) l.length)+k*10+3))).toArray) (c':=(((l.drop ((l.take g).length)).getD k default).cells (zT W (sb (xU 10 vl ((l.take g).length) l.length)) (so (xU 10 vl ((l.take g).length) l.length)+k*10+3))).toArray) lT rfl rfl (aH.b0) (yo ⟨rfl,rfl,rfl,z.sl.one,rfl,rfl,rfl,rfl,rfl,rfl,zl⟩) yqc rfl ?_)
 intro w555 bB
 have aI:=aH.pt0 bB
 refine zb (zL (by kernel_rfl) (fun _=>(st (mV (Ix b 0) (st (zh (k:=10) qT lT rfl rfl (zo (aI.b0)) (st (cL Tryz.call42 (zdp (e:=((l.drop ((l.take g).length)).getD k default)) z aJ hKN (aI.mv1) hd hp ((by rw[List.length_take];omega))) ?_))))))))
 rintro _ w559 ⟨rfl,bC⟩
 refine zb (R0 fun _=>?_)
 have bD:InR ((k+1:Nat):Int):=bo
 refine st (zO (r:=((k+1:Nat):Int)) (k:=.i64) (a:=((k:Nat):Int)) (b:=1) rfl rfl (by rw[show(((k:Nat):Int)+1:Int)=((k+1:Nat):Int)from bo];exact zw bD) (st (mV (Iw (k+1)) (zb ?_))))
 have aj:=bC.s2_a
 have bS:l.take (g+(k+1))=((l.take (g+k))++[((l.drop ((l.take g).length)).getD k default)]):=Ve aV om
 try simp+zetaDelta only at aj
 rw[←bS]at aj
 exact⟨_,by omega,k+1,_,rfl,sSf,by omega,aj⟩
 have S:=Q
 try simp only[zi]at Q
 refine zg rfl (zp (zt (R0 fun _=>st (mV (Iw p) ?_))))
 have bE:InR ((p+1:Nat):Int):=bo
 refine st (zO (r:=((p+1:Nat):Int)) (k:=.i64) (a:=((p:Nat):Int)) (b:=1) rfl rfl (by rw[show(((p:Nat):Int)+1:Int)=((p+1:Nat):Int)from bo];exact zw bE) (st (aS (Iw (p+1)) (zb ?_))))
 exact⟨_,by omega,p+1,_,rfl,sSf,⟨by omega,by omega⟩,(xf hsm (by have T:=S;simp only[Bool.and_eq_true,decide_eq_true_eq]at T;exact T.2)),aB⟩
end
section
open Go.Proofs Go.Shelf
def Qn:Go.Shelf.Ren:=⟨fun|6=>78|15=>93|14=>92|28=>111|29=>112|20=>103|21=>104|22=>105|23=>106|24=>107|25=>108|26=>109|27=>110|46=>122|47=>123|48=>124|49=>125|50=>126|57=>139|n=>n,fun|22=>67|24=>70|25=>140|3=>3|39=>108|0=>0|53=>169|55=>171|4=>4|46=>163|45=>162|50=>145|5=>5|9=>9|66=>186|70=>190|76=>196|77=>197|n=>n,fun|n=>n⟩
theorem zca:Go.Proofs.SlLaysF0.n6 Tryz.prog Qn:={
 mixed:=by kernel_rfl,
 f6:=⟨Tryz.f78.name,by decide,Tryz.func78.trans (congrArg some (by kernel_rfl))⟩,
 f14:=⟨Tryz.f92.name,by decide,Tryz.func92.trans (congrArg some (by kernel_rfl))⟩,
 f15:=Tryz.func93.trans (congrArg some (by kernel_rfl)),
 f20:=⟨Tryz.f103.name,by decide,Tryz.func103.trans (congrArg some (by kernel_rfl))⟩,
 f21:=⟨Tryz.f104.name,by decide,Tryz.func104.trans (congrArg some (by kernel_rfl))⟩,
 f22:=⟨Tryz.f105.name,by decide,Tryz.func105.trans (congrArg some (by kernel_rfl))⟩,
 f23:=⟨Tryz.f106.name,by decide,Tryz.func106.trans (congrArg some (by kernel_rfl))⟩,
 f24:=⟨Tryz.f107.name,by decide,Tryz.func107.trans (congrArg some (by kernel_rfl))⟩,
 f25:=⟨Tryz.f108.name,by decide,Tryz.func108.trans (congrArg some (by kernel_rfl))⟩,
 f26:=⟨Tryz.f109.name,by decide,Tryz.func109.trans (congrArg some (by kernel_rfl))⟩,
 f27:=⟨Tryz.f110.name,by decide,Tryz.func110.trans (congrArg some (by kernel_rfl))⟩,
 f28:=Tryz.func111.trans (congrArg some (by kernel_rfl)),
 f29:=Tryz.func112.trans (congrArg some (by kernel_rfl)),
 f46:=⟨Tryz.f122.name,by decide,Tryz.func122.trans (congrArg some (by kernel_rfl))⟩,
 f47:=Tryz.func123.trans (congrArg some (by kernel_rfl)),
 f48:=Tryz.func124.trans (congrArg some (by kernel_rfl)),
 f49:=⟨Tryz.f125.name,by decide,Tryz.func125.trans (congrArg some (by kernel_rfl))⟩,
 f50:=⟨Tryz.f126.name,by decide,Tryz.func126.trans (congrArg some (by kernel_rfl))⟩,
 f57:=⟨Tryz.f139.name,by decide,Tryz.func139.trans (congrArg some (by kernel_rfl))⟩,
 t0:=Tryz.underlying0,
 a0:=Tryz.isAgg0,
 z0:=Tryz.sizeOf0,
 v0:=Tryz.zeroValue0,
 t3:=Tryz.underlying3,
 a3:=mT,
 z3:=Tryz.sizeOf3,
 v3:=Tryz.zeroValue3,
 t4:=Tryz.underlying4,
 a4:=Tryz.isAgg4,
 z4:=Tryz.sizeOf4,
 v4:=Tryz.zeroValue4,
 t5:=Tryz.underlying5,
 a5:=Tryz.isAgg5,
 z5:=Tryz.sizeOf5,
 v5:=Tryz.zeroValue5,
 t9:=Tryz.underlying9,
 a9:=Tryz.isAgg9,
 z9:=Tryz.sizeOf9,
 v9:=Tryz.zeroValue9,
 t22:=wY,
 a22:=Tryz.isAgg67,
 z22:=Tryz.sizeOf67,
 v22:=Tryz.zeroValue67,
 t25:=Tryz.underlying140,
 a25:=Tryz.isAgg140,
 z25:=Tryz.sizeOf140,
 v25:=Tryz.zeroValue140,
 t39:=Tryz.underlying108,
 a39:=Tryz.isAgg108,
 z39:=Tryz.sizeOf108,
 v39:=Tryz.zeroValue108,
 t45:=Tryz.underlying162,
 a45:=Tryz.isAgg162,
 z45:=Tryz.sizeOf162,
 v45:=Tryz.zeroValue162,
 t46:=Tryz.underlying163,
 a46:=Tryz.isAgg163,
 z46:=Tryz.sizeOf163,
 v46:=Tryz.zeroValue163,
 t50:=Tryz.underlying145,
 a50:=Tryz.isAgg145,
 z50:=Tryz.sizeOf145,
 v50:=Tryz.zeroValue145,
 t53:=Tryz.underlying169,
 a53:=Tryz.isAgg169,
 z53:=Tryz.sizeOf169,
 v53:=Tryz.zeroValue169,
 t55:=Tryz.underlying171,
 a55:=Tryz.isAgg171,
 z55:=Tryz.sizeOf171,
 v55:=Tryz.zeroValue171,
 t66:=Tryz.underlying186,
 a66:=Tryz.isAgg186,
 z66:=Tryz.sizeOf186,
 v66:=Tryz.zeroValue186,
 t70:=Tryz.underlying190,
 a70:=Tryz.isAgg190,
 z70:=Tryz.sizeOf190,
 v70:=Tryz.zeroValue190,
 t76:=Tryz.underlying196,
 a76:=Tryz.isAgg196,
 z76:=Tryz.sizeOf196,
 v76:=Tryz.zeroValue196,
 t77:=Tryz.underlying197,
 a77:=Tryz.isAgg197,
 z77:=Tryz.sizeOf197,
 v77:=Tryz.zeroValue197
}
end
section
open Go.Proofs Go.RowKit Go.Sort Go.Shelf
theorem zal {w w':World}(h:Ext w w'): ∃q os,w'=grow (w.drewN q) os:=by
 obtain⟨hs,ht,hd,ho,hp⟩:=w
 obtain⟨hs',ht',hd',ho',hp'⟩:=w'
 refine⟨hd'-hd,(hs'.toList.drop hs.size).toArray,?_⟩
 have e1:ho'=ho:=h.os
 have e2:ht'=ht:=h.tape
 have e3:hp'=hp:=h.output
 have e4:hd≤hd':=h.drawn
 have e5:hs.size≤hs'.size:=h.size
 have e6: ∀b,b<hs.size→hs'[b]? =hs[b]? :=fun b hb=>h.block b hb (fun h=>h)
 have eh:hs'=hs++(hs'.toList.drop hs.size).toArray:=by
  apply Array.ext_getElem?
  intro i
  rw[Array.getElem?_append]
  split
  ·rename_i hi;exact e6 i hi
  ·rename_i hi
   simp only[List.getElem?_toArray,List.getElem?_drop,Array.getElem?_toList]
   rw[show hs.size+(i-hs.size)=i by omega]
 have ed:hd'=hd+(hd'-hd):=by omega
 subst e1 e2 e3
 simp only[grow,World.drewN]
 rw[←eh,←ed]
theorem zar {P:Program}{α:Type}[Inhabited α]{g k:Nat}{cap:List Value}{enc:α→List Value}{cf:α→α→Int}{blk off size:Nat}{w:World}
 (h: ∀W (x y:α),(∃d:Array α,d.size=size∧ ∃m os,W=sortWorldK enc k w blk off m d os)→Ret P g ([.agg (enc x).toArray,.agg (enc y).toArray]++cap) W (fun r W'=>r=.int .i64 (cf x y)∧Ext W W')):CmpLays P g cap.toArray enc k cf blk off size w:=by
 intro m os dk hs x y
 have:=h _ x y ⟨dk,hs,m,os,rfl⟩
 unfold Ret at this
 have e:([Value.agg (enc x).toArray,Value.agg (enc y).toArray]++cap).toArray=#[.agg (enc x).toArray,.agg (enc y).toArray]++cap.toArray:=by simp
 rw[e]at this
 refine Calls.mono this ?_
 rintro e w' ⟨v,rfl,rfl,hx⟩
 exact⟨rfl,zal hx⟩
theorem Wu {w:World}{b:Nat}{f:Array Value→Array Value}{c:Array Value}{T:TypeId}{fz:Nat×Nat}(h:w.heap[b]? =some (.cells c T fz)):(mapBlock w b f).heap[b]? =some (.cells (f c) T fz):=by
 unfold mapBlock
 simp[Array.getElem?_modify,h,onCells]
theorem YB {w:World}{b i:Nat}{f:Array Value→Array Value}(h:i≠b):(mapBlock w b f).heap[i]? =w.heap[i]? :=by
 unfold mapBlock
 simp[Array.getElem?_modify,Ne.symm h]
theorem ZR {w:World}{b:Nat}{f:Array Value→Array Value}:(mapBlock w b f).heap.size=w.heap.size:=by
 unfold mapBlock;simp
theorem WW {α:Type}[Inhabited α]{enc:α→List Value}{k blk off m:Nat}{w:World}{d:Array α}{os:Array Obj}(hb:blk<w.heap.size):Chg (fun i=>i=blk) w (sortWorldK enc k w blk off m d os):=by
 unfold sortWorldK putRowK putRow
 have hs:w.heap.size≤(grow (mapBlock (Sort.ahead w m) blk (putCells id off (flatK enc k d))) os).heap.size:=by
  show _≤(_++os).size
  rw[Array.size_append,ZR]
  exact Nat.le_add_right _ _
 have hg: ∀i,i<w.heap.size→(grow (mapBlock (Sort.ahead w m) blk (putCells id off (flatK enc k d))) os).heap[i]? =(mapBlock (Sort.ahead w m) blk (putCells id off (flatK enc k d))).heap[i]? :=by
  intro i hi
  show(_++os)[i]? =_
  rw[Array.getElem?_append,if_pos (by rw[ZR];exact hi)]
 refine⟨rfl,rfl,rfl,hs,fun i hi hne=>?_,?_,Nat.le_add_right _ _⟩
 ·rw[hg i hi,YB hne];rfl
 ·rintro i ⟨c,T,hc⟩
  have hi:=(Array.getElem?_eq_some_iff.1 hc).1
  by_cases h:i=blk
  ·subst h
   exact⟨_,T,by rw[hg i hi];exact Wu (w:=Sort.ahead w m) hc⟩
  ·exact⟨c,T,by rw[hg i hi,YB h];exact hc⟩
theorem UK {α:Type}[Inhabited α]{enc:α→List Value}{k blk off m:Nat}{w:World}{d:Array α}{os:Array Obj}{c:Array Value}{T:TypeId}(hb:w.heap[blk]? =some (.cells c T)):
 (sortWorldK enc k w blk off m d os).heap[blk]? =some (.cells (putCells id off (flatK enc k d) c) T):=by
 unfold sortWorldK putRowK putRow
 have hi:=(Array.getElem?_eq_some_iff.1 hb).1
 show(_++os)[blk]? =_
 rw[Array.getElem?_append,if_pos (by rw[ZR];exact hi)]
 exact Wu (w:=Sort.ahead w m) hb
theorem Ja {α:Type}[Rep α]{w:World}{F:Nat→Prop}{enc:α→List Value}: ∀{L:List α},(∀x∈L,Rep.rd w F (enc x) x)→Els w F (L.map enc) L
 |[],_=>trivial
 |x::L,h=>⟨h x (List.mem_cons_self ..),Ja fun y hy=>h y (List.mem_cons_of_mem _ hy)⟩
theorem Kc {α:Type}[Rep α][Inhabited α]{P:Program}{ρ:Ren}(L:SlLaysF0.n6 P ρ)(aE: ∀w,(isAgg (ρ.t 24)).run P w=.ok true w)(zE: ∀w,(sizeOf (ρ.t 24)).run P w=.ok (Rep.k α) w)
 {enc:α→List Value} (henc: ∀w F cs (x:α),Rep.rd w F cs x→cs=enc x) (hlen: ∀x,(enc x).length=Rep.k α) (hone: ∀x,∀u∈enc x,u.oneCell'=true) {cf:α→α→Int} (hO:SWO (ltOf cf)) {g:Nat} {cap:List Value} (eg: ∀args w,(callFunc g args).run P w=.ok (.enter g args) w)
 {T:TypeId} {lo:Nat} {w:World} {F:Nat→Prop} {v:Value} {l:List α} (ho:OwnS T lo w F v l)
 (hcmp: ∀W (x y:α),Ret P g ([.agg (enc x).toArray,.agg (enc y).toArray]++cap) W (fun r W'=>r=.int .i64 (cf x y)∧Ext W W'))
 (hre: ∀w' (x:α) (F:Nat→Prop) cs,Rep.rd w F cs x→Rep.rd w' F cs x) (hbs:l.length<4611686018427387904):
 Ret P (ρ.f 6) ([v,.func (.func g) #[] cap.toArray]) w (fun r w'=>r=.tuple #[]∧Chg (fun b=>v.ownBlock=some b) w w'∧ ∃l',l'.Perm l∧l'.Pairwise (fun a b=>ltOf cf b a=false)∧OwnS T lo w' F v l'):=by
 by_cases hne:l=[]
 ·subst hne
  obtain⟨a0,c0,rfl,_,_⟩:=ho.isSl
  have hc:=AnyF.slices_SortFunc_none L a0 c0 (.func (.func g) #[] cap.toArray) w
  unfold Ret
  refine Calls.mono hc ?_
  rintro e w' ⟨he,rfl⟩
  exact⟨.tuple #[],he,rfl,Chg.refl _ _,[],List.Perm.refl _,List.Pairwise.nil,ho⟩
 obtain⟨css,hE,hown⟩:=ho.css
 rcases hown.2 with⟨rfl,h0⟩|⟨gb,capn,cur,rfl,hg,hb,hn,hm,hs,ht⟩
 ·exact absurd (List.length_eq_zero_iff.1 h0) hne
 have hblk:=(Array.getElem?_eq_some_iff.1 hb).1
 have hcs: ∀i (h:i<l.length),CellsAt w gb (i*Rep.k α) (enc l[i])∧Rep.rd w F (enc l[i]) l[i]:=by
  intro i hi
  obtain⟨cs,hr,hc⟩:=hE.at_ i hi
  have e:=henc w F cs _ hr
  subst e
  refine⟨fun j hj=>?_,hr⟩
  have h3:=hc j hj
  rw[←ht,List.getElem?_take]at h3
  split at h3
  ·exact Zk hb (by simpa using h3)
  ·cases h3
 have kpos:0<Rep.k α:=Rep.kpos
 have hH:HoldsK enc (Rep.k α) w gb 0 l.toArray:=by
  intro j hj
  have hj':j<l.length*Rep.k α:=by simpa using hj
  have hd:j/Rep.k α<l.length:=(Nat.div_lt_iff_lt_mul kpos).2 hj'
  have hm':j%Rep.k α<(enc l[j/Rep.k α]).length:=by rw[hlen];exact Nat.mod_lt _ kpos
  have h1:=(hcs (j/Rep.k α) hd).1 (j%Rep.k α) hm'
  refine⟨?_,by simp[World.frozen?,hb]⟩
  rw[get_flatK _ _ _ _ (by simpa using hj'),Nat.zero_add]
  rw[show j/Rep.k α*Rep.k α+j%Rep.k α=j by rw[Nat.mul_comm];exact Nat.div_add_mod j (Rep.k α)]at h1
  rw[h1]
  have e1:l.toArray[j/Rep.k α]! =l[j/Rep.k α]:=by rw[getElem!_pos l.toArray (j/Rep.k α) (by simpa using hd)];simp
  have e2:(enc l[j/Rep.k α])[j%Rep.k α]! =(enc l[j/Rep.k α])[j%Rep.k α]:=getElem!_pos (enc l[j/Rep.k α]) (j%Rep.k α) hm'
  rw[e1,e2];rfl
 have hc:=AnyQ.slices_SortFunc L (Rep.k α) aE zE enc hlen hone cf hO g cap.toArray gb 0 capn l.toArray w eg (zar fun W x y _=>hcmp W x y) hH hblk (by simpa using hbs)
 have ea:([Value.slice (some ⟨gb,0,none⟩) l.length capn,.func (.func g) #[] cap.toArray]).toArray=#[Value.slice (some ⟨gb,0,none⟩) l.toArray.size capn,.func (.func g) #[] cap.toArray]:=by simp
 unfold Ret
 rw[ea]
 refine Calls.mono hc ?_
 rintro e w' ⟨he,d',n,os,hp,hsd,hw⟩
 refine⟨.tuple #[],he,rfl,?_,d'.toList,?_,?_,?_⟩
 ·have hgo:(fun b=>(Value.slice (some ⟨gb,0,none⟩) l.length capn).ownBlock=some b)=fun b=>b=gb:=by funext b;simp[Value.ownBlock,eq_comm]
  rw[hgo,hw];exact WW hblk
 ·have h2:=hp.2.2
  have hsz:d'.size=l.length:=by simpa using hp.1
  simp at h2
  rwa [List.take_of_length_le (by simp[hsz])]at h2
 ·rw[List.pairwise_iff_getElem]
  intro i j hi hj hij
  have hsz:d'.size=l.length:=by simpa using hp.1
  have hi':i<d'.size:=by simpa using hi
  have hj':j<d'.size:=by simpa using hj
  have:=hsd i j (Nat.zero_le _) hij (by simpa[hsz]using hj')
  rw[getElem!_pos d' j hj',getElem!_pos d' i hi']at this
  simpa using this
 ·have hsz:d'.size=l.length:=by simpa using hp.1
  have hperm:d'.toList.Perm l:=by
   have h2:=hp.2.2
   simp at h2
   rwa [List.take_of_length_le (by simp[hsz])]at h2
  have hrd: ∀x∈d'.toList,Rep.rd w' F (enc x) x:=by
   intro x hx
   obtain⟨i,hi,rfl⟩:=List.getElem_of_mem (hperm.subset hx)
   exact hre w' _ F _ (hcs i hi).2
  have hE':Els w' F (d'.toList.map enc) d'.toList:=Ja hrd
  have hfl:=hE'.flat
  have hlen':d'.toList.length=l.length:=by simpa using hsz
  have hcur:(putCells id 0 (flatK enc (Rep.k α) d') cur).size=cur.size:=by simp[putCells]
  have hchg:Chg (fun i=>i=gb) w w':=by rw[hw];exact WW hblk
  have hle:l.length*Rep.k α≤cur.size:=by rw[hs];exact Nat.mul_le_mul_right _ hn
  refine⟨⟨_,hE',by rw[hfl],.inr ⟨gb,capn,_,by rw[hlen'],hg,by rw[hw];exact UK hb,by rw[hlen'];exact hn,hm,by rw[hcur];exact hs,?_⟩⟩,ho.apart,fun b hb'=>⟨Nat.lt_of_lt_of_le (ho.bound b hb').1 hchg.size,fun hl=>hchg.soft b ((ho.bound b hb').2 hl)⟩,by rw[hlen'];exact ho.small⟩
  refine List.ext_getElem? fun j=>?_
  rw[hlen',List.getElem?_take]
  split
  ·rename_i hj
   have hd:j/Rep.k α<d'.toList.length:=by rw[hlen'];exact(Nat.div_lt_iff_lt_mul kpos).2 hj
   obtain⟨cs,hr,hc⟩:=hE'.at_ (j/Rep.k α) hd
   have e:=henc w' F cs _ hr
   subst e
   have hm':j%Rep.k α<(enc (d'.toList[j/Rep.k α])).length:=by rw[hlen];exact Nat.mod_lt _ kpos
   have h1:=hc (j%Rep.k α) hm'
   rw[show j/Rep.k α*Rep.k α+j%Rep.k α=j by rw[Nat.mul_comm];exact Nat.div_add_mod j (Rep.k α)]at h1
   rw[h1]
   have hjc:j<cur.size:=by omega
   have hjk:j<d'.size*Rep.k α:=by rw[hsz];exact hj
   have hd2:j/Rep.k α<d'.size:=by simpa using hd
   rw[Array.getElem?_toList,Array.getElem?_eq_getElem (by rw[hcur];exact hjc)]
   simp only[putCells,Array.getElem_mapIdx,Nat.zero_le,true_and,Nat.zero_add,size_flatK,hjk,if_true,Nat.sub_zero,id]
   have e1:d'[j/Rep.k α]! =d'[j/Rep.k α]:=getElem!_pos d' (j/Rep.k α) hd2
   have e0:d'.toList[j/Rep.k α]=d'[j/Rep.k α]:=by simp
   rw[e0]at hm'
   have e2:(enc d'[j/Rep.k α])[j%Rep.k α]! =(enc d'[j/Rep.k α])[j%Rep.k α]:=getElem!_pos (enc d'[j/Rep.k α]) (j%Rep.k α) hm'
   rw[get_flatK _ _ _ _ hjk,e1,e2]
   simp
  ·rename_i hj
   rw[List.getElem?_eq_none (by rw[hfl,hlen'];omega)]
end
section
open Go.Proofs Go.RowKit
def Xt (a b:Row):Int:=if a.group<b.group then-1 else 1
theorem KO (a b:Row):ltOf Xt a b=decide (a.group<b.group):=by
 unfold ltOf Xt
 by_cases h:a.group<b.group<;>simp[h]
theorem zdk:Go.Sort.SWO (ltOf Xt) where
 irrefl x:=by rw[KO];simp
 trans x y z h1 h2:=by rw[KO]at*;simp at*;omega
 ntrans x y z h1 h2:=by rw[KO]at*;simp at*;omega
theorem zaL {w:World}{x:Row}{y:Row}:Ret Tryz.prog 79 [.agg (x.cells).toArray,.agg (y.cells).toArray] w (fun r w'=>r=.int .i64 (Xt x y)∧Ext w w'):=by
 refine zn (args:=[.agg (x.cells).toArray,.agg (y.cells).toArray]) Tryz.func79 rfl rfl ?_
 refine za ?_
 refine zL (by kernel_rfl) (fun _=>?_)
 refine st (zX (v:=.agg (x.cells).toArray) rfl (fun w1 b2 hn1=>?_))
 have hb3:w1.heap[b2]? =some (.cells (x.cells).toArray 70):=hn1.at_
 have hs4:=hn1.size;have hs4e:=hn1.eq
 refine st (zX (v:=.agg (y.cells).toArray) rfl (fun w2 b6 hn5=>?_))
 have hb7:w2.heap[b6]? =some (.cells (y.cells).toArray 70):=hn5.at_
 have hs8:=hn5.size;have hs8e:=hn5.eq
 refine st (zM (v:=.int .i64 (0)) rfl ?_)
 refine zb ?_
 refine za ?_
 refine za ?_
 refine zL (by kernel_rfl) (fun _=>?_)
 refine st (QV rfl ?_)
 have h9:=hn5.ext.keep hb3 (fun h=>h)
 refine st (yF (v:=.int .i64 (x.group)) mT rfl (zd h9 rfl) ?_)
 refine st (QV rfl ?_)
 refine st (yF (v:=.int .i64 (y.group)) mT rfl (zd hb7 rfl) ?_)
 refine st (zK (k:=.i64) (a:=x.group) (b:=y.group) rfl rfl ?_)
 refine zb ?_
 cases hc10:decide (x.group<y.group)
 ·skip
  have hc10:=of_decide_eq_false hc10
  refine ze rfl ?_
  refine zp ?_
  refine za ?_
  refine zL (by kernel_rfl) (fun _=>?_)
  refine st (zM (v:=.int .i64 (1)) rfl ?_)
  refine zb ?_
  refine zq ?_
  refine zU kA (show _=(.int .i64 (1):Value)from rfl) ?_
  refine⟨?_,(Chg.trans hn1.ext hn5.ext)⟩
  unfold Xt
  (repeat (first|rw[ifpC (by omega)]|rw[ifnC (by omega)]))
 ·skip
  have hc10:=of_decide_eq_true hc10
  refine zg rfl ?_
  refine za ?_
  refine zL (by kernel_rfl) (fun _=>?_)
  refine st (zM (v:=.int .i64 (-1)) rfl ?_)
  refine zb ?_
  refine zq ?_
  refine zU kA (show _=(.int .i64 (-1):Value)from rfl) ?_
  refine⟨?_,(Chg.trans hn1.ext hn5.ext)⟩
  unfold Xt
  (repeat (first|rw[ifpC (by omega)]|rw[ifnC (by omega)]))
theorem zbS (x:Row): ∀u∈x.cells,u.oneCell'=true:=yo ⟨rfl,rfl,rfl,trivial⟩
theorem Kz {lo:Nat}{w:World}{v:Value}{l:List Row}(ho:OwnS 70 lo w (fun _=>False) v l):Ret Tryz.prog 78 [v,.func (.func 79) #[] #[]] w (fun r w'=>r=.tuple #[]∧Chg (fun b=>v.ownBlock=some b) w w'∧ ∃l',List.Perm l' l∧l'.Pairwise (fun a b=>ltOf Xt b a=false)∧OwnS 70 lo w' (fun _=>False) v l'):=by
 have hs:_*24≤_:=ho.small
 exact Kc (α:=Row) zca lA mR (enc:=fun q=>q.cells) (fun _ _ _ _ h=>h.1) (fun _=>rfl) zbS zdk (g:=79) (cap:=[]) Tryz.call79 ho (fun W x y=>zaL) (fun _ _ _ _ h=>h) (by omega)
theorem zcY {w:World}{a m:Nat}{p:Prj}(ha:w.heap[a]? =some (.cells #[.int .i64 (p.ptyp),.int .i64 (p.pfield),.int .i64 (p.pgroup),.int .i64 (p.pby),.int .i64 (p.pmake),.map (some m)] 121))(op:p.Ok){L:List (Int×Row)}(hm:MapR w (fun _=>False) m L)(ham:a≠m)(hgrp: ∀q∈L,q.1=q.2.group)(hLs:L.length≤1000000):Ret Tryz.prog 57 [.pointer (some ⟨a,0,none⟩)] w (fun r w'=>Ext w w'∧Fresh 70 w.heap.size w' r (Xd (L.map (·.2)))):=by
 have hml:=hm.lt
 have hal:=xz ha
 refine zn (args:=[.pointer (some ⟨a,0,none⟩)]) Tryz.func57 rfl rfl ?_
 refine za ?_
 refine zL (by kernel_rfl) (fun _=>?_)
 refine st (zM (v:=(.slice none 0 0)) rfl ?_)
 refine zb ?_
 refine za ?_
 refine zL (by kernel_rfl) (fun _=>?_)
 refine st (zM (v:=(.slice none 0 0)) rfl ?_)
 refine zb ?_
 refine za ?_
 refine za ?_
 refine zL (by kernel_rfl) (fun _=>?_)
 refine st (zP (v:=.pointer (some ⟨a,0,none⟩)) rfl ?_)
 refine st (zm (b:=a) (o:=0) rfl ?_)
 refine st (UX rfl ?_)
 refine st (yF (v:=.map (some m)) Tryz.isAgg119 rfl (zd ha rfl) ?_)
 refine st (zbw (α:=Row) Tryz.underlying119 rfl hm ?_)
 rintro w1 it1 hx2 he3 hl4 hit5
 have hx2s:=hx2.size
 refine zb ?_
 refine zt ?_
 refine zZ (fun mq σ wq=> ∃(idx:List Nat) (vo:Value) (ρ:Env),mq=L.length-idx.length∧σ=yf ρ [(3,vo),(10,.pointer (some ⟨it1,0,none⟩))]∧(Ext w wq)∧(IterR wq it1 m L (fun _=>False) idx)∧(OwnS 70 (it1+1) wq (fun _=>False) vo (pick L idx))∧(it1<wq.heap.size)) ⟨[],(.slice none 0 0),_,rfl,yG ⟨rfl,rfl,zl⟩,hx2,hit5,OwnS.nil _ _ _ _ (fun _ h=>h.elim),by omega⟩ ?_
 rintro m6 σ7 w2 ⟨idx,vo,ρ2,rfl,rfl,hxL,hitL,hoL,hszL⟩
 have hxLs:=hxL.size
 have hpl:(pick L idx).length=idx.length:=by simp[pick]
 refine za ?_
 refine zL (by kernel_rfl) (fun _=>?_)
 refine st (zbI rfl hitL (fun h=>h) (by omega) ?_ ?_)
 ·intro hperm8
  refine st (zz (vs:=[.bool false]) (i:=0) (v:=.bool false) rfl rfl ?_)
  refine zb ?_
  refine za ?_
  refine ze rfl ?_
  refine ya ?_
  refine zR ?_
  refine za ?_
  refine zL (by kernel_rfl) (fun _=>?_)
  refine st (zP (v:=vo) rfl ?_)
  refine st (zW (f:=78) (vals:=[vo,.func (.func 79) #[] #[]]) (cap:=[]) rfl rfl Tryz.call78 (Kz hoL) ?_)
  rintro _ w3 ⟨rfl,hch15,l19,hp16,hs17,ho18⟩
  have hch15s:=hch15.size
  refine zb ?_
  refine za ?_
  refine zL (by kernel_rfl) (fun _=>?_)
  refine st (zP (v:=vo) rfl ?_)
  refine st (zM (v:=vo) rfl ?_)
  refine zb ?_
  refine zq ?_
  refine zU Tryz.results57 (show _=(vo:Value)from rfl) ?_
  have hl:=QK hgrp hm.nodup (hp16.trans (Jw hperm8)) (hs17.imp (fun{a b} h=>by rw[KO]at h;simpa using h))
  subst hl
  exact⟨(Chg.new hxL hch15 (fun i hi hO=>by have:=(hoL.lt i hO).1;omega)),(show Fresh 70 (it1+1) _ _ _ from⟨_,ho18,fun _ h=>h.elim⟩).low (by omega)⟩
 ·rintro w4 j9 hj10 hj11 hj12 hit13 hch14 u v
  have hch14s:=hch14.size
  refine st (zz (vs:=[.bool true,u,v]) (i:=0) (v:=.bool true) rfl rfl ?_)
  refine zb ?_
  refine za ?_
  refine zg rfl ?_
  refine zp ?_
  refine zt ?_
  refine za ?_
  refine zL (by kernel_rfl) (fun _=>?_)
  refine st (zaU rfl hit13 ?_)
  rintro hj20 _ ⟨rfl,ok21⟩ hr22
  refine st (zz (vs:=[.int .i64 (L[j9].1),.agg ((L[j9].2).cells).toArray]) (i:=1) (v:=.agg ((L[j9].2).cells).toArray) rfl rfl ?_)
  refine st (zG mA (fun w5 b24 hn23=>?_))
  have hb25:w5.heap[b24]? =some (.cells #[.int .i64 (0),.int .i64 (0),.int .i64 (0)] 70):=hn23.at_
  have hs26:=hn23.size;have hs26e:=hn23.eq
  refine stn (zy (v:=.agg ((L[j9].2).cells).toArray) (c':=((L[j9].2).cells).toArray) mR rfl rfl hb25 (yo ⟨rfl,rfl,rfl,zl⟩) (yQ rfl) rfl (fun w6 hp27=>?_))
  have hs28:=hp27.size
  refine zb ?_
  refine zL (by kernel_rfl) (fun _=>?_)
  refine st (zP (v:=vo) rfl ?_)
  refine st (zh (k:=3) lA mR rfl rfl (zo hp27.at_) ?_)
  refine st (zH (k:=3) (parts':=[(0,.agg ((L[j9].2).cells).toArray)]) (c:=((L[j9].2).cells).toArray) wY mR mA (by decide) rfl (by kernel_rfl) (fun w7 b30 hn29=>?_))
  have hb31:w7.heap[b30]? =some (.cells ((L[j9].2).cells).toArray 70):=hn29.at_
  have hs32:=hn29.size;have hs32e:=hn29.eq
  have h36:=(OwnS.ext (OwnS.chg (OwnS.ext (OwnS.chg hoL hch14 (fun b hb hO=>by have h1:=hoL.lt b hb;have hO:b=it1:=hO;omega) (fun _ h=>h.elim)) hn23.ext) hp27.chg (fun b hb hO=>by have h1:=hoL.lt b hb;have hO:b=b24:=hO;omega) (fun _ h=>h.elim)) hn29.ext)
  refine st (KD (bytes:=24) (x1:=(L[j9].2)) (F':=(fun _=>False)) zdb rfl h36 rfl hb31 (G:=fun _=>False) (show Rep.rd _ _ _ _ from⟨rfl,ok21⟩) (fun _ h=>h) (fun _ _ h=>h) h36.apart h36.bound (by omega) (by first|omega|(simp only[List.length_take,List.length_drop,List.length_nil,List.length_append,List.length_cons];omega)) rfl (fun v33 w8 ho34 hch35=>?_))
  have hla37:(pick L idx++[(L[j9].2)]).length=(pick L idx).length+1:=by simp only[List.length_append,List.length_cons,List.length_nil]
  have hs38:=hch35.size
  refine st (zM (v:=v33) rfl ?_)
  refine zb ?_
  have h39:=(IterR.chg (IterR.ext (IterR.chg (IterR.ext hit13 hn23.ext) hp27.chg (fun e=>by have e:it1=b24:=e;omega) (fun e=>by have e:m=b24:=e;omega) (fun _ h=>h.elim)) hn29.ext) hch35 (fun hO=>by have:=(h36.lt _ hO).1;omega) (fun hO=>by have:=(h36.lt _ hO).1;omega) (fun _ h=>h.elim))
  exact⟨_,by simp only[List.length_append,List.length_cons,List.length_nil];omega,idx++[j9],v33,_,rfl,yG ⟨rfl,rfl,zl⟩,(Chg.new (Chg.trans (Chg.new (Chg.trans (Chg.new hxL hch14 (fun i hi hO=>by have hO:i=it1:=hO;omega)) hn23.ext) hp27.chg (fun i hi hO=>by subst hO;omega)) hn29.ext) hch35 (fun i hi hO=>by have:=(h36.lt i hO).1;omega)),h39,(by rw[JY (by assumption)];exact ho34),by omega⟩
theorem zch {a:Nat}{p:Prj}{L:List (Int×Row)}(hS0:Sep G W ((ProjO a p L)::Rs) w)(hgrp: ∀q∈L,q.1=q.2.group)(hLs:L.length≤1000000):Ret Tryz.prog 57 [.pointer (some ⟨a,0,none⟩)] w (fun r w'=> ∃(v:Value),r=(v:Value)∧Sep G W ((ProjO a p L)::(RowE (α:=Row) own 70 v (Xd (L.map (·.2))))::Rs) w'):=by
 obtain⟨f,hA,hl⟩:=hS0.get (i:=0) rfl
 obtain⟨op,m,hb,hm,hne,hfa,hfm⟩:=ProjO.get hA
 refine Ret.mono (zcY hb op hm hne hgrp hLs) ?_
 rintro r w1 ⟨hx,hF⟩
 exact⟨r,rfl,(hS0.push hx (RowE.ofFresh hF) (fun _ h=>h)).sel 2 [1,0] (xq _ _) rfl rfl⟩
theorem ZipW.back2 {α β:Type}[Rep α][Inhabited α][Inhabited β]{A:α→β→HP}{sh:List α}{l:List β}{G:Nat→Prop}{W w:World}{As:List HP}{i:Nat}{c:β}(hn:sh.length=l.length)(hi:i<l.length)(hc:l.getD i default=c)(h:Sep G W (A (sh.getD i default) c::Star ((Zip A sh l).set i Emp)::As) w):Sep G W (Star (Zip A sh l)::As) w:=by
 subst hc;exact ZipW.back hn hi h
def Zn (d:Dcl)(l:List Ev)(p:Prj):List Row:=Xd ((ZJ d p l).map (·.2))
def yR (d:Dcl)(l:List Ev)(i:Int):List Row:=if i<0∨((d.projs.length:Nat):Int)≤i then[]else Zn d l (d.projs.getD i.toNat default)
theorem Ya {b:Nat}{d:Dcl}{every:Nat}{evs:List Ev}{ty:Int}(hty:InR ty){no:Int}(hno:InR no)(hS0:Sep G W ((BaseO b d every evs)::Rs) w):Ret Tryz.prog 20 [.pointer (some ⟨b,0,none⟩),.int .i64 (ty),.int .i64 (no)] w (fun r w'=> ∃(v:Value),r=(.tuple #[.agg ((yr d (ty,no) (zk d evs)).cells v).toArray,.bool ((zj d (zk d evs) (ty,no)).isSome)]:Value)∧Sep G W ((BaseO b d every evs)::(RowE (α:=Cel) own 105 v (stL d (ty,no) (zk d evs)))::Rs) w'):=by
 refine zn (args:=[Ix b 0,Iv ty,Iv no]) Tryz.func20 rfl rfl ?_
 obtain⟨s,l,m,n,c,p,g,A⟩:=BaseO.open hS0
 have e:Sep G W ((Blk b #[l,m,Iw every,n,Ix c 0,p,g] 80)::(RowE (α:=Typ) own 83 l d.types)::(RowE (α:=Prj) own 73 m d.projs)::(RowE (α:=Ev) own 55 n evs)::(ViewO c d (zk d evs) (zk d evs))::(yx p (prs d evs))::(xg g (yK d every evs))::Rs) w:=A
 have B:=e.r1
 have hr9s:_*24≤_:=B.2
 have t:=e.r2
 have hr10s:_*40≤_:=t.2
 have u:=e.r3
 have hr11s:_*96≤_:=u.2
 refine za (R0 fun _=>st (zG oR ?_))
 intro w14 q x
 have h:=e.new x
 refine st (aS (.bool false) (zb (za (R0 fun _=>st (mV (Ix b 0) (st (zm (b:=b) (o:=0) rfl (st (Zw rfl (st (Vo rfl (st (lD (Ix c 0) pT rfl (zd (h.b1) rfl) (st (mV (Iv ty) (st (mV (Iv no) (st (cL nR (Ut (ty:=ty) (no:=no) hty hno (h.mv5)) ?_)))))))))))))))))))
 rintro _ w18 ⟨a,rfl,f⟩
 let D:=(yr d (ty,no) (zk d evs)).cells a
 have j:=f.r1
 have hr20s:_*32≤_:=j.2
 refine st (zz (vs:=[.agg D.toArray,.bool ((zj d (zk d evs) (ty,no)).isSome)]) (i:=0) (v:=.agg D.toArray) rfl rfl (st (zz (vs:=[.agg D.toArray,.bool ((zj d (zk d evs) (ty,no)).isSome)]) (i:=1) (v:=.bool ((zj d (zk d evs) (ty,no)).isSome)) rfl rfl (stn (zy (v:=.agg D.toArray) (c':=D.toArray) pR rfl rfl (f.b2) (yo ⟨rfl,j.1.one,zl⟩) yqc rfl ?_)))))
 intro C y
 have k:=f.pt2 y
 refine st (aS (.bool ((zj d (zk d evs) (ty,no)).isSome)) (zb (zq (ZV (b:=q) Tryz.results20 Tryz.isAgg48 pR rfl rfl (zo (k.b2)) (show _=(.bool ((zj d (zk d evs) (ty,no)).isSome):Value)from rfl) ?_))))
 have z:Sep G W ((BaseO b d every evs)::(RowE (α:=Cel) own 105 a (stL d (ty,no) (zk d evs)))::(Blk q D.toArray 48)::Rs) C:=BaseO.close (d:=d) (every:=every) (evs:=evs) s (k.s9_defgahibc)
 refine⟨a,rfl,(z.s3_ab)⟩
theorem ZL {b:Nat}{d:Dcl}{every:Nat}{evs:List Ev}(hS0:Sep G W ((BaseO b d every evs)::Rs) w):Ret Tryz.prog 16 [.pointer (some ⟨b,0,none⟩)] w (fun r w'=> ∃(v:Value),r=(v:Value)∧Sep G W ((BaseO b d every evs)::(RowE (α:=Ent) own 57 v (zk d evs))::Rs) w'):=by
 refine zn (args:=[Ix b 0]) Tryz.func16 rfl rfl ?_
 obtain⟨l,h,i,j,c,k,e,s⟩:=BaseO.open hS0
 have a:Sep G W ((Blk b #[h,i,Iw every,j,Ix c 0,k,e] 80)::(RowE (α:=Typ) own 83 h d.types)::(RowE (α:=Prj) own 73 i d.projs)::(RowE (α:=Ev) own 55 j evs)::(ViewO c d (zk d evs) (zk d evs))::(yx k (prs d evs))::(xg e (yK d every evs))::Rs) w:=s
 have t:=a.r1
 have hr9s:_*24≤_:=t.2
 have m:=a.r2
 have hr10s:_*40≤_:=m.2
 have n:=a.r3
 have hr11s:_*96≤_:=n.2
 refine za (R0 fun _=>st (aS Iz (zb (za (R0 fun _=>st (mV (Ix b 0) (st (zm (b:=b) (o:=0) rfl (st (Zw rfl (st (Vo rfl (st (lD (Ix c 0) pT rfl (zd (a.b0) rfl) (st (cL Tryz.call43 (JG (a.mv4)) ?_))))))))))))))))
 rintro f u ⟨_,rfl,g⟩
 have p:=g.r1
 have hr16s:_*120≤_:=p.2
 refine st (aS f (zb (zq (zU Tryz.results16 (show _=(f:Value)from rfl) ?_))))
 have q:Sep G W ((BaseO b d every evs)::(RowE (α:=Ent) own 57 f (zk d evs))::Rs) u:=BaseO.close (d:=d) (every:=every) (evs:=evs) l (g.s8_cdefaghb)
 refine⟨f,rfl,q⟩
theorem XQ {b:Nat}{d:Dcl}{every:Nat}{evs:List Ev}{q:Int}(hq:InR q)(hS0:Sep G W ((BaseO b d every evs)::Rs) w)(hfew:evs.length≤1000):Ret Tryz.prog 31 [.pointer (some ⟨b,0,none⟩),.int .i64 (q)] w (fun r w'=> ∃(v:Value),r=(v:Value)∧Sep G W ((BaseO b d every evs)::(RowE (α:=Row) own 70 v (yR d evs q))::Rs) w'):=by
 refine zn (args:=[Ix b 0,Iv q]) Tryz.func31 rfl rfl ?_
 obtain⟨E,l,m,p,f,h,g,ae⟩:=BaseO.open hS0
 let ah:=ViewO f d (zk d evs) (zk d evs)
 let ag:=Blk b #[l,m,Iw every,p,Ix f 0,h,g] 80
 have x:Sep G W (ag::(RowE (α:=Typ) own 83 l d.types)::(RowE (α:=Prj) own 73 m d.projs)::(RowE (α:=Ev) own 55 p evs)::ah::(yx h (prs d evs))::(xg g (yK d every evs))::Rs) w:=ae
 have af:=x.r1
 have hr9s:_*24≤_:=af.2
 have P:=x.r2
 have hr10s:_*40≤_:=P.2
 have Q:=x.r3
 have hr11s:_*96≤_:=Q.2
 refine za (R0 fun _=>st (aS Iz (zb (za (za ?_)))))
 obtain⟨e,s,R⟩:=ZipW.open (x.mv5)
 have t:Sep G W ((RowE (α:=PtC) own 92 h e)::(Star (Zip Zj e (prs d evs)))::ag::(RowE (α:=Typ) own 83 l d.types)::(RowE (α:=Prj) own 73 m d.projs)::(RowE (α:=Ev) own 55 p evs)::ah::(xg g (yK d every evs))::Rs) w:=R
 have z:=t.r0
 have hr16s:_*8≤_:=z.2
 have hsl9:e.length=d.projs.length:=by rw[s,Yr]
 refine zF kr (st (mV (Iv q) (st (zK (k:=.i64) (a:=q) (b:=0) rfl rfl (st (mV (.bool (decide (q<0))) (stc (V:=Iv q) rfl rfl (fun S=>?_) ?_)))))))
 have hl18:=fD S
 exact mV (Iv q) rflB
 refine stc (V:=Ix b 0) rfl rfl (fun T=>?_) ?_
 have hl20:=fD T
 exact mV (Ix b 0) rflB
 refine stc (V:=Ix b 0) rfl rfl (fun F=>?_) ?_
 have hl22:=fD F
 exact zm (b:=b) (o:=0) (ifpC F) rflB
 refine stc (V:=Ix b 4) rfl rfl (fun H=>?_) ?_
 have hl24:=fD H
 exact Zw (ifpC H) rflB
 refine stc (V:=Ix b 5) rfl rfl (fun I=>?_) ?_
 have hl26:=fD I
 exact YM (ifpC I) rflB
 refine stc (V:=h) rfl rfl (fun J=>?_) ?_
 have hl28:=fD J
 exact lD h rT (ifpC J) (zd (t.b2) rfl) rflB
 refine stc (V:=Iw e.length) rfl rfl (fun K=>?_) ?_
 have hl30:=fD K
 exact zC (n:=e.length) uT (ifpC K) z.1 rflB
 refine stc (V:=.bool (decide (((e.length:Nat):Int)≤q))) rfl rfl (fun A=>?_) ?_
 have hl32:=fD A
 exact xv (k:=.i64) (a:=q) (b:=((e.length:Nat):Int)) (ifpC A) (ifpC A) rflB
 refine st (zI (b:=decide (q<0)) (b':=decide (((e.length:Nat):Int)≤q)) rfl (fun hbp=>(ifpC hbp)) (zb ?_))
 cases B:(decide (q<0))||(decide (((e.length:Nat):Int)≤q))
 have hc33r:=B
 try simp only[zi]at B
 refine ze rfl (zp (za ?_))
 have L:Sep G W ((ProjO ((e.getD q.toNat default).b) (((prs d evs).getD q.toNat default).1) (((prs d evs).getD q.toNat default).2))::(Star ((Zip Zj e (prs d evs)).set q.toNat Emp))::(RowE (α:=PtC) own 92 h e)::(Blk b #[l,m,Iw every,p,Ix f 0,h,g] 80)::(RowE (α:=Typ) own 83 l d.types)::(RowE (α:=Prj) own 73 m d.projs)::(RowE (α:=Ev) own 55 p evs)::(ViewO f d (zk d evs) (zk d evs))::(xg g (yK d every evs))::Rs) w:=ZipW.take s (by rw[Yr];omega) (t.mv1)
 have O:(prs d evs).getD q.toNat default=((d.projs.getD q.toNat default),ZJ d (d.projs.getD q.toNat default) evs):=UN om
 rw[O]at L
 have C:Sep G W ((ProjO ((e.getD q.toNat default).b) (d.projs.getD q.toNat default) (ZJ d (d.projs.getD q.toNat default) evs))::(Star ((Zip Zj e (prs d evs)).set q.toNat Emp))::(RowE (α:=PtC) own 92 h e)::ag::(RowE (α:=Typ) own 83 l d.types)::(RowE (α:=Prj) own 73 m d.projs)::(RowE (α:=Ev) own 55 p evs)::ah::(xg g (yK d every evs))::Rs) w:=L
 refine R0 fun _=>st (mV (Ix b 0) (st (zm (b:=b) (o:=0) rfl (st (Zw rfl (st (YM rfl (st (lD h rT rfl (zd (C.b3) rfl) (st (mV (Iv q) ?_)))))))))))
 have hi37:q.toNat<e.length:=bo
 refine st (zB (k:=1) (i:=q) uT tR rfl z.1 rfl ⟨by omega,by omega⟩ ?_)
 have U:q.toNat<e.length:=bo
 obtain⟨_,_,y,rfl,hpke38⟩:=C.rowAtD (i:=2) (j:=q.toNat) rfl U
 have y:CellsAt _ _ _ [Ix ((e.getD q.toNat default).b) 0]:=y
 refine st (lD (Ix ((e.getD q.toNat default).b) 0) sY rfl (y.get (j:=0) rfl) (st (cL Tryz.call57 (zch C ((Zs d (d.projs.getD q.toNat default) evs).grp) ((by have h9:=(Zs d (d.projs.getD q.toNat default) evs).len;omega))) ?_)))
 rintro u M ⟨_,rfl,N⟩
 have X:=N.r1
 have hr43s:_*24≤_:=X.2
 refine st (aS u (zb (zq (zU nA (show _=(u:Value)from rfl) ?_))))
 have Y:Sep G W ((Star (Zip Zj e (prs d evs)))::(RowE (α:=Row) own 70 u (Xd ((ZJ d (d.projs.getD q.toNat default) evs).map (·.2))))::(RowE (α:=PtC) own 92 h e)::(Blk b #[l,m,Iw every,p,Ix f 0,h,g] 80)::(RowE (α:=Typ) own 83 l d.types)::(RowE (α:=Prj) own 73 m d.projs)::(RowE (α:=Ev) own 55 p evs)::(ViewO f d (zk d evs) (zk d evs))::(xg g (yK d every evs))::Rs) M:=ZipW.back2 (c:=(((d.projs.getD q.toNat default),ZJ d (d.projs.getD q.toNat default) evs):PR)) s (by rw[Yr];omega) O (N.s10_acbdefghij)
 have Z:Sep G W ((yx h (prs d evs))::(RowE (α:=Row) own 70 u (Xd ((ZJ d (d.projs.getD q.toNat default) evs).map (·.2))))::ag::(RowE (α:=Typ) own 83 l d.types)::(RowE (α:=Prj) own 73 m d.projs)::(RowE (α:=Ev) own 55 p evs)::ah::(xg g (yK d every evs))::Rs) M:=ZipW.mk s (Y.mv2)
 have aa:Sep G W ((BaseO b d every evs)::(RowE (α:=Row) own 70 u (Xd ((ZJ d (d.projs.getD q.toNat default) evs).map (·.2))))::Rs) M:=BaseO.close (d:=d) (every:=every) (evs:=evs) E (Z.s8_cdefgahb)
 have D:yR d evs q=Zn d evs (d.projs.getD q.toNat default):=by unfold yR;rw[ifnC (by omega)]
 rw[D]
 refine⟨u,rfl,aa⟩
 try simp only[zi]at B
 refine zg rfl (za (R0 fun _=>st (aS Iz (zb (zq (zU nA (show _=((Iz):Value)from rfl) ?_))))))
 have ab:Sep G W ((yx h (prs d evs))::ag::(RowE (α:=Typ) own 83 l d.types)::(RowE (α:=Prj) own 73 m d.projs)::(RowE (α:=Ev) own 55 p evs)::ah::(xg g (yK d every evs))::Rs) w:=ZipW.mk s t
 have ac:Sep G W ((BaseO b d every evs)::Rs) w:=BaseO.close (d:=d) (every:=every) (evs:=evs) E (ab.s7_bcdefag)
 have ad:Sep _ _ ((RowE (α:=Row) own 70 Iz ([]:List Row))::_) _:=ac.rowNil own 70
 have D:yR d evs q=[]:=by unfold yR;rw[ifpC (by omega)]
 rw[D]
 refine⟨(Iz),rfl,(ad.mv1)⟩
def Uniq (l:List Ev):Prop:= ∀i j,i<l.length→j<l.length→Zq (l.getD i default) (l.getD j default)→i=j
theorem Uniq.nil:Uniq []:=fun i j hi=>absurd hi (Nat.not_lt_zero i)
theorem Uniq.snoc {l:List Ev}{x:Ev}(h:Uniq l)(hx: ∀i,i<l.length→ ¬Zq (l.getD i default) x):Uniq (l++[x]):=by
 have g1: ∀i,i<l.length→(l++[x]).getD i default=l.getD i default:=fun i hi=>by rw[List.getD_eq_getElem?_getD,List.getD_eq_getElem?_getD,List.getElem?_append_left hi]
 have g2: ∀i,i<(l++[x]).length→ ¬i<l.length→i=l.length∧(l++[x]).getD i default=x:=fun i hi hn=>by
  rw[List.length_append,List.length_singleton]at hi
  obtain rfl:i=l.length:=by omega
  exact⟨rfl,by rw[List.getD_eq_getElem?_getD,List.getElem?_append_right (Nat.le_refl _),Nat.sub_self];rfl⟩
 intro i j hi hj hs
 by_cases h1:i<l.length
 ·rw[g1 i h1]at hs
  by_cases h2:j<l.length
  ·rw[g1 j h2]at hs;exact h i j h1 h2 hs
  ·rw[(g2 j hj h2).2]at hs;exact absurd hs (hx i h1)
 ·rw[(g2 i hi h1).2]at hs
  by_cases h2:j<l.length
  ·rw[g1 j h2]at hs;exact absurd ⟨hs.1.symm,hs.2.symm⟩ (hx j h2)
  ·rw[(g2 i hi h1).1,(g2 j hj h2).1]
theorem Uniq.one {l a b:List Ev}(h:Uniq l)(ha: ∀x∈a,x∈l)(hb: ∀x∈b,x∈l):UZ a b:=fun x hx y hy hs=>by
 obtain⟨i,hi,rfl⟩:=List.getElem_of_mem (ha x hx)
 obtain⟨j,hj,rfl⟩:=List.getElem_of_mem (hb y hy)
 have:=h i j hi hj (by rw[zJ _ hi,zJ _ hj];exact hs)
 subst this;rfl
theorem UI {l:List Ev}{i:Nat}(h:i<l.length):l.getD i default∈l:=by rw[zJ _ h];exact List.getElem_mem h
theorem JU {l o:List Ev}{x:Ev}(h: ∀y∈o,y∈l)(hx:x∈l): ∀y∈o++[x],y∈l:=fun y hy=>(List.mem_append.1 hy).elim (h y) (fun h1=>by rw[List.mem_singleton.1 h1];exact hx)
theorem KI {l o:List Ev}{x:Ev}{i:Nat}(h: ∀y∈o,y∈l)(hx:x∈l): ∀y∈o.set i x,y∈l:=fun y hy=>(List.mem_or_eq_of_mem_set hy).elim (h y) (fun e=>e▸hx)
theorem UL {n:Int}(hn:InR n){vl:Value}{l:List Ev}(hl:RdS W G vl l)(hS0:Sep G W Rs w):Ret Tryz.prog 7 [.int .i64 (n),vl] w (fun r w'=> ∃(v:Value) (out:List Ev),r=(v:Value)∧(out.length≤40)∧(Uniq out)∧Sep G W ((RowE (α:=Ev) (shr G W) 55 v out)::Rs) w'):=by
 have hls:_*96≤_:=hl.small
 refine zn (args:=[Iv n,vl]) Tryz.func7 rfl rfl ?_
 refine za (R0 fun _=>st (aS Iz (zb (za (R0 fun _=>st (mV (Iv n) (st (mV vl (st (cL Tryz.call32 (zbe (n:=n) (l:=l) (vl:=vl) hn hl hS0) ?_))))))))))
 rintro o w5 ⟨_,f,rfl,h603,hft4,aC⟩
 have P:=aC.r0
 have hr7s:_*96≤_:=P.2
 refine st (aS o (zb (za (R0 fun _=>st (aS Iz (zb (za (za (R0 fun _=>st (aS (Iv 0) (zb (zt ?_))))))))))))
 have aO:Sep _ _ ((RowE (α:=Ev) (shr G W) 55 Iz ([]:List Ev))::_) _:=aC.rowNil (shr G W) 55
 refine zZ (fun mq σ Y=> ∃(k:Nat) (vo:Value) (d:List Ev) (ρ:Env),mq=f.length-k∧σ=yf ρ [(1,o),(4,(Iz)),(5,vo),(6,Iw k)]∧(k≤f.length)∧(d.length≤40)∧(Uniq d)∧Sep G W ((RowE (α:=Ev) (shr G W) 55 vo d)::(RowE (α:=Ev) (shr G W) 55 o f)::Rs) Y) ⟨0,(Iz),[],_,rfl,sSf,zY _,zY _,Uniq.nil,aO⟩ ?_
 rintro m10 σ11 w9 ⟨k,vo,d,ρl1,rfl,rfl,hkk,aD,M,N⟩
 have A:=N.r0
 have hr13s:_*96≤_:=A.2
 refine za (za (zF kr (st (mV (Iw k) (st (mV o (st (zC (n:=f.length) kT rfl P.1 (st (zK (k:=.i64) (a:=((k:Nat):Int)) (b:=((f.length:Nat):Int)) rfl rfl (st (mV (.bool (decide (((k:Nat):Int)<((f.length:Nat):Int)))) (stc (V:=vo) rfl rfl (fun aF=>?_) ?_)))))))))))))
 have hl15:=tD aF
 exact mV vo rflB
 refine stc (V:=Iw d.length) rfl rfl (fun Z=>?_) ?_
 have hl17:=tD Z
 exact zC (n:=d.length) kT (ifpC Z) A.1 rflB
 refine stc (V:=.bool (decide (((d.length:Nat):Int)<40))) rfl rfl (fun aa=>?_) ?_
 have hl19:=tD aa
 exact zK (k:=.i64) (a:=((d.length:Nat):Int)) (b:=40) (ifpC aa) rfl rflB
 refine st (zx (b:=decide (((k:Nat):Int)<((f.length:Nat):Int))) (b':=decide (((d.length:Nat):Int)<40)) rfl (fun hbp=>(ifpC hbp)) (zb ?_))
 cases O:(decide (((k:Nat):Int)<((f.length:Nat):Int)))&&(decide (((d.length:Nat):Int)<40))
 have hc20r:=O
 try simp only[zi]at O
 refine ze rfl (ya (zR (za (R0 fun _=>st (mV vo (st (aS vo (zb (zq (zU Tryz.results7 (show _=(vo:Value)from rfl) ?_))))))))))
 refine⟨vo,d,rfl,?_,?_,(N.s2_a)⟩
 exact aD
 exact M
 try simp only[zi]at O
 refine zg rfl (zp (za (zt (za (R0 fun _=>st (aS (.bool false) (zb (za (za (R0 fun _=>st (aS (Iv 0) (zb (zt (zZ (fun mq σ Y=> ∃(j:Nat) (m:Bool) (ρ:Env),mq=d.length-j∧σ=yf ρ [(1,o),(4,(Iz)),(5,vo),(6,Iw k),(7,.bool m),(8,Iw j)]∧(j≤d.length)∧(m=false→ ∀i,i<j→ ¬Zq (d.getD i default) (f.getD k default))∧Sep G W ((RowE (α:=Ev) (shr G W) 55 vo d)::(RowE (α:=Ev) (shr G W) 55 o f)::Rs) Y) ⟨0,false,_,rfl,sSf,zY _,(fun _ i hi=>absurd hi (yO i)),N⟩ ?_))))))))))))))
 rintro m23 σ24 w22 ⟨j,m,ρl2,rfl,rfl,hjj,ab,B⟩
 refine za (za (R0 fun _=>st (mV (Iw j) (st (mV vo (st (zC (n:=d.length) kT rfl A.1 (st (zK (k:=.i64) (a:=((j:Nat):Int)) (b:=((d.length:Nat):Int)) rfl rfl (zb ?_))))))))))
 cases z:decide (((j:Nat):Int)<((d.length:Nat):Int))
 have hc26r:=z
 have z:=fD z
 refine ze rfl (ya (zR (za (R0 fun _=>st (mV (.bool m) (st (yD (a:=m) rfl (zb ?_))))))))
 cases C: !m
 have hc27r:=C
 try simp only[zi]at C
 refine ze rfl (zp (R0 fun _=>st (mV (Iw k) ?_)))
 have aG:InR ((k+1:Nat):Int):=bo
 refine st (zO (r:=((k+1:Nat):Int)) (k:=.i64) (a:=((k:Nat):Int)) (b:=1) rfl rfl (by rw[show(((k:Nat):Int)+1:Int)=((k+1:Nat):Int)from bo];exact zw aG) (st (aS (Iw (k+1)) (zb ?_))))
 exact⟨_,by omega,k+1,vo,d,_,rfl,sSf,by omega,aD,M,B⟩
 try simp only[zi]at C
 refine zg rfl (R0 fun _=>st (mV vo (st (mV o (st (mV (Iw k) ?_))))))
 have aH:k<f.length:=bo
 refine st (zf (k:=10) (i:=k) kT lT rfl P.1 rfl aH ?_)
 have aI:k<f.length:=bo
 obtain⟨_,_,ai,L,rfl,X,ac⟩:=B.rowAtD (i:=1) (j:=k) rfl aI
 refine st (zh (k:=10) qT lT rfl rfl ai (st (zH (k:=10) (parts':=[(0,.agg ((f.getD k default).cells L).toArray)]) (c:=((f.getD k default).cells L).toArray) kT lT rR dc rfl kr ?_)))
 intro w34 b33 aJ
 have ad:=B.new aJ
 have aj:=ad.b0
 refine st (yq (src:=(shr G W)) (bytes:=96) (x1:=(f.getD k default)) ((ad.s3_bc).emp1) Us rfl rfl aj (fun _ _ _=>(show _ from⟨_,rfl,X,ac⟩)) yqb rfl ?_)
 intro aE w36 ae
 have aK:=ae.r0
 have hr42s:_*96≤_:=aK.2
 refine st (aS aE (zb (R0 fun _=>st (mV (Iw k) ?_))))
 have aL:InR ((k+1:Nat):Int):=bo
 refine st (zO (r:=((k+1:Nat):Int)) (k:=.i64) (a:=((k:Nat):Int)) (b:=1) rfl rfl (by rw[show(((k:Nat):Int)+1:Int)=((k+1:Nat):Int)from bo];exact zw aL) (st (aS (Iw (k+1)) (zb ?_))))
 exact⟨_,by omega,k+1,aE,(d++[(f.getD k default)]),_,rfl,sSf,by omega,(by rw[List.length_append,List.length_singleton];omega),(M.snoc (fun i hi=>ab (by have h9:=C;simpa using h9) i (by omega))),ae⟩
 have z:=tD z
 refine zg rfl (zp (za (zt ?_)))
 refine WD4 (WF [fun vals Y=>Sep G W ((RowE (α:=Ev) (shr G W) 55 vo d)::(RowE (α:=Ev) (shr G W) 55 o f)::Rs) Y]) (AF [Vl 0 (.bool m),Vl 1 (.bool m),Vl 2 (if m=false then vo else undef),Vl 3 (if m=false then Iw j else undef),Vl 4 (if m=false then Ix (sb vo) (so vo+j*10)else undef),Vl 5 (if m=false then Ix (sb vo) (so vo+j*10)else undef),Vl 6 (if m=false then .agg #[Iv ((d.getD j default).origin),Iv ((d.getD j default).seq)]else undef),Vl 7 (if m=false then o else undef),Vl 8 (if m=false then Iw k else undef),Vl 9 (if m=false then Ix (sb o) (so o+k*10)else undef),Vl 10 (if m=false then Ix (sb o) (so o+k*10)else undef),Vl 11 (if m=false then .agg #[Iv ((f.getD k default).origin),Iv ((f.getD k default).seq)]else undef),Vl 12 (if m=false then .bool (decide ((d.getD j default).origin=(f.getD k default).origin∧(d.getD j default).seq=(f.getD k default).seq))else undef),Vl 13 (.bool (m||(decide ((d.getD j default).origin=(f.getD k default).origin∧(d.getD j default).seq=(f.getD k default).seq)))),Vl 14 (.bool (m||(decide ((d.getD j default).origin=(f.getD k default).origin∧(d.getD j default).seq=(f.getD k default).seq))))]) [[],[0],[0,1],[0,1],(rg 4),(rg 5),(rg 6),[0,1],[0,1],[0,1,7,8],[0,1,7,8,9],[0,1,7,8,9,10],(rg 12),(rg 13),(rg 14)] [] [(0,0),(0,0),(0,0),(0,0),(0,0),(0,0),(0,0),(0,0),(0,0),(0,0),(0,0),(0,0),(0,0),(0,0),(0,0)] B ⟨fun _ _ _ _ _ _ _=>obl rfl (mV (.bool m) dR),fun _ _ _ _ _ _ ak=>obl rfl (zP (v:=.bool m) (ak 0 dc) dR),?_,?_,?_,?_,?_,?_,?_,?_,?_,?_,?_,fun _ _ _ _ _ _ Q=>obl rfl (zI (b:=m) (b':=decide ((d.getD j default).origin=(f.getD k default).origin∧(d.getD j default).seq=(f.getD k default).seq)) (Q 1 dc) (fun hbp=>(zr (Q 12 dc) (ifpC hbp))) dR),fun _ _ _ _ _ _ al=>obl rfl (zM (v:=.bool (m||(decide ((d.getD j default).origin=(f.getD k default).origin∧(d.getD j default).seq=(f.getD k default).seq)))) (al 13 dc) dR),zl⟩ ?_
 refine fun _ _ _ _ _ _ am=>(zN rfl rfl (am 1 dc) (fun D=>?_) yd)
 exact mV vo (yc D)
 refine fun _ _ _ _ _ _ an=>(zN rfl rfl (an 1 dc) (fun E=>?_) yd)
 exact mV (Iw j) (yc E)
 refine ob1 0 fun _ _ _ F=>(zN rfl rfl (F 1 dc) (fun p=>?_) yd)
 have ao:j<d.length:=bo
 exact zf (k:=10) (i:=j) kT lT (zr (F 2 dc) (ifpC p)) A.1 (zr (F 3 dc) (ifpC p)) ao (yc p)
 refine fun _ _ _ _ _ _ R=>(zN rfl rfl (R 1 dc) (fun t=>?_) yd)
 exact xe (zr (R 4 dc) (ifpC t)) (yc t)
 refine ob1 0 fun _ _ (ap:Sep _ _ _ _) S=>(zN rfl rfl (S 1 dc) (fun u=>?_) yd)
 have aq:j<d.length:=bo
 obtain⟨_,_,ag,de257_0,rfl,hde257_0,hoke257⟩:=ap.rowAtD (i:=0) (j:=j) rfl aq
 exact zh (k:=2) (cs:=[Iv ((d.getD j default).origin),Iv ((d.getD j default).seq)]) kR lR rfl (zr (S 5 dc) (ifpC u)) (CellsAt.sub ag 0 (cs2:=[Iv ((d.getD j default).origin),Iv ((d.getD j default).seq)]) rfl) (yc u)
 refine fun _ _ _ _ _ _ ar=>(zN rfl rfl (ar 1 dc) (fun H=>?_) yd)
 exact mV o (yc H)
 refine fun _ _ _ _ _ _ au=>(zN rfl rfl (au 1 dc) (fun I=>?_) yd)
 exact mV (Iw k) (yc I)
 refine ob1 0 fun _ _ _ J=>(zN rfl rfl (J 1 dc) (fun q=>?_) yd)
 have av:k<f.length:=bo
 exact zf (k:=10) (i:=k) kT lT (zr (J 7 dc) (ifpC q)) P.1 (zr (J 8 dc) (ifpC q)) av (yc q)
 refine fun _ _ _ _ _ _ T=>(zN rfl rfl (T 1 dc) (fun x=>?_) yd)
 exact xe (zr (T 9 dc) (ifpC x)) (yc x)
 refine ob1 0 fun _ _ (aw:Sep _ _ _ _) U=>(zN rfl rfl (U 1 dc) (fun y=>?_) yd)
 have ax:k<f.length:=bo
 obtain⟨_,_,ah,de311_0,rfl,hde311_0,hoke311⟩:=aw.rowAtD (i:=1) (j:=k) rfl ax
 exact zh (k:=2) (cs:=[Iv ((f.getD k default).origin),Iv ((f.getD k default).seq)]) kR lR rfl (zr (U 10 dc) (ifpC y)) (CellsAt.sub ah 0 (cs2:=[Iv ((f.getD k default).origin),Iv ((f.getD k default).seq)]) rfl) (yc y)
 refine ob1 0 fun _ _ _ K=>(zN rfl rfl (K 1 dc) (fun s=>?_) yd)
 exact ZP (e:=decide ((d.getD j default).origin=(f.getD k default).origin∧(d.getD j default).seq=(f.getD k default).seq)) (xs:=#[Iv ((d.getD j default).origin),Iv ((d.getD j default).seq)]) (ys:=#[Iv ((f.getD k default).origin),Iv ((f.getD k default).seq)]) KP (zr (K 6 dc) (ifpC s)) (zr (K 11 dc) (ifpC s)) (yc s)
 intro vals w340 ay az
 have aA:Sep _ _ _ _:=ay
 have aM:=az 14 dc
 refine yg (kv:=[(1,o),(4,(Iz)),(5,vo),(6,Iw k),(7,.bool (m||(decide ((d.getD j default).origin=(f.getD k default).origin∧(d.getD j default).seq=(f.getD k default).seq)))),(8,Iw j),(23,Iw j),(24,vo),(25,Iw d.length),(26,.bool true)]) ⟨rfl,rfl,rfl,rfl,(by exact aM),rfl,rfl,rfl,rfl,rfl,zl⟩ (fun ρw340=>(zb (R0 fun _=>st (mV (Iw j) ?_))))
 have aB:InR ((j+1:Nat):Int):=bo
 refine st (zO (r:=((j+1:Nat):Int)) (k:=.i64) (a:=((j:Nat):Int)) (b:=1) rfl rfl (by rw[show(((j:Nat):Int)+1:Int)=((j+1:Nat):Int)from bo];exact zw aB) (st (aS (Iw (j+1)) (zb ?_))))
 exact⟨_,by omega,j+1,(m||(decide ((d.getD j default).origin=(f.getD k default).origin∧(d.getD j default).seq=(f.getD k default).seq))),_,rfl,sSf,by omega,(fun h9 i hi=>by simp only[Bool.or_eq_false_iff,decide_eq_false_iff_not]at h9;rcases Nat.lt_or_eq_of_le (Nat.le_of_lt_succ hi)with h1|h1;exact ab h9.1 i h1;subst h1;exact h9.2),aA⟩
end
end Go.Proofs.YtpdolkiohjdodaaGreatDoor
