import Derived.Test.YtpdolkiohjdodaaGreatDoorL11
set_option maxRecDepth 8000
set_option maxHeartbeats 4000000
set_option linter.unusedSimpArgs false
set_option linter.unusedVariables false
set_option linter.unusedSectionVars false
set_option linter.deprecated false
open Go.Proofs.Tryz renaming isAgg3→kT,sizeOf70→lT,isAgg70→mT,underlying67→nT,sizeOf52→oT,isAgg67→pT,isAgg52→qT,sizeOf55→rT,sizeOf83→sT,isAgg55→tT,results87→uT,sizeOf57→vT,sizeOf87→wT,sizeOf3→kR,isAgg22→lR,underlying22→mR,isAgg42→nR,underlying42→oR,results86→pR,zeroValue57→qR,call40→rR,zeroValue70→sR,isAgg87→tR,isAgg83→uR,results72→vR,underlying26→wR,zeroValue52→kY,isAgg25→lY,sizeOf25→mY,isAgg81→nY,underlying81→oY,call102→pY,zeroValue55→qY,isAgg4→rY,isAgg57→sY,call87→tY
namespace Go.Proofs.YtpdolkiohjdodaaGreatDoor
variable {G:Nat→Prop}{W w:World}{Rs:List HP}
section
open Go.Proofs Go.RowKit
theorem rj_raw {d:Dcl}{e:Ev}{y:Ent}:rJ d e y=(((((!y.void)&&decide (y.ev.typ=e.typ))&&decide (y.ev.agg=e.agg))&&decide (y.ev.field=e.field))&&xj ((Yg d e.typ).fields.getD e.field.toNat default) y.ev e):=by
 unfold rJ on3
 cases y.void<;>simp[Bool.decide_and,Bool.and_assoc]
theorem VR {d:Dcl}{e:Ev}{L:List Ent}:(yy (e.typ,e.agg,e.field) L).find? (fun x=>xj ((Yg d e.typ).fields.getD e.field.toNat default) x e)=(L.find? (rJ d e)).map (·.ev):=by
 unfold yy
 rw[Yq]
 rfl
theorem zdb {d:Dcl}{e:Ev}{L:List Ent}{k:Nat}(h:xm d e.typ e.field e.op e.arg=0)(hk:k<L.length)(h0: ∀i,i<k→rJ d e (L.getD i default)=false)(h1:rJ d e (L.getD k default)=true):yf d L e=(true,(L.getD k default).ev.origin,(L.getD k default).ev.seq):=by
 unfold yf
 rw[if_neg (by simpa using h),VR,Qc hk h1 h0]
 rfl
theorem zbh {d:Dcl}{e:Ev}{L:List Ent}(h:xm d e.typ e.field e.op e.arg=0)(h0: ∀i,i<L.length→rJ d e (L.getD i default)=false):yf d L e=(!decide (xy (Yg d e.typ) (yr d (e.typ,e.agg) L) e.field e.op e.arg=0),0,0):=by
 unfold yf
 rw[if_neg (by simpa using h),VR,zbj h0]
 show(if ¬_=0 then _ else _)=_
 by_cases hm:xy (Yg d e.typ) (yr d (e.typ,e.agg) L) e.field e.op e.arg=0
 ·rw[if_neg (by simpa using hm),decide_eq_true hm];rfl
 ·rw[if_pos hm,decide_eq_false hm];rfl
set_option maxHeartbeats 8000000 in
theorem Jg {b:Nat}{d:Dcl}{L:List Ent}(hb:(RefV b d L).p W G){e:Ev}{de0:Value}(hde0:RdS W G de0 e.deps)(oe:e.Ok)(hS0:Sep G W Rs w)(hd:DclOk d)(hrl:Ran d L)(hml:L.length≤1000000):Ret Tryz.prog 86 [.pointer (some ⟨b,0,none⟩),.agg (e.cells de0).toArray] w (fun r w'=>r=(.tuple #[.bool ((yf d L e).1),.agg #[.int .i64 ((yf d L e).2.1),.int .i64 ((yf d L e).2.2)]]:Value)∧(InR (yf d L e).2.1∧InR (yf d L e).2.2)∧Sep G W Rs w'):=by
 have hde0s:_*8≤_:=hde0.small
 refine zk Tryz.func86 rfl rfl ?_
 obtain⟨g,bu,s,X,u,gg,am⟩:=RefV.sh hb
 let gG:=Ix (sb g) (so g+e.typ.toNat*1)
 let ck:=zP W (sb g) (so g+e.typ.toNat*1+0)
 let gI:=(d.types.getD e.typ.toNat default).cells ck
 let p:=zP W (sb (zP W (sb g) (so g+e.typ.toNat*1+0))) (so (zP W (sb g) (so g+e.typ.toNat*1+0))+e.field.toNat*4+3)
 let ci:=(((d.types.getD e.typ.toNat default).fields).getD e.field.toNat default).cells p
 have hsm8:d.types.length*24≤140737488355328:=u.small
 have hsm9:d.projs.length*40≤140737488355328:=gg.small
 have hsm10:L.length*120≤140737488355328:=am.small
 refine za (R0 fun _=>st (zW rfl ?_))
 intro w13 m gk
 let gF:=Blk m (e.cells de0).toArray 55
 refine st (aS (.bool false) (st (zB kY ?_)))
 intro w17 B gl
 let gH:=Blk B #[Iv 0,Iv 0] 52
 refine zb (za (za ?_))
 refine WD4 ((fun TT C=>WF [fun vals A=>Sep G W (C::TT) A,fun vals A=>(vals 12=(Iv (xm d e.typ e.field e.op e.arg):Value))∧Sep G W (C::TT) A]) (gF::Rs) gH) (AF [Vl 0 (Ix b 0),Vl 1 (Ix b 0),Vl 2 (Ix b 0),Vl 3 (.agg (d.cells g bu).toArray),Vl 4 (Ix m 4),Vl 5 (Iv (e.typ)),Vl 6 (Ix m 6),Vl 7 (Iv (e.field)),Vl 8 (Ix m 7),Vl 9 (Iv (e.op)),Vl 10 (Ix m 8),Vl 11 (Iv (e.arg)),fun _=>True,Vl 13 (.bool (!decide ((xm d e.typ e.field e.op e.arg)=0)))]) [[],[0],[0,1],[0,1,2],[],[4],[],[6],[],[8],[],[10],(rg 12),(rg 13)] [12] [(0,0),(0,0),(0,0),(0,0),(0,0),(0,0),(0,0),(0,0),(0,0),(0,0),(0,0),(0,0),(0,0),(1,1)] ((hS0.new gk).new gl) ⟨fun _ _ _ _ _ _ _=>obl rfl (mV (Ix b 0) dR),fun _ _ _ _ _ _ eC=>obl rfl (zj (eC 0 dc) dR),fun _ _ _ _ _ _ eD=>obl rfl (Ym (eD 1 dc) dR),?_,fun _ _ _ _ _ _ _=>obl rfl (xr rfl dR),ob1 0 fun _ _ (eE:Sep _ _ _ _) eF=>obl rfl (lD (Iv (e.typ)) kT (eF 4 dc) (zd (eE.b1) rfl) dR),fun _ _ _ _ _ _ _=>obl rfl (xJ rfl dR),ob1 0 fun _ _ (eG:Sep _ _ _ _) eH=>obl rfl (lD (Iv (e.field)) kT (eH 6 dc) (zd (eG.b1) rfl) dR),fun _ _ _ _ _ _ _=>obl rfl (xZ rfl dR),ob1 0 fun _ _ (eI:Sep _ _ _ _) eJ=>obl rfl (lD (Iv (e.op)) kT (eJ 8 dc) (zd (eI.b1) rfl) dR),fun _ _ _ _ _ _ _=>obl rfl (xu rfl dR),ob1 0 fun _ _ (eK:Sep _ _ _ _) eL=>obl rfl (lD (Iv (e.arg)) kT (eL 10 dc) (zd (eK.b1) rfl) dR),?_,?_,zl⟩ ?_
 refine ob1 0 fun _ _ (eM:Sep _ _ _ _) eN=>(obl rfl ?_)
 have ok154:Dcl.Ok d:=⟨⟩
 exact zi lY mY rfl (eN 2 dc) (CellsAt.sub (zo (eM.gblk X)) 0 rfl) dR
 refine ob1 0 fun vals _ (eO:Sep _ _ _ _) Y=>(obl rfl ((zV (vals:=[.agg (d.cells g bu).toArray,Iv (e.typ),Iv (e.field),Iv (e.op),Iv (e.arg)]) rfl (yM ⟨(Y 3 dc),(Y 5 dc),(Y 7 dc),(Y 9 dc),(Y 11 dc),zl⟩) Tryz.call100 (Jf u gg (⟨⟩:Dcl.Ok d) oe.typ oe.field oe.op oe.arg eO) ?_)))
 rintro _ w116 ⟨rfl,eP⟩
 exact fun E N I=>⟨(zA N eP),zl⟩
 refine ob1 1 fun _ _ eQ _=>?_
 obtain⟨bv,hS217⟩:=eQ
 exact obl rfl (yx bv rfl dR)
 intro vals w218 eR eS
 obtain⟨bv,aD⟩:=eR
 have gm:=eS 13 dc
 refine yi (kv:=[(0,Ix b 0),(1,.agg (e.cells de0).toArray),(3,Ix m 0),(4,.bool false),(5,Ix B 0),(25,.bool (!decide ((xm d e.typ e.field e.op e.arg)=0)))]) ⟨rfl,rfl,rfl,rfl,rfl,(by exact gm),zl⟩ (fun ρw218=>(zb ?_))
 cases F: !decide ((xm d e.typ e.field e.op e.arg)=0)
 have hc223r:=F
 have F:=zO F
 have hfo:=XI F
 have hfz:=F
 have gh:=hfo.1;have gi:=hfo.2.1;have hft:=hfo.2.2
 have hfl:=hft.lo;have hfh:=hft.hi
 refine ze rfl (zr (za ?_))
 refine WD4 ((fun TT C=>WF [fun vals A=>Sep G W (C::TT) A,fun vals A=> ∃q,(vals 14=(Ix q 0:Value))∧Sep G W ((Blk q #[Iv 0,Iv 0,.bool false,(Iz)] 87)::C::TT) A,fun vals A=> ∃q,(vals 14=(Ix q 0:Value))∧Sep G W ((Blk q ci.toArray 87)::C::TT) A]) (gF::Rs) gH) (AF [Vl 0 (Ix b 0),Vl 1 (Ix b 0),Vl 2 (Ix b 0),Vl 3 (Ix b 0),Vl 4 g,Vl 5 (Ix m 4),Vl 6 (Iv (e.typ)),Vl 7 gG,Vl 8 gG,Vl 9 ck,Vl 10 (Ix m 6),Vl 11 (Iv (e.field)),Vl 12 (Ix (sb ck) (so ck+e.field.toNat*4)),Vl 13 (.agg ci.toArray),fun _=>True,fun _=>True]) [[],[0],[0,1],[0,1,2],(rg 4),[],[5],(rg 7),(rg 8),(rg 9),[],[10],(rg 12),(rg 13),[],(rg 15)] [14,15] [(0,1),(0,1),(0,1),(0,1),(0,1),(0,1),(0,1),(0,1),(0,1),(0,1),(0,1),(0,1),(0,1),(0,1),(0,0),(1,1)] aD ⟨fun _ _ _ _ _ _ _=>obl rfl (mV (Ix b 0) dR),fun _ _ _ _ _ _ eT=>obl rfl (zj (eT 0 dc) dR),fun _ _ _ _ _ _ eU=>obl rfl (Ym (eU 1 dc) dR),fun _ _ _ _ _ _ eV=>obl rfl (yD (eV 2 dc) dR),?_,fun _ _ _ _ _ _ _=>obl rfl (xr rfl dR),?_,?_,fun _ _ _ _ _ _ eW=>obl rfl (yT (eW 7 dc) dR),?_,fun _ _ _ _ _ _ _=>obl rfl (xJ rfl dR),?_,?_,?_,?_,?_,zl⟩ ?_
 refine fun aE _ _ gn go bw bx=>?_
 have hkk:=xE gn go
 rcases hkk with rfl|rfl
 have eX:=bw
 exact obl rfl (lD g lR (bx 3 dc) (zd (eX.gblk X) rfl) dR)
 obtain⟨q,D,eY⟩:=bw
 exact obl rfl (lD g lR (bx 3 dc) (zd (eY.gblk X) rfl) dR)
 refine fun aF _ _ gp gq bz bA=>?_
 have hkk:=xE gp gq
 rcases hkk with rfl|rfl
 have eZ:=bz
 exact obl rfl (lD (Iv (e.typ)) kT (bA 5 dc) (zd (eZ.b1) rfl) dR)
 obtain⟨q,D,fa⟩:=bz
 exact obl rfl (lD (Iv (e.typ)) kT (bA 5 dc) (zd (fa.b2) rfl) dR)
 refine fun aG _ _ gr gs bB ah=>?_
 have hkk:=xE gr gs
 rcases hkk with rfl|rfl
 have hS436:Sep _ _ _ _:=bB
 refine obl rfl ?_
 have hi439:e.typ.toNat<d.types.length:=bo
 exact zx mR sT (ah 4 dc) u.sl (ah 6 dc) ⟨by omega,by omega⟩ dR
 obtain⟨q,D,hS440⟩:=bB
 refine obl rfl ?_
 have hi443:e.typ.toNat<d.types.length:=bo
 exact zx mR sT (ah 4 dc) u.sl (ah 6 dc) ⟨by omega,by omega⟩ dR
 refine fun aH _ _ gt gu bC bD=>?_
 have hkk:=xE gt gu
 rcases hkk with rfl|rfl
 have fb:=bC
 refine obl rfl ?_
 have bE:e.typ.toNat<d.types.length:=bo
 obtain⟨cx,bm,hoke459⟩:=u.typD bE
 have hsm461:((d.types.getD e.typ.toNat default).fields).length*48≤140737488355328:=bm.small
 have cy:=fb.cells cx (u.foot (ne_of_lt bE))
 exact lD ck nY (bD 8 dc) (cy.get (j:=0) rfl) dR
 obtain⟨q,D,fc⟩:=bC
 refine obl rfl ?_
 have bF:e.typ.toNat<d.types.length:=bo
 obtain⟨cz,bn,hoke465⟩:=u.typD bF
 have hsm467:((d.types.getD e.typ.toNat default).fields).length*48≤140737488355328:=bn.small
 have cA:=fc.cells cz (u.foot (ne_of_lt bF))
 exact lD ck nY (bD 8 dc) (cA.get (j:=0) rfl) dR
 refine fun aI _ _ gv gw bG bH=>?_
 have hkk:=xE gv gw
 rcases hkk with rfl|rfl
 have fd:=bG
 exact obl rfl (lD (Iv (e.field)) kT (bH 10 dc) (zd (fd.b1) rfl) dR)
 obtain⟨q,D,fe⟩:=bG
 exact obl rfl (lD (Iv (e.field)) kT (bH 10 dc) (zd (fe.b2) rfl) dR)
 refine fun aJ _ _ gx gy bI ai=>?_
 have hkk:=xE gx gy
 rcases hkk with rfl|rfl
 have ff:=bI
 refine obl rfl ?_
 have bJ:e.typ.toNat<d.types.length:=bo
 obtain⟨cB,an,hoke494⟩:=u.typD bJ
 have hsm496:((d.types.getD e.typ.toNat default).fields).length*48≤140737488355328:=an.small
 have hcw497:=ff.cells cB (u.foot (ne_of_lt bJ))
 have hi498:e.field.toNat<((d.types.getD e.typ.toNat default).fields).length:=bo
 exact zx (k:=4) (i:=e.field) oY wT (ai 9 dc) an.sl (ai 11 dc) ⟨by omega,by omega⟩ dR
 obtain⟨q,D,fg⟩:=bI
 refine obl rfl ?_
 have bK:e.typ.toNat<d.types.length:=bo
 obtain⟨cC,ao,hoke502⟩:=u.typD bK
 have hsm504:((d.types.getD e.typ.toNat default).fields).length*48≤140737488355328:=ao.small
 have hcw505:=fg.cells cC (u.foot (ne_of_lt bK))
 have hi506:e.field.toNat<((d.types.getD e.typ.toNat default).fields).length:=bo
 exact zx (k:=4) (i:=e.field) oY wT (ai 9 dc) ao.sl (ai 11 dc) ⟨by omega,by omega⟩ dR
 refine fun aK _ _ gz gA bL bM=>?_
 have hkk:=xE gz gA
 rcases hkk with rfl|rfl
 have bN:=bL
 refine obl rfl ?_
 have bO:e.typ.toNat<d.types.length:=bo
 obtain⟨cD,R,hoke516⟩:=u.typD bO
 have hsm518:((d.types.getD e.typ.toNat default).fields).length*48≤140737488355328:=R.small
 have hcw519:=bN.cells cD (u.foot (ne_of_lt bO))
 have bP:e.field.toNat<((d.types.getD e.typ.toNat default).fields).length:=bo
 obtain⟨cE,bp,hoke515⟩:=R.fldD bP
 have hsm521:((((d.types.getD e.typ.toNat default).fields).getD e.field.toNat default).moves).length*32≤140737488355328:=bp.small
 have cF:=bN.cells cE (R.foot (ne_of_lt bP))
 exact zi tR wT rfl (bM 12 dc) cF dR
 obtain⟨q,D,bQ⟩:=bL
 refine obl rfl ?_
 have bR:e.typ.toNat<d.types.length:=bo
 obtain⟨cG,S,hoke526⟩:=u.typD bR
 have hsm528:((d.types.getD e.typ.toNat default).fields).length*48≤140737488355328:=S.small
 have hcw529:=bQ.cells cG (u.foot (ne_of_lt bR))
 have bS:e.field.toNat<((d.types.getD e.typ.toNat default).fields).length:=bo
 obtain⟨cH,bq,hoke525⟩:=S.fldD bS
 have hsm531:((((d.types.getD e.typ.toNat default).fields).getD e.field.toNat default).moves).length*32≤140737488355328:=bq.small
 have cI:=bQ.cells cH (S.foot (ne_of_lt bS))
 exact zi tR wT rfl (bM 12 dc) cI dR
 refine ob1 0 fun _ _ (fh:Sep _ _ _ _) _=>(obl rfl ((zB Tryz.zeroValue87 ?_)))
 intro w355 q fj
 exact fun E N I=>⟨(exiA q (zA N (fh.new fj))),zl⟩
 refine ob1 1 fun _ _ fk fl=>?_
 obtain⟨q,D,aj⟩:=fk
 refine obl rfl ?_
 have bT:e.typ.toNat<d.types.length:=bo
 obtain⟨cJ,T,hoke369⟩:=u.typD bT
 have hsm371:((d.types.getD e.typ.toNat default).fields).length*48≤140737488355328:=T.small
 have hcw372:=aj.cells cJ (u.foot (ne_of_lt bT))
 have bU:e.field.toNat<((d.types.getD e.typ.toNat default).fields).length:=bo
 obtain⟨cK,ap,hoke368⟩:=T.fldD bU
 have hsm374:((((d.types.getD e.typ.toNat default).fields).getD e.field.toNat default).moves).length*32≤140737488355328:=ap.small
 have hcw375:=aj.cells cK (T.foot (ne_of_lt bU))
 refine(zw (v:=.agg ci.toArray) wT D (fl 13 dc) (aj.b0) (yo ⟨rfl,rfl,rfl,ap.sl.one,zl⟩) yqc rfl ?_)
 intro w366 fm
 exact fun E N I=>⟨(exiA q (zA ((I 14 dc).trans D) (aj.pt0 fm))),zl⟩
 intro vals w533 fn hA535
 obtain⟨q,D,fo⟩:=fn
 let gJ:=Blk q ci.toArray 87
 refine yi (kv:=[(0,Ix b 0),(1,.agg (e.cells de0).toArray),(3,Ix m 0),(4,.bool false),(5,Ix B 0),(25,.bool false),(6,Ix q 0)]) ⟨rfl,rfl,rfl,rfl,rfl,rfl,(by exact D),zl⟩ (fun ρw533=>(zb (za (za (R0 fun _=>st (aS (Iv 0) (zb (zu ?_))))))))
 refine yd (fun mq σ A=> ∃k ρ,mq=L.length-k∧σ=yg ρ [(0,Ix b 0),(3,Ix m 0),(4,.bool false),(5,Ix B 0),(6,Ix q 0),(7,Iw k)]∧(k≤L.length)∧(∀i,i<k→rJ d e (L.getD i default)=false)∧Sep G W ((Blk q ((((d.types.getD e.typ.toNat default).fields).getD e.field.toNat default).cells (zP W (sb (zP W (sb g) (so g+e.typ.toNat*1+0))) (so (zP W (sb g) (so g+e.typ.toNat*1+0))+e.field.toNat*4+3))).toArray 87)::(Blk B #[Iv 0,Iv 0] 52)::(Blk m (e.cells de0).toArray 55)::Rs) A) ⟨0,_,rfl,sSf,yc _,(fun i h=>absurd h (yO i)),fo⟩ ?_
 rintro m538 σ539 w537 ⟨k,ρl1,rfl,rfl,hkk,hno,J⟩
 let gD:=zP W (sb s) (so s+k*13+3)
 let gE:=((L.getD k default).ev).cells gD
 refine za (za (R0 fun _=>st (mV (Iw k) (st (mV (Ix b 0) (st (zj rfl (st (ZA rfl (st (lD s nR rfl (zd (J.gblk X) rfl) (st (zF oR rfl am.sl (st (zL rfl rfl (zb ?_))))))))))))))))
 cases Z:decide (((k:Nat):Int)<((L.length:Nat):Int))
 have hc541r:=Z
 have Z:=fD Z
 have hT:=zbh hfz (fun i hi=>hno i om)
 refine ze rfl (ye (zT (za (R0 fun _=>st (mV (Ix b 0) (st (xr rfl (st (lD (Iv (e.typ)) kT rfl (zd (J.b2) rfl) (st (Zl rfl (st (lD (Iv (e.agg)) kT rfl (zd (J.b2) rfl) (st (cL Tryz.call50 (Xn hb oe.typ oe.agg J hd hrl hml) ?_)))))))))))))))
 rintro _ w543 ⟨l,rfl,bV⟩
 let cj:=(yA d (e.typ,e.agg) L).cells l
 have bW:=bV.r0
 have hr545s:_*32≤_:=bW.2
 refine st (mV (.tuple #[.agg cj.toArray,.bool ((zm d L (e.typ,e.agg)).isSome)]) (st (zH rfl rfl (st (zH rfl rfl (st (zB Tryz.zeroValue48 ?_)))))))
 intro w548 K fp
 have bX:=bV.new fp
 refine stn (zw (v:=.agg cj.toArray) Tryz.sizeOf48 rfl rfl (bX.b0) (yo ⟨rfl,bW.1.one,zl⟩) yqc rfl ?_)
 intro w550 fq
 have aL:=bX.pt0 fq
 refine st (aS (.bool ((zm d L (e.typ,e.agg)).isSome)) (zb (za (R0 fun _=>st (xl rfl (st (lD l Tryz.isAgg46 rfl (zd (aL.b0) rfl) (st (aS l (zb (za (za (R0 fun _=>st (mV (.bool ((zm d L (e.typ,e.agg)).isSome)) (st (yH rfl (zb ?_)))))))))))))))))
 cases H: !((zm d L (e.typ,e.agg)).isSome)
 have aq:=H
 try simp only[zh]at H
 have ar:(zm d L (e.typ,e.agg)).isSome=true:=by simpa using aq
 replace H:=ar
 refine ze rfl (zr (za ?_))
 have aM:=aL.mv1
 rw[show(stL d (e.typ,e.agg) L)=(yr d (e.typ,e.agg) L)from ifnC (UK H)]at aM
 have fr:=aM.r0
 have hr555s:_*32≤_:=fr.2
 refine WD4 ((fun TT C=>WF [fun vals A=>Sep G W (C::TT) A,fun vals A=>(vals 16=(Iv ((xy (d.types.getD e.typ.toNat default) (yr d (e.typ,e.agg) L) e.field e.op e.arg)):Value))∧Sep G W (C::TT) A,fun vals A=>(vals 16=(Iv ((xy (d.types.getD e.typ.toNat default) (yr d (e.typ,e.agg) L) e.field e.op e.arg)):Value))∧Sep G W (C::TT) A]) ((Blk K cj.toArray 48)::gJ::gH::gF::Rs) (RowE own 105 l (yr d (e.typ,e.agg) L))) (AF [Vl 0 (Ix b 0),Vl 1 (Ix b 0),Vl 2 (Ix b 0),Vl 3 (Ix b 0),Vl 4 g,Vl 5 (Ix m 4),Vl 6 (Iv (e.typ)),Vl 7 gG,Vl 8 (.agg gI.toArray),Vl 9 l,Vl 10 (Ix m 6),Vl 11 (Iv (e.field)),Vl 12 (Ix m 7),Vl 13 (Iv (e.op)),Vl 14 (Ix m 8),Vl 15 (Iv (e.arg)),fun _=>True,Vl 17 (.bool (!decide ((xy (d.types.getD e.typ.toNat default) (yr d (e.typ,e.agg) L) e.field e.op e.arg)=0))),Vl 18 (.agg #[Iv 0,Iv 0]),Vl 19 (.bool (!decide ((xy (d.types.getD e.typ.toNat default) (yr d (e.typ,e.agg) L) e.field e.op e.arg)=0))),fun _=>True]) [[],[0],[0,1],[0,1,2],(rg 4),[],[5],(rg 7),(rg 8),[],[],[10],[],[12],[],[14],(rg 16),(rg 17),[],(rg 18),(rg 20)] [16,20] [(0,0),(0,0),(0,0),(0,0),(0,0),(0,0),(0,0),(0,0),(0,0),(0,0),(0,0),(0,0),(0,0),(0,0),(0,0),(0,0),(0,0),(1,1),(0,1),(1,1),(1,1)] aM ⟨fun _ _ _ _ _ _ _=>obl rfl (mV (Ix b 0) dR),fun _ _ _ _ _ _ fs=>obl rfl (zj (fs 0 (by decide)) dR),fun _ _ _ _ _ _ ft=>obl rfl (Ym (ft 1 (by decide)) dR),fun _ _ _ _ _ _ fu=>obl rfl (yD (fu 2 (by decide)) dR),ob1 0 fun _ _ (fv:Sep _ _ _ _) fw=>obl rfl (lD g lR (fw 3 (by decide)) (zd (fv.gblk X) rfl) dR),fun _ _ _ _ _ _ _=>obl rfl (xr rfl dR),ob1 0 fun _ _ (fx:Sep _ _ _ _) fy=>obl rfl (lD (Iv (e.typ)) kT (fy 5 (by decide)) (zd (fx.b4) rfl) dR),?_,?_,fun _ _ _ _ _ _ _=>obl rfl (mV l dR),fun _ _ _ _ _ _ _=>obl rfl (xJ rfl dR),ob1 0 fun _ _ (fz:Sep _ _ _ _) fA=>obl rfl (lD (Iv (e.field)) kT (fA 10 (by decide)) (zd (fz.b4) rfl) dR),fun _ _ _ _ _ _ _=>obl rfl (xZ rfl dR),ob1 0 fun _ _ (fB:Sep _ _ _ _) fC=>obl rfl (lD (Iv (e.op)) kT (fC 12 (by decide)) (zd (fB.b4) rfl) dR),fun _ _ _ _ _ _ _=>obl rfl (xu rfl dR),ob1 0 fun _ _ (fE:Sep _ _ _ _) fF=>obl rfl (lD (Iv (e.arg)) kT (fF 14 (by decide)) (zd (fE.b4) rfl) dR),?_,?_,fun _ _ _ _ _ _ _=>obl rfl (zX (parts':=[]) (v:=.agg #[Iv 0,Iv 0]) rfl (by simp+zetaDelta [Instr.build,Instr.fill,go_sem,Zc]) dR),fun _ _ _ _ _ _ fG=>obl rfl (zM (fG 17 (by decide)) dR),?_,zl⟩ ?_
 refine ob1 0 fun _ _ _ bY=>(obl rfl ?_)
 have hi791:e.typ.toNat<d.types.length:=bo
 exact zx mR sT (bY 4 dc) u.sl (bY 6 dc) ⟨by omega,by omega⟩ dR
 refine ob1 0 fun _ _ (fH:Sep _ _ _ _) fI=>(obl rfl ?_)
 have bZ:e.typ.toNat<d.types.length:=bo
 obtain⟨cM,br,hoke800⟩:=u.typD bZ
 have hsm802:((d.types.getD e.typ.toNat default).fields).length*48≤140737488355328:=br.small
 have cN:=fH.cells cM (u.foot (ne_of_lt bZ))
 exact zi uR sT rfl (fI 7 dc) cN dR
 refine ob1 0 fun vals _ (ca:Sep _ _ _ _) aa=>(obl rfl ?_)
 have cb:e.typ.toNat<d.types.length:=bo
 obtain⟨cO,au,cl⟩:=u.typD cb
 have hsm689:((d.types.getD e.typ.toNat default).fields).length*48≤140737488355328:=au.small
 have hcw690:=ca.cells cO (u.foot (ne_of_lt cb))
 obtain⟨G691,fJ,fK,fL,fM⟩:=ca.lend
 have aN:=RowE.rd fJ
 have hrd697s:_*32≤_:=aN.small
 refine(zV (vals:=[.agg ((d.types.getD e.typ.toNat default).cells (zP W (sb g) (so g+e.typ.toNat*1+0))).toArray,l,Iv (e.field),Iv (e.op),Iv (e.arg)]) rfl (yM ⟨(aa 8 dc),(aa 9 dc),(aa 11 dc),(aa 13 dc),(aa 15 dc),zl⟩) pY (US (zS au fK) cl aN oe.field oe.op oe.arg fL ((hft.ask (hd.typ _ om) (hrl.inv hd e.typ e.agg gh gi)))) ?_)
 rintro _ w698 ⟨rfl,fN⟩
 have fO:=fM _ _ fN
 exact fun E N I=>⟨(zA N fO),zl⟩
 refine ob1 1 fun _ _ fP _=>?_
 obtain⟨ak,hS858⟩:=fP
 exact obl rfl (yx ak rfl dR)
 refine ob1 1 fun _ _ fQ fR=>?_
 obtain⟨ak,cc⟩:=fQ
 refine obl rfl ((zw (v:=.agg #[Iv 0,Iv 0]) oT rfl (fR 18 dc) (cc.b3) (yo ⟨rfl,rfl,zl⟩) yqc rfl ?_))
 intro w730 fS
 exact fun E N I=>⟨(zA ((I 16 dc).trans ak) (cc.pt3 fS)),zl⟩
 intro vals gB fT fU
 obtain⟨ak,cd⟩:=fT
 have gC:=fU 19 dc
 refine yi (kv:=[(0,Ix b 0),(3,Ix m 0),(4,.bool (!decide ((xy (d.types.getD e.typ.toNat default) (yr d (e.typ,e.agg) L) e.field e.op e.arg)=0))),(5,Ix B 0),(6,Ix q 0),(7,Iw k),(41,Iw k),(42,Ix b 0),(43,Ix b 0),(44,Ix b 2),(45,s),(46,Iw L.length),(47,.bool false),(97,Ix b 0),(98,Ix m 4),(99,Iv (e.typ)),(100,Ix m 5),(101,Iv (e.agg)),(102,.tuple #[.agg cj.toArray,.bool ((zm d L (e.typ,e.agg)).isSome)]),(96,.tuple #[.agg cj.toArray,.bool ((zm d L (e.typ,e.agg)).isSome)]),(103,.agg cj.toArray),(104,.bool ((zm d L (e.typ,e.agg)).isSome)),(9,Ix K 0),(10,.bool ((zm d L (e.typ,e.agg)).isSome)),(105,Ix K 1),(106,l),(11,l),(107,.bool ((zm d L (e.typ,e.agg)).isSome)),(108,.bool false)]) ⟨rfl,rfl,(by exact gC),rfl,rfl,rfl,rfl,rfl,rfl,rfl,rfl,rfl,rfl,rfl,rfl,rfl,rfl,rfl,rfl,rfl,rfl,rfl,rfl,rfl,rfl,rfl,rfl,rfl,rfl,zl⟩ (fun ρw872=>?_)
 refine zb (zp (YL pR qT oT rfl rfl (zo (cd.b3)) (show _=(.bool (!decide ((xy (d.types.getD e.typ.toNat default) (yr d (e.typ,e.agg) L) e.field e.op e.arg)=0)):Value)from rfl) ?_))
 have fV:Sep G W Rs gB:=cd.sel 5 [] (xW _ _) rfl rfl
 rw[hT]
 refine⟨rfl,?_,fV⟩
 exact⟨(by decide:InR 0),(by decide:InR 0)⟩
 have aq:=H
 try simp only[zh]at H
 have ar:(zm d L (e.typ,e.agg)).isSome=false:=by simpa using aq
 replace H:=ar
 refine zf rfl ?_
 refine WD4 ((fun TT C=>WF [fun vals A=>Sep G W (C::TT) A,fun vals A=> ∃z,(vals 9=z)∧Sep G W ((RowE own 105 z (List.replicate (d.types.getD e.typ.toNat default).fields.length (⟨0,[]⟩:Cel)))::C::TT) A]) ((RowE own 105 l (stL d (e.typ,e.agg) L))::gJ::gH::gF::Rs) (Blk K cj.toArray 48)) (AF [Vl 0 (Ix b 0),Vl 1 (Ix b 0),Vl 2 (Ix b 0),Vl 3 (Ix b 0),Vl 4 g,Vl 5 (Ix m 4),Vl 6 (Iv (e.typ)),Vl 7 gG,Vl 8 (.agg gI.toArray),fun _=>True,fun vals=> ∀(z:Value),vals 9=z→vals 10=z]) [[],[0],[0,1],[0,1,2],(rg 4),[],[5],(rg 7),(rg 8),(rg 9),(rg 10)] [9] [(0,0),(0,0),(0,0),(0,0),(0,0),(0,0),(0,0),(0,0),(0,0),(0,0),(1,1)] aL ⟨fun _ _ _ _ _ _ _=>obl rfl (mV (Ix b 0) dR),fun _ _ _ _ _ _ fW=>obl rfl (zj (fW 0 dc) dR),fun _ _ _ _ _ _ fX=>obl rfl (Ym (fX 1 dc) dR),fun _ _ _ _ _ _ fY=>obl rfl (yD (fY 2 dc) dR),ob1 0 fun _ _ (cP:Sep _ _ _ _) cQ=>obl rfl (lD g lR (cQ 3 dc) (zd (cP.gblk X) rfl) dR),fun _ _ _ _ _ _ _=>obl rfl (xr rfl dR),ob1 0 fun _ _ (cR:Sep _ _ _ _) cS=>obl rfl (lD (Iv (e.typ)) kT (cS 5 dc) (zd (cR.b4) rfl) dR),?_,?_,?_,?_,zl⟩ ?_ (hlocA:=xv ⟨dA,dA,dA,dA,dA,dA,dA,dA,dA,dT,fun vals E N h=>fun z ce=>(N 10 (.inl rfl)).trans (h z ((N 9 (.inr dc)).symm.trans ce)),zl⟩)
 refine ob1 0 fun _ _ _ aO=>(obl rfl ?_)
 have hi1031:e.typ.toNat<d.types.length:=bo
 exact zx mR sT (aO 4 dc) u.sl (aO 6 dc) ⟨by omega,by omega⟩ dR
 refine ob1 0 fun _ _ (cT:Sep _ _ _ _) cU=>(obl rfl ?_)
 have aP:e.typ.toNat<d.types.length:=bo
 obtain⟨cm,aQ,hoke1040⟩:=u.typD aP
 have hsm1042:((d.types.getD e.typ.toNat default).fields).length*48≤140737488355328:=aQ.small
 have cn:=cT.cells cm (u.foot (ne_of_lt aP))
 exact zi uR sT rfl (cU 7 dc) cn dR
 refine ob1 0 fun vals _ (cf:Sep _ _ _ _) fZ=>(obl rfl ?_)
 have cg:e.typ.toNat<d.types.length:=bo
 obtain⟨cV,av,co⟩:=u.typD cg
 have hsm959:((d.types.getD e.typ.toNat default).fields).length*48≤140737488355328:=av.small
 have hcw960:=cf.cells cV (u.foot (ne_of_lt cg))
 refine(zV (vals:=[.agg gI.toArray]) rfl (yM ⟨(fZ 8 dc),zl⟩) Tryz.call76 (WR av co cf) ?_)
 rintro z w962 ⟨_,rfl,ch⟩
 have ga:=ch.r0
 have hr964s:_*32≤_:=ga.2
 exact fun E N I=>⟨(exiA z (zA N ch)),zl⟩
 refine ob1 1 fun _ _ cW _=>?_
 obtain⟨z,al,hS1050⟩:=cW
 refine obl rfl (zM al (fun E N I=>⟨rfl,?_⟩))
 intro v961q ce
 rw[I 9 (by decide)]at ce;cases al.symm.trans ce
 exact N
 intro vals w1051 cX cY
 obtain⟨z,al,aw⟩:=cX
 have gc:=cY 10 dc z al
 refine yi (kv:=[(0,Ix b 0),(3,Ix m 0),(4,.bool false),(5,Ix B 0),(6,Ix q 0),(7,Iw k),(41,Iw k),(42,Ix b 0),(43,Ix b 0),(44,Ix b 2),(45,s),(46,Iw L.length),(47,.bool false),(97,Ix b 0),(98,Ix m 4),(99,Iv (e.typ)),(100,Ix m 5),(101,Iv (e.agg)),(102,.tuple #[.agg cj.toArray,.bool ((zm d L (e.typ,e.agg)).isSome)]),(96,.tuple #[.agg cj.toArray,.bool ((zm d L (e.typ,e.agg)).isSome)]),(103,.agg cj.toArray),(104,.bool ((zm d L (e.typ,e.agg)).isSome)),(9,Ix K 0),(10,.bool ((zm d L (e.typ,e.agg)).isSome)),(105,Ix K 1),(106,l),(11,z),(107,.bool ((zm d L (e.typ,e.agg)).isSome)),(108,.bool true)]) ⟨rfl,rfl,rfl,rfl,rfl,rfl,rfl,rfl,rfl,rfl,rfl,rfl,rfl,rfl,rfl,rfl,rfl,rfl,rfl,rfl,rfl,rfl,rfl,rfl,rfl,rfl,(by exact gc),rfl,rfl,zl⟩ (fun ρw1051=>?_)
 refine zb (za ?_)
 rw[show(List.replicate (d.types.getD e.typ.toNat default).fields.length (⟨0,[]⟩:Cel))=(yr d (e.typ,e.agg) L)from(JN (UQ H)).symm]at aw
 have cZ:=aw.r0
 have hr1056s:_*32≤_:=cZ.2
 refine WD4 ((fun TT C=>WF [fun vals A=>Sep G W (C::TT) A,fun vals A=>(vals 16=(Iv ((xy (d.types.getD e.typ.toNat default) (yr d (e.typ,e.agg) L) e.field e.op e.arg)):Value))∧Sep G W (C::TT) A,fun vals A=>(vals 16=(Iv ((xy (d.types.getD e.typ.toNat default) (yr d (e.typ,e.agg) L) e.field e.op e.arg)):Value))∧Sep G W (C::TT) A]) ((Blk K cj.toArray 48)::(RowE own 105 l (stL d (e.typ,e.agg) L))::gJ::gH::gF::Rs) (RowE own 105 z (yr d (e.typ,e.agg) L))) (AF [Vl 0 (Ix b 0),Vl 1 (Ix b 0),Vl 2 (Ix b 0),Vl 3 (Ix b 0),Vl 4 g,Vl 5 (Ix m 4),Vl 6 (Iv (e.typ)),Vl 7 gG,Vl 8 (.agg gI.toArray),Vl 9 z,Vl 10 (Ix m 6),Vl 11 (Iv (e.field)),Vl 12 (Ix m 7),Vl 13 (Iv (e.op)),Vl 14 (Ix m 8),Vl 15 (Iv (e.arg)),fun _=>True,Vl 17 (.bool (!decide ((xy (d.types.getD e.typ.toNat default) (yr d (e.typ,e.agg) L) e.field e.op e.arg)=0))),Vl 18 (.agg #[Iv 0,Iv 0]),Vl 19 (.bool (!decide ((xy (d.types.getD e.typ.toNat default) (yr d (e.typ,e.agg) L) e.field e.op e.arg)=0))),fun _=>True]) [[],[0],[0,1],[0,1,2],(rg 4),[],[5],(rg 7),(rg 8),[],[],[10],[],[12],[],[14],(rg 16),(rg 17),[],(rg 18),(rg 20)] [16,20] [(0,0),(0,0),(0,0),(0,0),(0,0),(0,0),(0,0),(0,0),(0,0),(0,0),(0,0),(0,0),(0,0),(0,0),(0,0),(0,0),(0,0),(1,1),(0,1),(1,1),(1,1)] aw ⟨fun _ _ _ _ _ _ _=>obl rfl (mV (Ix b 0) dR),fun _ _ _ _ _ _ da=>obl rfl (zj (da 0 (by decide)) dR),fun _ _ _ _ _ _ db=>obl rfl (Ym (db 1 (by decide)) dR),fun _ _ _ _ _ _ dd=>obl rfl (yD (dd 2 (by decide)) dR),ob1 0 fun _ _ (de:Sep _ _ _ _) df=>obl rfl (lD g lR (df 3 (by decide)) (zd (de.gblk X) rfl) dR),fun _ _ _ _ _ _ _=>obl rfl (xr rfl dR),ob1 0 fun _ _ (dg:Sep _ _ _ _) dh=>obl rfl (lD (Iv (e.typ)) kT (dh 5 (by decide)) (zd (dg.b5) rfl) dR),?_,?_,fun _ _ _ _ _ _ _=>obl rfl (mV z dR),fun _ _ _ _ _ _ _=>obl rfl (xJ rfl dR),ob1 0 fun _ _ (di:Sep _ _ _ _) dj=>obl rfl (lD (Iv (e.field)) kT (dj 10 (by decide)) (zd (di.b5) rfl) dR),fun _ _ _ _ _ _ _=>obl rfl (xZ rfl dR),ob1 0 fun _ _ (dk:Sep _ _ _ _) dl=>obl rfl (lD (Iv (e.op)) kT (dl 12 (by decide)) (zd (dk.b5) rfl) dR),fun _ _ _ _ _ _ _=>obl rfl (xu rfl dR),ob1 0 fun _ _ (dm:Sep _ _ _ _) dp=>obl rfl (lD (Iv (e.arg)) kT (dp 14 (by decide)) (zd (dm.b5) rfl) dR),?_,?_,fun _ _ _ _ _ _ _=>obl rfl (zX (parts':=[]) (v:=.agg #[Iv 0,Iv 0]) rfl (by simp+zetaDelta [Instr.build,Instr.fill,go_sem,Zc]) dR),fun _ _ _ _ _ _ dq=>obl rfl (zM (dq 17 (by decide)) dR),?_,zl⟩ ?_
 refine ob1 0 fun _ _ _ aR=>(obl rfl ?_)
 have hi1292:e.typ.toNat<d.types.length:=bo
 exact zx mR sT (aR 4 dc) u.sl (aR 6 dc) ⟨by omega,by omega⟩ dR
 refine ob1 0 fun _ _ (dr:Sep _ _ _ _) ds=>(obl rfl ?_)
 have aT:e.typ.toNat<d.types.length:=bo
 obtain⟨cp,aU,hoke1301⟩:=u.typD aT
 have hsm1303:((d.types.getD e.typ.toNat default).fields).length*48≤140737488355328:=aU.small
 have cq:=dr.cells cp (u.foot (ne_of_lt aT))
 exact zi uR sT rfl (ds 7 dc) cq dR
 refine ob1 0 fun vals _ (aV:Sep _ _ _ _) O=>(obl rfl ?_)
 have aW:e.typ.toNat<d.types.length:=bo
 obtain⟨cr,af,bs⟩:=u.typD aW
 have hsm1190:((d.types.getD e.typ.toNat default).fields).length*48≤140737488355328:=af.small
 have hcw1191:=aV.cells cr (u.foot (ne_of_lt aW))
 obtain⟨G1192,dt,du,dv,dw⟩:=aV.lend
 have aB:=RowE.rd dt
 have hrd1198s:_*32≤_:=aB.small
 refine(zV (vals:=[.agg ((d.types.getD e.typ.toNat default).cells (zP W (sb g) (so g+e.typ.toNat*1+0))).toArray,z,Iv (e.field),Iv (e.op),Iv (e.arg)]) rfl (yM ⟨(O 8 dc),(O 9 dc),(O 11 dc),(O 13 dc),(O 15 dc),zl⟩) pY (US (zS af du) bs aB oe.field oe.op oe.arg dv ((hft.ask (hd.typ _ om) (hrl.inv hd e.typ e.agg gh gi)))) ?_)
 rintro _ w1199 ⟨rfl,dx⟩
 have dy:=dw _ _ dx
 exact fun E N I=>⟨(zA N dy),zl⟩
 refine ob1 1 fun _ _ dz _=>?_
 obtain⟨ab,hS1359⟩:=dz
 exact obl rfl (yx ab rfl dR)
 refine ob1 1 fun _ _ dB dD=>?_
 obtain⟨ab,aX⟩:=dB
 refine obl rfl ((zw (v:=.agg #[Iv 0,Iv 0]) oT rfl (dD 18 dc) (aX.b4) (yo ⟨rfl,rfl,zl⟩) yqc rfl ?_))
 intro w1231 dE
 exact fun E N I=>⟨(zA ((I 16 dc).trans ab) (aX.pt4 dE)),zl⟩
 intro vals gd dF dG
 obtain⟨ab,aY⟩:=dF
 have ge:=dG 19 dc
 refine yi (kv:=[(0,Ix b 0),(3,Ix m 0),(4,.bool (!decide ((xy (d.types.getD e.typ.toNat default) (yr d (e.typ,e.agg) L) e.field e.op e.arg)=0))),(5,Ix B 0),(6,Ix q 0),(7,Iw k),(41,Iw k),(42,Ix b 0),(43,Ix b 0),(44,Ix b 2),(45,s),(46,Iw L.length),(47,.bool false),(97,Ix b 0),(98,Ix m 4),(99,Iv (e.typ)),(100,Ix m 5),(101,Iv (e.agg)),(102,.tuple #[.agg cj.toArray,.bool ((zm d L (e.typ,e.agg)).isSome)]),(96,.tuple #[.agg cj.toArray,.bool ((zm d L (e.typ,e.agg)).isSome)]),(103,.agg cj.toArray),(104,.bool ((zm d L (e.typ,e.agg)).isSome)),(9,Ix K 0),(10,.bool ((zm d L (e.typ,e.agg)).isSome)),(105,Ix K 1),(106,l),(11,z),(107,.bool ((zm d L (e.typ,e.agg)).isSome)),(108,.bool true)]) ⟨rfl,rfl,(by exact ge),rfl,rfl,rfl,rfl,rfl,rfl,rfl,rfl,rfl,rfl,rfl,rfl,rfl,rfl,rfl,rfl,rfl,rfl,rfl,rfl,rfl,rfl,rfl,rfl,rfl,rfl,zl⟩ (fun ρw1373=>?_)
 refine zb (zp (YL pR qT oT rfl rfl (zo (aY.b4)) (show _=(.bool (!decide ((xy (d.types.getD e.typ.toNat default) (yr d (e.typ,e.agg) L) e.field e.op e.arg)=0)):Value)from rfl) ?_))
 have dH:Sep G W Rs gd:=aY.sel 6 [] (xW _ _) rfl rfl
 rw[hT]
 refine⟨rfl,?_,dH⟩
 exact⟨(by decide:InR 0),(by decide:InR 0)⟩
 have Z:=tD Z
 refine zf rfl (zr (za (zu (za (R0 fun _=>st (mV (Ix b 0) (st (zj rfl (st (ZA rfl (st (lD s nR rfl (zd (J.gblk X) rfl) (st (mV (Iw k) ?_))))))))))))))
 have dI:k<L.length:=bo
 refine st (zg oR vT rfl am.sl rfl dI (st (xt rfl ?_)))
 have ax:k<L.length:=bo
 obtain⟨aC,P,U⟩:=am.entD ax
 have hsm1382:((L.getD k default).ev.deps).length*8≤140737488355328:=P.small
 have ct:=J.cells aC (am.foot (ne_of_lt ax))
 refine st (zi (cs:=[Iv ((L.getD k default).ev.origin),Iv ((L.getD k default).ev.seq),Iv ((L.getD k default).ev.lam),gD,Iv ((L.getD k default).ev.typ),Iv ((L.getD k default).ev.agg),Iv ((L.getD k default).ev.field),Iv ((L.getD k default).ev.op),Iv ((L.getD k default).ev.arg),Iv ((L.getD k default).ev.key)]) tT rT rfl rfl (CellsAt.sub ct 0 (cs2:=[Iv ((L.getD k default).ev.origin),Iv ((L.getD k default).ev.seq),Iv ((L.getD k default).ev.lam),gD,Iv ((L.getD k default).ev.typ),Iv ((L.getD k default).ev.agg),Iv ((L.getD k default).ev.field),Iv ((L.getD k default).ev.op),Iv ((L.getD k default).ev.arg),Iv ((L.getD k default).ev.key)]) rfl) (st (zB qY ?_)))
 intro w1386 M dJ
 have aZ:=J.new dJ
 refine stn (zw (v:=.agg gE.toArray) rT rfl rfl (aZ.b0) (yo ⟨rfl,rfl,rfl,P.sl.one,rfl,rfl,rfl,rfl,rfl,rfl,zl⟩) yqc rfl ?_)
 intro w1388 dK
 have y:=aZ.pt0 dK
 refine zb (za (zG kr (st (mV (Ix b 0) (st (zj rfl (st (ZA rfl (st (lD s nR rfl (zd (y.gblk X) rfl) (st (mV (Iw k) ?_))))))))))))
 have dL:k<L.length:=bo
 refine st (zg oR vT rfl am.sl rfl dL (st (Vf rfl ?_)))
 have cu:=y.cells aC (am.foot (ne_of_lt ax))
 refine st (lD (.bool ((L.getD k default).void)) rY rfl (cu.get (j:=10) rfl) (st (yH rfl (st (mV (.bool (!((L.getD k default).void))) (stc (V:=Ix M 4) rfl rfl (fun dM=>?_) ?_))))))
 have dN:=dM
 try simp only[zh]at dN
 exact xr rfl rflB
 refine stc (V:=Iv (((L.getD k default).ev).typ)) rfl rfl (fun ba=>?_) ?_
 have dO:=ba
 try simp only[zh]at dO
 exact lD (Iv (((L.getD k default).ev).typ)) kT (ifpC ba) (zd (y.b0) rfl) rflB
 refine stc (V:=Ix m 4) rfl rfl (fun dP=>?_) ?_
 have dQ:=dP
 try simp only[zh]at dQ
 exact xr rfl rflB
 refine stc (V:=Iv (e.typ)) rfl rfl (fun bb=>?_) ?_
 have dS:=bb
 try simp only[zh]at dS
 exact lD (Iv (e.typ)) kT (ifpC bb) (zd (y.b3) rfl) rflB
 refine stc (V:=.bool (decide ((((L.getD k default).ev).typ)=e.typ))) rfl rfl (fun ay=>?_) ?_
 have dU:=ay
 try simp only[zh]at dU
 exact zQ (ifpC ay) (ifpC ay) rflB
 refine st (zv rfl (fun hbp=>(ifpC hbp)) (st (mV (.bool ((!((L.getD k default).void))&&(decide ((((L.getD k default).ev).typ)=e.typ)))) (stc (V:=Ix M 5) rfl rfl (fun dV=>?_) ?_))))
 have dW:=dV
 try simp only[zh]at dW
 exact Zl rfl rflB
 refine stc (V:=Iv (((L.getD k default).ev).agg)) rfl rfl (fun bc=>?_) ?_
 have dX:=bc
 try simp only[zh]at dX
 exact lD (Iv (((L.getD k default).ev).agg)) kT (ifpC bc) (zd (y.b0) rfl) rflB
 refine stc (V:=Ix m 5) rfl rfl (fun dY=>?_) ?_
 have dZ:=dY
 try simp only[zh]at dZ
 exact Zl rfl rflB
 refine stc (V:=Iv (e.agg)) rfl rfl (fun bd=>?_) ?_
 have ea:=bd
 try simp only[zh]at ea
 exact lD (Iv (e.agg)) kT (ifpC bd) (zd (y.b3) rfl) rflB
 refine stc (V:=.bool (decide ((((L.getD k default).ev).agg)=e.agg))) rfl rfl (fun az=>?_) ?_
 have eb:=az
 try simp only[zh]at eb
 exact zQ (ifpC az) (ifpC az) rflB
 refine st (zv rfl (fun hbp=>(ifpC hbp)) (st (mV (.bool (((!((L.getD k default).void))&&(decide ((((L.getD k default).ev).typ)=e.typ)))&&(decide ((((L.getD k default).ev).agg)=e.agg)))) (stc (V:=Ix M 6) rfl rfl (fun ec=>?_) ?_))))
 have ed:=ec
 try simp only[zh]at ed
 exact xJ rfl rflB
 refine stc (V:=Iv (((L.getD k default).ev).field)) rfl rfl (fun be=>?_) ?_
 have ee:=be
 try simp only[zh]at ee
 exact lD (Iv (((L.getD k default).ev).field)) kT (ifpC be) (zd (y.b0) rfl) rflB
 refine stc (V:=Ix m 6) rfl rfl (fun ef=>?_) ?_
 have eg:=ef
 try simp only[zh]at eg
 exact xJ rfl rflB
 refine stc (V:=Iv (e.field)) rfl rfl (fun bf=>?_) ?_
 have eh:=bf
 try simp only[zh]at eh
 exact lD (Iv (e.field)) kT (ifpC bf) (zd (y.b3) rfl) rflB
 refine stc (V:=.bool (decide ((((L.getD k default).ev).field)=e.field))) rfl rfl (fun aA=>?_) ?_
 have ei:=aA
 try simp only[zh]at ei
 exact zQ (ifpC aA) (ifpC aA) rflB
 refine st (zv rfl (fun hbp=>(ifpC hbp)) (st (mV (.bool ((((!((L.getD k default).void))&&(decide ((((L.getD k default).ev).typ)=e.typ)))&&(decide ((((L.getD k default).ev).agg)=e.agg)))&&(decide ((((L.getD k default).ev).field)=e.field)))) (stc (V:=.agg ci.toArray) rfl rfl (fun ej=>?_) ?_))))
 have ek:=ej
 try simp only[zh]at ek
 exact zi tR wT rfl rfl (zo (y.b1)) rflB
 refine stc (V:=.agg gE.toArray) rfl rfl (fun el=>?_) ?_
 have em:=el
 try simp only[zh]at em
 exact zi tT rT rfl rfl (zo (y.b0)) rflB
 refine stc (V:=.agg (e.cells de0).toArray) rfl rfl (fun en=>?_) ?_
 have eo:=en
 try simp only[zh]at eo
 exact zi tT rT rfl rfl (zo (y.b3)) rflB
 refine zdu (V:=.bool ((xj (((d.types.getD e.typ.toNat default).fields).getD e.field.toNat default) ((L.getD k default).ev) e))) (fun _ A=>Sep G W ((Blk M gE.toArray 55)::gJ::gH::gF::Rs) A) y rfl rfl (fun ac=>?_) (fun w1442 bg=>?_)
 have er:=ac
 try simp only[zh]at er
 have bh:e.typ.toNat<d.types.length:=bo
 obtain⟨cv,Q,hoke1433⟩:=u.typD bh
 have hsm1435:((d.types.getD e.typ.toNat default).fields).length*48≤140737488355328:=Q.small
 have hcw1436:=y.cells cv (u.foot (ne_of_lt bh))
 have bi:e.field.toNat<((d.types.getD e.typ.toNat default).fields).length:=bo
 obtain⟨cw,ag,bt⟩:=Q.fldD bi
 have hsm1438:((((d.types.getD e.typ.toNat default).fields).getD e.field.toNat default).moves).length*32≤140737488355328:=ag.small
 have hcw1439:=y.cells cw (Q.foot (ne_of_lt bi))
 refine(zV (vals:=[.agg ci.toArray,.agg gE.toArray,.agg (e.cells de0).toArray]) rfl (yM ⟨(ifpC ac),(ifpC ac),(ifpC ac),zl⟩) Tryz.call101 (QO ag bt P U.ev hde0 oe y) ?_)
 rintro _ w1440 ⟨rfl,es⟩
 exact⟨rfl,es⟩
 refine st (zv rfl (fun hbp=>(ifpC hbp)) (zb ?_))
 cases ad:((((!((L.getD k default).void))&&(decide ((((L.getD k default).ev).typ)=e.typ)))&&(decide ((((L.getD k default).ev).agg)=e.agg)))&&(decide ((((L.getD k default).ev).field)=e.field)))&&(xj (((d.types.getD e.typ.toNat default).fields).getD e.field.toNat default) ((L.getD k default).ev) e)
 have ae:=ad
 try simp only[zh]at ad
 refine ze rfl (zr (R0 fun _=>st (mV (Iw k) ?_)))
 have et:InR ((k+1:Nat):Int):=bo
 refine st (zR (r:=((k+1:Nat):Int)) rfl rfl (by rw[show(((k:Nat):Int)+1:Int)=((k+1:Nat):Int)from bo];exact zz et) (st (aS (Iw (k+1)) (zb ?_))))
 exact⟨_,by omega,k+1,_,rfl,sSf,by omega,(xe hno (rj_raw.trans ae)),(bg.s4_bcd)⟩
 have ae:=ad
 try simp only[zh]at ad
 have hT:=zdb hfz om hno (rj_raw.trans ae)
 refine zf rfl (za ?_)
 refine WD4 ((fun TT C gj=>WF [fun vals A=>Sep G W (C::gj::gH::TT) A,fun vals A=>Sep G W (C::gj::(Blk B #[Iv (((L.getD k default).ev).origin),Iv (((L.getD k default).ev).seq)] 52)::TT) A]) (gF::Rs) (Blk M gE.toArray 55) gJ) (AF [Vl 0 (Ix M 0),Vl 1 (.agg #[Iv (((L.getD k default).ev).origin),Iv (((L.getD k default).ev).seq)]),Vl 2 (.bool true),fun _=>True]) [[],[0],[],[0,1,2]] [3] [(0,0),(0,0),(0,0),(0,0)] bg ⟨fun _ _ _ _ _ _ _=>obl rfl (xc rfl dR),ob1 0 fun _ _ (eu:Sep _ _ _ _) ew=>obl rfl (zi qT oT rfl (ew 0 dc) (CellsAt.sub (zo (eu.b0)) 0 rfl) dR),fun _ _ _ _ _ _ _=>obl rfl (aS (.bool true) dR),?_,zl⟩ ?_
 refine ob1 0 fun _ _ (bj:Sep _ _ _ _) ex=>(obl rfl ((zw (v:=.agg #[Iv (((L.getD k default).ev).origin),Iv (((L.getD k default).ev).seq)]) oT rfl (ex 1 dc) (bj.b2) (yo ⟨rfl,rfl,zl⟩) yqc rfl ?_)))
 intro w1475 ey
 exact fun E N I=>⟨(bj.pt2 ey),zl⟩
 intro vals w1498 ez eA
 have bk:=ez
 have gf:=eA 2 dc
 refine yi (kv:=[(0,Ix b 0),(3,Ix m 0),(4,.bool true),(5,Ix B 0),(6,Ix q 0),(7,Iw k),(41,Iw k),(42,Ix b 0),(43,Ix b 0),(44,Ix b 2),(45,s),(46,Iw L.length),(47,.bool true),(50,Ix b 0),(51,Ix b 0),(52,Ix b 2),(53,s),(54,Iw k),(55,Ix (sb s) (so s+k*13)),(56,Ix (sb s) (so s+k*13)),(57,.agg gE.toArray),(8,Ix M 0),(58,Ix b 0),(59,Ix b 0),(60,Ix b 2),(61,s),(62,Iw k),(63,Ix (sb s) (so s+k*13)),(64,Ix (sb s) (so s+k*13+10)),(65,.bool ((L.getD k default).void)),(66,.bool (!((L.getD k default).void))),(67,.bool (!((L.getD k default).void))),(73,.bool ((!((L.getD k default).void))&&(decide ((((L.getD k default).ev).typ)=e.typ)))),(74,.bool ((!((L.getD k default).void))&&(decide ((((L.getD k default).ev).typ)=e.typ)))),(80,.bool (((!((L.getD k default).void))&&(decide ((((L.getD k default).ev).typ)=e.typ)))&&(decide ((((L.getD k default).ev).agg)=e.agg)))),(81,.bool (((!((L.getD k default).void))&&(decide ((((L.getD k default).ev).typ)=e.typ)))&&(decide ((((L.getD k default).ev).agg)=e.agg)))),(87,.bool ((((!((L.getD k default).void))&&(decide ((((L.getD k default).ev).typ)=e.typ)))&&(decide ((((L.getD k default).ev).agg)=e.agg)))&&(decide ((((L.getD k default).ev).field)=e.field)))),(88,.bool ((((!((L.getD k default).void))&&(decide ((((L.getD k default).ev).typ)=e.typ)))&&(decide ((((L.getD k default).ev).agg)=e.agg)))&&(decide ((((L.getD k default).ev).field)=e.field)))),(93,.bool true)]) ⟨rfl,rfl,(by exact gf),rfl,rfl,rfl,rfl,rfl,rfl,rfl,rfl,rfl,rfl,rfl,rfl,rfl,rfl,rfl,rfl,rfl,rfl,rfl,rfl,rfl,rfl,rfl,rfl,rfl,rfl,rfl,rfl,rfl,rfl,rfl,rfl,rfl,rfl,rfl,rfl,zl⟩ (fun ρw1498=>?_)
 refine zb (zp (YL pR qT oT rfl rfl (zo (bk.b2)) (show _=(.bool true:Value)from rfl) ?_))
 rw[hT]
 refine⟨rfl,?_,(bk.s4_)⟩
 exact⟨U.ev.origin,U.ev.seq⟩
 have F:=yn F
 have hT:yf d L e=(true,0,0):=Vq F
 refine zf rfl (za (zK (by kernel_rfl) (fun _=>(st (zX (parts':=[]) (v:=.agg #[Iv 0,Iv 0]) rfl (by simp+zetaDelta [Instr.build,Instr.fill,go_sem,Zc]) (st (aS (.bool true) (stn (zw (v:=.agg #[Iv 0,Iv 0]) oT rfl rfl (aD.b0) (yo ⟨rfl,rfl,zl⟩) yqc rfl ?_)))))))))
 intro w1504 eB
 have bl:=aD.pt0 eB
 refine zb (zp (YL pR qT oT rfl rfl (zo (bl.b0)) (show _=(.bool true:Value)from rfl) ?_))
 rw[hT]
 refine⟨rfl,?_,(bl.s2_)⟩
 exact⟨(by decide:InR 0),(by decide:InR 0)⟩
set_option maxHeartbeats 8000000 in
theorem UZ {b:Nat}{d:Dcl}{L:List Ent}{e:Ev}{de0:Value}(hde0:RdS W G de0 e.deps)(oe:e.Ok)(hS0:Sep G W ((RefV b d L)::Rs) w)(hd:DclOk d)(hrl:Ran d L)(hml:L.length≤1000000):Ret Tryz.prog 69 [.pointer (some ⟨b,0,none⟩),.agg (e.cells de0).toArray] w (fun r w'=> ∃(v:Value),r=(.agg ((ya d L e).cells v).toArray:Value)∧((ya d L e).Ok)∧Sep G W ((RefV b d (L++[ya d L e]))::(RowE (α:=Int) own 3 v e.deps)::Rs) w'):=by
 have hde0s:_*8≤_:=hde0.small
 refine zk (args:=[Ix b 0,.agg (e.cells de0).toArray]) Tryz.func69 rfl rfl ?_
 refine za (R0 fun _=>st (zW (v:=.agg (e.cells de0).toArray) rfl ?_))
 intro w3 b2 cm
 let cr:=Blk b2 (e.cells de0).toArray 55
 refine st (zB qR ?_)
 intro w7 P cn
 let bo:=Blk P #[Iv 0,Iv 0,Iv 0,(Iz),Iv 0,Iv 0,Iv 0,Iv 0,Iv 0,Iv 0,.bool false,Iv 0,Iv 0] 57
 have bI:=(hS0.new cm).new cn
 refine zb (za (R0 fun _=>st (mV (Ix b 0) (st (zi (k:=10) tT rT rfl rfl (zo (bI.b1)) ?_)))))
 obtain⟨G10,ay,bK,bL,bM⟩:=(bI.mv2).lend
 obtain⟨vt16,vp17,ve18,hb19,bN,bO,bP⟩:=RefV.sh ay
 have hsm23:d.types.length*24≤140737488355328:=bN.small
 have hsm24:d.projs.length*40≤140737488355328:=bO.small
 have hsm25:L.length*120≤140737488355328:=bP.small
 refine st (cL Tryz.call86 (Jg (e:=e) ay (zS hde0 bK) oe bL hd hrl hml) ?_)
 rintro _ w27 ⟨rfl,ad,bQ⟩
 have bR:=bM _ _ bQ
 refine st (mV (.tuple #[.bool ((yf d L e).1),.agg #[Iv ((yf d L e).2.1),Iv ((yf d L e).2.2)]]) (st (zH (vs:=[.bool ((yf d L e).1),.agg #[Iv ((yf d L e).2.1),Iv ((yf d L e).2.2)]]) (i:=0) (v:=.bool ((yf d L e).1)) rfl rfl (st (zH (vs:=[.bool ((yf d L e).1),.agg #[Iv ((yf d L e).2.1),Iv ((yf d L e).2.2)]]) (i:=1) (v:=.agg #[Iv ((yf d L e).2.1),Iv ((yf d L e).2.2)]) rfl rfl (st (zB kY ?_)))))))
 intro w32 K bS
 let cp:=Blk K #[Iv ((yf d L e).2.1),Iv ((yf d L e).2.2)] 52
 have az:=bR.new bS
 refine st (aS (.bool ((yf d L e).1)) (stn (zw (v:=.agg #[Iv ((yf d L e).2.1),Iv ((yf d L e).2.2)]) (c':=#[Iv ((yf d L e).2.1),Iv ((yf d L e).2.2)]) oT rfl rfl (az.b0) (yo ⟨rfl,rfl,zl⟩) yqc rfl ?_)))
 intro co bT
 refine zb (za ?_)
 have hek:Ent.Ok (ya d L e):=⟨oe,ad.1,ad.2⟩
 obtain⟨t,u,z,bU⟩:=RefV.open ((az.pt0 bT).mv1)
 have H:Sep G W ((Blk b #[t,u,z] 130)::(RowE (α:=Typ) own 83 t d.types)::(RowE (α:=Prj) own 73 u d.projs)::(RowE (α:=Ent) own 57 z L)::cp::bo::cr::Rs) co:=bU
 have bV:=H.r1
 have hr42s:_*24≤_:=bV.2
 have bW:=H.r2
 have hr43s:_*40≤_:=bW.2
 have bX:=H.r3
 have hr44s:_*120≤_:=bX.2
 refine WD6 ((fun TT y=>WF [fun vals x=>Sep G W (y::TT) x,fun vals x=> ∃(a:Value),(vals 1=(.agg (e.cells a).toArray:Value))∧Sep G W ((RowE (α:=Int) own 3 a e.deps)::y::TT) x,fun vals x=> ∃(j:Nat),(vals 5=(Ix j 0:Value))∧Sep G W ((Blk j #[Iv 0,Iv 0,Iv 0,(Iz),Iv 0,Iv 0,Iv 0,Iv 0,Iv 0,Iv 0,.bool false,Iv 0,Iv 0] 57)::y::TT) x,fun vals x=> ∃(a:Value) (j:Nat),(vals 1=(.agg (e.cells a).toArray:Value))∧(vals 5=(Ix j 0:Value))∧Sep G W ((Blk j #[Iv 0,Iv 0,Iv 0,(Iz),Iv 0,Iv 0,Iv 0,Iv 0,Iv 0,Iv 0,.bool false,Iv 0,Iv 0] 57)::(RowE (α:=Int) own 3 a e.deps)::y::TT) x,fun _ _=>True,fun _ _=>True,fun _ _=>True,fun vals x=> ∃(a:Value) (j:Nat),(vals 1=(.agg (e.cells a).toArray:Value))∧(vals 5=(Ix j 0:Value))∧Sep G W ((Blk j ((ya d L e).cells a).toArray 57)::(RowE (α:=Int) own 3 a e.deps)::y::TT) x]) ((RowE (α:=Typ) own 83 t d.types)::(RowE (α:=Prj) own 73 u d.projs)::(RowE (α:=Ent) own 57 z L)::cp::bo::cr::Rs) (Blk b #[t,u,z] 130)) (AF [Vl 0 (.agg (e.cells de0).toArray),fun _=>True,Vl 2 (.bool ((yf d L e).1)),Vl 3 (.agg #[Iv ((yf d L e).2.1),Iv ((yf d L e).2.2)]),fun vals=> ∀(a:Value),vals 1=(.agg (e.cells a).toArray:Value)→vals 4=(.agg ((ya d L e).cells a).toArray:Value),fun _=>True,fun _=>True]) [[],[0],[],[],(rg 4),[],(rg 6)] [1,5,6] [[0,2],[0,2],(rg 4),(rg 4),[1,3],[0,1],[3]] H ⟨?_,?_,fun _ _ _ _ _ _=>obl rfl (mV (.bool ((yf d L e).1)) dR),?_,?_,?_,?_,zl⟩ ?_ (hlocA:=xv ⟨dA,dT,dA,dA,fun vals l q h=>fun a C=>(q 4 (.inl rfl)).trans (h a ((q 1 (.inr dc)).symm.trans C)),dT,dT,zl⟩)
 intro bY vals w110 aB ae hA111
 have X:bY∈[0,2]:=aB
 simp only[yF]at X
 rcases X with rfl|rfl
 have aC:Sep _ _ _ _:=ae
 exact obl rfl (zi (k:=10) tT rT rfl rfl (zo (aC.b6)) dR)
 obtain⟨j,A,aD⟩:=ae
 exact obl rfl (zi (k:=10) tT rT rfl rfl (zo (aD.b7)) dR)
 intro bZ vals w117 aE af ag
 have Y:bZ∈[0,2]:=aE
 simp only[yF]at Y
 rcases Y with rfl|rfl
 have aF:Sep _ _ _ _:=af
 refine obl rfl ((zV (f:=40) (vals:=[.agg (e.cells de0).toArray]) (cap:=[]) rfl (yM ⟨(ag 0 dc),zl⟩) rR (Zq (e:=e) hde0 oe aF) ?_))
 rintro _ w124 ⟨a,rfl,ah⟩
 have aG:=ah.r0
 have hr126s:_*8≤_:=aG.2
 exact fun l q m=>⟨(exiA a (zA q ah)),zl⟩
 obtain⟨j,A,aH⟩:=af
 refine obl rfl ((zV (f:=40) (vals:=[.agg (e.cells de0).toArray]) (cap:=[]) rfl (yM ⟨(ag 0 dc),zl⟩) rR (Zq (e:=e) hde0 oe aH) ?_))
 rintro _ w130 ⟨a,rfl,ai⟩
 have aI:=ai.r0
 have hr132s:_*8≤_:=aI.2
 exact fun l q m=>⟨(exiA a (exiA j (zA q (zA ((m 5 dc).trans A) (ai.mv1))))),zl⟩
 intro ca vals w140 aJ I hA141
 have Z:ca∈[0,1,2,3]:=aJ
 simp only[yF]at Z
 rcases Z with rfl|rfl|rfl|rfl
 have aK:Sep _ _ _ _:=I
 exact obl rfl (zi (k:=2) qT oT rfl rfl (zo (aK.b4)) dR)
 obtain⟨a,s,aL⟩:=I
 exact obl rfl (zi (k:=2) qT oT rfl rfl (zo (aL.b5)) dR)
 obtain⟨j,A,aM⟩:=I
 exact obl rfl (zi (k:=2) qT oT rfl rfl (zo (aM.b5)) dR)
 obtain⟨a,j,s,A,aN⟩:=I
 exact obl rfl (zi (k:=2) qT oT rfl rfl (zo (aN.b6)) dR)
 intro cb vals w149 aO aj J
 have aa:cb∈[1,3]:=aO
 simp only[yF]at aa
 rcases aa with rfl|rfl
 obtain⟨a,s,hS153⟩:=aj
 refine obl rfl (zX (parts':=[(0,.agg (e.cells a).toArray),(1,.bool ((yf d L e).1)),(2,.agg #[Iv ((yf d L e).2.1),Iv ((yf d L e).2.2)])]) (v:=.agg ((ya d L e).cells a).toArray) (xU ⟨rfl,s,rfl,(J 2 (by decide)),rfl,(J 3 (by decide)),zl⟩) (by simp+zetaDelta [Instr.build,Instr.fill,go_sem,Ent.cells,Ev.cells,ya]) (fun l q m=>⟨rfl,?_⟩))
 intro cc C
 rw[m 1 (by decide)]at C;cases s.symm.trans C
 exact q
 obtain⟨a,j,s,A,hS156⟩:=aj
 refine obl rfl (zX (parts':=[(0,.agg (e.cells a).toArray),(1,.bool ((yf d L e).1)),(2,.agg #[Iv ((yf d L e).2.1),Iv ((yf d L e).2.2)])]) (v:=.agg ((ya d L e).cells a).toArray) (xU ⟨rfl,s,rfl,(J 2 (by decide)),rfl,(J 3 (by decide)),zl⟩) (by simp+zetaDelta [Instr.build,Instr.fill,go_sem,Ent.cells,Ev.cells,ya]) (fun l q m=>⟨rfl,?_⟩))
 intro cc C
 rw[m 1 (by decide)]at C;cases s.symm.trans C
 exact q
 intro cd vals w160 aP ak hA161
 have ab:cd∈[0,1]:=aP
 simp only[yF]at ab
 rcases ab with rfl|rfl
 have aQ:Sep _ _ _ _:=ak
 refine obl rfl ((zB qR ?_))
 intro w167 j aR
 exact fun l q m=>⟨(exiA j (zA q (aQ.new aR))),zl⟩
 obtain⟨a,s,aT⟩:=ak
 refine obl rfl ((zB qR ?_))
 intro w172 j aU
 exact fun l q m=>⟨(exiA a (exiA j (zA ((m 1 dc).trans s) (zA q (aT.new aU))))),zl⟩
 intro ce vals w175 aV aW aX
 have ac:ce∈[3]:=aV
 simp only[yF]at ac
 subst ac
 obtain⟨a,j,s,A,Q⟩:=aW
 refine obl rfl ?_
 have cf:vals 4=(.agg ((ya d L e).cells a).toArray:Value):=aX 4 dc a s
 have al:=Q.r1
 have hr183s:_*8≤_:=al.2
 refine(zw (v:=.agg ((ya d L e).cells a).toArray) (c':=((ya d L e).cells a).toArray) vT A cf (Q.b0) (yo ⟨rfl,rfl,rfl,al.1.one,rfl,rfl,rfl,rfl,rfl,rfl,rfl,rfl,rfl,zl⟩) yqc rfl ?_)
 intro w181 aY
 exact fun l q m=>⟨(exiA a (exiA j (zA ((m 1 dc).trans s) (zA ((m 5 dc).trans A) (Q.pt0 aY))))),zl⟩
 intro vals w185 aZ hA187
 obtain⟨a,j,s,A,ba⟩:=aZ
 let cq:=(ya d L e).cells a
 refine yi (kv:=[(0,Ix b 0),(1,.agg (e.cells de0).toArray),(3,Ix b2 0),(4,Ix P 0),(9,Ix b 0),(10,.agg (e.cells de0).toArray),(11,.tuple #[.bool ((yf d L e).1),.agg #[Iv ((yf d L e).2.1),Iv ((yf d L e).2.2)]]),(8,.tuple #[.bool ((yf d L e).1),.agg #[Iv ((yf d L e).2.1),Iv ((yf d L e).2.2)]]),(12,.bool ((yf d L e).1)),(13,.agg #[Iv ((yf d L e).2.1),Iv ((yf d L e).2.2)]),(6,Ix K 0),(5,.bool ((yf d L e).1)),(7,Ix j 0)]) ⟨rfl,rfl,rfl,rfl,rfl,rfl,rfl,rfl,rfl,rfl,rfl,rfl,(by exact A),zl⟩ (fun ρw185=>(zb (za ?_)))
 refine WD4 ((fun TT y N M E F O=>WF [fun vals x=>Sep G W (y::N::M::E::F::O::TT) x,fun vals x=> ∃(p:Nat),(vals 6=((Iy p 1 1):Value))∧Sep G W ((Blk p cq.toArray 57)::y::N::M::E::F::O::TT) x,fun vals x=> ∃(p:Nat) (n:Value),(vals 6=((Iy p 1 1):Value))∧(vals 7=(n:Value))∧Sep G W ((RowE (α:=Ent) own 57 n (L++[(ya d L e)]))::y::M::E::F::TT) x,fun vals x=> ∃(p:Nat) (n:Value),(vals 6=((Iy p 1 1):Value))∧(vals 7=(n:Value))∧Sep G W ((RowE (α:=Ent) own 57 n (L++[(ya d L e)]))::y::(Blk b #[t,u,n] 130)::E::F::TT) x]) (cp::bo::cr::Rs) (Blk j cq.toArray 57) (RowE (α:=Int) own 3 a e.deps) (Blk b #[t,u,z] 130) (RowE (α:=Typ) own 83 t d.types) (RowE (α:=Prj) own 73 u d.projs) (RowE (α:=Ent) own 57 z L)) (AF [Vl 0 (Ix b 0),Vl 1 (Ix b 0),Vl 2 (Ix b 0),Vl 3 (Ix b 2),Vl 4 z,Vl 5 (.agg cq.toArray),fun _=>True,fun _=>True,Vl 8 (Ix b 0),Vl 9 (Ix b 2),fun _=>True]) [[],[],[1],[1,2],[1,2,3],[],[5],[1,2,3,4,5,6],(rg 8),(rg 9),(rg 10)] [6,7,10] [(0,2),(0,1),(0,1),(0,1),(0,1),(0,0),(0,0),(1,1),(2,2),(2,2),(2,2)] ba ⟨fun _ _ _ _ _ _ _=>obl rfl (mV (Ix b 0) dR),fun _ _ _ _ _ _ _=>obl rfl (mV (Ix b 0) dR),fun _ _ _ _ _ _ bb=>obl rfl (zj (b:=b) (o:=0) (bb 1 dc) dR),fun _ _ _ _ _ _ bc=>obl rfl (ZA (bc 2 dc) dR),?_,ob1 0 fun _ _ (bd:Sep _ _ _ _) _=>obl rfl (zi (k:=13) sY vT rfl rfl (zo (bd.b0)) dR),?_,?_,fun _ _ _ _ _ _ be=>obl rfl (zj (b:=b) (o:=0) (be 0 dc) dR),fun _ _ _ _ _ _ bf=>obl rfl (ZA (bf 8 dc) dR),?_,zl⟩ ?_
 refine fun R _ _ cg ch am an=>?_
 have hkk:=xE cg ch
 rcases hkk with rfl|rfl
 have bg:Sep _ _ _ _:=am
 exact obl rfl (lD z nR (an 3 dc) (zd (bg.b2) rfl) dR)
 obtain⟨p,D,bh⟩:=am
 exact obl rfl (lD z nR (an 3 dc) (zd (bh.b3) rfl) dR)
 refine ob1 0 fun _ _ (bi:Sep _ _ _ _) bj=>(obl rfl ((zD (k:=13) (parts':=[(0,.agg cq.toArray)]) (c:=cq.toArray) oR vT qR dc (xU ⟨rfl,(bj 5 dc),zl⟩) kr ?_)))
 intro w240 p bk
 exact fun l q m=>⟨(exiA p (zA q (bi.new bk))),zl⟩
 refine ob1 1 fun _ _ bl bm=>?_
 obtain⟨p,D,ao⟩:=bl
 refine obl rfl ?_
 have aA:=ao.b0
 refine(yq (src:=own) (bytes:=120) (x1:=(ya d L e)) (ao.s10_gcbdefhij) zbE (bm 4 (by decide)) D aA (fun _ _ hN=>⟨_,rfl,RowE.soft hN,hek⟩) yqb rfl ?_)
 intro n w251 ap
 have bn:=ap.r0
 have hr256s:_*120≤_:=bn.2
 exact fun l q m=>⟨(exiA p (exiA n (zA ((m 6 dc).trans D) (zA q ap)))),zl⟩
 refine ob1 2 fun _ _ bp bq=>?_
 obtain⟨p,n,D,S,T⟩:=bp
 refine obl rfl ?_
 have aq:=T.r0
 have hr282s:_*120≤_:=aq.2
 refine(ym (v:=n) (c:=[t,u,z]) (c':=[t,u,n]) Tryz.sizeOf42 (bq 9 dc) S (T.b2) aq.1.one rfl rfl ?_)
 intro w280 br
 exact fun l q m=>⟨(exiA p (exiA n (zA ((m 6 dc).trans D) (zA ((m 7 dc).trans S) (T.pt2 br))))),zl⟩
 intro vals w341 bs hA343
 obtain⟨p,n,D,S,bt⟩:=bs
 refine yi (kv:=[(0,Ix b 0),(1,.agg (e.cells de0).toArray),(3,Ix b2 0),(4,Ix P 0),(9,Ix b 0),(10,.agg (e.cells de0).toArray),(11,.tuple #[.bool ((yf d L e).1),.agg #[Iv ((yf d L e).2.1),Iv ((yf d L e).2.2)]]),(8,.tuple #[.bool ((yf d L e).1),.agg #[Iv ((yf d L e).2.1),Iv ((yf d L e).2.2)]]),(12,.bool ((yf d L e).1)),(13,.agg #[Iv ((yf d L e).2.1),Iv ((yf d L e).2.2)]),(6,Ix K 0),(5,.bool ((yf d L e).1)),(7,Ix j 0)]) sEv (fun ρw341=>(zb (za ?_)))
 refine WD4 ((fun TT y N M E F O bJ=>WF [fun vals x=>Sep G W (y::N::M::E::F::O::bJ::TT) x,fun vals x=> ∃(g:Value),(vals 1=(.agg (e.cells g).toArray:Value))∧Sep G W ((RowE (α:=Int) own 3 g e.deps)::y::N::M::E::F::O::bJ::TT) x,fun vals x=> ∃(g:Value),(vals 1=(.agg (e.cells g).toArray:Value))∧Sep G W ((RowE (α:=Int) own 3 g e.deps)::y::N::M::E::F::O::(Blk P ((ya d L e).cells g).toArray 57)::TT) x]) (cr::Rs) (RowE (α:=Ent) own 57 n (L++[(ya d L e)])) (Blk j cq.toArray 57) (Blk b #[t,u,n] 130) (RowE (α:=Typ) own 83 t d.types) (RowE (α:=Prj) own 73 u d.projs) cp bo) (AF [Vl 0 (.agg (e.cells de0).toArray),fun _=>True,Vl 2 (.bool ((yf d L e).1)),Vl 3 (.agg #[Iv ((yf d L e).2.1),Iv ((yf d L e).2.2)]),fun vals=> ∀(g:Value),vals 1=(.agg (e.cells g).toArray:Value)→vals 4=(.agg ((ya d L e).cells g).toArray:Value),fun _=>True]) [[],[0],[],[],(rg 4),(rg 5)] [1,5] [(0,0),(0,0),(0,1),(0,1),(1,1),(1,1)] bt ⟨ob1 0 fun _ _ (bu:Sep _ _ _ _) _=>obl rfl (zi (k:=10) tT rT rfl rfl (zo (bu.b7)) dR),?_,fun _ _ _ _ _ _ _=>obl rfl (mV (.bool ((yf d L e).1)) dR),?_,?_,?_,zl⟩ ?_ (hlocA:=xv ⟨dA,dT,dA,dA,fun vals l q h=>fun g C=>(q 4 (.inl rfl)).trans (h g ((q 1 (.inr dc)).symm.trans C)),dT,zl⟩)
 refine ob1 0 fun vals _ (bv:Sep _ _ _ _) bw=>(obl rfl ((zV (f:=40) (vals:=[.agg (e.cells de0).toArray]) (cap:=[]) rfl (yM ⟨(bw 0 dc),zl⟩) rR (Zq (e:=e) hde0 oe bv) ?_)))
 rintro _ w361 ⟨g,rfl,ar⟩
 have bx:=ar.r0
 have hr363s:_*8≤_:=bx.2
 exact fun l q m=>⟨(exiA g (zA q ar)),zl⟩
 refine fun U _ _ ci cj au _=>?_
 have hkk:=xE ci cj
 rcases hkk with rfl|rfl
 have bz:Sep _ _ _ _:=au
 exact obl rfl (zi (k:=2) qT oT rfl rfl (zo (bz.b5)) dR)
 obtain⟨g,B,bA⟩:=au
 exact obl rfl (zi (k:=2) qT oT rfl rfl (zo (bA.b6)) dR)
 refine ob1 1 fun _ _ bB av=>?_
 obtain⟨g,B,hS426⟩:=bB
 refine obl rfl (zX (parts':=[(0,.agg (e.cells g).toArray),(1,.bool ((yf d L e).1)),(2,.agg #[Iv ((yf d L e).2.1),Iv ((yf d L e).2.2)])]) (v:=.agg ((ya d L e).cells g).toArray) (xU ⟨rfl,B,rfl,(av 2 (by decide)),rfl,(av 3 (by decide)),zl⟩) (by simp+zetaDelta [Instr.build,Instr.fill,go_sem,Ent.cells,Ev.cells,ya]) (fun l q m=>⟨rfl,?_⟩))
 intro v360q C
 rw[m 1 (by decide)]at C;cases B.symm.trans C
 exact q
 refine ob1 1 fun vals _ bC bD=>?_
 obtain⟨g,B,V⟩:=bC
 have ck:vals 4=(.agg ((ya d L e).cells g).toArray:Value):=bD 4 dc g B
 refine obl rfl ?_
 have aw:=V.r0
 have hr397s:_*8≤_:=aw.2
 refine(zw (v:=.agg ((ya d L e).cells g).toArray) (c':=((ya d L e).cells g).toArray) vT rfl ck (V.b7) (yo ⟨rfl,rfl,rfl,aw.1.one,rfl,rfl,rfl,rfl,rfl,rfl,rfl,rfl,rfl,zl⟩) yqc rfl ?_)
 intro w395 bE
 exact fun l q m=>⟨(exiA g (zA ((m 1 dc).trans B) (V.pt7 bE))),zl⟩
 intro vals cl bF hA431
 obtain⟨g,B,ax⟩:=bF
 refine yi (kv:=[(0,Ix b 0),(1,.agg (e.cells de0).toArray),(3,Ix b2 0),(4,Ix P 0),(9,Ix b 0),(10,.agg (e.cells de0).toArray),(11,.tuple #[.bool ((yf d L e).1),.agg #[Iv ((yf d L e).2.1),Iv ((yf d L e).2.2)]]),(8,.tuple #[.bool ((yf d L e).1),.agg #[Iv ((yf d L e).2.1),Iv ((yf d L e).2.2)]]),(12,.bool ((yf d L e).1)),(13,.agg #[Iv ((yf d L e).2.1),Iv ((yf d L e).2.2)]),(6,Ix K 0),(5,.bool ((yf d L e).1)),(7,Ix j 0)]) sEv (fun ρw429=>(zb (zp (ZY (b:=P) Tryz.results69 sY vT rfl rfl (zo (ax.b7)) ?_))))
 have bG:Sep _ _ ((RefV b d (L++[ya d L e]))::_) _:=RefV.close (d:=d) (L:=(L++[ya d L e])) (ax.s9_defbacghi)
 have bH:Sep G W ((RefV b d (L++[ya d L e]))::(RowE (α:=Int) own 3 g e.deps)::Rs) cl:=bG.sel 6 [0,1] (xW _ _) rfl rfl
 refine⟨g,rfl,hek,bH⟩
def xa (p:Prj)(q:Row)(x:Int):Row:=⟨q.group,if 1≤p.pmake∧p.pmake≤5 then yU p ⟨q.group,q.value,q.count+1⟩ x else q.value,q.count+1⟩
theorem ZK {p:Prj}{q:Row}{x:Int}(oq:q.Ok)(hx:InR x)(hc:0≤q.count∧q.count<4611686018427387904):(xa p q x).Ok:=by
 have h1:InR (q.count+1):=by omega
 refine⟨oq.group,?_,h1⟩
 unfold xa
 dsimp only
 split
 ·exact UO oq.value h1 hx
 ·exact oq.value
theorem ZF (l:List Row){i:Nat}(h:i<l.length):l.getD i default=l[i]:=zI _ h
def shl (l:List Row)(q:Nat):List Row:=l.take q++(l++[(⟨0,0,0⟩:Row)]).getD q default::l.drop q
theorem KS {l:List Row}{q:Nat}(h:q≤l.length):(shl l q).length=l.length+1:=by
 unfold shl;simp only[List.length_append,List.length_take,List.length_cons,List.length_drop];omega
theorem zbD (l:List Row):shl l l.length=l++[(⟨0,0,0⟩:Row)]:=by
 unfold shl
 rw[List.take_length,List.drop_length,zI _ (by simp),List.getElem_append_right (Nat.le_refl _)]
 simp
theorem zaf {l:List Row}{q:Nat}(h1:1≤q)(h:q≤l.length):(shl l q).set q ((shl l q).getD (q-1) default)=shl l (q-1):=by
 have e1:(shl l q).getD (q-1) default=l.getD (q-1) default:=by
  have hl:=KS h
  rw[zI _ (by omega),zI _ (by omega)]
  unfold shl
  rw[List.getElem_append_left (by rw[List.length_take];omega),List.getElem_take]
 rw[e1]
 have e2:(l++[(⟨0,0,0⟩:Row)]).getD (q-1) default=l.getD (q-1) default:=by
  rw[zI _ (by rw[List.length_append];omega),zI _ (by omega),List.getElem_append_left (by omega)]
 unfold shl
 rw[e2,List.set_append_right _ _ (by rw[List.length_take];omega),List.length_take,Nat.min_eq_left h,Nat.sub_self,List.set_cons_zero]
 have e3:l.take q=l.take (q-1)++[l.getD (q-1) default]:=by
  have:=List.take_succ_eq_append_getElem (l:=l) (i:=q-1) (by omega)
  rw[show q-1+1=q by omega]at this
  rw[this,zI _ (by omega)]
 have e4:l.drop (q-1)=l.getD (q-1) default::l.drop q:=by
  have:=List.drop_eq_getElem_cons (l:=l) (i:=q-1) (by omega)
  rw[show q-1+1=q by omega]at this
  rw[this,zI _ (by omega)]
 rw[e3,e4,List.append_assoc]
 rfl
def Kn (p:Prj)(l:List Row)(e:Ent)(reg:Int)(l':List Row):Prop:=
 ((e.void=true∨e.ev.typ≠p.ptyp∨e.ev.field≠p.pfield∨p.pgroup<1∨3<p.pgroup)∧l'=l)∨
 ((e.void=false∧e.ev.typ=p.ptyp∧e.ev.field=p.pfield∧1≤p.pgroup∧p.pgroup≤3)∧ ∃g k,zy p e.ev reg=some g∧k≤l.length∧(∀j,j<k→(l.getD j default).group<g)∧
  ((k<l.length∧(l.getD k default).group=g∧l'=l.set k (xa p (l.getD k default) e.ev.arg))∨
   ((l.length≤k∨g<(l.getD k default).group)∧l'=(shl l k).set k (xa p ⟨g,0,0⟩ e.ev.arg))))
theorem WQ {L:List (Int×Row)}{n:Nat}(hg:GoodM L n){x:Row}:x∈YX (L.map (·.2))↔yh L x.group=some x:=by
 rw[(ZR _).mem_iff,List.mem_map]
 constructor
 ·rintro⟨y,hy,rfl⟩
  have:=Jl hg.nodup hy
  rw[hg.grp y hy]at this
  exact this
 ·intro h
  exact⟨_,ZZ h,rfl⟩
theorem Wd {L:List (Int×Row)}{n:Nat}(hg:GoodM L n):(YX (L.map (·.2))).Pairwise fun a b=>a.group<b.group:=by
 have h1:=YC (L.map (·.2))
 have h2:((YX (L.map (·.2))).map (·.group)).Nodup:=(((ZR _).map (·.group)).nodup_iff).2 (XH hg.grp hg.nodup)
 have h3:=List.pairwise_map.1 h2
 exact(h1.and h3).imp fun{a b} ⟨h,hne⟩=>by omega
theorem Ky {A B:List Row}(ha:A.Pairwise fun a b=>a.group<b.group)(hb:B.Pairwise fun a b=>a.group<b.group)(h: ∀x,x∈A↔x∈B):A=B:=by
 have nd: ∀{A:List Row},(A.Pairwise fun a b=>a.group<b.group)→A.Nodup:=fun ha=>ha.imp (fun hlt e=>by subst e;omega)
 have nd2:(A.map (·.group)).Nodup:=List.pairwise_map.2 (ha.imp (fun{a b} hlt e=>by have e:a.group=b.group:=e;omega))
 exact XR ((List.perm_ext_iff_of_nodup (nd ha) (nd hb)).2 h) (ha.imp (fun{a b} hlt=>by omega)) (hb.imp (fun{a b} hlt=>by omega)) nd2
theorem ZS {l:List Row}(hs:l.Pairwise fun a b=>a.group<b.group){i j:Nat}(hi:i<j)(hj:j<l.length):(l.getD i default).group<(l.getD j default).group:=by
 rw[zI _ (show i<l.length by omega),zI _ hj]
 exact List.pairwise_iff_getElem.1 hs i j (by omega) hj hi
theorem zcq {p:Prj}{L:List (Int×Row)}{e:Ent}{reg g:Int}(h:e.void=false∧e.ev.typ=p.ptyp∧e.ev.field=p.pfield)(hg:zy p e.ev reg=some g):
 ZJ p L e reg=xL L g ⟨g,yU p ⟨g,((yh L g).getD ⟨0,0,0⟩).value,((yh L g).getD ⟨0,0,0⟩).count+1⟩ e.ev.arg,((yh L g).getD ⟨0,0,0⟩).count+1⟩:=by
 unfold ZJ
 rw[hg]
 simp only[]
 rw[if_neg (by rintro(h'|h'|h');rw[h.1]at h';cases h';exact h' h.2.1;exact h' h.2.2)]
theorem JS {p:Prj}{L:List (Int×Row)}{e:Ent}{reg:Int}(h:e.void=true∨e.ev.typ≠p.ptyp∨e.ev.field≠p.pfield∨p.pgroup<1∨3<p.pgroup):ZJ p L e reg=L:=by
 unfold ZJ
 split
 ·rfl
 ·rename_i g hg
  rcases h with h|h|h|h|h
  ·rw[if_pos (.inl h)]
  ·rw[if_pos (.inr (.inl h))]
  ·rw[if_pos (.inr (.inr h))]
  ·unfold zy at hg
   rw[if_neg (by omega),if_neg (by omega),if_neg (by omega)]at hg;cases hg
  ·unfold zy at hg
   rw[if_neg (by omega),if_neg (by omega),if_neg (by omega)]at hg;cases hg
theorem Jm {p:Prj}(h: ¬(1≤p.pmake∧p.pmake≤5))(r:Row)(x:Int):yU p r x=0:=by
 unfold yU
 rw[if_neg (by omega),if_neg (by omega),if_neg (by omega),if_neg (by omega),if_neg (by omega)]
theorem Ja {p:Prj}{r:Row}{g x:Int}(hr:r.group=g)(hz: ¬(1≤p.pmake∧p.pmake≤5)→r.value=0):xa p r x=⟨g,yU p ⟨g,r.value,r.count+1⟩ x,r.count+1⟩:=by
 unfold xa
 subst hr
 refine Row.eq_iff.2 ⟨rfl,?_,rfl⟩
 dsimp only
 by_cases h:1≤p.pmake∧p.pmake≤5
 ·rw[if_pos h]
 ·rw[if_neg h,Jm h,hz h]
theorem Qd {p:Prj}{L:List (Int×Row)}{n:Nat}{e:Ent}{reg:Int}{l':List Row}(hg:GoodM L n)(hz: ¬(1≤p.pmake∧p.pmake≤5)→ ∀q∈L,q.2.value=0)(h:Kn p (YX (L.map (·.2))) e reg l'):
 l'=YX ((ZJ p L e reg).map (·.2)):=by
 have hgA:=hg.add p e reg
 rcases h with⟨h,rfl⟩|⟨⟨h1,h2,h3,h4,h5⟩,g,k,hG,hk,hlt,hc⟩
 ·rw[JS h]
 ·have hs:=Wd hg
  rw[zcq ⟨h1,h2,h3⟩ hG]at hgA⊢
  generalize hl:YX (L.map (·.2))=l at*
  have hm: ∀x,x∈l↔yh L x.group=some x:=fun x=>by rw[←hl];exact WQ hg
  have hvz: ∀x∈l,¬(1≤p.pmake∧p.pmake≤5)→x.value=0:=fun x hx hn=>hz hn _ (ZZ ((hm x).1 hx))
  refine Ky ?_ (Wd hgA) (fun x=>?_)
  ·rcases hc with⟨hkl,hkg,rfl⟩|⟨hc,rfl⟩
   ·have e1:(l.set k (xa p (l.getD k default) e.ev.arg)).map (·.group)=l.map (·.group):=by
     refine List.ext_getElem (by simp) fun i h1 h2=>?_
     rw[List.getElem_map,List.getElem_map,List.getElem_set]
     split
     ·rename_i hik;subst hik
      show(l.getD k default).group=_
      rw[zI _ hkl]
     ·rfl
    have h6:(l.map (·.group)).Pairwise (fun a b=>a<b):=List.pairwise_map.2 hs
    rw[←e1]at h6
    exact List.pairwise_map.1 h6
   ·have e1:(shl l k).set k (xa p ⟨g,0,0⟩ e.ev.arg)=l.take k++xa p ⟨g,0,0⟩ e.ev.arg::l.drop k:=by
     unfold shl
     rw[List.set_append_right _ _ (by rw[List.length_take];omega),List.length_take,Nat.min_eq_left hk,Nat.sub_self,List.set_cons_zero]
    rw[e1,List.pairwise_append]
    have hg0:(xa p ⟨g,0,0⟩ e.ev.arg).group=g:=rfl
    refine⟨hs.sublist (List.take_sublist _ _),?_,?_⟩
    ·rw[List.pairwise_cons]
     refine⟨fun y hy=>?_,hs.sublist (List.drop_sublist _ _)⟩
     obtain⟨i,hi,rfl⟩:=List.getElem_of_mem hy
     rw[List.length_drop]at hi
     rw[List.getElem_drop,hg0,←ZF l (by omega)]
     rcases hc with hc|hc
     ·omega
     ·rcases Nat.eq_zero_or_pos i with h0|h0
      ·subst h0;exact hc
      ·have:=ZS hs (i:=k) (j:=k+i) (by omega) (by omega);omega
    ·intro a ha b hb
     obtain⟨i,hi,rfl⟩:=List.getElem_of_mem ha
     rw[List.length_take]at hi
     have hi2:(l.take k)[i].group<g:=by
      rw[List.getElem_take,←ZF l (by omega)];exact hlt i (by omega)
     rcases List.mem_cons.1 hb with rfl|hb
     ·exact hi2
     ·obtain⟨j,hj,rfl⟩:=List.getElem_of_mem hb
      rw[List.length_drop]at hj
      rw[List.getElem_take,List.getElem_drop,←ZF l (by omega),←ZF l (by omega)]
      exact ZS hs (by omega) (by omega)
  ·rw[WQ hgA,JI]
   rcases hc with⟨hkl,hkg,rfl⟩|⟨hc,rfl⟩
   ·have hkm:l.getD k default∈l:=by rw[zI _ hkl];exact List.getElem_mem hkl
    have hlk:=(hm _).1 hkm
    rw[hkg]at hlk
    rw[hlk,Option.getD_some,Ja hkg (hvz _ hkm)]
    constructor
    ·intro hx
     obtain⟨i,hi,rfl⟩:=List.getElem_of_mem hx
     rw[List.length_set]at hi
     rw[List.getElem_set]
     by_cases hik:k=i
     ·simp[hik]
     ·rw[if_neg hik]
      have hne: ¬(l[i].group=g):=by
       intro he
       rw[←ZF l hi,←hkg]at he
       rcases Nat.lt_or_gt_of_ne hik with h|h
       ·have:=ZS hs h hi;omega
       ·have:=ZS hs h hkl;omega
      rw[if_neg hne]
      exact(hm _).1 (List.getElem_mem hi)
    ·intro hx
     split at hx
     ·cases hx
      exact List.mem_iff_getElem.2 ⟨k,by rw[List.length_set];exact hkl,by simp⟩
     ·rename_i hne
      have hxl:=(hm x).2 hx
      obtain⟨i,hi,rfl⟩:=List.getElem_of_mem hxl
      refine List.mem_iff_getElem.2 ⟨i,by rw[List.length_set];exact hi,?_⟩
      rw[List.getElem_set,if_neg]
      rintro rfl
      rw[←ZF l hi]at hne
      exact hne hkg
   ·have hno: ∀x∈l,x.group≠g:=by
     intro x hx he
     obtain⟨i,hi,rfl⟩:=List.getElem_of_mem hx
     rw[←ZF l hi]at he
     rcases Nat.lt_or_ge i k with h|h
     ·have:=hlt i h;omega
     ·rcases hc with hc|hc
      ·omega
      ·rcases Nat.eq_or_lt_of_le h with h'|h'
       ·subst h';omega
       ·have:=ZS hs h' hi;omega
    have hln:yh L g=none:=by
     cases hq:yh L g with
     |none=>rfl
     |some y=>
      have hy:=ZZ hq
      have hyg:=hg.grp _ hy
      exact absurd hyg.symm (hno y ((hm y).2 (by rw[←hyg];exact hq)))
    rw[hln,Option.getD_none,Ja (r:=⟨g,0,0⟩) rfl (fun _=>rfl)]
    have e1: ∀y,(shl l k).set k y=l.take k++y::l.drop k:=fun y=>by
     unfold shl
     rw[List.set_append_right _ _ (by rw[List.length_take];omega),List.length_take,Nat.min_eq_left hk,Nat.sub_self,List.set_cons_zero]
    rw[e1]
    have hmem:x∈l.take k++(⟨g,yU p ⟨g,0,0+1⟩ e.ev.arg,0+1⟩:Row)::l.drop k↔x=⟨g,yU p ⟨g,0,0+1⟩ e.ev.arg,0+1⟩∨x∈l:=by
     rw[List.mem_append,List.mem_cons]
     conv=>rhs;rw[←List.take_append_drop k l,List.mem_append]
     constructor
     ·rintro(h|h|h)
      ·exact .inr (.inl h)
      ·exact .inl h
      ·exact .inr (.inr h)
     ·rintro(h|h|h)
      ·exact .inr (.inl h)
      ·exact .inl h
      ·exact .inr (.inr h)
    rw[hmem]
    constructor
    ·rintro(rfl|hx)
     ·simp
     ·rw[if_neg (hno x hx)];exact(hm x).1 hx
    ·intro hx
     split at hx
     ·cases hx;exact .inl rfl
     ·exact .inr ((hm x).2 hx)
instance:Flat Row:=⟨fun h=>h⟩
instance:Flat Prj:=⟨fun h=>h⟩
def RefO (a:Nat)(p:Prj)(l:List Row):HP:=Wu p.Ok (Ex1 fun v=>Star [Blk a #[.int .i64 (p.ptyp),.int .i64 (p.pfield),.int .i64 (p.pgroup),.int .i64 (p.pby),.int .i64 (p.pmake),v] 149,RowE (α:=Row) own 70 v l])
theorem RefO.open {G:Nat→Prop}{W w:World}{As:List HP}{a:Nat}{p:Prj}{l:List Row}(h:Sep G W (RefO a p l::As) w):p.Ok∧ ∃v,Sep G W (Blk a #[.int .i64 (p.ptyp),.int .i64 (p.pfield),.int .i64 (p.pgroup),.int .i64 (p.pby),.int .i64 (p.pmake),v] 149::RowE (α:=Row) own 70 v l::As) w:=by
 obtain⟨h1,h2⟩:=h.openAnd
 obtain⟨v,h3⟩:=h2.openEx
 exact⟨h1,v,h3.openStar⟩
theorem RefO.close {G:Nat→Prop}{W w:World}{As:List HP}{a:Nat}{p:Prj}{v:Value}{l:List Row}(hp:p.Ok)(h:Sep G W (Blk a #[.int .i64 (p.ptyp),.int .i64 (p.pfield),.int .i64 (p.pgroup),.int .i64 (p.pby),.int .i64 (p.pmake),v] 149::RowE (α:=Row) own 70 v l::As) w):Sep G W (RefO a p l::As) w:=
 Sep.closeAnd hp (Sep.closeEx (A:=fun v=>Star [Blk a #[.int .i64 (p.ptyp),.int .i64 (p.pfield),.int .i64 (p.pgroup),.int .i64 (p.pby),.int .i64 (p.pmake),v] 149,RowE (α:=Row) own 70 v l]) v (Sep.closeStar (Bs:=[Blk a #[.int .i64 (p.ptyp),.int .i64 (p.pfield),.int .i64 (p.pgroup),.int .i64 (p.pby),.int .i64 (p.pmake),v] 149,RowE (α:=Row) own 70 v l]) h))
theorem Je {p:Prj}(op:p.Ok)(hS0:Sep G W Rs w):Ret Tryz.prog 71 [.agg (p.cells).toArray] w (fun r w'=> ∃(a:Nat),r=(.pointer (some ⟨a,0,none⟩):Value)∧Sep G W ((RefO a p ([]:List Row))::Rs) w'):=by
 refine zk (args:=[.agg (p.cells).toArray]) Tryz.func71 rfl rfl ?_
 refine za (R0 fun _=>st (zW (v:=.agg (p.cells).toArray) rfl ?_))
 intro w3 b2 e
 have c:=hS0.new e
 refine st (aS (.pointer none) (zb (za (zK (by kernel_rfl) (fun _=>(st (zi (k:=5) Tryz.isAgg73 Tryz.sizeOf73 rfl rfl (zo (c.b0)) (st (zX (parts':=[(0,.agg (p.cells).toArray)]) (v:=.agg #[Iv (p.ptyp),Iv (p.pfield),Iv (p.pgroup),Iv (p.pby),Iv (p.pmake),(Iz)]) rfl (by simp+zetaDelta [Instr.build,Instr.fill,go_sem,Zc]) (st (zW (v:=.agg #[Iv (p.ptyp),Iv (p.pfield),Iv (p.pgroup),Iv (p.pby),Iv (p.pmake),(Iz)]) rfl ?_)))))))))))
 intro h b f
 refine st (aS (Ix b 0) (zb (zp (zU Tryz.results71 (show _=(Ix b 0:Value)from rfl) ?_))))
 have g:Sep _ _ ((RowE (α:=Row) own 70 Iz ([]:List Row))::_) _:=(c.new f).rowNil own 70
 have d:Sep G W ((RefO b p ([]:List Row))::(Blk b2 (p.cells).toArray 73)::Rs) h:=RefO.close (v:=(Iz)) op (g.mv1)
 refine⟨b,rfl,(d.s2_a)⟩
theorem el67:Elem Tryz.prog 67 70 3 24:=⟨nT,_,_,rfl,rfl,rfl,rfl,rfl⟩
theorem Kg {a:Nat}{p:Prj}{l:List Row}(hS0:Sep G W ((RefO a p l)::Rs) w):Ret Tryz.prog 73 [.pointer (some ⟨a,0,none⟩)] w (fun r w'=> ∃(v:Value),r=(v:Value)∧Sep G W ((RefO a p l)::(RowE (α:=Row) own 70 v l)::Rs) w'):=by
 refine zk (args:=[Ix a 0]) Tryz.func73 rfl rfl ?_
 obtain⟨I,f,x⟩:=RefO.open hS0
 have h:=x.r1
 have hr4s:_*24≤_:=h.2
 have z:Sep G W ((Blk a #[Iv (p.ptyp),Iv (p.pfield),Iv (p.pgroup),Iv (p.pby),Iv (p.pmake),f] 149)::(RowE (α:=Row) own 70 f l)::Rs) w:=x
 refine za (R0 fun _=>st (aS Iz (zb (za (R0 fun _=>st (aS Iz (zb (za (za (R0 fun _=>st (aS (Iv 0) (zb (zu ?_)))))))))))))
 have J:Sep _ _ ((RowE (α:=Row) own 70 Iz ([]:List Row))::_) _:=z.rowNil own 70
 refine yd (fun mq σ K=> ∃(k:Nat) (vo:Value) (ρ:Env),mq=l.length-k∧σ=yg ρ [(0,Ix a 0),(4,Iw k),(3,vo)]∧(k≤l.length)∧Sep G W ((RowE (α:=Row) own 70 vo (l.take k))::(Blk a #[Iv (p.ptyp),Iv (p.pfield),Iv (p.pgroup),Iv (p.pby),Iv (p.pmake),f] 149)::(RowE (α:=Row) own 70 f l)::Rs) K) ⟨0,(Iz),_,rfl,sSf,yc _,J⟩ ?_
 rintro m7 σ8 L ⟨k,vo,ρl1,rfl,rfl,hkk,d⟩
 have A:=d.r0
 have hr10s:_*24≤_:=A.2
 refine za (za (R0 fun _=>st (mV (Iw k) (st (mV (Ix a 0) (st (zj (b:=a) (o:=0) rfl (st (xF rfl (st (lD f pT rfl (zd (d.b1) rfl) (st (zF (n:=l.length) nT rfl h.1 (st (zL (k:=.i64) (a:=((k:Nat):Int)) (b:=((l.length:Nat):Int)) rfl rfl (zb ?_))))))))))))))))
 cases e:decide (((k:Nat):Int)<((l.length:Nat):Int))
 have e:=fD e
 refine ze rfl (ye (zT (za (R0 fun _=>st (mV vo (st (aS vo (zb (zp (zU Tryz.results73 (show _=(vo:Value)from rfl) ?_))))))))))
 have m:Sep G W ((RefO a p l)::(RowE (α:=Row) own 70 vo (l.take k))::Rs) L:=RefO.close (v:=f) I (d.s3_bca)
 have hk:k=l.length:=by omega
 subst hk
 rw[List.take_of_length_le (Nat.le_refl l.length)]at m
 refine⟨vo,rfl,m⟩
 have e:=tD e
 refine zf rfl (zr (za (zu (R0 fun _=>st (mV vo (st (mV (Ix a 0) (st (zj (b:=a) (o:=0) rfl (st (xF rfl (st (lD f pT rfl (zd (d.b1) rfl) (st (mV (Iw k) ?_)))))))))))))))
 have B:k<l.length:=bo
 refine st (zg (k:=3) (i:=k) nT lT rfl h.1 rfl B ?_)
 have C:k<l.length:=bo
 obtain⟨_,_,t,rfl,q⟩:=d.rowAtD (i:=2) (j:=k) rfl C
 refine st (zi (k:=3) mT lT rfl rfl t (st (zD (k:=3) (parts':=[(0,.agg ((l.getD k default).cells).toArray)]) (c:=((l.getD k default).cells).toArray) nT lT sR dc rfl kr ?_)))
 intro w19 b18 D
 have s:=d.new D
 have u:=s.b0
 refine st (yq (src:=own) (bytes:=24) (x1:=(l.getD k default)) ((s.s4_bcd).emp1) el67 rfl rfl u (fun _ _ _=>(show _ from⟨rfl,q⟩)) yqb rfl ?_)
 intro y w21 g
 have E:=g.r0
 have hr27s:_*24≤_:=E.2
 refine st (aS y (zb (R0 fun _=>st (mV (Iw k) ?_))))
 have F:InR ((k+1:Nat):Int):=bo
 refine st (zR (r:=((k+1:Nat):Int)) (k:=.i64) (a:=((k:Nat):Int)) (b:=1) rfl rfl (by rw[show(((k:Nat):Int)+1:Int)=((k+1:Nat):Int)from bo];exact zz F) (st (aS (Iw (k+1)) (zb ?_))))
 have H:l.take (k+1)=l.take k++[(l.getD k default)]:=(List.take_getD om)
 rw[←H]at g
 exact⟨_,by omega,k+1,y,_,rfl,sSf,by omega,g⟩
theorem zbg {a:Nat}{p:Prj}{vx:Value}{q:Row}(oq:q.Ok){arg:Int}(harg:InR arg)(hS0:Sep G W ((Blk a #[.int .i64 (p.ptyp),.int .i64 (p.pfield),.int .i64 (p.pgroup),.int .i64 (p.pby),.int .i64 (p.pmake),vx] 149)::Rs) w)(hqc:0≤q.count∧q.count<4611686018427387904)(op:p.Ok):Ret Tryz.prog 87 [.pointer (some ⟨a,0,none⟩),.agg (q.cells).toArray,.int .i64 (arg)] w (fun r w'=>r=(.agg ((xa p q arg).cells).toArray:Value)∧((xa p q arg).Ok)∧Sep G W ((Blk a #[.int .i64 (p.ptyp),.int .i64 (p.pfield),.int .i64 (p.pgroup),.int .i64 (p.pby),.int .i64 (p.pmake),vx] 149)::Rs) w'):=by
 refine zk (args:=[Ix a 0,.agg (q.cells).toArray,Iv arg]) Tryz.func87 rfl rfl ?_
 let ak:=((⟨q.group,arg,q.count+1⟩:Row).cells)
 let aj:=((⟨q.group,q.value,q.count+1⟩:Row).cells)
 refine za (R0 fun _=>st (zW (v:=.agg (q.cells).toArray) rfl ?_))
 intro w3 b2 ah
 refine st (zB sR ?_)
 intro w7 l ai
 have z:=(hS0.new ah).new ai
 refine zb (za (R0 fun _=>st (WN rfl (st (lD (Iv (q.count)) kT rfl (zd (z.b1) rfl) ?_)))))
 have e:InR (q.count+1):=by omega
 refine st (zR (r:=q.count+1) (k:=.i64) (a:=q.count) (b:=1) rfl rfl (zz e) (st (WN rfl (stn (ym (v:=Iv (q.count+1)) (c:=[Iv (q.group),Iv (q.value),Iv (q.count)]) (c':=[Iv (q.group),Iv (q.value),Iv (q.count+1)]) kR rfl rfl (z.b1) rfl rfl rfl ?_)))))
 intro w10 N
 have ok12:Row.Ok (⟨q.group,q.value,q.count+1⟩:Row):=⟨(show InR (q.group)from oq.group),(show InR (q.value)from oq.value),(show InR (q.count+1)from e)⟩
 have d:=z.pt1 N
 refine zb (za (za (R0 fun _=>st (mV (Ix a 0) (st (zj (b:=a) (o:=0) rfl (st (Ya rfl (st (KB rfl (st (lD (Iv (p.pmake)) kT rfl (zd (d.b2) rfl) (zb (zu (za (R0 fun _=>st (zQ (k:=.i64) (a:=p.pmake) (b:=1) rfl rfl (st (aS (.bool (decide (p.pmake=1))) (zb ?_))))))))))))))))))))
 cases f:decide (p.pmake=1)
 have f:=fD f
 refine ze rfl (za (R0 fun _=>st (zQ (k:=.i64) (a:=p.pmake) (b:=2) rfl rfl (st (aS (.bool (decide (p.pmake=2))) (zb ?_))))))
 cases g:decide (p.pmake=2)
 have g:=fD g
 refine ze rfl (za (R0 fun _=>st (zQ (k:=.i64) (a:=p.pmake) (b:=3) rfl rfl (st (aS (.bool (decide (p.pmake=3))) (zb ?_))))))
 cases h:decide (p.pmake=3)
 have h:=fD h
 refine ze rfl (za (R0 fun _=>st (zQ (k:=.i64) (a:=p.pmake) (b:=4) rfl rfl (st (aS (.bool (decide (p.pmake=4))) (zb ?_))))))
 cases i:decide (p.pmake=4)
 have i:=fD i
 refine ze rfl (za (R0 fun _=>st (zQ (k:=.i64) (a:=p.pmake) (b:=5) rfl rfl (st (aS (.bool (decide (p.pmake=5))) (zb ?_))))))
 cases j:decide (p.pmake=5)
 have j:=fD j
 refine ze rfl (zr (za (R0 fun _=>st (zi (k:=3) mT lT rfl rfl (zo (d.b1)) (stn (zw (v:=.agg aj.toArray) (c':=aj.toArray) lT rfl rfl (d.b0) (yo ⟨rfl,rfl,rfl,zl⟩) yqc rfl ?_))))))
 intro w19 O
 have A:=d.pt0 O
 refine zb (zp (ZY (b:=l) uT mT lT rfl rfl (zo (A.b0)) ?_))
 refine⟨?_,?_,(A.s3_c)⟩
 have hone:xa p q arg=⟨q.group,q.value,q.count+1⟩:=by
  unfold xa yU
  refine Row.eq_iff.2 ⟨rfl,?_,rfl⟩
  dsimp only
  first|omega|((repeat' split)<;>first|rfl|omega)
 rw[hone]
 try rfl
 exact ZK oq harg hqc
 have j:=tD j
 refine zf rfl (R0 fun _=>st (mV (Iv arg) (st (Yz rfl (stn (ym (v:=Iv arg) (c:=[Iv (q.group),Iv (q.value),Iv (q.count+1)]) (c':=[Iv (q.group),Iv arg,Iv (q.count+1)]) kR rfl rfl (d.b1) rfl rfl rfl ?_))))))
 intro w23 P
 have ok25:Row.Ok (⟨q.group,arg,q.count+1⟩:Row):=⟨(show InR (q.group)from oq.group),(show InR (arg)from harg),(show InR (q.count+1)from e)⟩
 have m:=d.pt1 P
 refine zb (za (R0 fun _=>st (zi (k:=3) mT lT rfl rfl (zo (m.b1)) (stn (zw (v:=.agg ak.toArray) (c':=ak.toArray) lT rfl rfl (m.b0) (yo ⟨rfl,rfl,rfl,zl⟩) yqc rfl ?_)))))
 intro w27 Q
 have B:=m.pt0 Q
 refine zb (zp (ZY (b:=l) uT mT lT rfl rfl (zo (B.b0)) ?_))
 refine⟨?_,?_,(B.s3_c)⟩
 have hone:xa p q arg=⟨q.group,arg,q.count+1⟩:=by
  unfold xa yU
  refine Row.eq_iff.2 ⟨rfl,?_,rfl⟩
  dsimp only
  first|omega|((repeat' split)<;>first|rfl|omega)
 rw[hone]
 try rfl
 exact ZK oq harg hqc
 have i:=tD i
 refine zf rfl (za (zG kr (st (WN rfl (st (lD (Iv (q.count+1)) kT rfl (zd (d.b1) rfl) (st (zQ (k:=.i64) (a:=q.count+1) (b:=1) rfl rfl (st (mV (.bool (decide ((q.count+1)=1))) (stc (V:=Iv arg) rfl rfl (fun R=>?_) ?_)))))))))))
 have hl32:=fD R
 exact mV (Iv arg) rflB
 refine stc (V:=Ix b2 1) rfl rfl (fun S=>?_) ?_
 have hl34:=fD S
 exact Yz rfl rflB
 refine stc (V:=Iv (q.value)) rfl rfl (fun C=>?_) ?_
 have hl36:=fD C
 exact lD (Iv (q.value)) kT (ifpC C) (zd (d.b1) rfl) rflB
 refine stc (V:=.bool (decide (q.value<arg))) rfl rfl (fun n=>?_) ?_
 have hl38:=fD n
 exact xi (k:=.i64) (a:=arg) (b:=q.value) (ifpC n) (ifpC n) rflB
 refine st (zC (b:=decide ((q.count+1)=1)) (b':=decide (q.value<arg)) rfl (fun hbp=>(ifpC hbp)) (zb ?_))
 cases D:(decide ((q.count+1)=1))||(decide (q.value<arg))
 try simp only[zh]at D
 refine ze rfl (zr (za (R0 fun _=>st (zi (k:=3) mT lT rfl rfl (zo (d.b1)) (stn (zw (v:=.agg aj.toArray) (c':=aj.toArray) lT rfl rfl (d.b0) (yo ⟨rfl,rfl,rfl,zl⟩) yqc rfl ?_))))))
 intro w40 T
 have E:=d.pt0 T
 refine zb (zp (ZY (b:=l) uT mT lT rfl rfl (zo (E.b0)) ?_))
 refine⟨?_,?_,(E.s3_c)⟩
 have hone:xa p q arg=⟨q.group,q.value,q.count+1⟩:=by
  unfold xa yU
  refine Row.eq_iff.2 ⟨rfl,?_,rfl⟩
  dsimp only
  first|omega|((repeat' split)<;>first|rfl|omega)
 rw[hone]
 try rfl
 exact ZK oq harg hqc
 try simp only[zh]at D
 refine zf rfl (R0 fun _=>st (mV (Iv arg) (st (Yz rfl (stn (ym (v:=Iv arg) (c:=[Iv (q.group),Iv (q.value),Iv (q.count+1)]) (c':=[Iv (q.group),Iv arg,Iv (q.count+1)]) kR rfl rfl (d.b1) rfl rfl rfl ?_))))))
 intro w44 U
 have ok46:Row.Ok (⟨q.group,arg,q.count+1⟩:Row):=⟨(show InR (q.group)from oq.group),(show InR (arg)from harg),(show InR (q.count+1)from e)⟩
 have s:=d.pt1 U
 refine zb (za (R0 fun _=>st (zi (k:=3) mT lT rfl rfl (zo (s.b1)) (stn (zw (v:=.agg ak.toArray) (c':=ak.toArray) lT rfl rfl (s.b0) (yo ⟨rfl,rfl,rfl,zl⟩) yqc rfl ?_)))))
 intro w48 X
 have F:=s.pt0 X
 refine zb (zp (ZY (b:=l) uT mT lT rfl rfl (zo (F.b0)) ?_))
 refine⟨?_,?_,(F.s3_c)⟩
 have hone:xa p q arg=⟨q.group,arg,q.count+1⟩:=by
  unfold xa yU
  refine Row.eq_iff.2 ⟨rfl,?_,rfl⟩
  dsimp only
  first|omega|((repeat' split)<;>first|rfl|omega)
 rw[hone]
 try rfl
 exact ZK oq harg hqc
 have h:=tD h
 refine zf rfl (za (zG kr (st (WN rfl (st (lD (Iv (q.count+1)) kT rfl (zd (d.b1) rfl) (st (zQ (k:=.i64) (a:=q.count+1) (b:=1) rfl rfl (st (mV (.bool (decide ((q.count+1)=1))) (stc (V:=Iv arg) rfl rfl (fun Y=>?_) ?_)))))))))))
 have hl53:=fD Y
 exact mV (Iv arg) rflB
 refine stc (V:=Ix b2 1) rfl rfl (fun Z=>?_) ?_
 have hl55:=fD Z
 exact Yz rfl rflB
 refine stc (V:=Iv (q.value)) rfl rfl (fun H=>?_) ?_
 have hl57:=fD H
 exact lD (Iv (q.value)) kT (ifpC H) (zd (d.b1) rfl) rflB
 refine stc (V:=.bool (decide (arg<q.value))) rfl rfl (fun t=>?_) ?_
 have hl59:=fD t
 exact zL (k:=.i64) (a:=arg) (b:=q.value) (ifpC t) (ifpC t) rflB
 refine st (zC (b:=decide ((q.count+1)=1)) (b':=decide (arg<q.value)) rfl (fun hbp=>(ifpC hbp)) (zb ?_))
 cases I:(decide ((q.count+1)=1))||(decide (arg<q.value))
 try simp only[zh]at I
 refine ze rfl (zr (za (R0 fun _=>st (zi (k:=3) mT lT rfl rfl (zo (d.b1)) (stn (zw (v:=.agg aj.toArray) (c':=aj.toArray) lT rfl rfl (d.b0) (yo ⟨rfl,rfl,rfl,zl⟩) yqc rfl ?_))))))
 intro w61 aa
 have J:=d.pt0 aa
 refine zb (zp (ZY (b:=l) uT mT lT rfl rfl (zo (J.b0)) ?_))
 refine⟨?_,?_,(J.s3_c)⟩
 have hone:xa p q arg=⟨q.group,q.value,q.count+1⟩:=by
  unfold xa yU
  refine Row.eq_iff.2 ⟨rfl,?_,rfl⟩
  dsimp only
  first|omega|((repeat' split)<;>first|rfl|omega)
 rw[hone]
 try rfl
 exact ZK oq harg hqc
 try simp only[zh]at I
 refine zf rfl (R0 fun _=>st (mV (Iv arg) (st (Yz rfl (stn (ym (v:=Iv arg) (c:=[Iv (q.group),Iv (q.value),Iv (q.count+1)]) (c':=[Iv (q.group),Iv arg,Iv (q.count+1)]) kR rfl rfl (d.b1) rfl rfl rfl ?_))))))
 intro w65 ab
 have ok67:Row.Ok (⟨q.group,arg,q.count+1⟩:Row):=⟨(show InR (q.group)from oq.group),(show InR (arg)from harg),(show InR (q.count+1)from e)⟩
 have u:=d.pt1 ab
 refine zb (za (R0 fun _=>st (zi (k:=3) mT lT rfl rfl (zo (u.b1)) (stn (zw (v:=.agg ak.toArray) (c':=ak.toArray) lT rfl rfl (u.b0) (yo ⟨rfl,rfl,rfl,zl⟩) yqc rfl ?_)))))
 intro w69 ac
 have K:=u.pt0 ac
 refine zb (zp (ZY (b:=l) uT mT lT rfl rfl (zo (K.b0)) ?_))
 refine⟨?_,?_,(K.s3_c)⟩
 have hone:xa p q arg=⟨q.group,arg,q.count+1⟩:=by
  unfold xa yU
  refine Row.eq_iff.2 ⟨rfl,?_,rfl⟩
  dsimp only
  first|omega|((repeat' split)<;>first|rfl|omega)
 rw[hone]
 try rfl
 exact ZK oq harg hqc
 have g:=tD g
 refine zf rfl (R0 fun _=>st (Yz rfl (st (lD (Iv (q.value)) kT rfl (zd (d.b1) rfl) (st (mV (Iv arg) (st (zR (r:=IntKind.i64.wrap (q.value+arg)) (k:=.i64) (a:=q.value) (b:=arg) rfl rfl rfl (st (Yz rfl (stn (ym (v:=Iv (IntKind.i64.wrap (q.value+arg))) (c:=[Iv (q.group),Iv (q.value),Iv (q.count+1)]) (c':=[Iv (q.group),Iv (IntKind.i64.wrap (q.value+arg)),Iv (q.count+1)]) kR rfl rfl (d.b1) rfl rfl rfl ?_))))))))))))
 intro w73 ad
 have ok75:Row.Ok (⟨q.group,IntKind.i64.wrap (q.value+arg),q.count+1⟩:Row):=⟨(show InR (q.group)from oq.group),(show InR (IntKind.i64.wrap (q.value+arg))from(Yl _)),(show InR (q.count+1)from e)⟩
 have x:=d.pt1 ad
 refine zb (za (R0 fun _=>st (zi (k:=3) mT lT rfl rfl (zo (x.b1)) (stn (zw (v:=.agg ((⟨q.group,IntKind.i64.wrap (q.value+arg),q.count+1⟩:Row).cells).toArray) (c':=((⟨q.group,IntKind.i64.wrap (q.value+arg),q.count+1⟩:Row).cells).toArray) lT rfl rfl (x.b0) (yo ⟨rfl,rfl,rfl,zl⟩) yqc rfl ?_)))))
 intro w77 ae
 have L:=x.pt0 ae
 refine zb (zp (ZY (b:=l) uT mT lT rfl rfl (zo (L.b0)) ?_))
 refine⟨?_,?_,(L.s3_c)⟩
 have hone:xa p q arg=⟨q.group,IntKind.i64.wrap (q.value+arg),q.count+1⟩:=by
  unfold xa yU
  refine Row.eq_iff.2 ⟨rfl,?_,rfl⟩
  dsimp only
  first|omega|((repeat' split)<;>first|rfl|omega)
 rw[hone]
 try rfl
 exact ZK oq harg hqc
 have f:=tD f
 refine zf rfl (R0 fun _=>st (WN rfl (st (lD (Iv (q.count+1)) kT rfl (zd (d.b1) rfl) (st (Yz rfl (stn (ym (v:=Iv (q.count+1)) (c:=[Iv (q.group),Iv (q.value),Iv (q.count+1)]) (c':=[Iv (q.group),Iv (q.count+1),Iv (q.count+1)]) kR rfl rfl (d.b1) rfl rfl rfl ?_))))))))
 intro w81 af
 have ok83:Row.Ok (⟨q.group,q.count+1,q.count+1⟩:Row):=⟨(show InR (q.group)from oq.group),(show InR (q.count+1)from e),(show InR (q.count+1)from e)⟩
 have y:=d.pt1 af
 refine zb (za (R0 fun _=>st (zi (k:=3) mT lT rfl rfl (zo (y.b1)) (stn (zw (v:=.agg ((⟨q.group,q.count+1,q.count+1⟩:Row).cells).toArray) (c':=((⟨q.group,q.count+1,q.count+1⟩:Row).cells).toArray) lT rfl rfl (y.b0) (yo ⟨rfl,rfl,rfl,zl⟩) yqc rfl ?_)))))
 intro w85 ag
 have M:=y.pt0 ag
 refine zb (zp (ZY (b:=l) uT mT lT rfl rfl (zo (M.b0)) ?_))
 refine⟨?_,?_,(M.s3_c)⟩
 have hone:xa p q arg=⟨q.group,q.count+1,q.count+1⟩:=by
  unfold xa yU
  refine Row.eq_iff.2 ⟨rfl,?_,rfl⟩
  dsimp only
  first|omega|((repeat' split)<;>first|rfl|omega)
 rw[hone]
 try rfl
 exact ZK oq harg hqc
set_option maxHeartbeats 4000000 in
theorem JA {a:Nat}{p:Prj}{l:List Row}{e:Ent}{de0:Value}(hde0:RdS W G de0 e.ev.deps)(oe:e.Ok){reg:Int}(hreg:InR reg)(hS0:Sep G W ((RefO a p l)::Rs) w)(hcnt: ∀j,j<l.length→0≤(l.getD j default).count∧(l.getD j default).count<4611686018427387904)(hll:l.length≤100000):Ret Tryz.prog 72 [.pointer (some ⟨a,0,none⟩),.agg (e.cells de0).toArray,.int .i64 (reg)] w (fun r w'=> ∃(l2:List Row),r=(.tuple #[]:Value)∧(Kn p l e reg l2)∧Sep G W ((RefO a p l2)::Rs) w'):=by
 have hde0s:_*8≤_:=hde0.small
 refine zk (args:=[Ix a 0,.agg (e.cells de0).toArray,Iv reg]) Tryz.func72 rfl rfl ?_
 obtain⟨aT,t,eV⟩:=RefO.open hS0
 let bi:=Blk a #[Iv (p.ptyp),Iv (p.pfield),Iv (p.pgroup),Iv (p.pby),Iv (p.pmake),t] 149
 have ax:=eV.r1
 have hr4s:_*24≤_:=ax.2
 have eW:Sep G W (bi::(RowE (α:=Row) own 70 t l)::Rs) w:=eV
 refine za (R0 fun _=>st (zW (v:=.agg (e.cells de0).toArray) rfl ?_))
 intro w7 x fb
 let cm:=Blk x (e.cells de0).toArray 57
 refine zb (za (za ?_))
 refine WD4 (WF [fun vals A=>Sep G W (cm::bi::(RowE (α:=Row) own 70 t l)::Rs) A]) (AF [Vl 0 (Ix x 10),Vl 1 (.bool (e.void)),Vl 2 (.bool (e.void)),Vl 3 (if e.void=false then Ix x 0 else undef),Vl 4 (if e.void=false then Ix x 4 else undef),Vl 5 (if e.void=false then Iv (e.ev.typ)else undef),Vl 6 (if e.void=false then Ix a 0 else undef),Vl 7 (if e.void=false then Ix a 0 else undef),Vl 8 (if e.void=false then Ix a 0 else undef),Vl 9 (if e.void=false then Ix a 0 else undef),Vl 10 (if e.void=false then Iv (p.ptyp)else undef),Vl 11 (if e.void=false then .bool (!decide (e.ev.typ=p.ptyp))else undef),Vl 12 (.bool (e.void||(!decide (e.ev.typ=p.ptyp)))),Vl 13 (.bool (e.void||(!decide (e.ev.typ=p.ptyp)))),Vl 14 (if(e.void||(!decide (e.ev.typ=p.ptyp)))=false then Ix x 0 else undef),Vl 15 (if(e.void||(!decide (e.ev.typ=p.ptyp)))=false then Ix x 6 else undef),Vl 16 (if(e.void||(!decide (e.ev.typ=p.ptyp)))=false then Iv (e.ev.field)else undef),Vl 17 (if(e.void||(!decide (e.ev.typ=p.ptyp)))=false then Ix a 0 else undef),Vl 18 (if(e.void||(!decide (e.ev.typ=p.ptyp)))=false then Ix a 0 else undef),Vl 19 (if(e.void||(!decide (e.ev.typ=p.ptyp)))=false then Ix a 0 else undef),Vl 20 (if(e.void||(!decide (e.ev.typ=p.ptyp)))=false then Ix a 1 else undef),Vl 21 (if(e.void||(!decide (e.ev.typ=p.ptyp)))=false then Iv (p.pfield)else undef),Vl 22 (if(e.void||(!decide (e.ev.typ=p.ptyp)))=false then .bool (!decide (e.ev.field=p.pfield))else undef),Vl 23 (.bool ((e.void||(!decide (e.ev.typ=p.ptyp)))||(!decide (e.ev.field=p.pfield)))),Vl 24 (.bool ((e.void||(!decide (e.ev.typ=p.ptyp)))||(!decide (e.ev.field=p.pfield)))),Vl 25 (if((e.void||(!decide (e.ev.typ=p.ptyp)))||(!decide (e.ev.field=p.pfield)))=false then Ix a 0 else undef),Vl 26 (if((e.void||(!decide (e.ev.typ=p.ptyp)))||(!decide (e.ev.field=p.pfield)))=false then Ix a 0 else undef),Vl 27 (if((e.void||(!decide (e.ev.typ=p.ptyp)))||(!decide (e.ev.field=p.pfield)))=false then Ix a 0 else undef),Vl 28 (if((e.void||(!decide (e.ev.typ=p.ptyp)))||(!decide (e.ev.field=p.pfield)))=false then Ix a 2 else undef),Vl 29 (if((e.void||(!decide (e.ev.typ=p.ptyp)))||(!decide (e.ev.field=p.pfield)))=false then Iv (p.pgroup)else undef),Vl 30 (if((e.void||(!decide (e.ev.typ=p.ptyp)))||(!decide (e.ev.field=p.pfield)))=false then .bool (decide (p.pgroup<1))else undef),Vl 31 (.bool (((e.void||(!decide (e.ev.typ=p.ptyp)))||(!decide (e.ev.field=p.pfield)))||(decide (p.pgroup<1)))),Vl 32 (.bool (((e.void||(!decide (e.ev.typ=p.ptyp)))||(!decide (e.ev.field=p.pfield)))||(decide (p.pgroup<1)))),Vl 33 (if(((e.void||(!decide (e.ev.typ=p.ptyp)))||(!decide (e.ev.field=p.pfield)))||(decide (p.pgroup<1)))=false then Ix a 0 else undef),Vl 34 (if(((e.void||(!decide (e.ev.typ=p.ptyp)))||(!decide (e.ev.field=p.pfield)))||(decide (p.pgroup<1)))=false then Ix a 0 else undef),Vl 35 (if(((e.void||(!decide (e.ev.typ=p.ptyp)))||(!decide (e.ev.field=p.pfield)))||(decide (p.pgroup<1)))=false then Ix a 0 else undef),Vl 36 (if(((e.void||(!decide (e.ev.typ=p.ptyp)))||(!decide (e.ev.field=p.pfield)))||(decide (p.pgroup<1)))=false then Ix a 2 else undef),Vl 37 (if(((e.void||(!decide (e.ev.typ=p.ptyp)))||(!decide (e.ev.field=p.pfield)))||(decide (p.pgroup<1)))=false then Iv (p.pgroup)else undef),Vl 38 (if(((e.void||(!decide (e.ev.typ=p.ptyp)))||(!decide (e.ev.field=p.pfield)))||(decide (p.pgroup<1)))=false then .bool (decide (3<p.pgroup))else undef),Vl 39 (.bool ((((e.void||(!decide (e.ev.typ=p.ptyp)))||(!decide (e.ev.field=p.pfield)))||(decide (p.pgroup<1)))||(decide (3<p.pgroup))))]) [[],[0],[0,1],[0,1,2],(rg 4),(rg 5),[0,1,2],[0,1,2,6],[0,1,2,6,7],[0,1,2,6,7,8],[0,1,2,6,7,8,9],(rg 11),(rg 12),(rg 13),(rg 14),(rg 15),(rg 16),(rg 14),[0,1,2,3,4,5,6,7,8,9,10,11,12,13,17],[0,1,2,3,4,5,6,7,8,9,10,11,12,13,17,18],[0,1,2,3,4,5,6,7,8,9,10,11,12,13,17,18,19],[0,1,2,3,4,5,6,7,8,9,10,11,12,13,17,18,19,20],(rg 22),(rg 23),(rg 24),(rg 25),(rg 26),(rg 27),(rg 28),(rg 29),(rg 30),(rg 31),(rg 32),(rg 33),(rg 34),(rg 35),(rg 36),(rg 37),(rg 38),(rg 39)] [] [(0,0),(0,0),(0,0),(0,0),(0,0),(0,0),(0,0),(0,0),(0,0),(0,0),(0,0),(0,0),(0,0),(0,0),(0,0),(0,0),(0,0),(0,0),(0,0),(0,0),(0,0),(0,0),(0,0),(0,0),(0,0),(0,0),(0,0),(0,0),(0,0),(0,0),(0,0),(0,0),(0,0),(0,0),(0,0),(0,0),(0,0),(0,0),(0,0),(0,0)] (eW.new fb) ⟨fun _ _ _ _ _ _ _=>obl rfl (Vf rfl dR),ob1 0 fun _ _ (dv:Sep _ _ _ _) dw=>obl rfl (lD (.bool (e.void)) rY (dw 0 dc) (zd (dv.b0) rfl) dR),fun _ _ _ _ _ _ dx=>obl rfl (zN (v:=.bool (e.void)) (dx 1 dc) dR),?_,?_,?_,?_,?_,?_,?_,?_,?_,fun _ _ _ _ _ _ bl=>obl rfl (zC (b:=e.void) (b':= !decide (e.ev.typ=p.ptyp)) (bl 2 dc) (fun hbp=>(zn (bl 11 dc) (ifpC hbp))) dR),fun _ _ _ _ _ _ dy=>obl rfl (zN (v:=.bool (e.void||(!decide (e.ev.typ=p.ptyp)))) (dy 12 dc) dR),?_,?_,?_,?_,?_,?_,?_,?_,?_,fun _ _ _ _ _ _ bm=>obl rfl (zC (b:=e.void||(!decide (e.ev.typ=p.ptyp))) (b':= !decide (e.ev.field=p.pfield)) (bm 13 dc) (fun hbp=>(zn (bm 22 dc) (ifpC hbp))) dR),fun _ _ _ _ _ _ dz=>obl rfl (zN (v:=.bool ((e.void||(!decide (e.ev.typ=p.ptyp)))||(!decide (e.ev.field=p.pfield)))) (dz 23 dc) dR),?_,?_,?_,?_,?_,?_,fun _ _ _ _ _ _ bn=>obl rfl (zC (b:=(e.void||(!decide (e.ev.typ=p.ptyp)))||(!decide (e.ev.field=p.pfield))) (b':=decide (p.pgroup<1)) (bn 24 dc) (fun hbp=>(zn (bn 30 dc) (ifpC hbp))) dR),fun _ _ _ _ _ _ dB=>obl rfl (zN (v:=.bool (((e.void||(!decide (e.ev.typ=p.ptyp)))||(!decide (e.ev.field=p.pfield)))||(decide (p.pgroup<1)))) (dB 31 dc) dR),?_,?_,?_,?_,?_,?_,fun _ _ _ _ _ _ bp=>obl rfl (zC (b:=((e.void||(!decide (e.ev.typ=p.ptyp)))||(!decide (e.ev.field=p.pfield)))||(decide (p.pgroup<1))) (b':=decide (3<p.pgroup)) (bp 32 dc) (fun hbp=>(zn (bp 38 dc) (ifpC hbp))) dR),zl⟩ ?_
 refine fun _ _ _ _ _ _ dD=>(zJ rfl rfl (dD 2 dc) (fun aD=>?_) zZ)
 exact xt rfl (zY aD)
 refine fun _ _ _ _ _ _ bq=>(zJ rfl rfl (bq 2 dc) (fun ae=>?_) zZ)
 exact xr (zn (bq 3 dc) (ifpC ae)) (zY ae)
 refine ob1 0 fun _ _ (dE:Sep _ _ _ _) br=>(zJ rfl rfl (br 2 dc) (fun af=>?_) zZ)
 exact lD (Iv (e.ev.typ)) kT (zn (br 4 dc) (ifpC af)) (zd (dE.b0) rfl) (zY af)
 refine fun _ _ _ _ _ _ dF=>(zJ rfl rfl (dF 2 dc) (fun aE=>?_) zZ)
 exact mV (Ix a 0) (zY aE)
 refine fun _ _ _ _ _ _ bs=>(zJ rfl rfl (bs 2 dc) (fun ag=>?_) zZ)
 exact zj (b:=a) (o:=0) (zn (bs 6 dc) (ifpC ag)) (zY ag)
 refine fun _ _ _ _ _ _ bt=>(zJ rfl rfl (bt 2 dc) (fun ah=>?_) zZ)
 exact Ya (zn (bt 7 dc) (ifpC ah)) (zY ah)
 refine fun _ _ _ _ _ _ bu=>(zJ rfl rfl (bu 2 dc) (fun ai=>?_) zZ)
 exact Kb (zn (bu 8 dc) (ifpC ai)) (zY ai)
 refine ob1 0 fun _ _ (dG:Sep _ _ _ _) bv=>(zJ rfl rfl (bv 2 dc) (fun aj=>?_) zZ)
 exact lD (Iv (p.ptyp)) kT (zn (bv 9 dc) (ifpC aj)) (zd (dG.b1) rfl) (zY aj)
 refine ob1 0 fun _ _ _ aF=>(zJ rfl rfl (aF 2 dc) (fun H=>?_) zZ)
 exact yx (k:=.i64) (a:=e.ev.typ) (b:=p.ptyp) (zn (aF 5 dc) (ifpC H)) (zn (aF 10 dc) (ifpC H)) (zY H)
 refine fun _ _ _ _ _ _ dH=>(zJ rfl rfl (dH 13 dc) (fun ak=>?_) zZ)
 have dI:=ak
 try simp only[zh]at dI
 exact xt rfl (zY ak)
 refine fun _ _ _ _ _ _ bw=>(zJ rfl rfl (bw 13 dc) (fun I=>?_) zZ)
 have dJ:=I
 try simp only[zh]at dJ
 exact xJ (zn (bw 14 dc) (ifpC I)) (zY I)
 refine ob1 0 fun _ _ (dK:Sep _ _ _ _) bx=>(zJ rfl rfl (bx 13 dc) (fun J=>?_) zZ)
 have dL:=J
 try simp only[zh]at dL
 exact lD (Iv (e.ev.field)) kT (zn (bx 15 dc) (ifpC J)) (zd (dK.b0) rfl) (zY J)
 refine fun _ _ _ _ _ _ dM=>(zJ rfl rfl (dM 13 dc) (fun al=>?_) zZ)
 have dN:=al
 try simp only[zh]at dN
 exact mV (Ix a 0) (zY al)
 refine fun _ _ _ _ _ _ bz=>(zJ rfl rfl (bz 13 dc) (fun K=>?_) zZ)
 have dO:=K
 try simp only[zh]at dO
 exact zj (b:=a) (o:=0) (zn (bz 17 dc) (ifpC K)) (zY K)
 refine fun _ _ _ _ _ _ bA=>(zJ rfl rfl (bA 13 dc) (fun L=>?_) zZ)
 have dP:=L
 try simp only[zh]at dP
 exact Ya (zn (bA 18 dc) (ifpC L)) (zY L)
 refine fun _ _ _ _ _ _ bB=>(zJ rfl rfl (bB 13 dc) (fun M=>?_) zZ)
 have dQ:=M
 try simp only[zh]at dQ
 exact zbo (zn (bB 19 dc) (ifpC M)) (zY M)
 refine ob1 0 fun _ _ (dS:Sep _ _ _ _) bC=>(zJ rfl rfl (bC 13 dc) (fun N=>?_) zZ)
 have dU:=N
 try simp only[zh]at dU
 exact lD (Iv (p.pfield)) kT (zn (bC 20 dc) (ifpC N)) (zd (dS.b1) rfl) (zY N)
 refine ob1 0 fun _ _ _ aG=>(zJ rfl rfl (aG 13 dc) (fun D=>?_) zZ)
 have dV:=D
 try simp only[zh]at dV
 exact yx (k:=.i64) (a:=e.ev.field) (b:=p.pfield) (zn (aG 16 dc) (ifpC D)) (zn (aG 21 dc) (ifpC D)) (zY D)
 refine fun _ _ _ _ _ _ dW=>(zJ rfl rfl (dW 24 dc) (fun am=>?_) zZ)
 have dX:=am
 try simp only[zh]at dX
 exact mV (Ix a 0) (zY am)
 refine fun _ _ _ _ _ _ bD=>(zJ rfl rfl (bD 24 dc) (fun O=>?_) zZ)
 have dY:=O
 try simp only[zh]at dY
 exact zj (b:=a) (o:=0) (zn (bD 25 dc) (ifpC O)) (zY O)
 refine fun _ _ _ _ _ _ bE=>(zJ rfl rfl (bE 24 dc) (fun P=>?_) zZ)
 have dZ:=P
 try simp only[zh]at dZ
 exact Ya (zn (bE 26 dc) (ifpC P)) (zY P)
 refine fun _ _ _ _ _ _ bF=>(zJ rfl rfl (bF 24 dc) (fun Q=>?_) zZ)
 have ea:=Q
 try simp only[zh]at ea
 exact YE (zn (bF 27 dc) (ifpC Q)) (zY Q)
 refine ob1 0 fun _ _ (eb:Sep _ _ _ _) bG=>(zJ rfl rfl (bG 24 dc) (fun R=>?_) zZ)
 have ec:=R
 try simp only[zh]at ec
 exact lD (Iv (p.pgroup)) kT (zn (bG 28 dc) (ifpC R)) (zd (eb.b1) rfl) (zY R)
 refine ob1 0 fun _ _ _ bH=>(zJ rfl rfl (bH 24 dc) (fun S=>?_) zZ)
 have ed:=S
 try simp only[zh]at ed
 exact zL (k:=.i64) (a:=p.pgroup) (b:=1) (zn (bH 29 dc) (ifpC S)) rfl (zY S)
 refine fun _ _ _ _ _ _ ee=>(zJ rfl rfl (ee 32 dc) (fun an=>?_) zZ)
 have ef:=an
 try simp only[zh]at ef
 exact mV (Ix a 0) (zY an)
 refine fun _ _ _ _ _ _ bI=>(zJ rfl rfl (bI 32 dc) (fun T=>?_) zZ)
 have eg:=T
 try simp only[zh]at eg
 exact zj (b:=a) (o:=0) (zn (bI 33 dc) (ifpC T)) (zY T)
 refine fun _ _ _ _ _ _ bJ=>(zJ rfl rfl (bJ 32 dc) (fun U=>?_) zZ)
 have eh:=U
 try simp only[zh]at eh
 exact Ya (zn (bJ 34 dc) (ifpC U)) (zY U)
 refine fun _ _ _ _ _ _ bK=>(zJ rfl rfl (bK 32 dc) (fun X=>?_) zZ)
 have ei:=X
 try simp only[zh]at ei
 exact YE (zn (bK 35 dc) (ifpC X)) (zY X)
 refine ob1 0 fun _ _ (ej:Sep _ _ _ _) bL=>(zJ rfl rfl (bL 32 dc) (fun Y=>?_) zZ)
 have ek:=Y
 try simp only[zh]at ek
 exact lD (Iv (p.pgroup)) kT (zn (bL 36 dc) (ifpC Y)) (zd (ej.b1) rfl) (zY Y)
 refine ob1 0 fun _ _ _ bM=>(zJ rfl rfl (bM 32 dc) (fun Z=>?_) zZ)
 have el:=Z
 try simp only[zh]at el
 exact xi (k:=.i64) (a:=p.pgroup) (b:=3) (zn (bM 37 dc) (ifpC Z)) rfl (zY Z)
 intro vals eX em en
 have aa:Sep _ _ _ _:=em
 have eY:=en 39 dc
 refine yi (kv:=[(0,Ix a 0),(1,.agg (e.cells de0).toArray),(2,Iv reg),(4,Ix x 0),(48,.bool ((((e.void||(!decide (e.ev.typ=p.ptyp)))||(!decide (e.ev.field=p.pfield)))||(decide (p.pgroup<1)))||(decide (3<p.pgroup))))]) ⟨rfl,rfl,rfl,rfl,(by exact eY),zl⟩ (fun ρw769=>(zb ?_))
 cases ab:(((e.void||(!decide (e.ev.typ=p.ptyp)))||(!decide (e.ev.field=p.pfield)))||(decide (p.pgroup<1)))||(decide (3<p.pgroup))
 try simp only[zh]at ab
 refine ze rfl (zr (za (R0 fun _=>st (mV (Iv reg) (st (aS (Iv reg) (zb (za (za (R0 fun _=>st (mV (Ix a 0) (st (zj (b:=a) (o:=0) rfl (st (Ya rfl (st (YE rfl (st (lD (Iv (p.pgroup)) kT rfl (zd (aa.b1) rfl) (st (zQ (k:=.i64) (a:=p.pgroup) (b:=1) rfl rfl (zb (Yn (fun σ A=> ∃(g1:Int) (ρ:Env),σ=yg ρ [(0,Ix a 0),(1,.agg (e.cells de0).toArray),(2,Iv reg),(4,Ix x 0),(6,Iv g1)]∧(g1=(if p.pgroup=1 then e.ev.agg else reg)∧InR g1)∧Sep G W (cm::bi::(RowE (α:=Row) own 70 t l)::Rs) A) ?_ ?_)))))))))))))))))))))))
 cases E:decide (p.pgroup=1)
 have E:=fD E
 refine ze rfl (zr ?_)
 exact⟨rfl,reg,_,yC ⟨(show _=(Ix a 0:Value)from rfl),(show _=(.agg (e.cells de0).toArray:Value)from rfl),(show _=(Iv reg:Value)from rfl),(show _=(Ix x 0:Value)from rfl),(show _=(Iv reg:Value)from rfl),zl⟩,⟨(ifnC E).symm,hreg⟩,aa⟩
 have E:=tD E
 refine zf rfl (R0 fun _=>st (xt rfl (st (Zl rfl (st (lD (Iv (e.ev.agg)) kT rfl (zd (aa.b0) rfl) (st (aS (Iv (e.ev.agg)) (zb ?_)))))))))
 exact⟨rfl,e.ev.agg,_,yC ⟨(show _=(Ix a 0:Value)from rfl),(show _=(.agg (e.cells de0).toArray:Value)from rfl),(show _=(Iv reg:Value)from rfl),(show _=(Ix x 0:Value)from rfl),(show _=(Iv (e.ev.agg):Value)from rfl),zl⟩,⟨(ifpC E).symm,oe.ev.agg⟩,aa⟩
 rintro _ w777 ⟨g1,ρj1,rfl,aH,ao⟩
 refine za (za (R0 fun _=>st (mV (Ix a 0) (st (zj (b:=a) (o:=0) rfl (st (Ya rfl (st (YE rfl (st (lD (Iv (p.pgroup)) kT rfl (zd (ao.b1) rfl) (st (zQ (k:=.i64) (a:=p.pgroup) (b:=2) rfl rfl (zb (Yn (fun σ A=> ∃(s:Int) (ρ:Env),σ=yg ρ [(0,Ix a 0),(1,.agg (e.cells de0).toArray),(2,Iv reg),(4,Ix x 0),(6,Iv s)]∧(s=(if p.pgroup=2 then e.ev.arg else g1)∧InR s)∧Sep G W (cm::bi::(RowE (α:=Row) own 70 t l)::Rs) A) ?_ ?_)))))))))))))))
 cases F:decide (p.pgroup=2)
 have F:=fD F
 refine ze rfl (zr ?_)
 exact⟨rfl,g1,_,yC ⟨(show _=(Ix a 0:Value)from rfl),(show _=(.agg (e.cells de0).toArray:Value)from rfl),(show _=(Iv reg:Value)from rfl),(show _=(Ix x 0:Value)from rfl),(show _=(Iv g1:Value)from rfl),zl⟩,⟨(ifnC F).symm,aH.2⟩,ao⟩
 have F:=tD F
 refine zf rfl (R0 fun _=>st (xt rfl (st (xu rfl (st (lD (Iv (e.ev.arg)) kT rfl (zd (ao.b0) rfl) (st (aS (Iv (e.ev.arg)) (zb ?_)))))))))
 exact⟨rfl,e.ev.arg,_,yC ⟨(show _=(Ix a 0:Value)from rfl),(show _=(.agg (e.cells de0).toArray:Value)from rfl),(show _=(Iv reg:Value)from rfl),(show _=(Ix x 0:Value)from rfl),(show _=(Iv (e.ev.arg):Value)from rfl),zl⟩,⟨(ifpC F).symm,oe.ev.arg⟩,ao⟩
 rintro _ w781 ⟨s,ρj2,rfl,ap,eo⟩
 refine za (R0 fun _=>st (aS (Iv 0) (zb (za (zu (yd (fun mq σ A=> ∃(k:Nat) (ρ:Env),mq=l.length-k∧σ=yg ρ [(0,Ix a 0),(4,Ix x 0),(6,Iv s),(7,Iw k)]∧(k≤l.length)∧(∀j,j<k→(l.getD j default).group<s)∧Sep G W ((Blk x (e.cells de0).toArray 57)::(Blk a #[Iv (p.ptyp),Iv (p.pfield),Iv (p.pgroup),Iv (p.pby),Iv (p.pmake),t] 149)::(RowE (α:=Row) own 70 t l)::Rs) A) ⟨0,_,rfl,sSf,yc _,(fun j h=>absurd h (yO j)),eo⟩ ?_))))))
 rintro m784 σ785 w783 ⟨k,ρl1,rfl,rfl,hkk,hlt,z⟩
 refine za (za (zG kr (st (mV (Iw k) (st (mV (Ix a 0) (st (zj (b:=a) (o:=0) rfl (st (xF rfl (st (lD t pT rfl (zd (z.b1) rfl) (st (zF (n:=l.length) nT rfl ax.1 (st (zL (k:=.i64) (a:=((k:Nat):Int)) (b:=((l.length:Nat):Int)) rfl rfl (st (mV (.bool (decide (((k:Nat):Int)<((l.length:Nat):Int)))) (stc (V:=Ix a 0) rfl rfl (fun er=>?_) ?_)))))))))))))))))))
 have hl788:=tD er
 exact mV (Ix a 0) rflB
 refine stc (V:=Ix a 0) rfl rfl (fun bN=>?_) ?_
 have hl790:=tD bN
 exact zj (b:=a) (o:=0) (ifpC bN) rflB
 refine stc (V:=Ix a 5) rfl rfl (fun bO=>?_) ?_
 have hl792:=tD bO
 exact xF (ifpC bO) rflB
 refine stc (V:=t) rfl rfl (fun bP=>?_) ?_
 have hl794:=tD bP
 exact lD t pT (ifpC bP) (zd (z.b1) rfl) rflB
 refine stc (V:=Iw k) rfl rfl (fun es=>?_) ?_
 have hl796:=tD es
 exact mV (Iw k) rflB
 refine stc (V:=Ix (sb t) (so t+k*3)) rfl rfl (fun aI=>?_) ?_
 have hl798:=tD aI
 have et:k<l.length:=bo
 exact zg (k:=3) (i:=k) nT lT (ifpC aI) ax.1 (ifpC aI) et rflB
 refine stc (V:=Ix (sb t) (so t+k*3)) rfl rfl (fun bQ=>?_) ?_
 have hl801:=tD bQ
 exact zap (ifpC bQ) rflB
 refine stc (V:=Iv ((l.getD k default).group)) rfl rfl (fun bR=>?_) ?_
 have hl803:=tD bR
 have eu:k<l.length:=bo
 obtain⟨_,_,cd,rfl,hoke804⟩:=z.rowAtD (i:=2) (j:=k) rfl eu
 exact lD (Iv ((l.getD k default).group)) kT (ifpC bR) (cd.get (j:=0) rfl) rflB
 refine stc (V:=Iv s) rfl rfl (fun ew=>?_) ?_
 have hl807:=tD ew
 exact mV (Iv s) rflB
 refine stc (V:=.bool (decide (((l.getD k default).group)<s))) rfl rfl (fun aJ=>?_) ?_
 have hl809:=tD aJ
 exact zL (k:=.i64) (a:=(l.getD k default).group) (b:=s) (ifpC aJ) (ifpC aJ) rflB
 refine st (zv (b:=decide (((k:Nat):Int)<((l.length:Nat):Int))) (b':=decide (((l.getD k default).group)<s)) rfl (fun hbp=>(ifpC hbp)) (zb ?_))
 cases aq:(decide (((k:Nat):Int)<((l.length:Nat):Int)))&&(decide (((l.getD k default).group)<s))
 try simp only[zh]at aq
 refine ze rfl (ye (zT (za (za (zG kr (st (mV (Iw k) (st (mV (Ix a 0) (st (zj (b:=a) (o:=0) rfl (st (xF rfl (st (lD t pT rfl (zd (z.b1) rfl) (st (zF (n:=l.length) nT rfl ax.1 (st (zL (k:=.i64) (a:=((k:Nat):Int)) (b:=((l.length:Nat):Int)) rfl rfl (st (mV (.bool (decide (((k:Nat):Int)<((l.length:Nat):Int)))) (stc (V:=Ix a 0) rfl rfl (fun ex=>?_) ?_))))))))))))))))))))))
 have hl812:=tD ex
 exact mV (Ix a 0) rflB
 refine stc (V:=Ix a 0) rfl rfl (fun bS=>?_) ?_
 have hl814:=tD bS
 exact zj (b:=a) (o:=0) (ifpC bS) rflB
 refine stc (V:=Ix a 5) rfl rfl (fun bT=>?_) ?_
 have hl816:=tD bT
 exact xF (ifpC bT) rflB
 refine stc (V:=t) rfl rfl (fun bU=>?_) ?_
 have hl818:=tD bU
 exact lD t pT (ifpC bU) (zd (z.b1) rfl) rflB
 refine stc (V:=Iw k) rfl rfl (fun ey=>?_) ?_
 have hl820:=tD ey
 exact mV (Iw k) rflB
 refine stc (V:=Ix (sb t) (so t+k*3)) rfl rfl (fun aK=>?_) ?_
 have hl822:=tD aK
 have ez:k<l.length:=bo
 exact zg (k:=3) (i:=k) nT lT (ifpC aK) ax.1 (ifpC aK) ez rflB
 refine stc (V:=Ix (sb t) (so t+k*3)) rfl rfl (fun bV=>?_) ?_
 have hl825:=tD bV
 exact zap (ifpC bV) rflB
 refine stc (V:=Iv ((l.getD k default).group)) rfl rfl (fun bW=>?_) ?_
 have hl827:=tD bW
 have eA:k<l.length:=bo
 obtain⟨_,_,ce,rfl,hoke828⟩:=z.rowAtD (i:=2) (j:=k) rfl eA
 exact lD (Iv ((l.getD k default).group)) kT (ifpC bW) (ce.get (j:=0) rfl) rflB
 refine stc (V:=Iv s) rfl rfl (fun eB=>?_) ?_
 have hl831:=tD eB
 exact mV (Iv s) rflB
 refine stc (V:=.bool (decide (((l.getD k default).group)=s))) rfl rfl (fun aL=>?_) ?_
 have hl833:=tD aL
 exact zQ (k:=.i64) (a:=(l.getD k default).group) (b:=s) (ifpC aL) (ifpC aL) rflB
 refine st (zv (b:=decide (((k:Nat):Int)<((l.length:Nat):Int))) (b':=decide (((l.getD k default).group)=s)) rfl (fun hbp=>(ifpC hbp)) (zb ?_))
 cases ar:(decide (((k:Nat):Int)<((l.length:Nat):Int)))&&(decide (((l.getD k default).group)=s))
 try simp only[zh]at ar
 refine ze rfl (zr (za (R0 fun _=>st (mV (Ix a 0) (st (mV (Ix a 0) (st (zj (b:=a) (o:=0) rfl (st (xF rfl (st (lD t pT rfl (zd (z.b1) rfl) ?_))))))))))))
 have eC:Row.Ok (⟨0,0,0⟩:Row):=⟨(show InR (0)from dc),(show InR (0)from dc),(show InR (0)from dc)⟩
 refine st (zX (parts':=[]) (v:=.agg ((⟨0,0,0⟩:Row).cells).toArray) rfl (by simp+zetaDelta [Instr.build,Instr.fill,go_sem,Zc]) (st (zD (k:=3) (parts':=[(0,.agg ((⟨0,0,0⟩:Row).cells).toArray)]) (c:=((⟨0,0,0⟩:Row).cells).toArray) nT lT sR (by decide) rfl (by kernel_rfl) ?_)))
 intro w838 b837 eD
 have bX:=z.new eD
 have cf:=bX.b0
 refine st (yq (src:=own) (bytes:=24) (x1:=(⟨0,0,0⟩:Row)) ((bX.s4_dbc).emp1) el67 rfl rfl cf (fun _ _ _=>(show _ from⟨rfl,eC⟩)) yqb rfl ?_)
 intro m w840 aM
 have aN:=aM.r0
 have hr846s:_*24≤_:=aN.2
 refine st (zj (b:=a) (o:=0) rfl (st (xF rfl (stn (ym (v:=m) (c:=[Iv (p.ptyp),Iv (p.pfield),Iv (p.pgroup),Iv (p.pby),Iv (p.pmake),t]) (c':=[Iv (p.ptyp),Iv (p.pfield),Iv (p.pgroup),Iv (p.pby),Iv (p.pmake),m]) Tryz.sizeOf67 rfl rfl (aM.b2) aN.1.one rfl rfl ?_)))))
 intro w847 eE
 have aO:=aM.pt2 eE
 refine zb (za (za (R0 fun _=>st (mV (Ix a 0) (st (zj (b:=a) (o:=0) rfl (st (xF rfl (st (lD m pT rfl (zd (aO.b2) rfl) (st (zF (n:=(l++[(⟨0,0,0⟩:Row)]).length) nT rfl aN.1 ?_))))))))))))
 have eF:InR ((((l++[(⟨0,0,0⟩:Row)]).length)-1:Nat):Int):=bo
 refine st (ZN (r:=((((l++[(⟨0,0,0⟩:Row)]).length)-1:Nat):Int)) (k:=.i64) (a:=(((l++[(⟨0,0,0⟩:Row)]).length:Nat):Int)) (b:=1) rfl rfl (by rw[show((((l++[(⟨0,0,0⟩:Row)]).length:Nat):Int)-1:Int)=((((l++[(⟨0,0,0⟩:Row)]).length)-1:Nat):Int)from bo];exact zz eF) (st (aS (Iw (((l++[(⟨0,0,0⟩:Row)]).length)-1)) (zb (zu ?_)))))
 have fc:((l++[(⟨0,0,0⟩:Row)]).length)-1=l.length:=by first|omega|(simp only[List.length_append,List.length_cons,List.length_nil];omega)
 rw[←zbD]at aO
 refine yd (fun mq σ A=> ∃(q:Nat) (ρ:Env),mq=q-k∧σ=yg ρ [(0,Ix a 0),(4,Ix x 0),(6,Iv s),(7,Iw k),(8,Iw q)]∧(k≤q∧q≤l.length)∧Sep G W ((RowE (α:=Row) own 70 m (shl l q))::(Blk x (e.cells de0).toArray 57)::(Blk a #[Iv (p.ptyp),Iv (p.pfield),Iv (p.pgroup),Iv (p.pby),Iv (p.pmake),m] 149)::Rs) A) ⟨(((l++[(⟨0,0,0⟩:Row)]).length)-1),_,rfl,sSf,⟨by omega,by omega⟩,(by rw[fc];exact aO)⟩ ?_
 rintro m852 σ853 w851 ⟨q,ρl2,rfl,rfl,fd,aP⟩
 have au:=aP.r0
 have hr855s:_*24≤_:=au.2
 have hsl3:=KS fd.2
 refine za (za (R0 fun _=>st (mV (Iw q) (st (mV (Iw k) (st (xi (k:=.i64) (a:=((q:Nat):Int)) (b:=((k:Nat):Int)) rfl rfl (zb ?_))))))))
 cases av:decide (((k:Nat):Int)<((q:Nat):Int))
 have av:=fD av
 refine ze rfl (ye (zT ?_))
 refine WD4 ((fun aA ay aB=>WF [fun vals A=>Sep G W (aA::ay::aB::Rs) A,fun vals A=>(vals 11=(.agg ((xa p (⟨s,0,0⟩:Row) e.ev.arg).cells).toArray:Value))∧((xa p (⟨s,0,0⟩:Row) e.ev.arg).Ok)∧Sep G W (aB::aA::ay::Rs) A,fun vals A=>(vals 11=(.agg ((xa p (⟨s,0,0⟩:Row) e.ev.arg).cells).toArray:Value))∧((xa p (⟨s,0,0⟩:Row) e.ev.arg).Ok)∧Sep G W ((RowE (α:=Row) own 70 m ((shl l q).set k (xa p (⟨s,0,0⟩:Row) e.ev.arg)))::aB::ay::Rs) A]) (RowE (α:=Row) own 70 m (shl l q)) cm (Blk a #[Iv (p.ptyp),Iv (p.pfield),Iv (p.pgroup),Iv (p.pby),Iv (p.pmake),m] 149)) (AF [Vl 0 (Ix a 0),Vl 1 (Ix a 0),Vl 2 (Ix a 5),Vl 3 m,Vl 4 (Iw k),Vl 5 (Ix a 0),Vl 6 (Iv s),Vl 7 (.agg ((⟨s,0,0⟩:Row).cells).toArray),Vl 8 (Ix x 0),Vl 9 (Ix x 8),Vl 10 (Iv (e.ev.arg)),fun _=>True,Vl 12 (Ix (sb m) (so m+k*3)),fun _=>True]) [[],[0],[0,1],[0,1,2],[],[],[],[6],[],[8],[8,9],[5,6,7,8,9,10],(rg 12),(rg 13)] [11,13] [(0,1),(0,1),(0,1),(0,1),(0,1),(0,0),(0,0),(0,0),(0,0),(0,0),(0,0),(0,0),(1,1),(1,1)] aP ⟨fun _ _ _ _ _ _ _=>obl rfl (mV (Ix a 0) dR),fun _ _ _ _ _ _ eG=>obl rfl (zj (b:=a) (o:=0) (eG 0 dc) dR),fun _ _ _ _ _ _ eH=>obl rfl (xF (eH 1 dc) dR),?_,fun _ _ _ _ _ _ _=>obl rfl (mV (Iw k) dR),fun _ _ _ _ _ _ _=>obl rfl (mV (Ix a 0) dR),fun _ _ _ _ _ _ _=>obl rfl (mV (Iv s) dR),?_,fun _ _ _ _ _ _ _=>obl rfl (xt rfl dR),fun _ _ _ _ _ _ cg=>obl rfl (xu (cg 8 dc) dR),ob1 0 fun _ _ (ch:Sep _ _ _ _) ci=>obl rfl (lD (Iv (e.ev.arg)) kT (ci 9 dc) (zd (ch.b1) rfl) dR),?_,?_,?_,zl⟩ ?_
 refine fun aQ _ _ eZ fa bY bZ=>?_
 have hkk:=xE eZ fa
 rcases hkk with rfl|rfl
 have eI:Sep _ _ _ _:=bY
 exact obl rfl (lD m pT (bZ 2 dc) (zd (eI.b2) rfl) dR)
 obtain⟨ac,B,eJ⟩:=bY
 exact obl rfl (lD m pT (bZ 2 dc) (zd (eJ.b0) rfl) dR)
 refine fun _ _ _ _ _ _ cj=>(obl rfl ?_)
 have ok1026:Row.Ok (⟨s,0,0⟩:Row):=⟨(show InR (s)from ap.2),(show InR (0)from dc),(show InR (0)from dc)⟩
 exact zX (parts':=[(0,Iv s)]) (v:=.agg ((⟨s,0,0⟩:Row).cells).toArray) (xU ⟨rfl,(cj 6 (by decide)),zl⟩) (by simp+zetaDelta [Instr.build,Instr.fill,go_sem,Zc]) dR
 refine ob1 0 fun vals _ (eK:Sep _ _ _ _) aR=>(obl rfl ?_)
 have eL:Row.Ok (⟨s,0,0⟩:Row):=⟨(show InR (s)from ap.2),(show InR (0)from dc),(show InR (0)from dc)⟩
 refine(zV (f:=87) (vals:=[Ix a 0,.agg ((⟨s,0,0⟩:Row).cells).toArray,Iv (e.ev.arg)]) (cap:=[]) rfl (yM ⟨(aR 5 dc),(aR 7 dc),(aR 10 dc),zl⟩) tY (zbg (q:=(⟨s,0,0⟩:Row)) (arg:=e.ev.arg) eL oe.ev.arg (eK.mv2) ((by first|exact hcnt _ om|exact(by decide:(0:Int)≤0∧(0:Int)<4611686018427387904))) aT) ?_)
 rintro _ w945 ⟨rfl,B,eM⟩
 exact fun d g aC=>⟨(zA g (zA B eM)),zl⟩
 refine ob1 1 fun _ _ ck aU=>?_
 obtain⟨ac,B,hS1054⟩:=ck
 refine obl rfl ?_
 have cl:k<(shl l q).length:=bo
 exact zg (k:=3) (i:=k) nT lT (aU 3 dc) au.1 (aU 4 dc) cl dR
 refine ob1 1 fun _ _ eN eO=>?_
 obtain⟨ac,B,eP⟩:=eN
 refine obl rfl ?_
 refine(yI (α:=Row) (j:=k) (o:=0) (u:=.agg ((xa p (⟨s,0,0⟩:Row) e.ev.arg).cells).toArray) (us:=(xa p (⟨s,0,0⟩:Row) e.ev.arg).cells) (x1:=(xa p (⟨s,0,0⟩:Row) e.ev.arg)) ((eP.mv1).emp1) lT bo (eO 12 (by decide)) ac rfl (yQ rfl) (yo ⟨rfl,rfl,rfl,zl⟩) (fun _ _ ad hel _=>(by have aV:=Src.len _ hel;have e0:ad.take 0++((xa p (⟨s,0,0⟩:Row) e.ev.arg).cells)++ad.drop (0+((xa p (⟨s,0,0⟩:Row) e.ev.arg).cells).length)=((xa p (⟨s,0,0⟩:Row) e.ev.arg).cells):=(by rw[List.drop_eq_nil_of_le (by rw[aV];exact yQ rfl)];simp);rw[e0];exact(show _ from⟨rfl,B⟩))) ?_)
 intro w966 ca
 have eQ:=ca.r0
 have hr970s:_*24≤_:=eQ.2
 exact fun d g aC=>⟨(zA ((aC 11 dc).trans ac) (zA B ca)),zl⟩
 intro vals eR cn hA1060
 obtain⟨ac,B,co⟩:=cn
 refine yi (kv:=[(0,Ix a 0),(4,Ix x 0),(6,Iv s),(7,Iw k),(8,Iw q),(142,Iw q),(143,Iw k),(144,.bool false)]) sEv (fun ρw1058=>(zb (YY vR ?_)))
 have cp:Sep G W ((RefO a p ((shl l q).set k (xa p (⟨s,0,0⟩:Row) e.ev.arg)))::cm::Rs) eR:=RefO.close (v:=m) aT (co.mv1)
 refine⟨(shl l q).set k (xa p (⟨s,0,0⟩:Row) e.ev.arg),rfl,?_,(cp.s2_a)⟩
 obtain⟨⟨⟨⟨cq,cr⟩,cs⟩,ct⟩,cu⟩:=ab
 have hg:zy p e.ev reg=some s:=by
  rw[ap.1,aH.1]
  unfold zy
  (repeat' split)<;>first|rfl|(congr 1;omega)
 have hqk:q=k:=by omega
 subst hqk
 exact .inr ⟨⟨cq,cr,cs,ct,cu⟩,s,q,hg,by omega,hlt,.inr ⟨(by first|omega|(rcases ar with h|h;exact .inl (by omega);have:=aq;first|omega|skip)),rfl⟩⟩
 have av:=tD av
 refine zf rfl (zr (za (zu ?_)))
 refine WD4 ((fun TT=>WF [fun vals A=>Sep G W ((RowE (α:=Row) own 70 m (shl l q))::TT) A,fun vals A=>Sep G W ((RowE (α:=Row) own 70 m ((shl l q).set q ((shl l q).getD (q-1) default)))::TT) A]) (cm::(Blk a #[Iv (p.ptyp),Iv (p.pfield),Iv (p.pgroup),Iv (p.pby),Iv (p.pmake),m] 149)::Rs)) (AF [Vl 0 (Ix a 0),Vl 1 (Ix a 0),Vl 2 (Ix a 5),Vl 3 m,Vl 4 (Iw q),Vl 5 (Ix a 0),Vl 6 (Ix a 0),Vl 7 (Ix a 5),Vl 8 m,Vl 9 (Iw q),Vl 10 (Iw (q-1)),Vl 11 (Ix (sb m) (so m+(q-1)*3)),Vl 12 (.agg (((shl l q).getD (q-1) default).cells).toArray),Vl 13 (Ix (sb m) (so m+q*3)),fun _=>True]) [[],[0],[0,1],[0,1,2],[],[],[5],[5,6],[5,6,7],[],[9],[5,6,7,8,9,10],[5,6,7,8,9,10,11],(rg 13),(rg 14)] [14] [(0,0),(0,0),(0,0),(0,0),(0,0),(0,0),(0,0),(0,0),(0,0),(0,0),(0,0),(0,0),(0,0),(0,0),(0,0)] aP ⟨fun _ _ _ _ _ _ _=>obl rfl (mV (Ix a 0) dR),fun _ _ _ _ _ _ cv=>obl rfl (zj (b:=a) (o:=0) (cv 0 dc) dR),fun _ _ _ _ _ _ cw=>obl rfl (xF (cw 1 dc) dR),ob1 0 fun _ _ (cx:Sep _ _ _ _) cy=>obl rfl (lD m pT (cy 2 dc) (zd (cx.b2) rfl) dR),fun _ _ _ _ _ _ _=>obl rfl (mV (Iw q) dR),fun _ _ _ _ _ _ _=>obl rfl (mV (Ix a 0) dR),fun _ _ _ _ _ _ cz=>obl rfl (zj (b:=a) (o:=0) (cz 5 dc) dR),fun _ _ _ _ _ _ cA=>obl rfl (xF (cA 6 dc) dR),ob1 0 fun _ _ (cB:Sep _ _ _ _) cC=>obl rfl (lD m pT (cC 7 dc) (zd (cB.b2) rfl) dR),fun _ _ _ _ _ _ _=>obl rfl (mV (Iw q) dR),?_,?_,?_,?_,?_,zl⟩ ?_
 refine ob1 0 fun _ _ _ cD=>(obl rfl ?_)
 have cE:InR ((q-1:Nat):Int):=bo
 exact ZN (r:=((q-1:Nat):Int)) (k:=.i64) (a:=((q:Nat):Int)) (b:=1) (cD 9 (by decide)) rfl (by rw[show(((q:Nat):Int)-1:Int)=((q-1:Nat):Int)from bo];exact zz cE) dR
 refine ob1 0 fun _ _ _ aW=>(obl rfl ?_)
 have cF:q-1<(shl l q).length:=bo
 exact zg (k:=3) (i:=q-1) nT lT (aW 8 dc) au.1 (aW 10 dc) cF dR
 refine ob1 0 fun _ _ (cG:Sep _ _ _ _) cH=>(obl rfl ?_)
 have cI:q-1<(shl l q).length:=bo
 obtain⟨_,_,cb,rfl,hoke1282⟩:=cG.rowAtD (i:=0) (j:=q-1) rfl cI
 exact zi (k:=3) mT lT rfl (cH 11 dc) cb dR
 refine ob1 0 fun _ _ _ aX=>(obl rfl ?_)
 have cJ:q<(shl l q).length:=bo
 exact zg (k:=3) (i:=q) nT lT (aX 3 dc) au.1 (aX 4 dc) cJ dR
 refine ob1 0 fun _ _ (cK:Sep _ _ _ _) aY=>(obl rfl ?_)
 have aZ:=cK.emp1
 have cM:q-1<(shl l q).length:=bo
 obtain⟨_,_,hce1183,rfl,bj⟩:=aZ.rowAtD (i:=0) (j:=q-1) rfl cM
 refine(yI (α:=Row) (j:=q) (o:=0) (u:=.agg (((shl l q).getD (q-1) default).cells).toArray) (us:=((shl l q).getD (q-1) default).cells) (x1:=((shl l q).getD (q-1) default)) aZ lT bo (aY 13 (by decide)) (aY 12 (by decide)) rfl (yQ rfl) (yo ⟨rfl,rfl,rfl,zl⟩) (fun _ _ ad hel _=>(by have aV:=Src.len _ hel;have e0:ad.take 0++(((shl l q).getD (q-1) default).cells)++ad.drop (0+(((shl l q).getD (q-1) default).cells).length)=(((shl l q).getD (q-1) default).cells):=(by rw[List.drop_eq_nil_of_le (by rw[aV];exact yQ rfl)];simp);rw[e0];exact(show _ from⟨rfl,bj⟩))) ?_)
 intro w1181 ba
 have cN:=ba.r0
 have hr1186s:_*24≤_:=cN.2
 exact fun d g aC=>⟨ba,zl⟩
 intro vals w1294 cO hA1296
 have bb:Sep _ _ _ _:=cO
 refine yi (kv:=[(0,Ix a 0),(4,Ix x 0),(6,Iv s),(7,Iw k),(8,Iw q),(142,Iw q),(143,Iw k),(144,.bool true)]) sEv (fun ρw1294=>(zb (R0 fun _=>st (mV (Iw q) ?_))))
 have cP:InR ((q-1:Nat):Int):=bo
 refine st (ZN (r:=((q-1:Nat):Int)) (k:=.i64) (a:=((q:Nat):Int)) (b:=1) rfl rfl (by rw[show(((q:Nat):Int)-1:Int)=((q-1:Nat):Int)from bo];exact zz cP) (st (aS (Iw (q-1)) (zb ?_))))
 rw[zaf (by omega) (by omega)]at bb
 exact⟨_,by omega,q-1,_,rfl,sSf,by omega,bb⟩
 try simp only[zh]at ar
 refine zf rfl (za ?_)
 refine WD4 ((fun aA ay aB=>WF [fun vals A=>Sep G W (aA::ay::aB::Rs) A,fun vals A=>(vals 16=(.agg ((xa p (l.getD k default) e.ev.arg).cells).toArray:Value))∧((xa p (l.getD k default) e.ev.arg).Ok)∧Sep G W (ay::aA::aB::Rs) A,fun vals A=>(vals 16=(.agg ((xa p (l.getD k default) e.ev.arg).cells).toArray:Value))∧((xa p (l.getD k default) e.ev.arg).Ok)∧Sep G W ((RowE (α:=Row) own 70 t (l.set k (xa p (l.getD k default) e.ev.arg)))::ay::aA::Rs) A]) cm bi (RowE (α:=Row) own 70 t l)) (AF [Vl 0 (Ix a 0),Vl 1 (Ix a 0),Vl 2 (Ix a 5),Vl 3 t,Vl 4 (Iw k),Vl 5 (Ix a 0),Vl 6 (Ix a 0),Vl 7 (Ix a 0),Vl 8 (Ix a 5),Vl 9 t,Vl 10 (Iw k),Vl 11 (Ix (sb t) (so t+k*3)),Vl 12 (.agg ((l.getD k default).cells).toArray),Vl 13 (Ix x 0),Vl 14 (Ix x 8),Vl 15 (Iv (e.ev.arg)),fun _=>True,Vl 17 (Ix (sb t) (so t+k*3)),fun _=>True]) [[],[0],[0,1],[0,1,2],[],[],[],[6],[6,7],[6,7,8],[],[6,7,8,9,10],[6,7,8,9,10,11],[],[13],[13,14],[5,6,7,8,9,10,11,12,13,14,15],(rg 17),(rg 18)] [16,18] [(0,1),(0,1),(0,1),(0,1),(0,1),(0,0),(0,0),(0,0),(0,0),(0,0),(0,0),(0,0),(0,0),(0,0),(0,0),(0,0),(0,0),(1,1),(1,1)] z ⟨fun _ _ _ _ _ _ _=>obl rfl (mV (Ix a 0) dR),fun _ _ _ _ _ _ cQ=>obl rfl (zj (b:=a) (o:=0) (cQ 0 dc) dR),fun _ _ _ _ _ _ cR=>obl rfl (xF (cR 1 dc) dR),?_,fun _ _ _ _ _ _ _=>obl rfl (mV (Iw k) dR),fun _ _ _ _ _ _ _=>obl rfl (mV (Ix a 0) dR),fun _ _ _ _ _ _ _=>obl rfl (mV (Ix a 0) dR),fun _ _ _ _ _ _ cS=>obl rfl (zj (b:=a) (o:=0) (cS 6 dc) dR),fun _ _ _ _ _ _ cT=>obl rfl (xF (cT 7 dc) dR),ob1 0 fun _ _ (cU:Sep _ _ _ _) cV=>obl rfl (lD t pT (cV 8 dc) (zd (cU.b1) rfl) dR),fun _ _ _ _ _ _ _=>obl rfl (mV (Iw k) dR),?_,?_,fun _ _ _ _ _ _ _=>obl rfl (xt rfl dR),fun _ _ _ _ _ _ cW=>obl rfl (xu (cW 13 dc) dR),ob1 0 fun _ _ (cX:Sep _ _ _ _) cY=>obl rfl (lD (Iv (e.ev.arg)) kT (cY 14 dc) (zd (cX.b0) rfl) dR),?_,?_,?_,zl⟩ ?_
 refine fun aw _ _ eS eT bc bd=>?_
 have hkk:=xE eS eT
 rcases hkk with rfl|rfl
 have cZ:Sep _ _ _ _:=bc
 exact obl rfl (lD t pT (bd 2 dc) (zd (cZ.b1) rfl) dR)
 obtain⟨C,y,da⟩:=bc
 exact obl rfl (lD t pT (bd 2 dc) (zd (da.b0) rfl) dR)
 refine ob1 0 fun _ _ _ be=>(obl rfl ?_)
 have db:k<l.length:=bo
 exact zg (k:=3) (i:=k) nT lT (be 9 dc) ax.1 (be 10 dc) db dR
 refine ob1 0 fun _ _ (dd:Sep _ _ _ _) de=>(obl rfl ?_)
 have df:k<l.length:=bo
 obtain⟨_,_,cc,rfl,hoke1548⟩:=dd.rowAtD (i:=2) (j:=k) rfl df
 exact zi (k:=3) mT lT rfl (de 11 dc) cc dR
 refine ob1 0 fun vals _ (bf:Sep _ _ _ _) az=>(obl rfl ?_)
 have dg:k<l.length:=bo
 obtain⟨_,_,hce1424,rfl,bk⟩:=bf.rowAtD (i:=2) (j:=k) rfl dg
 refine(zV (f:=87) (vals:=[Ix a 0,.agg ((l.getD k default).cells).toArray,Iv (e.ev.arg)]) (cap:=[]) rfl (yM ⟨(az 5 dc),(az 12 dc),(az 15 dc),zl⟩) tY (zbg (q:=(l.getD k default)) (arg:=e.ev.arg) bk oe.ev.arg (bf.mv1) ((by first|exact hcnt _ om|exact(by decide:(0:Int)≤0∧(0:Int)<4611686018427387904))) aT) ?_)
 rintro _ w1428 ⟨rfl,y,dh⟩
 exact fun d g aC=>⟨(zA g (zA y dh)),zl⟩
 refine ob1 1 fun _ _ di bg=>?_
 obtain⟨C,y,hS1577⟩:=di
 refine obl rfl ?_
 have dj:k<l.length:=bo
 exact zg (k:=3) (i:=k) nT lT (bg 3 dc) ax.1 (bg 4 dc) dj dR
 refine ob1 1 fun _ _ dk dl=>?_
 obtain⟨C,y,dm⟩:=dk
 refine obl rfl ?_
 refine(yI (α:=Row) (j:=k) (o:=0) (u:=.agg ((xa p (l.getD k default) e.ev.arg).cells).toArray) (us:=(xa p (l.getD k default) e.ev.arg).cells) (x1:=(xa p (l.getD k default) e.ev.arg)) ((dm.mv2).emp1) lT bo (dl 17 (by decide)) C rfl (yQ rfl) (yo ⟨rfl,rfl,rfl,zl⟩) (fun _ _ ad hel _=>(by have aV:=Src.len _ hel;have e0:ad.take 0++((xa p (l.getD k default) e.ev.arg).cells)++ad.drop (0+((xa p (l.getD k default) e.ev.arg).cells).length)=((xa p (l.getD k default) e.ev.arg).cells):=(by rw[List.drop_eq_nil_of_le (by rw[aV];exact yQ rfl)];simp);rw[e0];exact(show _ from⟨rfl,y⟩))) ?_)
 intro w1449 bh
 have dp:=bh.r0
 have hr1453s:_*24≤_:=dp.2
 exact fun d g aC=>⟨(zA ((aC 16 dc).trans C) (zA y bh)),zl⟩
 intro vals eU dq hA1583
 obtain⟨C,y,dr⟩:=dq
 refine yi (kv:=[(0,Ix a 0),(4,Ix x 0),(6,Iv s),(7,Iw k),(68,Iw k),(69,Ix a 0),(70,Ix a 0),(71,Ix a 5),(72,t),(73,Iw l.length),(74,.bool (decide (((k:Nat):Int)<((l.length:Nat):Int)))),(75,.bool (decide (((k:Nat):Int)<((l.length:Nat):Int)))),(86,.bool false),(89,Iw k),(90,Ix a 0),(91,Ix a 0),(92,Ix a 5),(93,t),(94,Iw l.length),(95,.bool (decide (((k:Nat):Int)<((l.length:Nat):Int)))),(96,.bool (decide (((k:Nat):Int)<((l.length:Nat):Int)))),(107,.bool true)]) sEv (fun ρw1581=>(zb (zp (zaV vR ?_))))
 have ds:Sep G W ((RefO a p (l.set k (xa p (l.getD k default) e.ev.arg)))::cm::Rs) eU:=RefO.close (v:=t) aT (dr.mv1)
 refine⟨l.set k (xa p (l.getD k default) e.ev.arg),rfl,?_,(ds.s2_a)⟩
 obtain⟨⟨⟨⟨cq,cr⟩,cs⟩,ct⟩,cu⟩:=ab
 have hg:zy p e.ev reg=some s:=by
  rw[ap.1,aH.1]
  unfold zy
  (repeat' split)<;>first|rfl|(congr 1;omega)
 exact .inr ⟨⟨cq,cr,cs,ct,cu⟩,s,k,hg,by omega,hlt,.inl ⟨by omega,ar.2,rfl⟩⟩
 try simp only[zh]at aq
 refine zf rfl (zr (zu (R0 fun _=>st (mV (Iw k) ?_))))
 have dt:InR ((k+1:Nat):Int):=bo
 refine st (zR (r:=((k+1:Nat):Int)) (k:=.i64) (a:=((k:Nat):Int)) (b:=1) rfl rfl (by rw[show(((k:Nat):Int)+1:Int)=((k+1:Nat):Int)from bo];exact zz dt) (st (aS (Iw (k+1)) (zb ?_))))
 exact⟨_,by omega,k+1,_,rfl,sSf,by omega,(fun j hj=>by rcases Nat.lt_or_eq_of_le (Nat.le_of_lt_succ hj)with h|h;exact hlt j h;subst h;exact aq.2),z⟩
 try simp only[zh]at ab
 refine zf rfl (zp (zaV vR ?_))
 have du:Sep G W ((RefO a p l)::cm::Rs) eX:=RefO.close (v:=t) aT (aa.s3_bca)
 refine⟨l,rfl,?_,(du.s2_a)⟩
 exact .inl ⟨(by rcases ab with(((h|h)|h)|h)|h;exact .inl h;exact .inr (.inl h);exact .inr (.inr (.inl h));exact .inr (.inr (.inr (.inl h)));exact .inr (.inr (.inr (.inr h)))),rfl⟩
theorem zbV {i:Int}(hi:InR i)(hS0:Sep G W Rs w)(hi2:0≤i∧i≤1000000):Ret Tryz.prog 74 [.int .i64 (i)] w (fun r w'=>r=(.agg ((⟨77+i, -9,3⟩:Row).cells).toArray:Value)∧((⟨77+i, -9,3⟩:Row).Ok)∧Sep G W Rs w'):=by
 refine zk (args:=[Iv i]) Tryz.func74 rfl rfl ?_
 let h:=((⟨77+i, -9,3⟩:Row).cells)
 refine za (R0 fun _=>st (zB sR ?_))
 intro w3 b2 f
 have c:=hS0.new f
 refine zb (za (R0 fun _=>st (mV (Iv i) ?_)))
 have d:InR (77+i):=by omega
 refine st (zR (r:=77+i) (k:=.i64) (a:=77) (b:=i) rfl rfl (zz d) ?_)
 have ok6:Row.Ok (⟨77+i, -9,3⟩:Row):=⟨(show InR (77+i)from d),(show InR (-9)from dc),(show InR (3)from dc)⟩
 refine st (zX (parts':=[(0,Iv (77+i)),(1,Iv (-9)),(2,Iv 3)]) (v:=.agg h.toArray) rfl (by simp+zetaDelta [Instr.build,Instr.fill,go_sem,Zc]) (stn (zw (v:=.agg h.toArray) (c':=h.toArray) lT rfl rfl (c.b0) (yo ⟨rfl,rfl,rfl,zl⟩) yqc rfl ?_)))
 intro w7 g
 have e:=c.pt0 g
 refine zb (zp (ZY (b:=b2) Tryz.results74 mT lT rfl rfl (zo (e.b0)) ?_))
 refine⟨rfl,?_,(e.s1_)⟩
 exact⟨(show InR (77+i) by omega),(show InR (-9) by decide),(show InR 3 by decide)⟩
theorem zat {vx:Value}{x:List Row}(hS0:Sep G W ((RowE (α:=Row) own 70 vx x)::Rs) w)(hxl:x.length≤100000):Ret Tryz.prog 48 [vx] w (fun r w'=>r=(.tuple #[]:Value)∧Sep G W Rs w'):=by
 refine zk (args:=[vx]) Tryz.func48 rfl rfl ?_
 have v:=hS0.r0
 have hr1s:_*24≤_:=v.2
 refine za (R0 fun _=>st (aS (Iv 0) (zb (zu (yd (fun mq σ A=> ∃(k:Nat) (c:List Row) (ρ:Env),mq=x.length-k∧σ=yg ρ [(0,vx),(2,Iw k)]∧(k≤x.length)∧(c.length=x.length)∧Sep G W ((RowE (α:=Row) own 70 vx c)::Rs) A) ⟨0,x,_,rfl,sSf,yc _,rfl,hS0⟩ ?_)))))
 rintro m3 σ4 w2 ⟨k,c,ρl1,rfl,rfl,hk,y,e⟩
 have f:=e.r0
 have hr6s:_*24≤_:=f.2
 refine za (za (R0 fun _=>st (mV (Iw k) (st (mV vx (st (zF (n:=c.length) nT rfl f.1 (st (zL (k:=.i64) (a:=((k:Nat):Int)) (b:=((c.length:Nat):Int)) rfl rfl (zb ?_))))))))))
 cases d:decide (((k:Nat):Int)<((c.length:Nat):Int))
 have d:=fD d
 refine ze rfl (ye (zT (YY Tryz.results48 ?_)))
 refine⟨rfl,(e.s1_)⟩
 have d:=tD d
 refine zf rfl (zr (za (zu (R0 fun _=>st (mV vx (st (mV (Iw k) (st (mV (Iw k) ?_)))))))))
 have l:InR ((k+7:Nat):Int):=bo
 refine st (zR (r:=((k+7:Nat):Int)) (k:=.i64) (a:=((k:Nat):Int)) (b:=7) rfl rfl (by rw[show(((k:Nat):Int)+7:Int)=((k+7:Nat):Int)from bo];exact zz l) ?_)
 refine st (cL Tryz.call74 (zbV (i:=((k+7:Nat):Int)) l e bo) ?_)
 rintro _ w11 ⟨rfl,h,p⟩
 have q:k<c.length:=bo
 refine st (zg (k:=3) (i:=k) nT lT rfl f.1 rfl q ?_)
 refine stn (yI (α:=Row) (j:=k) (o:=0) (u:=.agg ((⟨77+((k+7:Nat):Int), -9,3⟩:Row).cells).toArray) (us:=(⟨77+((k+7:Nat):Int), -9,3⟩:Row).cells) (x1:=(⟨77+((k+7:Nat):Int), -9,3⟩:Row)) (p.emp1) lT bo rfl rfl rfl (yQ rfl) (yo ⟨rfl,rfl,rfl,zl⟩) (fun _ _ m hel _=>(by have z:=Src.len _ hel;have B:m.take 0++((⟨77+((k+7:Nat):Int), -9,3⟩:Row).cells)++m.drop (0+((⟨77+((k+7:Nat):Int), -9,3⟩:Row).cells).length)=((⟨77+((k+7:Nat):Int), -9,3⟩:Row).cells):=(by rw[List.drop_eq_nil_of_le (by rw[z];exact yQ rfl)];simp);rw[B];exact(show _ from⟨rfl,h⟩))) ?_)
 intro w14 g
 have s:=g.r0
 have hr17s:_*24≤_:=s.2
 refine zb (R0 fun _=>st (mV (Iw k) ?_))
 have t:InR ((k+1:Nat):Int):=bo
 refine st (zR (r:=((k+1:Nat):Int)) (k:=.i64) (a:=((k:Nat):Int)) (b:=1) rfl rfl (by rw[show(((k:Nat):Int)+1:Int)=((k+1:Nat):Int)from bo];exact zz t) (st (aS (Iw (k+1)) (zb ?_))))
 exact⟨_,by omega,k+1,c.set k (⟨77+((k+7:Nat):Int), -9,3⟩:Row),_,rfl,sSf,by omega,(by simp only[List.length_set];exact y),g⟩
def RBase (b:Nat)(d:Dcl)(every:Nat)(evs:List Ev):HP:=Wu (1≤every∧every≤9223372036854775807) (Ex1 fun vt=>Ex1 fun vp=>Ex1 fun ve=>Star [Blk b #[vt,vp,.int .i64 ((every:Nat):Int),ve] 96,RowE (α:=Typ) own 83 vt d.types,RowE (α:=Prj) own 73 vp d.projs,RowE (α:=Ev) own 55 ve evs])
section
variable {G:Nat→Prop}{W w:World}{As:List HP}{b every:Nat}{d:Dcl}{evs:List Ev}
theorem RBase.open (h:Sep G W (RBase b d every evs::As) w):(1≤every∧every≤9223372036854775807)∧ ∃vt vp ve,Sep G W (Blk b #[vt,vp,.int .i64 ((every:Nat):Int),ve] 96::RowE (α:=Typ) own 83 vt d.types::RowE (α:=Prj) own 73 vp d.projs::RowE (α:=Ev) own 55 ve evs::As) w:=by
 obtain⟨h0,h⟩:=h.openAnd
 obtain⟨vt,h⟩:=h.openEx
 obtain⟨vp,h⟩:=h.openEx
 obtain⟨ve,h⟩:=h.openEx
 exact⟨h0,vt,vp,ve,h.openStar⟩
theorem RBase.close {vt vp ve:Value}(h0:1≤every∧every≤9223372036854775807)(h:Sep G W (Blk b #[vt,vp,.int .i64 ((every:Nat):Int),ve] 96::RowE (α:=Typ) own 83 vt d.types::RowE (α:=Prj) own 73 vp d.projs::RowE (α:=Ev) own 55 ve evs::As) w):Sep G W (RBase b d every evs::As) w:=by
 have h:=Sep.closeStar (Bs:=[Blk b #[vt,vp,.int .i64 ((every:Nat):Int),ve] 96,RowE (α:=Typ) own 83 vt d.types,RowE (α:=Prj) own 73 vp d.projs,RowE (α:=Ev) own 55 ve evs]) h
 exact Sep.closeAnd h0 (Sep.closeEx (A:=fun vt=>Ex1 fun vp=>Ex1 fun ve=>Star [Blk b #[vt,vp,.int .i64 ((every:Nat):Int),ve] 96,RowE (α:=Typ) own 83 vt d.types,RowE (α:=Prj) own 73 vp d.projs,RowE (α:=Ev) own 55 ve evs]) vt (Sep.closeEx (A:=fun vp=>Ex1 fun ve=>Star [Blk b #[vt,vp,.int .i64 ((every:Nat):Int),ve] 96,RowE (α:=Typ) own 83 vt d.types,RowE (α:=Prj) own 73 vp d.projs,RowE (α:=Ev) own 55 ve evs]) vp (Sep.closeEx (A:=fun ve=>Star [Blk b #[vt,vp,.int .i64 ((every:Nat):Int),ve] 96,RowE (α:=Typ) own 83 vt d.types,RowE (α:=Prj) own 73 vp d.projs,RowE (α:=Ev) own 55 ve evs]) ve h)))
theorem RBase.sh (h:(RBase b d every evs).p w G):(1≤every∧every≤9223372036854775807)∧ ∃vt vp ve,(Blk b #[vt,vp,.int .i64 ((every:Nat):Int),ve] 96).p w G∧RdS w G vt d.types∧RdS w G vp d.projs∧RdS w G ve evs:=by
 obtain⟨h0,vt,vp,ve,h⟩:=h
 exact⟨h0,vt,vp,ve,Star.at_ h (i:=0) rfl,RowE.rd (T:=83) (Star.at_ h (i:=1) rfl),RowE.rd (T:=73) (Star.at_ h (i:=2) rfl),RowE.rd (T:=55) (Star.at_ h (i:=3) rfl)⟩
end
theorem VP (d:Dcl)(p:Prj)(l:List Ev):(Zj d l p).length≤l.length:=by
 unfold Zj
 rw[(ZR _).length_eq,List.length_map]
 exact(Zn d p l).len
theorem JM {d:Dcl}{p:Prj}{l:List Ev}(hl:l.length≤1000): ∀j,j<(Zj d l p).length→0≤((Zj d l p).getD j default).count∧((Zj d l p).getD j default).count<4611686018427387904:=by
 intro j hj
 have hm:(Zj d l p).getD j default∈Zj d l p:=by rw[zI _ hj];exact List.getElem_mem hj
 have h1:=(WQ (Zn d p l)).1 hm
 have h2:=Ka (Zn d p l) ((Zj d l p).getD j default).group
 rw[h1,Option.getD_some]at h2
 omega
theorem QK {d:Dcl}{p:Prj}{l:List Ev}{k:Nat}{reg:Int}{l':List Row}(hk:k<l.length)(hp:VN p)(hr:reg=WK d p (zq d (l.take (k+1))) (l.getD k default))(h:Kn p (Zj d (l.take k) p) (ya d (zq d (l.take k)) (l.getD k default)) reg l'):l'=Zj d (l.take (k+1)) p:=by
 have hs:l.take (k+1)=l.take k++[l.getD k default]:=List.take_getD (d:=default) hk
 unfold Zj at h⊢
 rw[Qd (Zn d p (l.take k)) (fun hn=>absurd hp.2.2 hn) h,hr,hs,XO]
theorem XK {vl:Value}{l:List Ev}(hl:RdS W G vl l)(hS0:Sep G W Rs w):Ret Tryz.prog 12 [vl] w (fun r w'=> ∃(v:Value),r=(v:Value)∧Sep G W ((RowE (α:=Ev) own 55 v l)::Rs) w'):=by
 have hls:_*96≤_:=hl.small
 refine zk (args:=[vl]) Tryz.func12 rfl rfl ?_
 refine za (R0 fun _=>st (aS Iz (zb (za (R0 fun _=>st (aS Iz (zb (za (za (R0 fun _=>st (aS (Iv 0) (zb (zu ?_)))))))))))))
 have D:Sep G W ((RowE (α:=Ev) own 55 Iz ([]:List Ev))::Rs) w:=hS0.rowNil own 55
 refine yd (fun mq σ H=> ∃(k:Nat) (vo:Value) (ρ:Env),mq=l.length-k∧σ=yg ρ [(0,vl),(4,Iw k),(3,vo)]∧(k≤l.length)∧Sep G W ((RowE (α:=Ev) own 55 vo (l.take k))::Rs) H) ⟨0,(Iz),_,rfl,sSf,yc _,D⟩ ?_
 rintro m3 σ4 w2 ⟨k,vo,ρl1,rfl,rfl,hkk,d⟩
 have E:=d.r0
 have hr6s:_*96≤_:=E.2
 refine za (za (R0 fun _=>st (mV (Iw k) (st (mV vl (st (zF (n:=l.length) wR rfl hl.sl (st (zL (k:=.i64) (a:=((k:Nat):Int)) (b:=((l.length:Nat):Int)) rfl rfl (zb ?_))))))))))
 cases h:decide (((k:Nat):Int)<((l.length:Nat):Int))
 have h:=fD h
 refine ze rfl (ye (zT (za (R0 fun _=>st (mV vo (st (aS vo (zb (zp (zU Tryz.results12 (show _=(vo:Value)from rfl) ?_))))))))))
 have hkn:k=l.length:=by omega
 rw[hkn,List.take_length]at d
 refine⟨vo,rfl,d⟩
 have h:=tD h
 refine zf rfl (zr (za (zu (R0 fun _=>st (mV vo (st (mV vl (st (mV (Iw k) ?_)))))))))
 have F:k<l.length:=bo
 refine st (zg (k:=10) (i:=k) wR rT rfl hl.sl rfl F ?_)
 have m:k<l.length:=bo
 obtain⟨x,f,j⟩:=hl.evD m
 have hsm11:((l.getD k default).deps).length*8≤140737488355328:=f.small
 have q:=d.cells x (hl.foot (ne_of_lt m))
 refine st (zi (k:=10) tT rT rfl rfl q (st (cL rR (Zq (e:=(l.getD k default)) f j d) ?_)))
 rintro _ w14 ⟨t,rfl,o⟩
 have y:=o.r0
 have hr16s:_*8≤_:=y.2
 refine st (zD (k:=10) (parts':=[(0,.agg ((l.getD k default).cells t).toArray)]) (c:=((l.getD k default).cells t).toArray) wR rT qY dc rfl kr ?_)
 intro w19 b18 z
 have p:=o.new z
 have s:=p.b0
 refine st (yq (src:=own) (bytes:=96) (x1:=(l.getD k default)) (p.s3_cb) QI rfl rfl s (fun _ _ I=>⟨_,rfl,RowE.soft I,j⟩) yqb rfl ?_)
 intro u w21 g
 have A:=g.r0
 have hr26s:_*96≤_:=A.2
 refine st (aS u (zb (R0 fun _=>st (mV (Iw k) ?_))))
 have B:InR ((k+1:Nat):Int):=bo
 refine st (zR (r:=((k+1:Nat):Int)) (k:=.i64) (a:=((k:Nat):Int)) (b:=1) rfl rfl (by rw[show(((k:Nat):Int)+1:Int)=((k+1:Nat):Int)from bo];exact zz B) (st (aS (Iw (k+1)) (zb ?_))))
 have C:(l.take (k+1))=(l.take k)++[(l.getD k default)]:=(List.take_getD om)
 rw[←C]at g
 exact⟨_,by omega,k+1,u,_,rfl,sSf,by omega,g⟩
theorem zdT {d:Dcl}{dd0:Value}(hdd0:RdS W G dd0 d.types){dd1:Value}(hdd1:RdS W G dd1 d.projs)(od:d.Ok){every:Int}(hevery:InR every)(hS0:Sep G W Rs w):Ret Tryz.prog 10 [.agg (d.cells dd0 dd1).toArray,.int .i64 (every)] w (fun r w'=> ∃(b:Nat) (ev:Nat),r=(.pointer (some ⟨b,0,none⟩):Value)∧(((ev:Nat):Int)=max 1 every)∧Sep G W ((RBase b d ev ([]:List Ev))::Rs) w'):=by
 have hdd0s:_*24≤_:=hdd0.small
 have hdd1s:_*40≤_:=hdd1.small
 refine zk (args:=[.agg (d.cells dd0 dd1).toArray,Iv every]) Tryz.func10 rfl rfl ?_
 refine za (R0 fun _=>st (zW (v:=.agg (d.cells dd0 dd1).toArray) rfl ?_))
 intro w3 b2 t
 have l:=hS0.new t
 refine st (aS (.pointer none) (zb (za (R0 fun _=>st (zi (k:=2) lY mY rfl rfl (zo (l.b0)) (st (cL Tryz.call39 (Wm (d:=d) hdd0 hdd1 od l) ?_)))))))
 rintro _ w7 ⟨e,g,rfl,m⟩
 have u:=m.r1
 have hr9s:_*40≤_:=u.2
 refine st (mV (Iv every) (st (Uc (k:=.i64) (a:=1) (b:=every) rfl rfl (st (zX (parts':=[(0,.agg (d.cells e g).toArray),(1,Iv (max 1 every))]) (v:=.agg #[e,g,Iv (max 1 every),(Iz)]) rfl yqe (st (zW (v:=.agg #[e,g,Iv (max 1 every),(Iz)]) rfl ?_)))))))
 intro x f o
 have h:=m.new o
 refine st (aS (Ix f 0) (zb (zp (zU Tryz.results10 (show _=(Ix f 0:Value)from rfl) ?_))))
 obtain⟨c,i⟩: ∃n:Nat,((n:Nat):Int)=max 1 every:=⟨(max 1 every).toNat,by omega⟩
 rw[←i]at h
 have j:1≤c∧c≤9223372036854775807:=by omega
 have p:Sep _ _ ((RowE (α:=Typ) own 83 e d.types)::_) _:=TypW.row (h.mv1)
 have q:Sep _ _ ((RowE (α:=Ev) own 55 Iz ([]:List Ev))::_) _:=p.rowNil own 55
 have s:Sep G W ((RBase f d c ([]:List Ev))::(Blk b2 (d.cells dd0 dd1).toArray 25)::Rs) x:=RBase.close (d:=d) (every:=c) (evs:=([]:List Ev)) j (q.s5_cbdae)
 refine⟨f,c,rfl,?_,(s.s2_a)⟩
 exact i
end
end Go.Proofs.YtpdolkiohjdodaaGreatDoor
