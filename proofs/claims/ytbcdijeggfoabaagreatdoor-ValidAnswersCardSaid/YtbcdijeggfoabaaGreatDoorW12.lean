import Derived.Test.YtbcdijeggfoabaaGreatDoorW11
import Derived.Test.YtbcdijeggfoabaaGreatDoorW9
import Derived.Test.YtbcdijeggfoabaaGreatDoorW2
import Derived.Test.YtbcdijeggfoabaaGreatDoorW1
set_option linter.unusedSimpArgs false
set_option linter.unusedVariables false
set_option linter.unusedSectionVars false
set_option linter.deprecated false
open Go.Proofs.Tryz renaming isAgg3→kT,sizeOf44→lT,sizeOf41→mT,underlying26→nT,isAgg44→oT,isAgg26→pT,isAgg41→qT,underlying42→rT,sizeOf3→sT,sizeOf74→tT,sizeOf96→uT,isAgg42→vT,sizeOf106→wT,call56→kR,results27→lR,isAgg22→mR,underlying22→nR,isAgg56→oR,zeroValue44→pR,underlying56→qR,results97→rR,zeroValue96→sR,results72→tR,isAgg106→uR,isAgg74→vR,zeroValue41→wR,isAgg72→kY,underlying72→lY,call48→mY,isAgg96→nY,results51→oY,results71→pY,results45→qY
namespace Go.Proofs.YtbcdijeggfoabaaGreatDoor
variable {G:Nat→Prop}{W w:World}{Rs:List HP}
section
set_option maxRecDepth 8000
set_option maxHeartbeats 4000000
open Go.Proofs Go.RowKit
theorem rj_raw {d:Dcl}{e:Ev}{y:Ent}:rJ d e y=(((((!y.void)&&decide (y.ev.typ=e.typ))&&decide (y.ev.agg=e.agg))&&decide (y.ev.field=e.field))&&xf ((xX d e.typ).fields.getD e.field.toNat default) y.ev e):=by
 unfold rJ on3
 cases y.void<;>simp[Bool.decide_and,Bool.and_assoc]
theorem Vu {d:Dcl}{e:Ev}{L:List Ent}:(yx (e.typ,e.agg,e.field) L).find? (fun x=>xf ((xX d e.typ).fields.getD e.field.toNat default) x e)=(L.find? (rJ d e)).map (·.ev):=by
 unfold yx
 rw[Yd]
 rfl
theorem zdA {d:Dcl}{e:Ev}{L:List Ent}{k:Nat}(h:yV d e.typ e.field e.op e.arg=0)(hk:k<L.length)(h0: ∀i,i<k→rJ d e (L.getD i default)=false)(h1:rJ d e (L.getD k default)=true):zU d L e=(true,(L.getD k default).ev.origin,(L.getD k default).ev.seq):=by
 unfold zU
 rw[if_neg (by simpa using h),Vu,Qc hk h1 h0]
 rfl
theorem zbI {d:Dcl}{e:Ev}{L:List Ent}(h:yV d e.typ e.field e.op e.arg=0)(h0: ∀i,i<L.length→rJ d e (L.getD i default)=false):zU d L e=(!decide (yH (xX d e.typ) (zO d (e.typ,e.agg) L) e.field e.op e.arg=0),0,0):=by
 unfold zU
 rw[if_neg (by simpa using h),Vu,zbJ h0]
 show(if ¬_=0 then _ else _)=_
 by_cases hm:yH (xX d e.typ) (zO d (e.typ,e.agg) L) e.field e.op e.arg=0
 ·rw[if_neg (by simpa using hm),decide_eq_true hm];rfl
 ·rw[if_pos hm,decide_eq_false hm];rfl
set_option maxHeartbeats 8000000 in
theorem Jk {b:Nat}{d:Dcl}{L:List Ent}(hb:(RefV b d L).p W G){e:Ev}{de0:Value}(hde0:RdS W G de0 e.deps)(oe:e.Ok)(hS0:Sep G W Rs w)(hd:DclOk d)(hrl:Ran d L)(hml:L.length≤1000000):Ret Tryz.prog 97 [.pointer (some ⟨b,0,none⟩),.agg (e.cells de0).toArray] w (fun r w'=>r=(.tuple #[.bool ((zU d L e).1),.agg #[.int .i64 ((zU d L e).2.1),.int .i64 ((zU d L e).2.2)]]:Value)∧(InR (zU d L e).2.1∧InR (zU d L e).2.2)∧Sep G W Rs w'):=by
 have hde0s:_*8≤_:=hde0.small
 refine zi (args:=[Ix b 0,.agg (e.cells de0).toArray]) Tryz.func97 rfl rfl ?_
 obtain⟨g,bu,s,X,u,gi,am⟩:=RefV.sh hb
 let gI:=Ix (sb g) (so g+e.typ.toNat*1)
 let ck:=zN W (sb g) (so g+e.typ.toNat*1+0)
 let gK:=(d.types.getD e.typ.toNat default).cells ck
 let p:=zN W (sb (zN W (sb g) (so g+e.typ.toNat*1+0))) (so (zN W (sb g) (so g+e.typ.toNat*1+0))+e.field.toNat*4+3)
 let ci:=(((d.types.getD e.typ.toNat default).fields).getD e.field.toNat default).cells p
 have hsm8:d.types.length*24≤140737488355328:=u.small
 have hsm9:d.projs.length*40≤140737488355328:=gi.small
 have hsm10:L.length*120≤140737488355328:=am.small
 refine za (R0 fun _=>st (zM (v:=.agg (e.cells de0).toArray) rfl ?_))
 intro w13 m gm
 let gH:=Blk m (e.cells de0).toArray 44
 refine st (aS (.bool false) (st (zq wR ?_)))
 intro w17 B gn
 let gJ:=Blk B #[Iv 0,Iv 0] 41
 refine zb (za (za ?_))
 refine WD4 ((fun TT C=>WF [fun vals A=>Sep G W (C::TT) A,fun vals A=>(vals 12=(Iv (yV d e.typ e.field e.op e.arg):Value))∧Sep G W (C::TT) A]) (gH::Rs) gJ) (AF [Vl 0 (Ix b 0),Vl 1 (Ix b 0),Vl 2 (Ix b 0),Vl 3 (.agg (d.cells g bu).toArray),Vl 4 (Ix m 4),Vl 5 (Iv (e.typ)),Vl 6 (Ix m 6),Vl 7 (Iv (e.field)),Vl 8 (Ix m 7),Vl 9 (Iv (e.op)),Vl 10 (Ix m 8),Vl 11 (Iv (e.arg)),fun _=>True,Vl 13 (.bool (!decide ((yV d e.typ e.field e.op e.arg)=0)))]) [[],[0],[0,1],[0,1,2],[],[4],[],[6],[],[8],[],[10],(rg 12),(rg 13)] [12] [(0,0),(0,0),(0,0),(0,0),(0,0),(0,0),(0,0),(0,0),(0,0),(0,0),(0,0),(0,0),(0,0),(1,1)] ((hS0.new gm).new gn) ⟨fun _ _ _ _ _ _ _=>obl rfl (mV (Ix b 0) dR),fun _ _ _ _ _ _ eE=>obl rfl (zo (b:=b) (o:=0) (eE 0 dc) dR),fun _ _ _ _ _ _ eF=>obl rfl (Ya (eF 1 dc) dR),?_,fun _ _ _ _ _ _ _=>obl rfl (xr rfl dR),ob1 0 fun _ _ (eG:Sep _ _ _ _) eH=>obl rfl (lD (Iv (e.typ)) kT (eH 4 dc) (zd (eG.b1) rfl) dR),fun _ _ _ _ _ _ _=>obl rfl (xt rfl dR),ob1 0 fun _ _ (eI:Sep _ _ _ _) eJ=>obl rfl (lD (Iv (e.field)) kT (eJ 6 dc) (zd (eI.b1) rfl) dR),fun _ _ _ _ _ _ _=>obl rfl (xw rfl dR),ob1 0 fun _ _ (eK:Sep _ _ _ _) eL=>obl rfl (lD (Iv (e.op)) kT (eL 8 dc) (zd (eK.b1) rfl) dR),fun _ _ _ _ _ _ _=>obl rfl (xF rfl dR),ob1 0 fun _ _ (eM:Sep _ _ _ _) eN=>obl rfl (lD (Iv (e.arg)) kT (eN 10 dc) (zd (eM.b1) rfl) dR),?_,?_,trivial⟩ ?_
 refine ob1 0 fun _ _ (eO:Sep _ _ _ _) eP=>(obl rfl ?_)
 have ok154:Dcl.Ok d:=⟨⟩
 exact zh (k:=2) (cs:=[g,bu]) Tryz.isAgg25 Tryz.sizeOf25 rfl (eP 2 dc) (CellsAt.sub (CellsAt.all (eO.gblk X)) 0 (cs2:=[g,bu]) rfl) dR
 refine ob1 0 fun vals _ (eQ:Sep _ _ _ _) Y=>(obl rfl ((zH (f:=83) (vals:=[.agg (d.cells g bu).toArray,Iv (e.typ),Iv (e.field),Iv (e.op),Iv (e.arg)]) (cap:=[]) rfl (yE ⟨(Y 3 dc),(Y 5 dc),(Y 7 dc),(Y 9 dc),(Y 11 dc),trivial⟩) Tryz.call83 (Vi (d:=d) (ty:=e.typ) (f:=e.field) (op:=e.op) (arg:=e.arg) u gi (⟨⟩:Dcl.Ok d) oe.typ oe.field oe.op oe.arg eQ) ?_)))
 rintro _ w116 ⟨rfl,eR⟩
 exact fun E N I=>⟨(zx N eR),trivial⟩
 refine ob1 1 fun _ _ eS _=>?_
 obtain⟨bv,hS217⟩:=eS
 exact obl rfl (yn (k:=.i64) (a:=yV d e.typ e.field e.op e.arg) (b:=0) bv rfl dR)
 intro vals w218 eT eU
 obtain⟨bv,aD⟩:=eT
 have go:=eU 13 dc
 refine zT (kv:=[(0,Ix b 0),(1,.agg (e.cells de0).toArray),(3,Ix m 0),(4,.bool false),(5,Ix B 0),(25,.bool (!decide ((yV d e.typ e.field e.op e.arg)=0)))]) ⟨rfl,rfl,rfl,rfl,rfl,(by exact go),trivial⟩ (fun ρw218=>(zb ?_))
 cases F: !decide ((yV d e.typ e.field e.op e.arg)=0)
 have hc223r:=F
 have F:=zQ F
 have hfo:=Yb F
 have hfz:=F
 have gj:=hfo.1;have gk:=hfo.2.1;have hft:=hfo.2.2
 have hfl:=hft.lo;have hfh:=hft.hi
 refine ze rfl (zl (za ?_))
 refine WD4 ((fun TT C=>WF [fun vals A=>Sep G W (C::TT) A,fun vals A=> ∃(q:Nat),(vals 14=(Ix q 0:Value))∧Sep G W ((Blk q #[Iv 0,Iv 0,.bool false,(Iz)] 106)::C::TT) A,fun vals A=> ∃(q:Nat),(vals 14=(Ix q 0:Value))∧Sep G W ((Blk q ci.toArray 106)::C::TT) A]) (gH::Rs) gJ) (AF [Vl 0 (Ix b 0),Vl 1 (Ix b 0),Vl 2 (Ix b 0),Vl 3 (Ix b 0),Vl 4 (g),Vl 5 (Ix m 4),Vl 6 (Iv (e.typ)),Vl 7 gI,Vl 8 gI,Vl 9 (ck),Vl 10 (Ix m 6),Vl 11 (Iv (e.field)),Vl 12 (Ix (sb ck) (so ck+e.field.toNat*4)),Vl 13 (.agg ci.toArray),fun _=>True,fun _=>True]) [[],[0],[0,1],[0,1,2],(rg 4),[],[5],(rg 7),(rg 8),(rg 9),[],[10],(rg 12),(rg 13),[],(rg 15)] [14,15] [(0,1),(0,1),(0,1),(0,1),(0,1),(0,1),(0,1),(0,1),(0,1),(0,1),(0,1),(0,1),(0,1),(0,1),(0,0),(1,1)] aD ⟨fun _ _ _ _ _ _ _=>obl rfl (mV (Ix b 0) dR),fun _ _ _ _ _ _ eV=>obl rfl (zo (b:=b) (o:=0) (eV 0 dc) dR),fun _ _ _ _ _ _ eW=>obl rfl (Ya (eW 1 dc) dR),fun _ _ _ _ _ _ eX=>obl rfl (yC (eX 2 dc) dR),?_,fun _ _ _ _ _ _ _=>obl rfl (xr rfl dR),?_,?_,fun _ _ _ _ _ _ eY=>obl rfl (yS (eY 7 dc) dR),?_,fun _ _ _ _ _ _ _=>obl rfl (xt rfl dR),?_,?_,?_,?_,?_,trivial⟩ ?_
 refine fun aE _ _ gp gq bw bx=>?_
 have hkk:=xk gp gq
 rcases hkk with rfl|rfl
 have eZ:Sep _ _ _ _:=bw
 exact obl rfl (lD g mR (bx 3 dc) (zd (eZ.gblk X) rfl) dR)
 obtain⟨q,D,fa⟩:=bw
 exact obl rfl (lD g mR (bx 3 dc) (zd (fa.gblk X) rfl) dR)
 refine fun aF _ _ gr gs bz bA=>?_
 have hkk:=xk gr gs
 rcases hkk with rfl|rfl
 have fb:Sep _ _ _ _:=bz
 exact obl rfl (lD (Iv (e.typ)) kT (bA 5 dc) (zd (fb.b1) rfl) dR)
 obtain⟨q,D,fc⟩:=bz
 exact obl rfl (lD (Iv (e.typ)) kT (bA 5 dc) (zd (fc.b2) rfl) dR)
 refine fun aG _ _ gt gu bB ah=>?_
 have hkk:=xk gt gu
 rcases hkk with rfl|rfl
 have hS436:Sep _ _ _ _:=bB
 refine obl rfl ?_
 have hi439:e.typ.toNat<d.types.length:=bo
 exact zr (k:=1) (i:=e.typ) nR tT (ah 4 dc) u.sl (ah 6 dc) ⟨by omega,by omega⟩ dR
 obtain⟨q,D,hS440⟩:=bB
 refine obl rfl ?_
 have hi443:e.typ.toNat<d.types.length:=bo
 exact zr (k:=1) (i:=e.typ) nR tT (ah 4 dc) u.sl (ah 6 dc) ⟨by omega,by omega⟩ dR
 refine fun aH _ _ gv gw bC bD=>?_
 have hkk:=xk gv gw
 rcases hkk with rfl|rfl
 have fd:Sep _ _ _ _:=bC
 refine obl rfl ?_
 have bE:e.typ.toNat<d.types.length:=bo
 obtain⟨cx,bm,hoke459⟩:=u.typD bE
 have hsm461:((d.types.getD e.typ.toNat default).fields).length*48≤140737488355328:=bm.small
 have cy:=fd.cells cx (u.foot (ne_of_lt bE))
 exact lD ck kY (bD 8 dc) (cy.get (j:=0) rfl) dR
 obtain⟨q,D,fe⟩:=bC
 refine obl rfl ?_
 have bF:e.typ.toNat<d.types.length:=bo
 obtain⟨cz,bn,hoke465⟩:=u.typD bF
 have hsm467:((d.types.getD e.typ.toNat default).fields).length*48≤140737488355328:=bn.small
 have cC:=fe.cells cz (u.foot (ne_of_lt bF))
 exact lD ck kY (bD 8 dc) (cC.get (j:=0) rfl) dR
 refine fun aI _ _ gx gy bG bH=>?_
 have hkk:=xk gx gy
 rcases hkk with rfl|rfl
 have ff:Sep _ _ _ _:=bG
 exact obl rfl (lD (Iv (e.field)) kT (bH 10 dc) (zd (ff.b1) rfl) dR)
 obtain⟨q,D,fg⟩:=bG
 exact obl rfl (lD (Iv (e.field)) kT (bH 10 dc) (zd (fg.b2) rfl) dR)
 refine fun aJ _ _ gz gA bI ai=>?_
 have hkk:=xk gz gA
 rcases hkk with rfl|rfl
 have fh:Sep _ _ _ _:=bI
 refine obl rfl ?_
 have bJ:e.typ.toNat<d.types.length:=bo
 obtain⟨cD,an,hoke494⟩:=u.typD bJ
 have hsm496:((d.types.getD e.typ.toNat default).fields).length*48≤140737488355328:=an.small
 have hcw497:=fh.cells cD (u.foot (ne_of_lt bJ))
 have hi498:e.field.toNat<((d.types.getD e.typ.toNat default).fields).length:=bo
 exact zr (k:=4) (i:=e.field) lY wT (ai 9 dc) an.sl (ai 11 dc) ⟨by omega,by omega⟩ dR
 obtain⟨q,D,fj⟩:=bI
 refine obl rfl ?_
 have bK:e.typ.toNat<d.types.length:=bo
 obtain⟨cE,ao,hoke502⟩:=u.typD bK
 have hsm504:((d.types.getD e.typ.toNat default).fields).length*48≤140737488355328:=ao.small
 have hcw505:=fj.cells cE (u.foot (ne_of_lt bK))
 have hi506:e.field.toNat<((d.types.getD e.typ.toNat default).fields).length:=bo
 exact zr (k:=4) (i:=e.field) lY wT (ai 9 dc) ao.sl (ai 11 dc) ⟨by omega,by omega⟩ dR
 refine fun aK _ _ gB gC bL bM=>?_
 have hkk:=xk gB gC
 rcases hkk with rfl|rfl
 have bN:Sep _ _ _ _:=bL
 refine obl rfl ?_
 have bO:e.typ.toNat<d.types.length:=bo
 obtain⟨cF,R,hoke516⟩:=u.typD bO
 have hsm518:((d.types.getD e.typ.toNat default).fields).length*48≤140737488355328:=R.small
 have hcw519:=bN.cells cF (u.foot (ne_of_lt bO))
 have bP:e.field.toNat<((d.types.getD e.typ.toNat default).fields).length:=bo
 obtain⟨cG,bp,hoke515⟩:=R.fldD bP
 have hsm521:((((d.types.getD e.typ.toNat default).fields).getD e.field.toNat default).moves).length*32≤140737488355328:=bp.small
 have cH:=bN.cells cG (R.foot (ne_of_lt bP))
 exact zh (k:=4) uR wT rfl (bM 12 dc) cH dR
 obtain⟨q,D,bQ⟩:=bL
 refine obl rfl ?_
 have bR:e.typ.toNat<d.types.length:=bo
 obtain⟨cI,S,hoke526⟩:=u.typD bR
 have hsm528:((d.types.getD e.typ.toNat default).fields).length*48≤140737488355328:=S.small
 have hcw529:=bQ.cells cI (u.foot (ne_of_lt bR))
 have bS:e.field.toNat<((d.types.getD e.typ.toNat default).fields).length:=bo
 obtain⟨cJ,bq,hoke525⟩:=S.fldD bS
 have hsm531:((((d.types.getD e.typ.toNat default).fields).getD e.field.toNat default).moves).length*32≤140737488355328:=bq.small
 have cK:=bQ.cells cJ (S.foot (ne_of_lt bS))
 exact zh (k:=4) uR wT rfl (bM 12 dc) cK dR
 refine ob1 0 fun _ _ (fk:Sep _ _ _ _) _=>(obl rfl ((zq Tryz.zeroValue106 ?_)))
 intro w355 q fl
 exact fun E N I=>⟨(exiA q (zx N (fk.new fl))),trivial⟩
 refine ob1 1 fun _ _ fm fn=>?_
 obtain⟨q,D,aj⟩:=fm
 refine obl rfl ?_
 have bT:e.typ.toNat<d.types.length:=bo
 obtain⟨cM,T,hoke369⟩:=u.typD bT
 have hsm371:((d.types.getD e.typ.toNat default).fields).length*48≤140737488355328:=T.small
 have hcw372:=aj.cells cM (u.foot (ne_of_lt bT))
 have bU:e.field.toNat<((d.types.getD e.typ.toNat default).fields).length:=bo
 obtain⟨cN,ap,hoke368⟩:=T.fldD bU
 have hsm374:((((d.types.getD e.typ.toNat default).fields).getD e.field.toNat default).moves).length*32≤140737488355328:=ap.small
 have hcw375:=aj.cells cN (T.foot (ne_of_lt bU))
 refine(zp (v:=.agg ci.toArray) (c':=ci.toArray) wT D (fn 13 dc) (aj.b0) (zX ⟨rfl,rfl,rfl,ap.sl.one,trivial⟩) yqc rfl ?_)
 intro w366 fo
 exact fun E N I=>⟨(exiA q (zx ((I 14 dc).trans D) (aj.pt0 fo))),trivial⟩
 intro vals w533 fp hA535
 obtain⟨q,D,fq⟩:=fp
 let gL:=Blk q ci.toArray 106
 refine zT (kv:=[(0,Ix b 0),(1,.agg (e.cells de0).toArray),(3,Ix m 0),(4,.bool false),(5,Ix B 0),(25,.bool false),(6,Ix q 0)]) ⟨rfl,rfl,rfl,rfl,rfl,rfl,(by exact D),trivial⟩ (fun ρw533=>(zb (za (za (R0 fun _=>st (aS (Iv 0) (zb (zn ?_))))))))
 refine zZ (fun mq σ A=> ∃(k:Nat) (ρ:Env),mq=L.length-k∧σ=yd ρ [(0,Ix b 0),(3,Ix m 0),(4,.bool false),(5,Ix B 0),(6,Ix q 0),(7,Iw k)]∧(k≤L.length)∧(∀i,i<k→rJ d e (L.getD i default)=false)∧Sep G W ((Blk q ((((d.types.getD e.typ.toNat default).fields).getD e.field.toNat default).cells (zN W (sb (zN W (sb g) (so g+e.typ.toNat*1+0))) (so (zN W (sb g) (so g+e.typ.toNat*1+0))+e.field.toNat*4+3))).toArray 106)::(Blk B #[Iv 0,Iv 0] 41)::(Blk m (e.cells de0).toArray 44)::Rs) A) ⟨0,_,rfl,sSf,Nat.zero_le _,(fun i h=>absurd h (Nat.not_lt_zero i)),fq⟩ ?_
 rintro m538 σ539 w537 ⟨k,ρl1,rfl,rfl,hkk,hno,J⟩
 let gF:=zN W (sb s) (so s+k*13+3)
 let gG:=((L.getD k default).ev).cells gF
 refine za (za (R0 fun _=>st (mV (Iw k) (st (mV (Ix b 0) (st (zo (b:=b) (o:=0) rfl (st (Zk rfl (st (lD s oR rfl (zd (J.gblk X) rfl) (st (zJ (n:=L.length) qR rfl am.sl (st (zC (k:=.i64) (a:=((k:Nat):Int)) (b:=((L.length:Nat):Int)) rfl rfl (zb ?_))))))))))))))))
 cases Z:decide (((k:Nat):Int)<((L.length:Nat):Int))
 have hc541r:=Z
 have Z:=fD Z
 have hT:=zbI (L:=L) hfz (fun i hi=>hno i om)
 refine ze rfl (ya (zS (za (R0 fun _=>st (mV (Ix b 0) (st (xr rfl (st (lD (Iv (e.typ)) kT rfl (zd (J.b2) rfl) (st (ZC rfl (st (lD (Iv (e.agg)) kT rfl (zd (J.b2) rfl) (st (cL Tryz.call46 (Wz (ty:=e.typ) (no:=e.agg) hb oe.typ oe.agg J (hd) (hrl) (hml)) ?_)))))))))))))))
 rintro _ w543 ⟨l,rfl,bV⟩
 let cj:=(XR d (e.typ,e.agg) L).cells l
 have bW:=bV.r0
 have hr545s:_*32≤_:=bW.2
 refine st (mV (.tuple #[.agg cj.toArray,.bool ((zw d L (e.typ,e.agg)).isSome)]) (st (zm (vs:=[.agg cj.toArray,.bool ((zw d L (e.typ,e.agg)).isSome)]) (i:=0) (v:=.agg cj.toArray) rfl rfl (st (zm (vs:=[.agg cj.toArray,.bool ((zw d L (e.typ,e.agg)).isSome)]) (i:=1) (v:=.bool ((zw d L (e.typ,e.agg)).isSome)) rfl rfl (st (zq Tryz.zeroValue77 ?_)))))))
 intro w548 K fr
 have bX:=bV.new fr
 refine stn (zp (v:=.agg cj.toArray) (c':=cj.toArray) Tryz.sizeOf77 rfl rfl (bX.b0) (zX ⟨rfl,bW.1.one,trivial⟩) yqc rfl ?_)
 intro w550 fs
 have aL:=bX.pt0 fs
 refine st (aS (.bool ((zw d L (e.typ,e.agg)).isSome)) (zb (za (R0 fun _=>st (xO rfl (st (lD l Tryz.isAgg75 rfl (zd (aL.b0) rfl) (st (aS l (zb (za (za (R0 fun _=>st (mV (.bool ((zw d L (e.typ,e.agg)).isSome)) (st (yB (a:=(zw d L (e.typ,e.agg)).isSome) rfl (zb ?_)))))))))))))))))
 cases H: !((zw d L (e.typ,e.agg)).isSome)
 have aq:=H
 try simp only[zf]at H
 have ar:(zw d L (e.typ,e.agg)).isSome=true:=by simpa using aq
 replace H:=ar
 refine ze rfl (zl (za ?_))
 have aM:=aL.mv1
 rw[show(stL d (e.typ,e.agg) L)=(zO d (e.typ,e.agg) L)from if_neg (UE H)]at aM
 have ft:=aM.r0
 have hr555s:_*32≤_:=ft.2
 refine WD4 ((fun TT C=>WF [fun vals A=>Sep G W (C::TT) A,fun vals A=>(vals 16=(Iv ((yH (d.types.getD e.typ.toNat default) (zO d (e.typ,e.agg) L) e.field e.op e.arg)):Value))∧Sep G W (C::TT) A,fun vals A=>(vals 16=(Iv ((yH (d.types.getD e.typ.toNat default) (zO d (e.typ,e.agg) L) e.field e.op e.arg)):Value))∧Sep G W (C::TT) A]) ((Blk K cj.toArray 77)::gL::gJ::gH::Rs) (RowE (α:=Cel) own 140 l (zO d (e.typ,e.agg) L))) (AF [Vl 0 (Ix b 0),Vl 1 (Ix b 0),Vl 2 (Ix b 0),Vl 3 (Ix b 0),Vl 4 (g),Vl 5 (Ix m 4),Vl 6 (Iv (e.typ)),Vl 7 gI,Vl 8 (.agg gK.toArray),Vl 9 (l),Vl 10 (Ix m 6),Vl 11 (Iv (e.field)),Vl 12 (Ix m 7),Vl 13 (Iv (e.op)),Vl 14 (Ix m 8),Vl 15 (Iv (e.arg)),fun _=>True,Vl 17 (.bool (!decide ((yH (d.types.getD e.typ.toNat default) (zO d (e.typ,e.agg) L) e.field e.op e.arg)=0))),Vl 18 (.agg #[Iv 0,Iv 0]),Vl 19 (.bool (!decide ((yH (d.types.getD e.typ.toNat default) (zO d (e.typ,e.agg) L) e.field e.op e.arg)=0))),fun _=>True]) [[],[0],[0,1],[0,1,2],(rg 4),[],[5],(rg 7),(rg 8),[],[],[10],[],[12],[],[14],(rg 16),(rg 17),[],(rg 18),(rg 20)] [16,20] [(0,0),(0,0),(0,0),(0,0),(0,0),(0,0),(0,0),(0,0),(0,0),(0,0),(0,0),(0,0),(0,0),(0,0),(0,0),(0,0),(0,0),(1,1),(0,1),(1,1),(1,1)] aM ⟨fun _ _ _ _ _ _ _=>obl rfl (mV (Ix b 0) dR),fun _ _ _ _ _ _ fu=>obl rfl (zo (b:=b) (o:=0) (fu 0 (by decide)) dR),fun _ _ _ _ _ _ fv=>obl rfl (Ya (fv 1 (by decide)) dR),fun _ _ _ _ _ _ fw=>obl rfl (yC (fw 2 (by decide)) dR),ob1 0 fun _ _ (fx:Sep _ _ _ _) fy=>obl rfl (lD g mR (fy 3 (by decide)) (zd (fx.gblk X) rfl) dR),fun _ _ _ _ _ _ _=>obl rfl (xr rfl dR),ob1 0 fun _ _ (fz:Sep _ _ _ _) fA=>obl rfl (lD (Iv (e.typ)) kT (fA 5 (by decide)) (zd (fz.b4) rfl) dR),?_,?_,fun _ _ _ _ _ _ _=>obl rfl (mV l dR),fun _ _ _ _ _ _ _=>obl rfl (xt rfl dR),ob1 0 fun _ _ (fB:Sep _ _ _ _) fC=>obl rfl (lD (Iv (e.field)) kT (fC 10 (by decide)) (zd (fB.b4) rfl) dR),fun _ _ _ _ _ _ _=>obl rfl (xw rfl dR),ob1 0 fun _ _ (fE:Sep _ _ _ _) fF=>obl rfl (lD (Iv (e.op)) kT (fF 12 (by decide)) (zd (fE.b4) rfl) dR),fun _ _ _ _ _ _ _=>obl rfl (xF rfl dR),ob1 0 fun _ _ (fG:Sep _ _ _ _) fH=>obl rfl (lD (Iv (e.arg)) kT (fH 14 (by decide)) (zd (fG.b4) rfl) dR),?_,?_,fun _ _ _ _ _ _ _=>obl rfl (zL (parts':=[]) (v:=.agg #[Iv 0,Iv 0]) rfl (by simp+zetaDelta [Instr.build,Instr.fill,Ev.cells,go_sem,Mv.cells,Fld.cells,Typ.cells,Prj.cells,Dcl.cells,Cel.cells,AskR.cells,CelS.cells,Ev.cells,Ent.cells,Sta.cells,Cmd.cells]) dR),fun _ _ _ _ _ _ fI=>obl rfl (zY (v:=.bool (!decide ((yH (d.types.getD e.typ.toNat default) (zO d (e.typ,e.agg) L) e.field e.op e.arg)=0))) (fI 17 (by decide)) dR),?_,trivial⟩ ?_
 refine ob1 0 fun _ _ _ bY=>(obl rfl ?_)
 have hi791:e.typ.toNat<d.types.length:=bo
 exact zr (k:=1) (i:=e.typ) nR tT (bY 4 dc) u.sl (bY 6 dc) ⟨by omega,by omega⟩ dR
 refine ob1 0 fun _ _ (fJ:Sep _ _ _ _) fK=>(obl rfl ?_)
 have bZ:e.typ.toNat<d.types.length:=bo
 obtain⟨cO,br,hoke800⟩:=u.typD bZ
 have hsm802:((d.types.getD e.typ.toNat default).fields).length*48≤140737488355328:=br.small
 have cP:=fJ.cells cO (u.foot (ne_of_lt bZ))
 exact zh (k:=1) vR tT rfl (fK 7 dc) cP dR
 refine ob1 0 fun vals _ (ca:Sep _ _ _ _) aa=>(obl rfl ?_)
 have cb:e.typ.toNat<d.types.length:=bo
 obtain⟨cQ,au,cl⟩:=u.typD cb
 have hsm689:((d.types.getD e.typ.toNat default).fields).length*48≤140737488355328:=au.small
 have hcw690:=ca.cells cQ (u.foot (ne_of_lt cb))
 obtain⟨G691,fL,fM,fN,fO⟩:=ca.lend
 have aN:=RowE.rd fL
 have hrd697s:_*32≤_:=aN.small
 refine(zH (f:=48) (vals:=[.agg ((d.types.getD e.typ.toNat default).cells (zN W (sb g) (so g+e.typ.toNat*1+0))).toArray,l,Iv (e.field),Iv (e.op),Iv (e.arg)]) (cap:=[]) rfl (yE ⟨(aa 8 dc),(aa 9 dc),(aa 11 dc),(aa 13 dc),(aa 15 dc),trivial⟩) mY (Wk (t:=(d.types.getD e.typ.toNat default)) (c:=(zO d (e.typ,e.agg) L)) (vc:=l) (fi:=e.field) (op:=e.op) (arg:=e.arg) (RdS.base au fM) cl aN oe.field oe.op oe.arg fN ((hft.ask (hd.typ _ om) (hrl.inv hd e.typ e.agg gj gk)))) ?_)
 rintro _ w698 ⟨rfl,fP⟩
 have fQ:=fO _ _ fP
 exact fun E N I=>⟨(zx N fQ),trivial⟩
 refine ob1 1 fun _ _ fR _=>?_
 obtain⟨ak,hS858⟩:=fR
 exact obl rfl (yn (k:=.i64) (a:=(yH (d.types.getD e.typ.toNat default) (zO d (e.typ,e.agg) L) e.field e.op e.arg)) (b:=0) ak rfl dR)
 refine ob1 1 fun _ _ fS fT=>?_
 obtain⟨ak,cc⟩:=fS
 refine obl rfl ((zp (v:=.agg #[Iv 0,Iv 0]) (c':=#[Iv 0,Iv 0]) mT rfl (fT 18 dc) (cc.b3) (zX ⟨rfl,rfl,trivial⟩) yqc rfl ?_))
 intro w730 fU
 exact fun E N I=>⟨(zx ((I 16 dc).trans ak) (cc.pt3 fU)),trivial⟩
 intro vals gD fV fW
 obtain⟨ak,cd⟩:=fV
 have gE:=fW 19 dc
 refine zT (kv:=[(0,Ix b 0),(3,Ix m 0),(4,.bool (!decide ((yH (d.types.getD e.typ.toNat default) (zO d (e.typ,e.agg) L) e.field e.op e.arg)=0))),(5,Ix B 0),(6,Ix q 0),(7,Iw k),(41,Iw k),(42,Ix b 0),(43,Ix b 0),(44,Ix b 2),(45,s),(46,Iw L.length),(47,.bool false),(97,Ix b 0),(98,Ix m 4),(99,Iv (e.typ)),(100,Ix m 5),(101,Iv (e.agg)),(102,.tuple #[.agg cj.toArray,.bool ((zw d L (e.typ,e.agg)).isSome)]),(96,.tuple #[.agg cj.toArray,.bool ((zw d L (e.typ,e.agg)).isSome)]),(103,.agg cj.toArray),(104,.bool ((zw d L (e.typ,e.agg)).isSome)),(9,Ix K 0),(10,.bool ((zw d L (e.typ,e.agg)).isSome)),(105,Ix K 1),(106,l),(11,l),(107,.bool ((zw d L (e.typ,e.agg)).isSome)),(108,.bool false)]) ⟨rfl,rfl,(by exact gE),rfl,rfl,rfl,rfl,rfl,rfl,rfl,rfl,rfl,rfl,rfl,rfl,rfl,rfl,rfl,rfl,rfl,rfl,rfl,rfl,rfl,rfl,rfl,rfl,rfl,rfl,trivial⟩ (fun ρw872=>?_)
 refine zb (zk (Yv (b:=B) rR qT mT rfl rfl (CellsAt.all (cd.b3)) (show _=(.bool (!decide ((yH (d.types.getD e.typ.toNat default) (zO d (e.typ,e.agg) L) e.field e.op e.arg)=0)):Value)from rfl) ?_))
 have fX:Sep G W Rs gD:=cd.sel 5 [] (Nat.le_add_left _ _) rfl rfl
 rw[hT]
 refine⟨rfl,?_,fX⟩
 exact⟨(by decide:InR 0),(by decide:InR 0)⟩
 have aq:=H
 try simp only[zf]at H
 have ar:(zw d L (e.typ,e.agg)).isSome=false:=by simpa using aq
 replace H:=ar
 refine zg rfl ?_
 refine WD4 ((fun TT C=>WF [fun vals A=>Sep G W (C::TT) A,fun vals A=> ∃(z:Value),(vals 9=(z:Value))∧Sep G W ((RowE (α:=Cel) own 140 z (List.replicate (d.types.getD e.typ.toNat default).fields.length (⟨0,[]⟩:Cel)))::C::TT) A]) ((RowE (α:=Cel) own 140 l (stL d (e.typ,e.agg) L))::gL::gJ::gH::Rs) (Blk K cj.toArray 77)) (AF [Vl 0 (Ix b 0),Vl 1 (Ix b 0),Vl 2 (Ix b 0),Vl 3 (Ix b 0),Vl 4 (g),Vl 5 (Ix m 4),Vl 6 (Iv (e.typ)),Vl 7 gI,Vl 8 (.agg gK.toArray),fun _=>True,fun vals=> ∀(z:Value),vals 9=(z:Value)→vals 10=(z:Value)]) [[],[0],[0,1],[0,1,2],(rg 4),[],[5],(rg 7),(rg 8),(rg 9),(rg 10)] [9] [(0,0),(0,0),(0,0),(0,0),(0,0),(0,0),(0,0),(0,0),(0,0),(0,0),(1,1)] aL ⟨fun _ _ _ _ _ _ _=>obl rfl (mV (Ix b 0) dR),fun _ _ _ _ _ _ fY=>obl rfl (zo (b:=b) (o:=0) (fY 0 dc) dR),fun _ _ _ _ _ _ fZ=>obl rfl (Ya (fZ 1 dc) dR),fun _ _ _ _ _ _ ga=>obl rfl (yC (ga 2 dc) dR),ob1 0 fun _ _ (cR:Sep _ _ _ _) cS=>obl rfl (lD g mR (cS 3 dc) (zd (cR.gblk X) rfl) dR),fun _ _ _ _ _ _ _=>obl rfl (xr rfl dR),ob1 0 fun _ _ (cT:Sep _ _ _ _) cU=>obl rfl (lD (Iv (e.typ)) kT (cU 5 dc) (zd (cT.b4) rfl) dR),?_,?_,?_,?_,trivial⟩ ?_ (hlocA:=yX ⟨dA,dA,dA,dA,dA,dA,dA,dA,dA,dT,fun vals E N h=>fun z ce=>(N 10 (.inl rfl)).trans (h z ((N 9 (.inr dc)).symm.trans ce)),trivial⟩)
 refine ob1 0 fun _ _ _ aO=>(obl rfl ?_)
 have hi1031:e.typ.toNat<d.types.length:=bo
 exact zr (k:=1) (i:=e.typ) nR tT (aO 4 dc) u.sl (aO 6 dc) ⟨by omega,by omega⟩ dR
 refine ob1 0 fun _ _ (cV:Sep _ _ _ _) cW=>(obl rfl ?_)
 have aP:e.typ.toNat<d.types.length:=bo
 obtain⟨cm,aQ,hoke1040⟩:=u.typD aP
 have hsm1042:((d.types.getD e.typ.toNat default).fields).length*48≤140737488355328:=aQ.small
 have cn:=cV.cells cm (u.foot (ne_of_lt aP))
 exact zh (k:=1) vR tT rfl (cW 7 dc) cn dR
 refine ob1 0 fun vals _ (cf:Sep _ _ _ _) gc=>(obl rfl ?_)
 have cg:e.typ.toNat<d.types.length:=bo
 obtain⟨cX,av,co⟩:=u.typD cg
 have hsm959:((d.types.getD e.typ.toNat default).fields).length*48≤140737488355328:=av.small
 have hcw960:=cf.cells cX (u.foot (ne_of_lt cg))
 refine(zH (f:=47) (vals:=[.agg gK.toArray]) (cap:=[]) rfl (yE ⟨(gc 8 dc),trivial⟩) Tryz.call47 (YT (t:=(d.types.getD e.typ.toNat default)) av co cf) ?_)
 rintro z w962 ⟨_,rfl,ch⟩
 have gd:=ch.r0
 have hr964s:_*32≤_:=gd.2
 exact fun E N I=>⟨(exiA z (zx N ch)),trivial⟩
 refine ob1 1 fun _ _ cY _=>?_
 obtain⟨z,al,hS1050⟩:=cY
 refine obl rfl (zY (v:=z) al (fun E N I=>⟨rfl,?_⟩))
 intro v961q ce
 rw[I 9 (by decide)]at ce;cases al.symm.trans ce
 exact N
 intro vals w1051 cZ da
 obtain⟨z,al,aw⟩:=cZ
 have ge:vals 10=(z:Value):=da 10 dc z al
 refine zT (kv:=[(0,Ix b 0),(3,Ix m 0),(4,.bool false),(5,Ix B 0),(6,Ix q 0),(7,Iw k),(41,Iw k),(42,Ix b 0),(43,Ix b 0),(44,Ix b 2),(45,s),(46,Iw L.length),(47,.bool false),(97,Ix b 0),(98,Ix m 4),(99,Iv (e.typ)),(100,Ix m 5),(101,Iv (e.agg)),(102,.tuple #[.agg cj.toArray,.bool ((zw d L (e.typ,e.agg)).isSome)]),(96,.tuple #[.agg cj.toArray,.bool ((zw d L (e.typ,e.agg)).isSome)]),(103,.agg cj.toArray),(104,.bool ((zw d L (e.typ,e.agg)).isSome)),(9,Ix K 0),(10,.bool ((zw d L (e.typ,e.agg)).isSome)),(105,Ix K 1),(106,l),(11,z),(107,.bool ((zw d L (e.typ,e.agg)).isSome)),(108,.bool true)]) ⟨rfl,rfl,rfl,rfl,rfl,rfl,rfl,rfl,rfl,rfl,rfl,rfl,rfl,rfl,rfl,rfl,rfl,rfl,rfl,rfl,rfl,rfl,rfl,rfl,rfl,rfl,(by exact ge),rfl,rfl,trivial⟩ (fun ρw1051=>?_)
 refine zb (za ?_)
 rw[show(List.replicate (d.types.getD e.typ.toNat default).fields.length (⟨0,[]⟩:Cel))=(zO d (e.typ,e.agg) L)from(VP (d:=d) (UM H)).symm]at aw
 have db:=aw.r0
 have hr1056s:_*32≤_:=db.2
 refine WD4 ((fun TT C=>WF [fun vals A=>Sep G W (C::TT) A,fun vals A=>(vals 16=(Iv ((yH (d.types.getD e.typ.toNat default) (zO d (e.typ,e.agg) L) e.field e.op e.arg)):Value))∧Sep G W (C::TT) A,fun vals A=>(vals 16=(Iv ((yH (d.types.getD e.typ.toNat default) (zO d (e.typ,e.agg) L) e.field e.op e.arg)):Value))∧Sep G W (C::TT) A]) ((Blk K cj.toArray 77)::(RowE (α:=Cel) own 140 l (stL d (e.typ,e.agg) L))::gL::gJ::gH::Rs) (RowE (α:=Cel) own 140 z (zO d (e.typ,e.agg) L))) (AF [Vl 0 (Ix b 0),Vl 1 (Ix b 0),Vl 2 (Ix b 0),Vl 3 (Ix b 0),Vl 4 (g),Vl 5 (Ix m 4),Vl 6 (Iv (e.typ)),Vl 7 gI,Vl 8 (.agg gK.toArray),Vl 9 (z),Vl 10 (Ix m 6),Vl 11 (Iv (e.field)),Vl 12 (Ix m 7),Vl 13 (Iv (e.op)),Vl 14 (Ix m 8),Vl 15 (Iv (e.arg)),fun _=>True,Vl 17 (.bool (!decide ((yH (d.types.getD e.typ.toNat default) (zO d (e.typ,e.agg) L) e.field e.op e.arg)=0))),Vl 18 (.agg #[Iv 0,Iv 0]),Vl 19 (.bool (!decide ((yH (d.types.getD e.typ.toNat default) (zO d (e.typ,e.agg) L) e.field e.op e.arg)=0))),fun _=>True]) [[],[0],[0,1],[0,1,2],(rg 4),[],[5],(rg 7),(rg 8),[],[],[10],[],[12],[],[14],(rg 16),(rg 17),[],(rg 18),(rg 20)] [16,20] [(0,0),(0,0),(0,0),(0,0),(0,0),(0,0),(0,0),(0,0),(0,0),(0,0),(0,0),(0,0),(0,0),(0,0),(0,0),(0,0),(0,0),(1,1),(0,1),(1,1),(1,1)] aw ⟨fun _ _ _ _ _ _ _=>obl rfl (mV (Ix b 0) dR),fun _ _ _ _ _ _ dd=>obl rfl (zo (b:=b) (o:=0) (dd 0 (by decide)) dR),fun _ _ _ _ _ _ de=>obl rfl (Ya (de 1 (by decide)) dR),fun _ _ _ _ _ _ df=>obl rfl (yC (df 2 (by decide)) dR),ob1 0 fun _ _ (dg:Sep _ _ _ _) dh=>obl rfl (lD g mR (dh 3 (by decide)) (zd (dg.gblk X) rfl) dR),fun _ _ _ _ _ _ _=>obl rfl (xr rfl dR),ob1 0 fun _ _ (di:Sep _ _ _ _) dj=>obl rfl (lD (Iv (e.typ)) kT (dj 5 (by decide)) (zd (di.b5) rfl) dR),?_,?_,fun _ _ _ _ _ _ _=>obl rfl (mV z dR),fun _ _ _ _ _ _ _=>obl rfl (xt rfl dR),ob1 0 fun _ _ (dk:Sep _ _ _ _) dl=>obl rfl (lD (Iv (e.field)) kT (dl 10 (by decide)) (zd (dk.b5) rfl) dR),fun _ _ _ _ _ _ _=>obl rfl (xw rfl dR),ob1 0 fun _ _ (dm:Sep _ _ _ _) dp=>obl rfl (lD (Iv (e.op)) kT (dp 12 (by decide)) (zd (dm.b5) rfl) dR),fun _ _ _ _ _ _ _=>obl rfl (xF rfl dR),ob1 0 fun _ _ (dq:Sep _ _ _ _) dr=>obl rfl (lD (Iv (e.arg)) kT (dr 14 (by decide)) (zd (dq.b5) rfl) dR),?_,?_,fun _ _ _ _ _ _ _=>obl rfl (zL (parts':=[]) (v:=.agg #[Iv 0,Iv 0]) rfl (by simp+zetaDelta [Instr.build,Instr.fill,Ev.cells,go_sem,Mv.cells,Fld.cells,Typ.cells,Prj.cells,Dcl.cells,Cel.cells,AskR.cells,CelS.cells,Ev.cells,Ent.cells,Sta.cells,Cmd.cells]) dR),fun _ _ _ _ _ _ ds=>obl rfl (zY (v:=.bool (!decide ((yH (d.types.getD e.typ.toNat default) (zO d (e.typ,e.agg) L) e.field e.op e.arg)=0))) (ds 17 (by decide)) dR),?_,trivial⟩ ?_
 refine ob1 0 fun _ _ _ aR=>(obl rfl ?_)
 have hi1292:e.typ.toNat<d.types.length:=bo
 exact zr (k:=1) (i:=e.typ) nR tT (aR 4 dc) u.sl (aR 6 dc) ⟨by omega,by omega⟩ dR
 refine ob1 0 fun _ _ (dt:Sep _ _ _ _) du=>(obl rfl ?_)
 have aT:e.typ.toNat<d.types.length:=bo
 obtain⟨cp,aU,hoke1301⟩:=u.typD aT
 have hsm1303:((d.types.getD e.typ.toNat default).fields).length*48≤140737488355328:=aU.small
 have cq:=dt.cells cp (u.foot (ne_of_lt aT))
 exact zh (k:=1) vR tT rfl (du 7 dc) cq dR
 refine ob1 0 fun vals _ (aV:Sep _ _ _ _) O=>(obl rfl ?_)
 have aW:e.typ.toNat<d.types.length:=bo
 obtain⟨cr,af,bs⟩:=u.typD aW
 have hsm1190:((d.types.getD e.typ.toNat default).fields).length*48≤140737488355328:=af.small
 have hcw1191:=aV.cells cr (u.foot (ne_of_lt aW))
 obtain⟨G1192,dv,dw,dx,dy⟩:=aV.lend
 have aB:=RowE.rd dv
 have hrd1198s:_*32≤_:=aB.small
 refine(zH (f:=48) (vals:=[.agg ((d.types.getD e.typ.toNat default).cells (zN W (sb g) (so g+e.typ.toNat*1+0))).toArray,z,Iv (e.field),Iv (e.op),Iv (e.arg)]) (cap:=[]) rfl (yE ⟨(O 8 dc),(O 9 dc),(O 11 dc),(O 13 dc),(O 15 dc),trivial⟩) mY (Wk (t:=(d.types.getD e.typ.toNat default)) (c:=(zO d (e.typ,e.agg) L)) (vc:=z) (fi:=e.field) (op:=e.op) (arg:=e.arg) (RdS.base af dw) bs aB oe.field oe.op oe.arg dx ((hft.ask (hd.typ _ om) (hrl.inv hd e.typ e.agg gj gk)))) ?_)
 rintro _ w1199 ⟨rfl,dz⟩
 have dB:=dy _ _ dz
 exact fun E N I=>⟨(zx N dB),trivial⟩
 refine ob1 1 fun _ _ dC _=>?_
 obtain⟨ab,hS1359⟩:=dC
 exact obl rfl (yn (k:=.i64) (a:=(yH (d.types.getD e.typ.toNat default) (zO d (e.typ,e.agg) L) e.field e.op e.arg)) (b:=0) ab rfl dR)
 refine ob1 1 fun _ _ dD dE=>?_
 obtain⟨ab,aX⟩:=dD
 refine obl rfl ((zp (v:=.agg #[Iv 0,Iv 0]) (c':=#[Iv 0,Iv 0]) mT rfl (dE 18 dc) (aX.b4) (zX ⟨rfl,rfl,trivial⟩) yqc rfl ?_))
 intro w1231 dG
 exact fun E N I=>⟨(zx ((I 16 dc).trans ab) (aX.pt4 dG)),trivial⟩
 intro vals gf dH dI
 obtain⟨ab,aY⟩:=dH
 have gg:=dI 19 dc
 refine zT (kv:=[(0,Ix b 0),(3,Ix m 0),(4,.bool (!decide ((yH (d.types.getD e.typ.toNat default) (zO d (e.typ,e.agg) L) e.field e.op e.arg)=0))),(5,Ix B 0),(6,Ix q 0),(7,Iw k),(41,Iw k),(42,Ix b 0),(43,Ix b 0),(44,Ix b 2),(45,s),(46,Iw L.length),(47,.bool false),(97,Ix b 0),(98,Ix m 4),(99,Iv (e.typ)),(100,Ix m 5),(101,Iv (e.agg)),(102,.tuple #[.agg cj.toArray,.bool ((zw d L (e.typ,e.agg)).isSome)]),(96,.tuple #[.agg cj.toArray,.bool ((zw d L (e.typ,e.agg)).isSome)]),(103,.agg cj.toArray),(104,.bool ((zw d L (e.typ,e.agg)).isSome)),(9,Ix K 0),(10,.bool ((zw d L (e.typ,e.agg)).isSome)),(105,Ix K 1),(106,l),(11,z),(107,.bool ((zw d L (e.typ,e.agg)).isSome)),(108,.bool true)]) ⟨rfl,rfl,(by exact gg),rfl,rfl,rfl,rfl,rfl,rfl,rfl,rfl,rfl,rfl,rfl,rfl,rfl,rfl,rfl,rfl,rfl,rfl,rfl,rfl,rfl,rfl,rfl,rfl,rfl,rfl,trivial⟩ (fun ρw1373=>?_)
 refine zb (zk (Yv (b:=B) rR qT mT rfl rfl (CellsAt.all (aY.b4)) (show _=(.bool (!decide ((yH (d.types.getD e.typ.toNat default) (zO d (e.typ,e.agg) L) e.field e.op e.arg)=0)):Value)from rfl) ?_))
 have dJ:Sep G W Rs gf:=aY.sel 6 [] (Nat.le_add_left _ _) rfl rfl
 rw[hT]
 refine⟨rfl,?_,dJ⟩
 exact⟨(by decide:InR 0),(by decide:InR 0)⟩
 have Z:=tD Z
 refine zg rfl (zl (za (zn (za (R0 fun _=>st (mV (Ix b 0) (st (zo (b:=b) (o:=0) rfl (st (Zk rfl (st (lD s oR rfl (zd (J.gblk X) rfl) (st (mV (Iw k) ?_))))))))))))))
 have dK:k<L.length:=bo
 refine st (zj (k:=13) (i:=k) qR uT rfl am.sl rfl dK (st (Yr rfl ?_)))
 have ax:k<L.length:=bo
 obtain⟨aC,P,U⟩:=am.entD ax
 have hsm1382:((L.getD k default).ev.deps).length*8≤140737488355328:=P.small
 have ct:=J.cells aC (am.foot (ne_of_lt ax))
 refine st (zh (k:=10) (cs:=[Iv ((L.getD k default).ev.origin),Iv ((L.getD k default).ev.seq),Iv ((L.getD k default).ev.lam),gF,Iv ((L.getD k default).ev.typ),Iv ((L.getD k default).ev.agg),Iv ((L.getD k default).ev.field),Iv ((L.getD k default).ev.op),Iv ((L.getD k default).ev.arg),Iv ((L.getD k default).ev.key)]) oT lT rfl rfl (CellsAt.sub ct 0 (cs2:=[Iv ((L.getD k default).ev.origin),Iv ((L.getD k default).ev.seq),Iv ((L.getD k default).ev.lam),gF,Iv ((L.getD k default).ev.typ),Iv ((L.getD k default).ev.agg),Iv ((L.getD k default).ev.field),Iv ((L.getD k default).ev.op),Iv ((L.getD k default).ev.arg),Iv ((L.getD k default).ev.key)]) rfl) (st (zq pR ?_)))
 intro w1386 M dL
 have aZ:=J.new dL
 refine stn (zp (v:=.agg gG.toArray) (c':=gG.toArray) lT rfl rfl (aZ.b0) (zX ⟨rfl,rfl,rfl,P.sl.one,rfl,rfl,rfl,rfl,rfl,rfl,trivial⟩) yqc rfl ?_)
 intro w1388 dM
 have y:=aZ.pt0 dM
 refine zb (za (zA kr (st (mV (Ix b 0) (st (zo (b:=b) (o:=0) rfl (st (Zk rfl (st (lD s oR rfl (zd (y.gblk X) rfl) (st (mV (Iw k) ?_))))))))))))
 have dN:k<L.length:=bo
 refine st (zj (k:=13) (i:=k) qR uT rfl am.sl rfl dN (st (VS rfl ?_)))
 have cu:=y.cells aC (am.foot (ne_of_lt ax))
 refine st (lD (.bool ((L.getD k default).void)) Tryz.isAgg4 rfl (cu.get (j:=10) rfl) (st (yB (a:=(L.getD k default).void) rfl (st (mV (.bool (!((L.getD k default).void))) (stc (V:=Ix M 4) rfl rfl (fun dO=>?_) ?_))))))
 have dP:=dO
 try simp only[zf]at dP
 exact xr rfl ⟨rfl,rfl⟩
 refine stc (V:=Iv (((L.getD k default).ev).typ)) rfl rfl (fun ba=>?_) ?_
 have dQ:=ba
 try simp only[zf]at dQ
 exact lD (Iv (((L.getD k default).ev).typ)) kT (if_pos ba) (zd (y.b0) rfl) ⟨rfl,rfl⟩
 refine stc (V:=Ix m 4) rfl rfl (fun dS=>?_) ?_
 have dU:=dS
 try simp only[zf]at dU
 exact xr rfl ⟨rfl,rfl⟩
 refine stc (V:=Iv (e.typ)) rfl rfl (fun bb=>?_) ?_
 have dV:=bb
 try simp only[zf]at dV
 exact lD (Iv (e.typ)) kT (if_pos bb) (zd (y.b3) rfl) ⟨rfl,rfl⟩
 refine stc (V:=.bool (decide ((((L.getD k default).ev).typ)=e.typ))) rfl rfl (fun ay=>?_) ?_
 have dW:=ay
 try simp only[zf]at dW
 exact zR (k:=.i64) (a:=((L.getD k default).ev).typ) (b:=e.typ) (if_pos ay) (if_pos ay) ⟨rfl,rfl⟩
 refine st (zy (b:= !((L.getD k default).void)) (b':=decide ((((L.getD k default).ev).typ)=e.typ)) rfl (fun hbp=>(if_pos hbp)) (st (mV (.bool ((!((L.getD k default).void))&&(decide ((((L.getD k default).ev).typ)=e.typ)))) (stc (V:=Ix M 5) rfl rfl (fun dX=>?_) ?_))))
 have dY:=dX
 try simp only[zf]at dY
 exact ZC rfl ⟨rfl,rfl⟩
 refine stc (V:=Iv (((L.getD k default).ev).agg)) rfl rfl (fun bc=>?_) ?_
 have dZ:=bc
 try simp only[zf]at dZ
 exact lD (Iv (((L.getD k default).ev).agg)) kT (if_pos bc) (zd (y.b0) rfl) ⟨rfl,rfl⟩
 refine stc (V:=Ix m 5) rfl rfl (fun ea=>?_) ?_
 have eb:=ea
 try simp only[zf]at eb
 exact ZC rfl ⟨rfl,rfl⟩
 refine stc (V:=Iv (e.agg)) rfl rfl (fun bd=>?_) ?_
 have ec:=bd
 try simp only[zf]at ec
 exact lD (Iv (e.agg)) kT (if_pos bd) (zd (y.b3) rfl) ⟨rfl,rfl⟩
 refine stc (V:=.bool (decide ((((L.getD k default).ev).agg)=e.agg))) rfl rfl (fun az=>?_) ?_
 have ed:=az
 try simp only[zf]at ed
 exact zR (k:=.i64) (a:=((L.getD k default).ev).agg) (b:=e.agg) (if_pos az) (if_pos az) ⟨rfl,rfl⟩
 refine st (zy (b:=(!((L.getD k default).void))&&(decide ((((L.getD k default).ev).typ)=e.typ))) (b':=decide ((((L.getD k default).ev).agg)=e.agg)) rfl (fun hbp=>(if_pos hbp)) (st (mV (.bool (((!((L.getD k default).void))&&(decide ((((L.getD k default).ev).typ)=e.typ)))&&(decide ((((L.getD k default).ev).agg)=e.agg)))) (stc (V:=Ix M 6) rfl rfl (fun ee=>?_) ?_))))
 have ef:=ee
 try simp only[zf]at ef
 exact xt rfl ⟨rfl,rfl⟩
 refine stc (V:=Iv (((L.getD k default).ev).field)) rfl rfl (fun be=>?_) ?_
 have eg:=be
 try simp only[zf]at eg
 exact lD (Iv (((L.getD k default).ev).field)) kT (if_pos be) (zd (y.b0) rfl) ⟨rfl,rfl⟩
 refine stc (V:=Ix m 6) rfl rfl (fun eh=>?_) ?_
 have ei:=eh
 try simp only[zf]at ei
 exact xt rfl ⟨rfl,rfl⟩
 refine stc (V:=Iv (e.field)) rfl rfl (fun bf=>?_) ?_
 have ej:=bf
 try simp only[zf]at ej
 exact lD (Iv (e.field)) kT (if_pos bf) (zd (y.b3) rfl) ⟨rfl,rfl⟩
 refine stc (V:=.bool (decide ((((L.getD k default).ev).field)=e.field))) rfl rfl (fun aA=>?_) ?_
 have ek:=aA
 try simp only[zf]at ek
 exact zR (k:=.i64) (a:=((L.getD k default).ev).field) (b:=e.field) (if_pos aA) (if_pos aA) ⟨rfl,rfl⟩
 refine st (zy (b:=((!((L.getD k default).void))&&(decide ((((L.getD k default).ev).typ)=e.typ)))&&(decide ((((L.getD k default).ev).agg)=e.agg))) (b':=decide ((((L.getD k default).ev).field)=e.field)) rfl (fun hbp=>(if_pos hbp)) (st (mV (.bool ((((!((L.getD k default).void))&&(decide ((((L.getD k default).ev).typ)=e.typ)))&&(decide ((((L.getD k default).ev).agg)=e.agg)))&&(decide ((((L.getD k default).ev).field)=e.field)))) (stc (V:=.agg ci.toArray) rfl rfl (fun el=>?_) ?_))))
 have em:=el
 try simp only[zf]at em
 exact zh (k:=4) uR wT rfl rfl (CellsAt.all (y.b1)) ⟨rfl,rfl⟩
 refine stc (V:=.agg gG.toArray) rfl rfl (fun en=>?_) ?_
 have eo:=en
 try simp only[zf]at eo
 exact zh (k:=10) oT lT rfl rfl (CellsAt.all (y.b0)) ⟨rfl,rfl⟩
 refine stc (V:=.agg (e.cells de0).toArray) rfl rfl (fun er=>?_) ?_
 have es:=er
 try simp only[zf]at es
 exact zh (k:=10) oT lT rfl rfl (CellsAt.all (y.b3)) ⟨rfl,rfl⟩
 refine zcK (V:=.bool ((xf (((d.types.getD e.typ.toNat default).fields).getD e.field.toNat default) ((L.getD k default).ev) e))) (fun _ A=>Sep G W ((Blk M gG.toArray 44)::gL::gJ::gH::Rs) A) y rfl rfl (fun ac=>?_) (fun w1442 bg=>?_)
 have et:=ac
 try simp only[zf]at et
 have bh:e.typ.toNat<d.types.length:=bo
 obtain⟨cv,Q,hoke1433⟩:=u.typD bh
 have hsm1435:((d.types.getD e.typ.toNat default).fields).length*48≤140737488355328:=Q.small
 have hcw1436:=y.cells cv (u.foot (ne_of_lt bh))
 have bi:e.field.toNat<((d.types.getD e.typ.toNat default).fields).length:=bo
 obtain⟨cw,ag,bt⟩:=Q.fldD bi
 have hsm1438:((((d.types.getD e.typ.toNat default).fields).getD e.field.toNat default).moves).length*32≤140737488355328:=ag.small
 have hcw1439:=y.cells cw (Q.foot (ne_of_lt bi))
 refine(zH (f:=124) (vals:=[.agg ci.toArray,.agg gG.toArray,.agg (e.cells de0).toArray]) (cap:=[]) rfl (yE ⟨(if_pos ac),(if_pos ac),(if_pos ac),trivial⟩) Tryz.call124 (QL (f:=(((d.types.getD e.typ.toNat default).fields).getD e.field.toNat default)) (x:=((L.getD k default).ev)) (e:=e) ag bt P U.ev hde0 oe y) ?_)
 rintro _ w1440 ⟨rfl,eu⟩
 exact⟨rfl,eu⟩
 refine st (zy (b:=(((!((L.getD k default).void))&&(decide ((((L.getD k default).ev).typ)=e.typ)))&&(decide ((((L.getD k default).ev).agg)=e.agg)))&&(decide ((((L.getD k default).ev).field)=e.field))) (b':=(xf (((d.types.getD e.typ.toNat default).fields).getD e.field.toNat default) ((L.getD k default).ev) e)) rfl (fun hbp=>(if_pos hbp)) (zb ?_))
 cases ad:((((!((L.getD k default).void))&&(decide ((((L.getD k default).ev).typ)=e.typ)))&&(decide ((((L.getD k default).ev).agg)=e.agg)))&&(decide ((((L.getD k default).ev).field)=e.field)))&&(xf (((d.types.getD e.typ.toNat default).fields).getD e.field.toNat default) ((L.getD k default).ev) e)
 have ae:=ad
 try simp only[zf]at ad
 refine ze rfl (zl (R0 fun _=>st (mV (Iw k) ?_)))
 have ew:InR ((k+1:Nat):Int):=bo
 refine st (zP (r:=((k+1:Nat):Int)) (k:=.i64) (a:=((k:Nat):Int)) (b:=1) rfl rfl (by rw[show(((k:Nat):Int)+1:Int)=((k+1:Nat):Int)from bo];exact zF ew) (st (aS (Iw (k+1)) (zb ?_))))
 exact⟨_,by omega,k+1,_,rfl,sSf,by omega,(yL hno (rj_raw.trans ae)),(bg.s4_bcd)⟩
 have ae:=ad
 try simp only[zf]at ad
 have hT:=zdA hfz om hno (rj_raw.trans ae)
 refine zg rfl (za ?_)
 refine WD4 ((fun TT C gl=>WF [fun vals A=>Sep G W (C::gl::gJ::TT) A,fun vals A=>Sep G W (C::gl::(Blk B #[Iv (((L.getD k default).ev).origin),Iv (((L.getD k default).ev).seq)] 41)::TT) A]) (gH::Rs) (Blk M gG.toArray 44) gL) (AF [Vl 0 (Ix M 0),Vl 1 (.agg #[Iv (((L.getD k default).ev).origin),Iv (((L.getD k default).ev).seq)]),Vl 2 (.bool true),fun _=>True]) [[],[0],[],[0,1,2]] [3] [(0,0),(0,0),(0,0),(0,0)] bg ⟨fun _ _ _ _ _ _ _=>obl rfl (yp rfl dR),ob1 0 fun _ _ (ex:Sep _ _ _ _) ey=>obl rfl (zh (k:=2) (cs:=[Iv (((L.getD k default).ev).origin),Iv (((L.getD k default).ev).seq)]) qT mT rfl (ey 0 dc) (CellsAt.sub (CellsAt.all (ex.b0)) 0 (cs2:=[Iv (((L.getD k default).ev).origin),Iv (((L.getD k default).ev).seq)]) rfl) dR),fun _ _ _ _ _ _ _=>obl rfl (aS (.bool true) dR),?_,trivial⟩ ?_
 refine ob1 0 fun _ _ (bj:Sep _ _ _ _) ez=>(obl rfl ((zp (v:=.agg #[Iv (((L.getD k default).ev).origin),Iv (((L.getD k default).ev).seq)]) (c':=#[Iv (((L.getD k default).ev).origin),Iv (((L.getD k default).ev).seq)]) mT rfl (ez 1 dc) (bj.b2) (zX ⟨rfl,rfl,trivial⟩) yqc rfl ?_)))
 intro w1475 eA
 exact fun E N I=>⟨(bj.pt2 eA),trivial⟩
 intro vals w1498 eB eC
 have bk:Sep _ _ _ _:=eB
 have gh:=eC 2 dc
 refine zT (kv:=[(0,Ix b 0),(3,Ix m 0),(4,.bool true),(5,Ix B 0),(6,Ix q 0),(7,Iw k),(41,Iw k),(42,Ix b 0),(43,Ix b 0),(44,Ix b 2),(45,s),(46,Iw L.length),(47,.bool true),(50,Ix b 0),(51,Ix b 0),(52,Ix b 2),(53,s),(54,Iw k),(55,Ix (sb s) (so s+k*13)),(56,Ix (sb s) (so s+k*13)),(57,.agg gG.toArray),(8,Ix M 0),(58,Ix b 0),(59,Ix b 0),(60,Ix b 2),(61,s),(62,Iw k),(63,Ix (sb s) (so s+k*13)),(64,Ix (sb s) (so s+k*13+10)),(65,.bool ((L.getD k default).void)),(66,.bool (!((L.getD k default).void))),(67,.bool (!((L.getD k default).void))),(73,.bool ((!((L.getD k default).void))&&(decide ((((L.getD k default).ev).typ)=e.typ)))),(74,.bool ((!((L.getD k default).void))&&(decide ((((L.getD k default).ev).typ)=e.typ)))),(80,.bool (((!((L.getD k default).void))&&(decide ((((L.getD k default).ev).typ)=e.typ)))&&(decide ((((L.getD k default).ev).agg)=e.agg)))),(81,.bool (((!((L.getD k default).void))&&(decide ((((L.getD k default).ev).typ)=e.typ)))&&(decide ((((L.getD k default).ev).agg)=e.agg)))),(87,.bool ((((!((L.getD k default).void))&&(decide ((((L.getD k default).ev).typ)=e.typ)))&&(decide ((((L.getD k default).ev).agg)=e.agg)))&&(decide ((((L.getD k default).ev).field)=e.field)))),(88,.bool ((((!((L.getD k default).void))&&(decide ((((L.getD k default).ev).typ)=e.typ)))&&(decide ((((L.getD k default).ev).agg)=e.agg)))&&(decide ((((L.getD k default).ev).field)=e.field)))),(93,.bool true)]) ⟨rfl,rfl,(by exact gh),rfl,rfl,rfl,rfl,rfl,rfl,rfl,rfl,rfl,rfl,rfl,rfl,rfl,rfl,rfl,rfl,rfl,rfl,rfl,rfl,rfl,rfl,rfl,rfl,rfl,rfl,rfl,rfl,rfl,rfl,rfl,rfl,rfl,rfl,rfl,rfl,trivial⟩ (fun ρw1498=>?_)
 refine zb (zk (Yv (b:=B) rR qT mT rfl rfl (CellsAt.all (bk.b2)) (show _=(.bool true:Value)from rfl) ?_))
 rw[hT]
 refine⟨rfl,?_,(bk.s4_)⟩
 exact⟨U.ev.origin,U.ev.seq⟩
 have F:=zz F
 have hT:zU d L e=(true,0,0):=WM F
 refine zg rfl (za (yq (by kernel_rfl) (fun _=>(st (zL (parts':=[]) (v:=.agg #[Iv 0,Iv 0]) rfl (by simp+zetaDelta [Instr.build,Instr.fill,Ev.cells,go_sem,Mv.cells,Fld.cells,Typ.cells,Prj.cells,Dcl.cells,Cel.cells,AskR.cells,CelS.cells,Ev.cells,Ent.cells,Sta.cells,Cmd.cells]) (st (aS (.bool true) (stn (zp (v:=.agg #[Iv 0,Iv 0]) (c':=#[Iv 0,Iv 0]) mT rfl rfl (aD.b0) (zX ⟨rfl,rfl,trivial⟩) yqc rfl ?_)))))))))
 intro w1504 eD
 have bl:=aD.pt0 eD
 refine zb (zk (Yv (b:=B) rR qT mT rfl rfl (CellsAt.all (bl.b0)) (show _=(.bool true:Value)from rfl) ?_))
 rw[hT]
 refine⟨rfl,?_,(bl.s2_)⟩
 exact⟨(by decide:InR 0),(by decide:InR 0)⟩
set_option maxHeartbeats 8000000 in
theorem zaQ {b:Nat}{d:Dcl}{L:List Ent}{e:Ev}{de0:Value}(hde0:RdS W G de0 e.deps)(oe:e.Ok)(hS0:Sep G W ((RefV b d L)::Rs) w)(hd:DclOk d)(hrl:Ran d L)(hml:L.length≤1000000):Ret Tryz.prog 75 [.pointer (some ⟨b,0,none⟩),.agg (e.cells de0).toArray] w (fun r w'=> ∃(v:Value),r=(.agg ((yA d L e).cells v).toArray:Value)∧((yA d L e).Ok)∧Sep G W ((RefV b d (L++[yA d L e]))::(RowE (α:=Int) own 3 v e.deps)::Rs) w'):=by
 have hde0s:_*8≤_:=hde0.small
 refine zi (args:=[Ix b 0,.agg (e.cells de0).toArray]) Tryz.func75 rfl rfl ?_
 refine za (R0 fun _=>st (zM (v:=.agg (e.cells de0).toArray) rfl ?_))
 intro w3 b2 cm
 let cr:=Blk b2 (e.cells de0).toArray 44
 refine st (zq sR ?_)
 intro w7 P cn
 let bo:=Blk P #[Iv 0,Iv 0,Iv 0,(Iz),Iv 0,Iv 0,Iv 0,Iv 0,Iv 0,Iv 0,.bool false,Iv 0,Iv 0] 96
 have bI:=(hS0.new cm).new cn
 refine zb (za (R0 fun _=>st (mV (Ix b 0) (st (zh (k:=10) oT lT rfl rfl (CellsAt.all (bI.b1)) ?_)))))
 obtain⟨G10,ay,bK,bL,bM⟩:=(bI.mv2).lend
 obtain⟨vt16,vp17,ve18,hb19,bN,bO,bP⟩:=RefV.sh ay
 have hsm23:d.types.length*24≤140737488355328:=bN.small
 have hsm24:d.projs.length*40≤140737488355328:=bO.small
 have hsm25:L.length*120≤140737488355328:=bP.small
 refine st (cL Tryz.call97 (Jk (e:=e) ay (RdS.base hde0 bK) oe bL (hd) (hrl) (hml)) ?_)
 rintro _ w27 ⟨rfl,ad,bQ⟩
 have bR:=bM _ _ bQ
 refine st (mV (.tuple #[.bool ((zU d L e).1),.agg #[Iv ((zU d L e).2.1),Iv ((zU d L e).2.2)]]) (st (zm (vs:=[.bool ((zU d L e).1),.agg #[Iv ((zU d L e).2.1),Iv ((zU d L e).2.2)]]) (i:=0) (v:=.bool ((zU d L e).1)) rfl rfl (st (zm (vs:=[.bool ((zU d L e).1),.agg #[Iv ((zU d L e).2.1),Iv ((zU d L e).2.2)]]) (i:=1) (v:=.agg #[Iv ((zU d L e).2.1),Iv ((zU d L e).2.2)]) rfl rfl (st (zq wR ?_)))))))
 intro w32 K bS
 let cp:=Blk K #[Iv ((zU d L e).2.1),Iv ((zU d L e).2.2)] 41
 have az:=bR.new bS
 refine st (aS (.bool ((zU d L e).1)) (stn (zp (v:=.agg #[Iv ((zU d L e).2.1),Iv ((zU d L e).2.2)]) (c':=#[Iv ((zU d L e).2.1),Iv ((zU d L e).2.2)]) mT rfl rfl (az.b0) (zX ⟨rfl,rfl,trivial⟩) yqc rfl ?_)))
 intro co bT
 refine zb (za ?_)
 have hek:Ent.Ok (yA d L e):=⟨oe,ad.1,ad.2⟩
 obtain⟨t,u,z,bU⟩:=RefV.open ((az.pt0 bT).mv1)
 have H:Sep G W ((Blk b #[t,u,z] 103)::(RowE (α:=Typ) own 74 t d.types)::(RowE (α:=Prj) own 112 u d.projs)::(RowE (α:=Ent) own 96 z L)::cp::bo::cr::Rs) co:=bU
 have bV:=H.r1
 have hr42s:_*24≤_:=bV.2
 have bW:=H.r2
 have hr43s:_*40≤_:=bW.2
 have bX:=H.r3
 have hr44s:_*120≤_:=bX.2
 refine WD6 ((fun TT y=>WF [fun vals x=>Sep G W (y::TT) x,fun vals x=> ∃(a:Value),(vals 1=(.agg (e.cells a).toArray:Value))∧Sep G W ((RowE (α:=Int) own 3 a e.deps)::y::TT) x,fun vals x=> ∃(j:Nat),(vals 5=(Ix j 0:Value))∧Sep G W ((Blk j #[Iv 0,Iv 0,Iv 0,(Iz),Iv 0,Iv 0,Iv 0,Iv 0,Iv 0,Iv 0,.bool false,Iv 0,Iv 0] 96)::y::TT) x,fun vals x=> ∃(a:Value) (j:Nat),(vals 1=(.agg (e.cells a).toArray:Value))∧(vals 5=(Ix j 0:Value))∧Sep G W ((Blk j #[Iv 0,Iv 0,Iv 0,(Iz),Iv 0,Iv 0,Iv 0,Iv 0,Iv 0,Iv 0,.bool false,Iv 0,Iv 0] 96)::(RowE (α:=Int) own 3 a e.deps)::y::TT) x,fun _ _=>True,fun _ _=>True,fun _ _=>True,fun vals x=> ∃(a:Value) (j:Nat),(vals 1=(.agg (e.cells a).toArray:Value))∧(vals 5=(Ix j 0:Value))∧Sep G W ((Blk j ((yA d L e).cells a).toArray 96)::(RowE (α:=Int) own 3 a e.deps)::y::TT) x]) ((RowE (α:=Typ) own 74 t d.types)::(RowE (α:=Prj) own 112 u d.projs)::(RowE (α:=Ent) own 96 z L)::cp::bo::cr::Rs) (Blk b #[t,u,z] 103)) (AF [Vl 0 (.agg (e.cells de0).toArray),fun _=>True,Vl 2 (.bool ((zU d L e).1)),Vl 3 (.agg #[Iv ((zU d L e).2.1),Iv ((zU d L e).2.2)]),fun vals=> ∀(a:Value),vals 1=(.agg (e.cells a).toArray:Value)→vals 4=(.agg ((yA d L e).cells a).toArray:Value),fun _=>True,fun _=>True]) [[],[0],[],[],(rg 4),[],(rg 6)] [1,5,6] [[0,2],[0,2],(rg 4),(rg 4),[1,3],[0,1],[3]] H ⟨?_,?_,fun _ _ _ _ _ _=>obl rfl (mV (.bool ((zU d L e).1)) dR),?_,?_,?_,?_,trivial⟩ ?_ (hlocA:=yX ⟨dA,dT,dA,dA,fun vals l q h=>fun a C=>(q 4 (.inl rfl)).trans (h a ((q 1 (.inr dc)).symm.trans C)),dT,dT,trivial⟩)
 intro bY vals w110 aB ae hA111
 have X:bY∈[0,2]:=aB
 simp only[yt]at X
 rcases X with rfl|rfl
 have aC:Sep _ _ _ _:=ae
 exact obl rfl (zh (k:=10) oT lT rfl rfl (CellsAt.all (aC.b6)) dR)
 obtain⟨j,A,aD⟩:=ae
 exact obl rfl (zh (k:=10) oT lT rfl rfl (CellsAt.all (aD.b7)) dR)
 intro bZ vals w117 aE af ag
 have Y:bZ∈[0,2]:=aE
 simp only[yt]at Y
 rcases Y with rfl|rfl
 have aF:Sep _ _ _ _:=af
 refine obl rfl ((zH (f:=56) (vals:=[.agg (e.cells de0).toArray]) (cap:=[]) rfl (yE ⟨(ag 0 dc),trivial⟩) kR (xl (e:=e) hde0 oe aF) ?_))
 rintro _ w124 ⟨a,rfl,ah⟩
 have aG:=ah.r0
 have hr126s:_*8≤_:=aG.2
 exact fun l q m=>⟨(exiA a (zx q ah)),trivial⟩
 obtain⟨j,A,aH⟩:=af
 refine obl rfl ((zH (f:=56) (vals:=[.agg (e.cells de0).toArray]) (cap:=[]) rfl (yE ⟨(ag 0 dc),trivial⟩) kR (xl (e:=e) hde0 oe aH) ?_))
 rintro _ w130 ⟨a,rfl,ai⟩
 have aI:=ai.r0
 have hr132s:_*8≤_:=aI.2
 exact fun l q m=>⟨(exiA a (exiA j (zx q (zx ((m 5 dc).trans A) (ai.mv1))))),trivial⟩
 intro ca vals w140 aJ I hA141
 have Z:ca∈[0,1,2,3]:=aJ
 simp only[yt]at Z
 rcases Z with rfl|rfl|rfl|rfl
 have aK:Sep _ _ _ _:=I
 exact obl rfl (zh (k:=2) qT mT rfl rfl (CellsAt.all (aK.b4)) dR)
 obtain⟨a,s,aL⟩:=I
 exact obl rfl (zh (k:=2) qT mT rfl rfl (CellsAt.all (aL.b5)) dR)
 obtain⟨j,A,aM⟩:=I
 exact obl rfl (zh (k:=2) qT mT rfl rfl (CellsAt.all (aM.b5)) dR)
 obtain⟨a,j,s,A,aN⟩:=I
 exact obl rfl (zh (k:=2) qT mT rfl rfl (CellsAt.all (aN.b6)) dR)
 intro cb vals w149 aO aj J
 have aa:cb∈[1,3]:=aO
 simp only[yt]at aa
 rcases aa with rfl|rfl
 obtain⟨a,s,hS153⟩:=aj
 refine obl rfl (zL (parts':=[(0,.agg (e.cells a).toArray),(1,.bool ((zU d L e).1)),(2,.agg #[Iv ((zU d L e).2.1),Iv ((zU d L e).2.2)])]) (v:=.agg ((yA d L e).cells a).toArray) (Zi ⟨rfl,s,rfl,(J 2 (by decide)),rfl,(J 3 (by decide)),trivial⟩) (by simp+zetaDelta [Instr.build,Instr.fill,go_sem,Ent.cells,Ev.cells,yA]) (fun l q m=>⟨rfl,?_⟩))
 intro cc C
 rw[m 1 (by decide)]at C;cases s.symm.trans C
 exact q
 obtain⟨a,j,s,A,hS156⟩:=aj
 refine obl rfl (zL (parts':=[(0,.agg (e.cells a).toArray),(1,.bool ((zU d L e).1)),(2,.agg #[Iv ((zU d L e).2.1),Iv ((zU d L e).2.2)])]) (v:=.agg ((yA d L e).cells a).toArray) (Zi ⟨rfl,s,rfl,(J 2 (by decide)),rfl,(J 3 (by decide)),trivial⟩) (by simp+zetaDelta [Instr.build,Instr.fill,go_sem,Ent.cells,Ev.cells,yA]) (fun l q m=>⟨rfl,?_⟩))
 intro cc C
 rw[m 1 (by decide)]at C;cases s.symm.trans C
 exact q
 intro cd vals w160 aP ak hA161
 have ab:cd∈[0,1]:=aP
 simp only[yt]at ab
 rcases ab with rfl|rfl
 have aQ:Sep _ _ _ _:=ak
 refine obl rfl ((zq sR ?_))
 intro w167 j aR
 exact fun l q m=>⟨(exiA j (zx q (aQ.new aR))),trivial⟩
 obtain⟨a,s,aT⟩:=ak
 refine obl rfl ((zq sR ?_))
 intro w172 j aU
 exact fun l q m=>⟨(exiA a (exiA j (zx ((m 1 dc).trans s) (zx q (aT.new aU))))),trivial⟩
 intro ce vals w175 aV aW aX
 have ac:ce∈[3]:=aV
 simp only[yt]at ac
 subst ac
 obtain⟨a,j,s,A,Q⟩:=aW
 refine obl rfl ?_
 have cf:vals 4=(.agg ((yA d L e).cells a).toArray:Value):=aX 4 dc a s
 have al:=Q.r1
 have hr183s:_*8≤_:=al.2
 refine(zp (v:=.agg ((yA d L e).cells a).toArray) (c':=((yA d L e).cells a).toArray) uT A cf (Q.b0) (zX ⟨rfl,rfl,rfl,al.1.one,rfl,rfl,rfl,rfl,rfl,rfl,rfl,rfl,rfl,trivial⟩) yqc rfl ?_)
 intro w181 aY
 exact fun l q m=>⟨(exiA a (exiA j (zx ((m 1 dc).trans s) (zx ((m 5 dc).trans A) (Q.pt0 aY))))),trivial⟩
 intro vals w185 aZ hA187
 obtain⟨a,j,s,A,ba⟩:=aZ
 let cq:=(yA d L e).cells a
 refine zT (kv:=[(0,Ix b 0),(1,.agg (e.cells de0).toArray),(3,Ix b2 0),(4,Ix P 0),(9,Ix b 0),(10,.agg (e.cells de0).toArray),(11,.tuple #[.bool ((zU d L e).1),.agg #[Iv ((zU d L e).2.1),Iv ((zU d L e).2.2)]]),(8,.tuple #[.bool ((zU d L e).1),.agg #[Iv ((zU d L e).2.1),Iv ((zU d L e).2.2)]]),(12,.bool ((zU d L e).1)),(13,.agg #[Iv ((zU d L e).2.1),Iv ((zU d L e).2.2)]),(6,Ix K 0),(5,.bool ((zU d L e).1)),(7,Ix j 0)]) ⟨rfl,rfl,rfl,rfl,rfl,rfl,rfl,rfl,rfl,rfl,rfl,rfl,(by exact A),trivial⟩ (fun ρw185=>(zb (za ?_)))
 refine WD4 ((fun TT y N M E F O=>WF [fun vals x=>Sep G W (y::N::M::E::F::O::TT) x,fun vals x=> ∃(p:Nat),(vals 6=((Iy p 1 1):Value))∧Sep G W ((Blk p cq.toArray 96)::y::N::M::E::F::O::TT) x,fun vals x=> ∃(p:Nat) (n:Value),(vals 6=((Iy p 1 1):Value))∧(vals 7=(n:Value))∧Sep G W ((RowE (α:=Ent) own 96 n (L++[(yA d L e)]))::y::M::E::F::TT) x,fun vals x=> ∃(p:Nat) (n:Value),(vals 6=((Iy p 1 1):Value))∧(vals 7=(n:Value))∧Sep G W ((RowE (α:=Ent) own 96 n (L++[(yA d L e)]))::y::(Blk b #[t,u,n] 103)::E::F::TT) x]) (cp::bo::cr::Rs) (Blk j cq.toArray 96) (RowE (α:=Int) own 3 a e.deps) (Blk b #[t,u,z] 103) (RowE (α:=Typ) own 74 t d.types) (RowE (α:=Prj) own 112 u d.projs) (RowE (α:=Ent) own 96 z L)) (AF [Vl 0 (Ix b 0),Vl 1 (Ix b 0),Vl 2 (Ix b 0),Vl 3 (Ix b 2),Vl 4 (z),Vl 5 (.agg cq.toArray),fun _=>True,fun _=>True,Vl 8 (Ix b 0),Vl 9 (Ix b 2),fun _=>True]) [[],[],[1],[1,2],[1,2,3],[],[5],[1,2,3,4,5,6],(rg 8),(rg 9),(rg 10)] [6,7,10] [(0,2),(0,1),(0,1),(0,1),(0,1),(0,0),(0,0),(1,1),(2,2),(2,2),(2,2)] ba ⟨fun _ _ _ _ _ _ _=>obl rfl (mV (Ix b 0) dR),fun _ _ _ _ _ _ _=>obl rfl (mV (Ix b 0) dR),fun _ _ _ _ _ _ bb=>obl rfl (zo (b:=b) (o:=0) (bb 1 dc) dR),fun _ _ _ _ _ _ bc=>obl rfl (Zk (bc 2 dc) dR),?_,ob1 0 fun _ _ (bd:Sep _ _ _ _) _=>obl rfl (zh (k:=13) nY uT rfl rfl (CellsAt.all (bd.b0)) dR),?_,?_,fun _ _ _ _ _ _ be=>obl rfl (zo (b:=b) (o:=0) (be 0 dc) dR),fun _ _ _ _ _ _ bf=>obl rfl (Zk (bf 8 dc) dR),?_,trivial⟩ ?_
 refine fun R _ _ cg ch am an=>?_
 have hkk:=xk cg ch
 rcases hkk with rfl|rfl
 have bg:Sep _ _ _ _:=am
 exact obl rfl (lD z oR (an 3 dc) (zd (bg.b2) rfl) dR)
 obtain⟨p,D,bh⟩:=am
 exact obl rfl (lD z oR (an 3 dc) (zd (bh.b3) rfl) dR)
 refine ob1 0 fun _ _ (bi:Sep _ _ _ _) bj=>(obl rfl ((zI (k:=13) (parts':=[(0,.agg cq.toArray)]) (c:=cq.toArray) qR uT sR dc (Zi ⟨rfl,(bj 5 dc),trivial⟩) kr ?_)))
 intro w240 p bk
 exact fun l q m=>⟨(exiA p (zx q (bi.new bk))),trivial⟩
 refine ob1 1 fun _ _ bl bm=>?_
 obtain⟨p,D,ao⟩:=bl
 refine obl rfl ?_
 have aA:=ao.b0
 refine(yj (src:=own) (bytes:=120) (x1:=(yA d L e)) (ao.s10_gcbdefhij) zcc (bm 4 (by decide)) D aA (fun _ _ hN=>⟨_,rfl,RowE.soft hN,hek⟩) yqb rfl ?_)
 intro n w251 ap
 have bn:=ap.r0
 have hr256s:_*120≤_:=bn.2
 exact fun l q m=>⟨(exiA p (exiA n (zx ((m 6 dc).trans D) (zx q ap)))),trivial⟩
 refine ob1 2 fun _ _ bp bq=>?_
 obtain⟨p,n,D,S,T⟩:=bp
 refine obl rfl ?_
 have aq:=T.r0
 have hr282s:_*120≤_:=aq.2
 refine(ym (v:=n) (c:=[t,u,z]) (c':=[t,u,n]) Tryz.sizeOf56 (bq 9 dc) S (T.b2) aq.1.one rfl rfl ?_)
 intro w280 br
 exact fun l q m=>⟨(exiA p (exiA n (zx ((m 6 dc).trans D) (zx ((m 7 dc).trans S) (T.pt2 br))))),trivial⟩
 intro vals w341 bs hA343
 obtain⟨p,n,D,S,bt⟩:=bs
 refine zT (kv:=[(0,Ix b 0),(1,.agg (e.cells de0).toArray),(3,Ix b2 0),(4,Ix P 0),(9,Ix b 0),(10,.agg (e.cells de0).toArray),(11,.tuple #[.bool ((zU d L e).1),.agg #[Iv ((zU d L e).2.1),Iv ((zU d L e).2.2)]]),(8,.tuple #[.bool ((zU d L e).1),.agg #[Iv ((zU d L e).2.1),Iv ((zU d L e).2.2)]]),(12,.bool ((zU d L e).1)),(13,.agg #[Iv ((zU d L e).2.1),Iv ((zU d L e).2.2)]),(6,Ix K 0),(5,.bool ((zU d L e).1)),(7,Ix j 0)]) sEv (fun ρw341=>(zb (za ?_)))
 refine WD4 ((fun TT y N M E F O bJ=>WF [fun vals x=>Sep G W (y::N::M::E::F::O::bJ::TT) x,fun vals x=> ∃(g:Value),(vals 1=(.agg (e.cells g).toArray:Value))∧Sep G W ((RowE (α:=Int) own 3 g e.deps)::y::N::M::E::F::O::bJ::TT) x,fun vals x=> ∃(g:Value),(vals 1=(.agg (e.cells g).toArray:Value))∧Sep G W ((RowE (α:=Int) own 3 g e.deps)::y::N::M::E::F::O::(Blk P ((yA d L e).cells g).toArray 96)::TT) x]) (cr::Rs) (RowE (α:=Ent) own 96 n (L++[(yA d L e)])) (Blk j cq.toArray 96) (Blk b #[t,u,n] 103) (RowE (α:=Typ) own 74 t d.types) (RowE (α:=Prj) own 112 u d.projs) cp bo) (AF [Vl 0 (.agg (e.cells de0).toArray),fun _=>True,Vl 2 (.bool ((zU d L e).1)),Vl 3 (.agg #[Iv ((zU d L e).2.1),Iv ((zU d L e).2.2)]),fun vals=> ∀(g:Value),vals 1=(.agg (e.cells g).toArray:Value)→vals 4=(.agg ((yA d L e).cells g).toArray:Value),fun _=>True]) [[],[0],[],[],(rg 4),(rg 5)] [1,5] [(0,0),(0,0),(0,1),(0,1),(1,1),(1,1)] bt ⟨ob1 0 fun _ _ (bu:Sep _ _ _ _) _=>obl rfl (zh (k:=10) oT lT rfl rfl (CellsAt.all (bu.b7)) dR),?_,fun _ _ _ _ _ _ _=>obl rfl (mV (.bool ((zU d L e).1)) dR),?_,?_,?_,trivial⟩ ?_ (hlocA:=yX ⟨dA,dT,dA,dA,fun vals l q h=>fun g C=>(q 4 (.inl rfl)).trans (h g ((q 1 (.inr dc)).symm.trans C)),dT,trivial⟩)
 refine ob1 0 fun vals _ (bv:Sep _ _ _ _) bw=>(obl rfl ((zH (f:=56) (vals:=[.agg (e.cells de0).toArray]) (cap:=[]) rfl (yE ⟨(bw 0 dc),trivial⟩) kR (xl (e:=e) hde0 oe bv) ?_)))
 rintro _ w361 ⟨g,rfl,ar⟩
 have bx:=ar.r0
 have hr363s:_*8≤_:=bx.2
 exact fun l q m=>⟨(exiA g (zx q ar)),trivial⟩
 refine fun U _ _ ci cj au _=>?_
 have hkk:=xk ci cj
 rcases hkk with rfl|rfl
 have bz:Sep _ _ _ _:=au
 exact obl rfl (zh (k:=2) qT mT rfl rfl (CellsAt.all (bz.b5)) dR)
 obtain⟨g,B,bA⟩:=au
 exact obl rfl (zh (k:=2) qT mT rfl rfl (CellsAt.all (bA.b6)) dR)
 refine ob1 1 fun _ _ bB av=>?_
 obtain⟨g,B,hS426⟩:=bB
 refine obl rfl (zL (parts':=[(0,.agg (e.cells g).toArray),(1,.bool ((zU d L e).1)),(2,.agg #[Iv ((zU d L e).2.1),Iv ((zU d L e).2.2)])]) (v:=.agg ((yA d L e).cells g).toArray) (Zi ⟨rfl,B,rfl,(av 2 (by decide)),rfl,(av 3 (by decide)),trivial⟩) (by simp+zetaDelta [Instr.build,Instr.fill,go_sem,Ent.cells,Ev.cells,yA]) (fun l q m=>⟨rfl,?_⟩))
 intro v360q C
 rw[m 1 (by decide)]at C;cases B.symm.trans C
 exact q
 refine ob1 1 fun vals _ bC bD=>?_
 obtain⟨g,B,V⟩:=bC
 have ck:vals 4=(.agg ((yA d L e).cells g).toArray:Value):=bD 4 dc g B
 refine obl rfl ?_
 have aw:=V.r0
 have hr397s:_*8≤_:=aw.2
 refine(zp (v:=.agg ((yA d L e).cells g).toArray) (c':=((yA d L e).cells g).toArray) uT rfl ck (V.b7) (zX ⟨rfl,rfl,rfl,aw.1.one,rfl,rfl,rfl,rfl,rfl,rfl,rfl,rfl,rfl,trivial⟩) yqc rfl ?_)
 intro w395 bE
 exact fun l q m=>⟨(exiA g (zx ((m 1 dc).trans B) (V.pt7 bE))),trivial⟩
 intro vals cl bF hA431
 obtain⟨g,B,ax⟩:=bF
 refine zT (kv:=[(0,Ix b 0),(1,.agg (e.cells de0).toArray),(3,Ix b2 0),(4,Ix P 0),(9,Ix b 0),(10,.agg (e.cells de0).toArray),(11,.tuple #[.bool ((zU d L e).1),.agg #[Iv ((zU d L e).2.1),Iv ((zU d L e).2.2)]]),(8,.tuple #[.bool ((zU d L e).1),.agg #[Iv ((zU d L e).2.1),Iv ((zU d L e).2.2)]]),(12,.bool ((zU d L e).1)),(13,.agg #[Iv ((zU d L e).2.1),Iv ((zU d L e).2.2)]),(6,Ix K 0),(5,.bool ((zU d L e).1)),(7,Ix j 0)]) sEv (fun ρw429=>(zb (zk (Ve (b:=P) Tryz.results75 nY uT rfl rfl (CellsAt.all (ax.b7)) ?_))))
 have bG:Sep _ _ ((RefV b d (L++[yA d L e]))::_) _:=RefV.close (d:=d) (L:=(L++[yA d L e])) (ax.s9_defbacghi)
 have bH:Sep G W ((RefV b d (L++[yA d L e]))::(RowE (α:=Int) own 3 g e.deps)::Rs) cl:=bG.sel 6 [0,1] (Nat.le_add_left _ _) rfl rfl
 refine⟨g,rfl,hek,bH⟩
section
variable {n:Nat}{L T:List Ev}{e x:Ev}
theorem Kz: ∀{T:List Ev},(∀x∈T,ZU x e<0)→xo e T=T++[e]
 |[],_=>rfl
 |x::l,h=>by
  have h1:=h x (List.mem_cons_self ..)
  have h2: ¬ltE e x=true:=fun h3=>JV h1 (Kd.1 h3)
  simp only[xo]
  rw[if_neg h2,Kz fun y hy=>h y (List.mem_cons_of_mem _ hy)];rfl
theorem Good.at_lt (h:Good n L){i j:Nat}(hij:i<j)(hj:j<L.length):ZU (L.getD i default) (L.getD j default)<0:=by
 rw[zB _ (by omega),zB _ hj]
 exact List.pairwise_iff_getElem.1 h.srt i j (by omega) hj hij
theorem zaY {i:Nat}(hx:x∈L.take i): ∃j,j<i∧j<L.length∧x=L.getD j default:=by
 obtain⟨j,hj,rfl⟩:=List.getElem_of_mem hx
 rw[List.length_take]at hj
 refine⟨j,by omega,by omega,?_⟩
 rw[zB _ (by omega),List.getElem_take]
theorem US {i:Nat}(hi:i<L.length):L.getD i default∈L:=by rw[zB _ hi];exact List.getElem_mem hi
theorem Zt {i:Nat}(hi:i<L.length):L.take (i+1)=L.take i++[L.getD i default]:=by
 rw[List.take_succ_eq_append_getElem hi,zB _ hi]
theorem Good.ins_take (h:Good n L){i:Nat}(hi:i<L.length):xo (L.getD i default) (L.take i)=L.take (i+1):=by
 rw[Zt hi]
 refine Kz fun x hx=>?_
 obtain⟨j,h1,h2,rfl⟩:=zaY hx
 exact h.at_lt h1 hi
theorem zbU (h:Good n L){i:Nat}(hi:i<L.length):(zu n (L.take i)).set (L.getD i default).origin.toNat ((zu n (L.take i)).getD (L.getD i default).origin.toNat 0+1)=zu n (L.take (i+1)):=by
 obtain⟨⟨h0,h1⟩,_⟩:=Zq (h.chk _ (US hi))
 rw[Xd (by omega),KV h0 h1,h.ins_take hi]
theorem Good.chk_at (h:Good n L){i:Nat}(hi:i<L.length):(0≤(L.getD i default).origin∧(L.getD i default).origin<n)∧(L.getD i default).deps.length=n:=by
 obtain⟨h0,_,h2,_⟩:=Zq (h.chk _ (US hi))
 exact⟨h0,h2⟩
end
section
variable {n:Nat}{L:List Ev}{e:Ev}
theorem zaI: ∀{L:List Ev} {x:Ev},x∈L→x.lam≤zK L
 |y::l,x,hx=>by
  show x.lam≤max (zK l) y.lam
  rcases List.mem_cons.1 hx with rfl|hx
  ·omega
  ·have:=zaI hx;omega
theorem zbw: ∀{L:List Ev},L≠[]→(∀x∈L,1≤x.lam)→ ∃x∈L,zK L=x.lam
 |[y],_,h=>⟨y,List.mem_cons_self ..,by have:=h y (List.mem_cons_self ..);show max 0 y.lam=y.lam;omega⟩
 |y::z::l,_,h=>by
  obtain⟨x,hx,he⟩:=zbw (L:=z::l) (by simp) (fun x hx=>h x (List.mem_cons_of_mem _ hx))
  have e:zK (y::z::l)=max (zK (z::l)) y.lam:=rfl
  rcases Int.le_total (zK (z::l)) y.lam with h1|h1
  ·exact⟨y,List.mem_cons_self ..,by rw[e];omega⟩
  ·exact⟨x,List.mem_cons_of_mem _ hx,by rw[e];omega⟩
theorem UK (h:Good n L)(hne:0<L.length):zK L=(L.getD (L.length-1) default).lam:=by
 have hl:L.length-1<L.length:=by omega
 rw[zB _ hl]
 obtain⟨x,hx,he⟩:=zbw (L:=L) (fun e=>by rw[e]at hne;exact absurd hne (Nat.lt_irrefl 0)) (fun x hx=>(Zq (h.chk x hx)).2.1.2)
 have h1:=zaI (List.getElem_mem hl)
 obtain⟨i,hi,rfl⟩:=List.getElem_of_mem hx
 by_cases hil:i=L.length-1
 ·subst hil;exact he
 ·have:=List.pairwise_iff_getElem.1 h.srt i (L.length-1) hi hl (by omega)
  rw[xU]at this
  omega
end
end
section
open Go.RowKit
def alt {α:Type}[Rep α](F:Nat→Prop)(W:World):Src α:=
 ⟨fun cs x=>⟨fun w f=>((own (α:=α)).el cs x).p w f∨Rep.rd W F cs x,fun h hf=>h.imp (fun h=>((own (α:=α)).el cs x).loc h hf) id⟩,fun{w f cs x} h=>h.elim (fun h=>(own (α:=α)).len (w:=w) (f:=f) h) Rep.len,fun{w f cs x} h=>h.elim (fun h=>(own (α:=α)).one (w:=w) (f:=f) h) Rep.one⟩
section
variable {α:Type}[Rep α]{G:Nat→Prop}{W w:World}{As:List HP}{T:TypeId}{v:Value}{l:List α}
theorem Sep.lendA (h:Sep G W (RowE (own (α:=α)) T v l::As) w): ∃F G':Nat→Prop,RdS w F v l∧Kf F w G' w∧Kf G W G' w∧Sep G' w As w∧
 (∀(T':TypeId) (v':Value) (l':List α) (Cs:List HP) (w':World),Sep G' w (RowE (alt F w) T' v' l'::Cs) w'→Sep G W (RowE (own (α:=α)) T' v' l'::Cs) w'):=by
 obtain⟨fs,h1,h2⟩:=h.parts
 obtain⟨hA,hl⟩:=h1 0 _ rfl
 refine⟨fun b=>fs 0 b∧Soft w b,fun b=>G b∨fs 0 b,RowE.soft hA,fun b hb _=>⟨rfl,.inr hb.1⟩,fun b hb hlt=>⟨(h.kept.keep b hb).2,.inl hb⟩,⟨Kept.refl (fun b hb=>?_),fun i=>fs (i+1),fun i C hC=>?_,fun i j hi hj hne=>?_⟩,fun T' v' l' Cs w' hC=>?_⟩
 ·rcases hb with hb|hb
  ·have:=(h.kept.keep b hb).1;have:=h.kept.size;omega
  ·exact(hl b hb).2
 ·obtain⟨h3,h4⟩:=h1 (i+1) C (by simpa using hC)
  have hi:=(List.getElem?_eq_some_iff.1 hC).1
  exact⟨h3,fun b hb=>⟨fun hg=>hg.elim (h4 b hb).1 (fun h0=>h2 0 (i+1) (by simp) (by simp;omega) (by omega) b h0 hb),(h4 b hb).2⟩⟩
 ·exact h2 _ _ (by simp;omega) (by simp;omega) (by omega)
 ·obtain⟨gs,g1,g2⟩:=hC.parts
  have hkA: ∀b,fs 0 b→w'.heap[b]? =w.heap[b]? :=fun b hb=>(hC.kept.keep b (.inr hb)).2
  have old: ∀j,j<Cs.length+1→ ∀b,gs j b→ ¬fs 0 b:=fun j hj b hb h0=>((g1 j _ (List.getElem?_eq_getElem (by simpa using hj))).2 b hb).1 (.inr h0)
  refine⟨⟨hC.kept.os.trans h.kept.os,hC.kept.tape.trans h.kept.tape,hC.kept.output.trans h.kept.output,Nat.le_trans h.kept.size hC.kept.size,Nat.le_trans h.kept.drawn hC.kept.drawn,fun b hb=>⟨(h.kept.keep b hb).1,((hC.kept.keep b (.inl hb)).2).trans (h.kept.keep b hb).2⟩⟩,
   fun i b=>match i with|0=>gs 0 b∨fs 0 b|i+1=>gs (i+1) b,fun i D hD=>?_,fun i j hi hj hne b hb=>?_⟩
  ·cases i with
   |zero=>
    simp only[List.getElem?_cons_zero,Option.some.injEq]at hD
    subst hD
    obtain⟨⟨css,hE,hown,hrow,hsm⟩,h4⟩:=g1 0 _ rfl
    refine⟨⟨css,hE.mono (fun cs x hx=>?_),hown,fun b hb=>.inl (hrow b hb),hsm⟩,fun b hb=>?_⟩
    ·rcases hx with hx|hx
     ·exact((own (α:=α)).el cs x).weak hx (fun b hb _=>⟨.inl hb.1,hb.2⟩)
     ·exact Rep.mono hx (fun b hb hlt=>⟨hkA b hb.1,⟨.inr hb.1,fun e=>old 0 (Nat.succ_pos _) b (hrow b e) hb.1⟩,hb.2.keep (hkA b hb.1)⟩)
    ·rcases hb with hb|hb
     ·exact⟨fun hg=>(h4 b hb).1 (.inl hg),(h4 b hb).2⟩
     ·exact⟨(hl b hb).1,Nat.lt_of_lt_of_le (hl b hb).2 hC.kept.size⟩
   |succ i=>
    obtain⟨h3,h4⟩:=g1 (i+1) D hD
    exact⟨h3,fun b hb=>⟨fun hg=>(h4 b hb).1 (.inl hg),(h4 b hb).2⟩⟩
  ·simp only[List.length_cons]at hi hj
   cases i with
   |zero=>
    cases j with
    |zero=>exact(hne rfl).elim
    |succ j=>
     intro hb2
     rcases hb with hb|hb
     ·exact g2 0 (j+1) (by simp) (by simpa using hj) (by omega) b hb hb2
     ·exact old (j+1) hj b hb2 hb
   |succ i=>
    cases j with
    |zero=>
     rintro(hb2|hb2)
     ·exact g2 (i+1) 0 (by simpa using hi) (by simp) (by omega) b hb hb2
     ·exact old (i+1) hi b hb hb2
    |succ j=>exact g2 (i+1) (j+1) (by simpa using hi) (by simpa using hj) hne b hb
end
theorem RdS.evG {w:World}{F:Nat→Prop}{v:Value}{l:List Ev}{i:Nat}(h:RdS w F v l)(hi:i<l.length):Rep.rd w F ((l.getD i default).cells (zN w (sb v) (so v+i*10+3))) (l.getD i default):=by
 obtain⟨_,h1,h2⟩:=h.ev hi
 rw[zB default hi]
 exact⟨_,rfl,h1,h2⟩
end
section
set_option maxRecDepth 8000
set_option maxHeartbeats 4000000
open Go.Proofs Go.RowKit
def RefS (b n:Nat)(L:List Ev):HP:=Ex1 fun vl=>Star [Blk b #[.int .i64 ((n:Nat):Int),vl] 93,RowE (α:=Ev) own 44 vl L]
section
variable {G:Nat→Prop}{W w:World}{As:List HP}{b n:Nat}{L:List Ev}
theorem RefS.open (h:Sep G W (RefS b n L::As) w): ∃vl,Sep G W (Blk b #[.int .i64 ((n:Nat):Int),vl] 93::RowE (α:=Ev) own 44 vl L::As) w:=by
 obtain⟨vl,h⟩:=h.openEx
 exact⟨vl,h.openStar⟩
theorem RefS.close {vl:Value}(h:Sep G W (Blk b #[.int .i64 ((n:Nat):Int),vl] 93::RowE (α:=Ev) own 44 vl L::As) w):Sep G W (RefS b n L::As) w:=Sep.closeEx (A:=fun vl=>Star [Blk b #[.int .i64 ((n:Nat):Int),vl] 93,RowE (α:=Ev) own 44 vl L]) vl (Sep.closeStar (Bs:=[Blk b #[.int .i64 ((n:Nat):Int),vl] 93,RowE (α:=Ev) own 44 vl L]) h)
theorem RefS.sh (h:(RefS b n L).p W G): ∃vl,(Blk b #[.int .i64 ((n:Nat):Int),vl] 93).p W G∧RdS W G vl L:=by
 obtain⟨vl,h⟩:=h
 exact⟨vl,Star.at_ h (i:=0) rfl,RowE.rd (T:=44) (Star.at_ h (i:=1) rfl)⟩
end
theorem zch {n:Nat}(hn:n≤1000)(hS0:Sep G W Rs w):Ret Tryz.prog 31 [.int .i64 ((n:Nat):Int)] w (fun r w'=> ∃(b:Nat),r=(.pointer (some ⟨b,0,none⟩):Value)∧Sep G W ((RefS b n ([]:List Ev))::Rs) w'):=by
 refine zi (args:=[Iw n]) Tryz.func31 rfl rfl ?_
 refine za (yq (by kernel_rfl) (fun _=>(st (aS (.pointer none) (zb (za (yq (by kernel_rfl) (fun _=>(st (mV (Iw n) (st (zL (parts':=[(0,Iw n)]) (v:=.agg #[Iw n,(Iz)]) rfl (by simp[Instr.build,Instr.fill,go_sem]) (st (zM (v:=.agg #[Iw n,(Iz)]) rfl ?_))))))))))))))
 intro e b2 a
 refine st (aS (Ix b2 0) (zb (zk (zG Tryz.results31 (show _=(Ix b2 0:Value)from rfl) ?_))))
 have c:Sep _ _ ((RowE (α:=Ev) own 44 (Iz) ([]:List Ev))::_) _:=(hS0.new a).rowNil own 44
 have d:Sep G W ((RefS b2 n ([]:List Ev))::Rs) e:=RefS.close (n:=n) (L:=([]:List Ev)) (c.mv1)
 refine⟨b2,rfl,d⟩
theorem zcu {b:Nat}{n:Nat}{L:List Ev}(hb:(RefS b n L).p W G)(hS0:Sep G W Rs w)(hG:Good n L):Ret Tryz.prog 51 [.pointer (some ⟨b,0,none⟩)] w (fun r w'=>r=(.int .i64 ((zK L)):Value)∧(InR (zK L))∧Sep G W Rs w'):=by
 refine zi (args:=[Ix b 0]) Tryz.func51 rfl rfl ?_
 obtain⟨c,l,d⟩:=RefS.sh hb
 have hsm4:L.length*96≤140737488355328:=d.small
 refine za (R0 fun _=>st (aS (Iv 0) (zb (za (za (R0 fun _=>st (mV (Ix b 0) (st (zo (b:=b) (o:=0) rfl (st (xq rfl (st (lD c pT rfl (zd (hS0.gblk l) rfl) (st (zJ (n:=L.length) nT rfl d.sl (st (zR (k:=.i64) (a:=((L.length:Nat):Int)) (b:=0) rfl rfl (zb ?_))))))))))))))))))
 cases f:decide (((L.length:Nat):Int)=0)
 have f:=fD f
 refine ze rfl (zl (za ?_))
 refine WD4 (WF [fun vals Q=>Sep G W Rs Q]) (AF [Vl 0 (Ix b 0),Vl 1 (Ix b 0),Vl 2 (Ix b 1),Vl 3 (c),Vl 4 (Ix b 0),Vl 5 (Ix b 0),Vl 6 (Ix b 1),Vl 7 (c),Vl 8 (Iw L.length),Vl 9 (Iw (L.length-1)),Vl 10 (Ix (sb c) (so c+(L.length-1)*10)),Vl 11 (Ix (sb c) (so c+(L.length-1)*10+2)),Vl 12 (Iv ((L.getD (L.length-1) default).lam)),Vl 13 (Iv ((L.getD (L.length-1) default).lam))]) [[],[0],[0,1],[0,1,2],[],[4],[4,5],[4,5,6],[4,5,6,7],[4,5,6,7,8],(rg 10),(rg 11),(rg 12),(rg 13)] [] [(0,0),(0,0),(0,0),(0,0),(0,0),(0,0),(0,0),(0,0),(0,0),(0,0),(0,0),(0,0),(0,0),(0,0)] hS0 ⟨fun _ _ _ _ _ _ _=>obl rfl (mV (Ix b 0) dR),fun _ _ _ _ _ _ s=>obl rfl (zo (b:=b) (o:=0) (s 0 dc) dR),fun _ _ _ _ _ _ t=>obl rfl (xq (t 1 dc) dR),ob1 0 fun _ _ (u:Sep _ _ _ _) x=>obl rfl (lD c pT (x 2 dc) (zd (u.gblk l) rfl) dR),fun _ _ _ _ _ _ _=>obl rfl (mV (Ix b 0) dR),fun _ _ _ _ _ _ y=>obl rfl (zo (b:=b) (o:=0) (y 4 dc) dR),fun _ _ _ _ _ _ z=>obl rfl (xq (z 5 dc) dR),ob1 0 fun _ _ (A:Sep _ _ _ _) B=>obl rfl (lD c pT (B 6 dc) (zd (A.gblk l) rfl) dR),ob1 0 fun _ _ _ C=>obl rfl (zJ (n:=L.length) nT (C 7 dc) d.sl dR),?_,?_,fun _ _ _ _ _ _ D=>obl rfl (xC (D 10 dc) dR),?_,fun _ _ _ _ _ _ E=>obl rfl (zY (v:=Iv ((L.getD (L.length-1) default).lam)) (E 12 dc) dR),trivial⟩ ?_
 refine ob1 0 fun _ _ _ F=>(obl rfl ?_)
 have H:InR ((L.length-1:Nat):Int):=bo
 exact YU (r:=((L.length-1:Nat):Int)) (k:=.i64) (a:=((L.length:Nat):Int)) (b:=1) (F 8 (by decide)) rfl (by rw[show(((L.length:Nat):Int)-1:Int)=((L.length-1:Nat):Int)from bo];exact zF H) dR
 refine ob1 0 fun _ _ _ g=>(obl rfl ?_)
 have I:L.length-1<L.length:=bo
 exact zj (k:=10) (i:=L.length-1) nT lT (g 3 dc) d.sl (g 9 dc) I dR
 refine ob1 0 fun _ _ (J:Sep _ _ _ _) K=>(obl rfl ?_)
 have h:L.length-1<L.length:=bo
 obtain⟨m,e,hoke213⟩:=d.evD h
 have hsm215:((L.getD (L.length-1) default).deps).length*8≤140737488355328:=e.small
 have q:=J.cells m (d.foot (ne_of_lt h))
 exact lD (Iv ((L.getD (L.length-1) default).lam)) kT (K 11 dc) (q.get (j:=2) rfl) dR
 intro vals w224 M N
 have O:Sep _ _ _ _:=M
 have P:=N 13 dc
 refine zT (kv:=[(0,Ix b 0),(2,Iv ((L.getD (L.length-1) default).lam)),(3,Ix b 0),(4,Ix b 0),(5,Ix b 1),(6,c),(7,Iw L.length),(8,.bool false)]) ⟨rfl,(by exact P),rfl,rfl,rfl,rfl,rfl,rfl,trivial⟩ (fun ρw224=>(zb (zk (zG oY (show _=(Iv ((L.getD (L.length-1) default).lam):Value)from rfl) ?_))))
 refine⟨?_,?_,O⟩
 rw[UK hG (by omega)]
 rw[UK hG (by omega),zB default (by omega)];exact(d.ev (by omega)).2.2.lam
 have f:=tD f
 refine zg rfl (za (R0 fun _=>st (aS (Iv 0) (zb (zk (zG oY (show _=(Iv 0:Value)from rfl) ?_))))))
 refine⟨?_,?_,hS0⟩
 rw[show L=[]from List.length_eq_zero_iff.1 (by omega)];rfl
 rw[show L=[]from List.length_eq_zero_iff.1 (by omega)];decide
section
variable {L:List Ev}{o q:Int}{k:Nat}
theorem zcz (hm: ∀i,i<k→ ¬((L.getD i default).origin=o∧(L.getD i default).seq=q))(hk:k<L.length)(h:(L.getD k default).origin=o∧(L.getD k default).seq=q):yb L (o,q)=some (L.getD k default):=by
 unfold yb
 rw[List.find?_eq_some_iff_getElem,zB _ hk]
 rw[zB _ hk]at h
 refine⟨by simpa using h,k,hk,rfl,fun i hi=>?_⟩
 have:=hm i hi
 rw[zB _ (by omega)]at this
 rw[decide_eq_false this];rfl
theorem zbi (hm: ∀i,i<L.length→ ¬((L.getD i default).origin=o∧(L.getD i default).seq=q)):yb L (o,q)=none:=by
 unfold yb
 rw[List.find?_eq_none]
 intro x hx
 obtain⟨i,hi,rfl⟩:=List.getElem_of_mem hx
 have:=hm i hi
 rw[zB _ hi]at this
 rw[decide_eq_false this];decide
end
theorem Ky {b:Nat}{n:Nat}{L:List Ev}(hb:(RefS b n L).p W G){o q:Int}(ho:InR o)(hq:InR q)(hS0:Sep G W Rs w):Ret Tryz.prog 71 [.pointer (some ⟨b,0,none⟩),.agg #[.int .i64 (o),.int .i64 (q)]] w (fun r w'=> ∃(v:Value),r=(.tuple #[.agg (((yb L (o,q)).getD default).cells v).toArray,.bool (yb L (o,q)).isSome]:Value)∧(((yb L (o,q)).getD default).Ok)∧Sep G W ((RowE (α:=Int) own 3 v (((yb L (o,q)).getD default).deps))::Rs) w'):=by
 refine zi (args:=[Ix b 0,.agg #[Iv o,Iv q]]) Tryz.func71 rfl rfl ?_
 let p:=((⟨0,0,0,[],0,0,0,0,0,0⟩:Ev).cells (Iz))
 obtain⟨d,F,f⟩:=RefS.sh hb
 have hsm4:L.length*96≤140737488355328:=f.small
 refine za (R0 fun _=>st (zM (v:=.agg #[Iv o,Iv q]) rfl ?_))
 intro w7 N ai
 refine st (zq pR ?_)
 intro w11 l aj
 refine st (aS (.bool false) (zb (za (za (R0 fun _=>st (aS (Iv 0) (zb (zn (zZ (fun mq σ wq=> ∃(k:Nat) (ρ:Env),mq=L.length-k∧σ=yd ρ [(3,Ix N 0),(4,Ix l 0),(0,Ix b 0),(6,Iw k)]∧(k≤L.length)∧(∀i,i<k→ ¬((L.getD i default).origin=o∧(L.getD i default).seq=q))∧Sep G W ((Blk l #[Iv 0,Iv 0,Iv 0,(Iz),Iv 0,Iv 0,Iv 0,Iv 0,Iv 0,Iv 0] 44)::(Blk N #[Iv o,Iv q] 41)::Rs) wq) ⟨0,_,rfl,sSf,Nat.zero_le _,(fun i h=>absurd h (Nat.not_lt_zero i)),((hS0.new ai).new aj)⟩ ?_)))))))))
 rintro m14 σ15 w13 ⟨k,ρl1,rfl,rfl,hkk,hm,s⟩
 refine za (za (R0 fun _=>st (mV (Iw k) (st (mV (Ix b 0) (st (zo (b:=b) (o:=0) rfl (st (xq rfl (st (lD d pT rfl (zd (s.gblk F) rfl) (st (zJ (n:=L.length) nT rfl f.sl (st (zC (k:=.i64) (a:=((k:Nat):Int)) (b:=((L.length:Nat):Int)) rfl rfl (zb ?_))))))))))))))))
 cases t:decide (((k:Nat):Int)<((L.length:Nat):Int))
 have t:=fD t
 refine ze rfl (ya (zS (za (R0 fun _=>?_))))
 have ae:Ev.Ok (⟨0,0,0,[],0,0,0,0,0,0⟩:Ev):=⟨(show InR (0)from dc),(show InR (0)from dc),(show InR (0)from dc),(show InR (0)from dc),(show InR (0)from dc),(show InR (0)from dc),(show InR (0)from dc),(show InR (0)from dc),(show InR (0)from dc)⟩
 refine st (zL (parts':=[]) (v:=.agg p.toArray) rfl (by simp+zetaDelta [Instr.build,Instr.fill,Ev.cells,go_sem,Mv.cells,Fld.cells,Typ.cells,Prj.cells,Dcl.cells,Cel.cells,AskR.cells,CelS.cells,Ev.cells,Ent.cells,Sta.cells,Cmd.cells]) (stn (zp (v:=.agg p.toArray) (c':=p.toArray) lT rfl rfl (s.b0) (zX ⟨rfl,rfl,rfl,rfl,rfl,rfl,rfl,rfl,rfl,rfl,trivial⟩) yqc rfl ?_)))
 intro w19 af
 have H:=s.pt0 af
 refine st (aS (.bool false) (zb (zk (xD (b:=l) pY oT lT rfl rfl (CellsAt.all (H.b0)) (show _=(.bool false:Value)from rfl) ?_))))
 have ag:Sep _ _ ((RowE (α:=Int) own 3 (Iz) ([]:List Int))::_) _:=H.rowNil own 3
 rw[zbi (fun i hi=>hm i (by omega))]
 refine⟨(Iz),?_,?_,(ag.s3_a)⟩
 rfl
 exact ae
 have t:=tD t
 refine zg rfl (zl (za (zn (za ?_))))
 refine WD4 (WF [fun vals wq=>Sep G W ((Blk l #[Iv 0,Iv 0,Iv 0,(Iz),Iv 0,Iv 0,Iv 0,Iv 0,Iv 0,Iv 0] 44)::(Blk N #[Iv o,Iv q] 41)::Rs) wq]) (AF [Vl 0 (Ix b 0),Vl 1 (Ix b 0),Vl 2 (Ix b 1),Vl 3 (d),Vl 4 (Iw k),Vl 5 (Ix (sb d) (so d+k*10)),Vl 6 (Ix (sb d) (so d+k*10)),Vl 7 (.agg #[Iv ((L.getD k default).origin),Iv ((L.getD k default).seq)]),Vl 8 (.agg #[Iv o,Iv q]),Vl 9 (.bool (decide ((L.getD k default).origin=o∧(L.getD k default).seq=q)))]) [[],[0],[0,1],[0,1,2],[],(rg 5),(rg 6),(rg 7),[],(rg 9)] [] [(0,0),(0,0),(0,0),(0,0),(0,0),(0,0),(0,0),(0,0),(0,0),(0,0)] s ⟨fun _ _ _ _ _ _ _=>obl rfl (mV (Ix b 0) dR),fun _ _ _ _ _ _ O=>obl rfl (zo (b:=b) (o:=0) (O 0 dc) dR),fun _ _ _ _ _ _ P=>obl rfl (xq (P 1 dc) dR),ob1 0 fun _ _ (Q:Sep _ _ _ _) R=>obl rfl (lD d pT (R 2 dc) (zd (Q.gblk F) rfl) dR),fun _ _ _ _ _ _ _=>obl rfl (mV (Iw k) dR),?_,fun _ _ _ _ _ _ S=>obl rfl (yp (S 5 dc) dR),?_,ob1 0 fun _ _ (T:Sep _ _ _ _) _=>obl rfl (zh (k:=2) qT mT rfl rfl (CellsAt.all (T.b1)) dR),ob1 0 fun _ _ _ z=>obl rfl (YE (e:=decide ((L.getD k default).origin=o∧(L.getD k default).seq=q)) (xs:=#[Iv ((L.getD k default).origin),Iv ((L.getD k default).seq)]) (ys:=#[Iv o,Iv q]) zdn (z 7 dc) (z 8 dc) dR),trivial⟩ ?_
 refine ob1 0 fun _ _ _ A=>(obl rfl ?_)
 have U:k<L.length:=bo
 exact zj (k:=10) (i:=k) nT lT (A 3 dc) f.sl (A 4 dc) U dR
 refine ob1 0 fun _ _ (V:Sep _ _ _ _) X=>(obl rfl ?_)
 have B:k<L.length:=bo
 obtain⟨I,x,hoke162⟩:=f.evD B
 have hsm164:((L.getD k default).deps).length*8≤140737488355328:=x.small
 have J:=V.cells I (f.foot (ne_of_lt B))
 exact zh (k:=2) (cs:=[Iv ((L.getD k default).origin),Iv ((L.getD k default).seq)]) qT mT rfl (X 6 dc) (CellsAt.sub J 0 (cs2:=[Iv ((L.getD k default).origin),Iv ((L.getD k default).seq)]) rfl) dR
 intro vals w182 Y Z
 have g:Sep _ _ _ _:=Y
 have ah:=Z 9 dc
 refine zT (kv:=[(3,Ix N 0),(4,Ix l 0),(0,Ix b 0),(6,Iw k),(7,Iw k),(8,Ix b 0),(9,Ix b 0),(10,Ix b 1),(11,d),(12,Iw L.length),(13,.bool true),(25,.bool (decide ((L.getD k default).origin=o∧(L.getD k default).seq=q)))]) ⟨rfl,rfl,rfl,rfl,rfl,rfl,rfl,rfl,rfl,rfl,rfl,(by exact ah),trivial⟩ (fun ρw182=>(zb ?_))
 cases c:decide ((L.getD k default).origin=o∧(L.getD k default).seq=q)
 have c:=fD c
 refine ze rfl (zl (R0 fun _=>st (mV (Iw k) ?_)))
 have aa:InR ((k+1:Nat):Int):=bo
 refine st (zP (r:=((k+1:Nat):Int)) (k:=.i64) (a:=((k:Nat):Int)) (b:=1) rfl rfl (by rw[show(((k:Nat):Int)+1:Int)=((k+1:Nat):Int)from bo];exact zF aa) (st (aS (Iw (k+1)) (zb ?_))))
 exact⟨_,by omega,k+1,_,rfl,sSf,by omega,(yL hm (by simpa using c)),g⟩
 have c:=tD c
 refine zg rfl (za (R0 fun _=>st (mV (Ix b 0) (st (zo (b:=b) (o:=0) rfl (st (xq rfl (st (lD d pT rfl (zd (g.gblk F) rfl) (st (mV (Iw k) ?_)))))))))))
 have ab:k<L.length:=bo
 refine st (zj (k:=10) (i:=k) nT lT rfl f.sl rfl ab ?_)
 have C:k<L.length:=bo
 obtain⟨K,j,m⟩:=f.evD C
 have hsm192:((L.getD k default).deps).length*8≤140737488355328:=j.small
 have M:=g.cells K (f.foot (ne_of_lt C))
 refine st (zh (k:=10) oT lT rfl rfl M (st (cL kR (xl (e:=(L.getD k default)) j m g) ?_)))
 rintro _ w195 ⟨y,rfl,u⟩
 have D:=u.r0
 have hr197s:_*8≤_:=D.2
 refine stn (zp (v:=.agg ((L.getD k default).cells y).toArray) (c':=((L.getD k default).cells y).toArray) lT rfl rfl (u.b1) (zX ⟨rfl,rfl,rfl,D.1.one,rfl,rfl,rfl,rfl,rfl,rfl,trivial⟩) yqc rfl ?_)
 intro w198 ac
 have E:=u.pt1 ac
 refine st (aS (.bool true) (zb (zk (xD (b:=l) pY oT lT rfl rfl (CellsAt.all (E.b1)) (show _=(.bool true:Value)from rfl) ?_))))
 rw[zcz hm (by omega) (by simpa using c)]
 refine⟨y,?_,?_,(E.s3_a)⟩
 rfl
 exact m
end
section
set_option maxRecDepth 8000
set_option maxHeartbeats 4000000
open Go.Proofs Go.RowKit
theorem Uu {b:Nat}{n:Nat}{L:List Ev}(hb:(RefS b n L).p W G)(hS0:Sep G W Rs w)(hG:Good n L)(hn:n≤1000):Ret Tryz.prog 50 [.pointer (some ⟨b,0,none⟩)] w (fun r w'=> ∃(v:Value),r=(v:Value)∧Sep G W ((RowE (α:=Int) own 3 v (zu n L))::Rs) w'):=by
 refine zi (args:=[Ix b 0]) Tryz.func50 rfl rfl ?_
 obtain⟨c,q,d⟩:=RefS.sh hb
 have hsm4:L.length*96≤140737488355328:=d.small
 refine za (R0 fun _=>st (aS (Iz) (zb (za (R0 fun _=>st (mV (Ix b 0) (st (zo (b:=b) (o:=0) rfl (st (Uy rfl (st (lD (Iw n) kT rfl (zd (hS0.gblk q) rfl) (st (xW (α:=Int) (T:=3) (bytes:=8) (n:=n) (x1:=(0:Int)) rT ⟨_,_,rfl,rfl,rfl,rfl,rfl,fun _ _=>⟨rfl,by decide⟩⟩ rfl rfl rfl (by show n*8≤140737488355328;omega) ?_))))))))))))))
 intro ar M az he7 hl8 au
 have g:Sep G W ((RowE (α:=Int) own 3 (Iy M n n) (List.replicate n (0:Int)))::Rs) ar:=hS0.made az au
 have aw:=g.r0
 have hr12s:_*8≤_:=aw.2
 refine st (aS (Iy M n n) (zb (za (za ?_))))
 rw[Ql]at g
 have ax:Sep G W ((RowE (α:=Int) own 3 (Iy M n n) (zu n []))::Rs) ar:=g
 refine R0 fun _=>st (aS (Iv 0) (zb (zn (zZ (fun mq σ E=> ∃(k:Nat) (vo:Value) (ρ:Env),mq=L.length-k∧σ=yd ρ [(0,Ix b 0),(4,Iw k),(3,vo)]∧(k≤L.length)∧Sep G W ((RowE (α:=Int) own 3 vo (zu n (L.take k)))::Rs) E) ⟨0,(Iy M n n),_,rfl,sSf,Nat.zero_le _,ax⟩ ?_))))
 rintro m15 σ16 w14 ⟨k,vo,ρl1,rfl,rfl,hkk,e⟩
 let p:=Ix (sb c) (so c+k*10)
 have h:=e.r0
 have hr18s:_*8≤_:=h.2
 refine za (za (R0 fun _=>st (mV (Iw k) (st (mV (Ix b 0) (st (zo (b:=b) (o:=0) rfl (st (xq rfl (st (lD c pT rfl (zd (e.gblk q) rfl) (st (zJ (n:=L.length) nT rfl d.sl (st (zC (k:=.i64) (a:=((k:Nat):Int)) (b:=((L.length:Nat):Int)) rfl rfl (zb ?_))))))))))))))))
 cases f:decide (((k:Nat):Int)<((L.length:Nat):Int))
 have hc19r:=f
 have f:=fD f
 refine ze rfl (ya (zS (za (R0 fun _=>st (mV vo (st (aS vo (zb (zk (zG Tryz.results50 (show _=(vo:Value)from rfl) ?_))))))))))
 have aA:k=L.length:=by omega
 rw[aA,List.take_length]at e
 refine⟨vo,rfl,e⟩
 have f:=tD f
 refine zg rfl (zl (za (zn ?_)))
 obtain⟨⟨au,ho9'⟩,hd9⟩:=hG.chk_at (i:=k) om
 have hvl9:(zu n (L.take k)).length=n:=Yt
 have ay:=XV (L:=L.take k) (o:=(L.getD k default).origin.toNat)
 rw[List.length_take]at ay
 have hva9:(zu n (L.take k)).getD (L.getD k default).origin.toNat 0=_:=Xd om
 refine WD4 (WF [fun vals E=>Sep G W ((RowE (α:=Int) own 3 vo (zu n (L.take k)))::Rs) E,fun vals E=>Sep G W ((RowE (α:=Int) own 3 vo ((zu n (L.take k)).set (((L.getD k default).origin).toNat) (((zu n (L.take k)).getD (((L.getD k default).origin).toNat) 0)+1)))::Rs) E]) (AF [Vl 0 (vo),Vl 1 (Ix b 0),Vl 2 (Ix b 0),Vl 3 (Ix b 1),Vl 4 (c),Vl 5 (Iw k),Vl 6 p,Vl 7 p,Vl 8 p,Vl 9 (Iv ((L.getD k default).origin)),Vl 10 (vo),Vl 11 (Ix b 0),Vl 12 (Ix b 0),Vl 13 (Ix b 1),Vl 14 (c),Vl 15 (Iw k),Vl 16 p,Vl 17 p,Vl 18 p,Vl 19 (Iv ((L.getD k default).origin)),Vl 20 (Ix (sb vo) (so vo+(((L.getD k default).origin).toNat)*1)),Vl 21 (Iv (((zu n (L.take k)).getD (((L.getD k default).origin).toNat) 0))),Vl 22 (Iv (((zu n (L.take k)).getD (((L.getD k default).origin).toNat) 0)+1)),Vl 23 (Ix (sb vo) (so vo+(((L.getD k default).origin).toNat)*1)),fun _=>True]) [[],[],[1],[1,2],[1,2,3],[],[1,2,3,4,5],[1,2,3,4,5,6],[1,2,3,4,5,6,7],[1,2,3,4,5,6,7,8],[],[],[11],[11,12],[11,12,13],[],[11,12,13,14,15],[11,12,13,14,15,16],[11,12,13,14,15,16,17],[11,12,13,14,15,16,17,18],[10,11,12,13,14,15,16,17,18,19],[10,11,12,13,14,15,16,17,18,19,20],[10,11,12,13,14,15,16,17,18,19,20,21],(rg 23),(rg 24)] [24] [(0,0),(0,0),(0,0),(0,0),(0,0),(0,0),(0,0),(0,0),(0,0),(0,0),(0,0),(0,0),(0,0),(0,0),(0,0),(0,0),(0,0),(0,0),(0,0),(0,0),(0,0),(0,0),(0,0),(0,0),(0,0)] e ⟨fun _ _ _ _ _ _ _=>obl rfl (mV vo dR),fun _ _ _ _ _ _ _=>obl rfl (mV (Ix b 0) dR),fun _ _ _ _ _ _ N=>obl rfl (zo (b:=b) (o:=0) (N 1 dc) dR),fun _ _ _ _ _ _ O=>obl rfl (xq (O 2 dc) dR),ob1 0 fun _ _ (P:Sep _ _ _ _) Q=>obl rfl (lD c pT (Q 3 dc) (zd (P.gblk q) rfl) dR),fun _ _ _ _ _ _ _=>obl rfl (mV (Iw k) dR),?_,fun _ _ _ _ _ _ R=>obl rfl (yp (R 6 dc) dR),fun _ _ _ _ _ _ S=>obl rfl (xa (S 7 dc) dR),?_,fun _ _ _ _ _ _ _=>obl rfl (mV vo dR),fun _ _ _ _ _ _ _=>obl rfl (mV (Ix b 0) dR),fun _ _ _ _ _ _ U=>obl rfl (zo (b:=b) (o:=0) (U 11 dc) dR),fun _ _ _ _ _ _ V=>obl rfl (xq (V 12 dc) dR),ob1 0 fun _ _ (X:Sep _ _ _ _) Y=>obl rfl (lD c pT (Y 13 dc) (zd (X.gblk q) rfl) dR),fun _ _ _ _ _ _ _=>obl rfl (mV (Iw k) dR),?_,fun _ _ _ _ _ _ Z=>obl rfl (yp (Z 16 dc) dR),fun _ _ _ _ _ _ aa=>obl rfl (xa (aa 17 dc) dR),?_,?_,?_,?_,?_,?_,trivial⟩ ?_
 refine ob1 0 fun _ _ _ s=>(obl rfl ?_)
 have ab:k<L.length:=bo
 exact zj (k:=10) (i:=k) nT lT (s 4 dc) d.sl (s 5 dc) ab dR
 refine ob1 0 fun _ _ (ac:Sep _ _ _ _) ad=>(obl rfl ?_)
 have t:k<L.length:=bo
 obtain⟨F,l,hoke296⟩:=d.evD t
 have hsm298:((L.getD k default).deps).length*8≤140737488355328:=l.small
 have H:=ac.cells F (d.foot (ne_of_lt t))
 exact lD (Iv ((L.getD k default).origin)) kT (ad 8 dc) (H.get (j:=0) rfl) dR
 refine ob1 0 fun _ _ _ x=>(obl rfl ?_)
 have ae:k<L.length:=bo
 exact zj (k:=10) (i:=k) nT lT (x 14 dc) d.sl (x 15 dc) ae dR
 refine ob1 0 fun _ _ (af:Sep _ _ _ _) ag=>(obl rfl ?_)
 have y:k<L.length:=bo
 obtain⟨I,m,hoke372⟩:=d.evD y
 have hsm374:((L.getD k default).deps).length*8≤140737488355328:=m.small
 have J:=af.cells I (d.foot (ne_of_lt y))
 exact lD (Iv ((L.getD k default).origin)) kT (ag 18 dc) (J.get (j:=0) rfl) dR
 refine ob1 0 fun _ _ _ z=>(obl rfl ?_)
 have hi385:((L.getD k default).origin).toNat<(zu n (L.take k)).length:=bo
 exact zr (k:=1) (i:=(L.getD k default).origin) rT sT (z 10 dc) h.1 (z 19 dc) ⟨by omega,by omega⟩ dR
 refine ob1 0 fun _ _ (ah:Sep _ _ _ _) ai=>(obl rfl ?_)
 have aj:((L.getD k default).origin).toNat<(zu n (L.take k)).length:=bo
 obtain⟨_,_,K,rfl,hxe394⟩:=ah.rowAtI (i:=0) (j:=((L.getD k default).origin).toNat) rfl aj
 exact lD (Iv (((zu n (L.take k)).getD (((L.getD k default).origin).toNat) 0))) kT (ai 20 dc) (K.get (j:=0) rfl) dR
 refine ob1 0 fun _ _ _ ak=>(obl rfl ?_)
 have al:InR (((zu n (L.take k)).getD (((L.getD k default).origin).toNat) 0)+1):=by omega
 exact zP (r:=((zu n (L.take k)).getD (((L.getD k default).origin).toNat) 0)+1) (k:=.i64) (a:=((zu n (L.take k)).getD (((L.getD k default).origin).toNat) 0)) (b:=1) (ak 21 dc) rfl (zF al) dR
 refine ob1 0 fun _ _ _ A=>(obl rfl ?_)
 have hi414:((L.getD k default).origin).toNat<(zu n (L.take k)).length:=bo
 exact zr (k:=1) (i:=(L.getD k default).origin) rT sT (A 0 dc) h.1 (A 9 dc) ⟨by omega,by omega⟩ dR
 refine ob1 0 fun _ _ (am:Sep _ _ _ _) B=>(obl rfl ?_)
 refine(yP (α:=Int) (j:=((L.getD k default).origin).toNat) (o:=0) (u:=Iv (((zu n (L.take k)).getD (((L.getD k default).origin).toNat) 0)+1)) (us:=[Iv (((zu n (L.take k)).getD (((L.getD k default).origin).toNat) 0)+1)]) (x1:=((zu n (L.take k)).getD (((L.getD k default).origin).toNat) 0)+1) (am.emp1) sT bo (B 23 (by decide)) (B 22 (by decide)) rfl (Nat.le_of_ble_eq_true rfl) (zX ⟨rfl,trivial⟩) (fun _ _ av hel _=>(by have aB:=Src.len _ hel;have e0:av.take 0++(([Iv (((zu n (L.take k)).getD (((L.getD k default).origin).toNat) 0)+1)]:List Value))++av.drop (0+(([Iv (((zu n (L.take k)).getD (((L.getD k default).origin).toNat) 0)+1)]:List Value)).length)=(([Iv (((zu n (L.take k)).getD (((L.getD k default).origin).toNat) 0)+1)]:List Value)):=(by rw[List.drop_eq_nil_of_le (by rw[aB];exact Nat.le_of_ble_eq_true rfl)];simp);rw[e0];exact(show _ from⟨rfl,(by omega)⟩))) ?_)
 intro w220 C
 have an:=C.r0
 have hr223s:_*8≤_:=an.2
 exact fun vals' hv hv'=>⟨C,trivial⟩
 intro vals w415 ao hA417
 have D:Sep _ _ _ _:=ao
 refine zT (kv:=[(0,Ix b 0),(4,Iw k),(3,vo),(10,Iw k),(11,Ix b 0),(12,Ix b 0),(13,Ix b 1),(14,c),(15,Iw L.length),(16,.bool true)]) sEv (fun ρw415=>(zb (R0 fun _=>st (mV (Iw k) ?_))))
 have ap:InR ((k+1:Nat):Int):=bo
 refine st (zP (r:=((k+1:Nat):Int)) (k:=.i64) (a:=((k:Nat):Int)) (b:=1) rfl rfl (by rw[show(((k:Nat):Int)+1:Int)=((k+1:Nat):Int)from bo];exact zF ap) (st (aS (Iw (k+1)) (zb ?_))))
 have aq:(zu n (L.take (k+1)))=(zu n (L.take k)).set (((L.getD k default).origin).toNat) (((zu n (L.take k)).getD (((L.getD k default).origin).toNat) 0)+1):=(zbU hG om).symm
 rw[←aq]at D
 exact⟨_,by omega,k+1,vo,_,rfl,sSf,by omega,D⟩
theorem zbL {b:Nat}{n:Nat}{L:List Ev}(hb:(RefS b n L).p W G){e:Ev}{de0:Value}(hde0:RdS W G de0 e.deps)(oe:e.Ok){o:Nat}(ho:o<n)(hS0:Sep G W Rs w)(hel:e.deps.length=n)(hlen: ∀y∈L,y.deps.length=n):Ret Tryz.prog 72 [.pointer (some ⟨b,0,none⟩),.agg (e.cells de0).toArray,.int .i64 ((o:Nat):Int)] w (fun r w'=>r=(.bool ((xB L e o)):Value)∧Sep G W Rs w'):=by
 have hde0s:_*8≤_:=hde0.small
 refine zi (args:=[Ix b 0,.agg (e.cells de0).toArray,Iw o]) Tryz.func72 rfl rfl ?_
 obtain⟨vl1,az,aA⟩:=RefS.sh hb
 have hsm4:L.length*96≤140737488355328:=aA.small
 refine za (R0 fun _=>st (zM (v:=.agg (e.cells de0).toArray) rfl ?_))
 intro w7 J aB
 have q:=hS0.new aB
 refine st (aS (.bool false) (zb (za (za (R0 fun _=>st (yQ rfl (st (lD de0 vT rfl (zd (q.b0) rfl) (st (mV (Iw o) ?_))))))))))
 have aC:o<e.deps.length:=bo
 refine st (zj (k:=1) (i:=o) rT sT rfl hde0.sl rfl aC ?_)
 have x:o<e.deps.length:=bo
 obtain⟨C,S⟩:=hde0.intD x
 have T:=q.cells C (hde0.foot (ne_of_lt x))
 refine st (lD (Iv ((e.deps.getD o 0))) kT rfl (T.get (j:=0) rfl) (st (zR (k:=.i64) (a:=(e.deps.getD o 0)) (b:=0) rfl rfl (zb ?_))))
 cases d:decide ((e.deps.getD o 0)=0)
 have hc13r:=d
 have d:=fD d
 refine ze rfl (zl (za (R0 fun _=>st (mV (Ix b 0) (st (mV (Iw o) (st (yQ rfl (st (lD de0 vT rfl (zd (q.b0) rfl) (st (mV (Iw o) ?_))))))))))))
 have al:o<e.deps.length:=bo
 refine st (zj (k:=1) (i:=o) rT sT rfl hde0.sl rfl al ?_)
 have U:=q.cells C (hde0.foot (ne_of_lt x))
 refine st (lD (Iv ((e.deps.getD o 0))) kT rfl (U.get (j:=0) rfl) (st (zL (parts':=[(0,Iw o),(1,Iv ((e.deps.getD o 0)))]) (v:=.agg #[Iw o,Iv ((e.deps.getD o 0))]) rfl (by simp+zetaDelta [Instr.build,Instr.fill,Ev.cells,go_sem,Mv.cells,Fld.cells,Typ.cells,Prj.cells,Dcl.cells,Cel.cells,AskR.cells,CelS.cells,Ev.cells,Ent.cells,Sta.cells,Cmd.cells]) (st (cL Tryz.call71 (Ky (o:=((o:Nat):Int)) hb (by omega) S q) ?_)))))
 rintro _ w19 ⟨c,rfl,hgo18,K⟩
 let p:=(((yb L (((o:Nat):Int),(e.deps.getD o 0))).getD default).cells c)
 have z:=K.r0
 have hr21s:_*8≤_:=z.2
 refine st (mV (.tuple #[.agg p.toArray,.bool (yb L (((o:Nat):Int),(e.deps.getD o 0))).isSome]) (st (zm (vs:=[.agg p.toArray,.bool ((yb L (((o:Nat):Int),(e.deps.getD o 0))).isSome)]) (i:=0) (v:=.agg p.toArray) rfl rfl (st (zm (vs:=[.agg p.toArray,.bool ((yb L (((o:Nat):Int),(e.deps.getD o 0))).isSome)]) (i:=1) (v:=.bool ((yb L (((o:Nat):Int),(e.deps.getD o 0))).isSome)) rfl rfl (st (zq pR ?_)))))))
 intro w24 s am
 have M:=K.new am
 refine stn (zp (v:=.agg p.toArray) (c':=p.toArray) lT rfl rfl (M.b0) (zX ⟨rfl,rfl,rfl,z.1.one,rfl,rfl,rfl,rfl,rfl,rfl,trivial⟩) yqc rfl ?_)
 intro w26 an
 have t:=M.pt0 an
 refine st (aS (.bool ((yb L (((o:Nat):Int),(e.deps.getD o 0))).isSome)) (zb (za (za (zA kr (st (mV (.bool ((yb L (((o:Nat):Int),(e.deps.getD o 0))).isSome)) (st (yB (a:=(yb L (((o:Nat):Int),(e.deps.getD o 0))).isSome) rfl (st (mV (.bool (!((yb L (((o:Nat):Int),(e.deps.getD o 0))).isSome))) (stc (V:=Ix s 2) rfl rfl (fun ao=>?_) ?_))))))))))))
 have ap:=ao
 try simp only[zf]at ap
 exact xC rfl ⟨rfl,rfl⟩
 refine stc (V:=Iv (((yb L (((o:Nat):Int),(e.deps.getD o 0))).getD default).lam)) rfl rfl (fun N=>?_) ?_
 have aq:=N
 try simp only[zf]at aq
 exact lD (Iv (((yb L (((o:Nat):Int),(e.deps.getD o 0))).getD default).lam)) kT (if_pos N) (zd (t.b0) rfl) ⟨rfl,rfl⟩
 refine stc (V:=Ix J 2) rfl rfl (fun ar=>?_) ?_
 have au:=ar
 try simp only[zf]at au
 exact xC rfl ⟨rfl,rfl⟩
 refine stc (V:=Iv (e.lam)) rfl rfl (fun O=>?_) ?_
 have av:=O
 try simp only[zf]at av
 exact lD (Iv (e.lam)) kT (if_pos O) (zd (t.b2) rfl) ⟨rfl,rfl⟩
 refine stc (V:=.bool (decide (e.lam≤(((yb L (((o:Nat):Int),(e.deps.getD o 0))).getD default).lam)))) rfl rfl (fun A=>?_) ?_
 have aw:=A
 try simp only[zf]at aw
 exact yR (k:=.i64) (a:=((yb L (((o:Nat):Int),(e.deps.getD o 0))).getD default).lam) (b:=e.lam) (if_pos A) (if_pos A) ⟨rfl,rfl⟩
 refine st (zt (b:= !((yb L (((o:Nat):Int),(e.deps.getD o 0))).isSome)) (b':=decide (e.lam≤(((yb L (((o:Nat):Int),(e.deps.getD o 0))).getD default).lam))) rfl (fun hbp=>(if_pos hbp)) (zb ?_))
 cases u:(!((yb L (((o:Nat):Int),(e.deps.getD o 0))).isSome))||(decide (e.lam≤(((yb L (((o:Nat):Int),(e.deps.getD o 0))).getD default).lam)))
 have l:=u
 try simp only[zf]at u
 have g:=l
 simp only[Bool.or_eq_false_iff,Bool.not_eq_false',decide_eq_false_iff_not,Bool.not_eq_eq_eq_not,Bool.not_false]at g
 have hxl9:((yb L (((o:Nat):Int),(e.deps.getD o 0))).getD default).deps.length=n:=UL hlen rfl g.1
 refine ze rfl (zl (za (za (R0 fun _=>st (aS (Iv 0) (zb (zn (zZ (fun mq σ wq=> ∃(k:Nat) (ρ:Env),mq=n-k∧σ=yd ρ [(0,Ix b 0),(4,Ix J 0),(7,Ix s 0),(9,Iw k)]∧(k≤n)∧(∀i,i<k→((yb L (((o:Nat):Int),(e.deps.getD o 0))).getD default).deps.getD i 0≤e.deps.getD i 0)∧Sep G W ((Blk s (((yb L (((o:Nat):Int),(e.deps.getD o 0))).getD default).cells c).toArray 44)::(RowE (α:=Int) own 3 c (((yb L (((o:Nat):Int),(e.deps.getD o 0))).getD default).deps))::(Blk J (e.cells de0).toArray 44)::Rs) wq) ⟨0,_,rfl,sSf,Nat.zero_le _,(fun i h=>absurd h (Nat.not_lt_zero i)),t⟩ ?_))))))))
 rintro m41 σ42 w40 ⟨k,ρl1,rfl,rfl,hkk,hm,B⟩
 refine za (za (R0 fun _=>st (mV (Iw k) (st (mV (Ix b 0) (st (zo (b:=b) (o:=0) rfl (st (Uy rfl (st (lD (Iw n) kT rfl (zd (B.gblk az) rfl) (st (zC (k:=.i64) (a:=((k:Nat):Int)) (b:=((n:Nat):Int)) rfl rfl (zb ?_))))))))))))))
 cases m:decide (((k:Nat):Int)<((n:Nat):Int))
 have hc44r:=m
 have m:=fD m
 refine ze rfl (ya (zS (za (R0 fun _=>st (aS (.bool true) (zb (zk (zG tR (show _=(.bool true:Value)from rfl) ?_))))))))
 refine⟨?_,(B.s3_)⟩
 rw[Xx d rfl g.1,decide_eq_true (show((yb L (((o:Nat):Int),(e.deps.getD o 0))).getD default).lam<e.lam by omega),Bool.true_and]
 rw[List.all_eq_true.2 (fun i hi=>decide_eq_true (hm i (by have:=List.mem_range.1 hi;omega)))]
 have m:=tD m
 refine zg rfl (zl (za (zn (za ?_))))
 refine WD4 (WF [fun vals wq=>Sep G W ((Blk s p.toArray 44)::(RowE (α:=Int) own 3 c (((yb L (((o:Nat):Int),(e.deps.getD o 0))).getD default).deps))::(Blk J (e.cells de0).toArray 44)::Rs) wq]) (AF [Vl 0 (Ix s 3),Vl 1 (c),Vl 2 (Iw k),Vl 3 (Ix (sb c) (so c+k*1)),Vl 4 (Iv (((((yb L (((o:Nat):Int),(e.deps.getD o 0))).getD default).deps).getD k 0))),Vl 5 (Ix J 3),Vl 6 (de0),Vl 7 (Iw k),Vl 8 (Ix (sb de0) (so de0+k*1)),Vl 9 (Iv ((e.deps.getD k 0))),Vl 10 (.bool (decide ((e.deps.getD k 0)<((((yb L (((o:Nat):Int),(e.deps.getD o 0))).getD default).deps).getD k 0))))]) [[],[0],[],[0,1,2],(rg 4),[],[5],[],[5,6,7],[5,6,7,8],(rg 10)] [] [(0,0),(0,0),(0,0),(0,0),(0,0),(0,0),(0,0),(0,0),(0,0),(0,0),(0,0)] B ⟨fun _ _ _ _ _ _ _=>obl rfl (yQ rfl dR),ob1 0 fun _ _ (X:Sep _ _ _ _) Y=>obl rfl (lD c vT (Y 0 dc) (zd (X.b0) rfl) dR),fun _ _ _ _ _ _ _=>obl rfl (mV (Iw k) dR),?_,?_,fun _ _ _ _ _ _ _=>obl rfl (yQ rfl dR),ob1 0 fun _ _ (Z:Sep _ _ _ _) aa=>obl rfl (lD de0 vT (aa 5 dc) (zd (Z.b2) rfl) dR),fun _ _ _ _ _ _ _=>obl rfl (mV (Iw k) dR),?_,?_,ob1 0 fun _ _ _ D=>obl rfl (yT (k:=.i64) (a:=((((yb L (((o:Nat):Int),(e.deps.getD o 0))).getD default).deps).getD k 0)) (b:=(e.deps.getD k 0)) (D 4 dc) (D 9 dc) dR),trivial⟩ ?_
 refine ob1 0 fun _ _ _ E=>(obl rfl ?_)
 have ab:k<(((yb L (((o:Nat):Int),(e.deps.getD o 0))).getD default).deps).length:=bo
 exact zj (k:=1) (i:=k) rT sT (E 1 dc) z.1 (E 2 dc) ab dR
 refine ob1 0 fun _ _ (ac:Sep _ _ _ _) ad=>(obl rfl ?_)
 have ae:k<(((yb L (((o:Nat):Int),(e.deps.getD o 0))).getD default).deps).length:=bo
 obtain⟨_,_,P,rfl,hxe174⟩:=ac.rowAtI (i:=1) (j:=k) rfl ae
 exact lD (Iv (((((yb L (((o:Nat):Int),(e.deps.getD o 0))).getD default).deps).getD k 0))) kT (ad 3 dc) (P.get (j:=0) rfl) dR
 refine ob1 0 fun _ _ _ F=>(obl rfl ?_)
 have af:k<e.deps.length:=bo
 exact zj (k:=1) (i:=k) rT sT (F 6 dc) hde0.sl (F 7 dc) af dR
 refine ob1 0 fun _ _ (ag:Sep _ _ _ _) ah=>(obl rfl ?_)
 have H:k<e.deps.length:=bo
 obtain⟨Q,hxe214⟩:=hde0.intD H
 have R:=ag.cells Q (hde0.foot (ne_of_lt H))
 exact lD (Iv ((e.deps.getD k 0))) kT (ah 8 dc) (R.get (j:=0) rfl) dR
 intro vals w226 ai aj
 have I:Sep _ _ _ _:=ai
 have ay:=aj 10 dc
 refine zT (kv:=[(0,Ix b 0),(4,Ix J 0),(7,Ix s 0),(9,Iw k),(37,Iw k),(38,Ix b 0),(39,Ix b 0),(40,Ix b 0),(41,Iw n),(42,.bool true),(55,.bool (decide ((e.deps.getD k 0)<((((yb L (((o:Nat):Int),(e.deps.getD o 0))).getD default).deps).getD k 0))))]) ⟨rfl,rfl,rfl,rfl,rfl,rfl,rfl,rfl,rfl,rfl,(by exact ay),trivial⟩ (fun ρw226=>(zb ?_))
 cases f:decide ((e.deps.getD k 0)<((((yb L (((o:Nat):Int),(e.deps.getD o 0))).getD default).deps).getD k 0))
 have hc231r:=f
 have f:=fD f
 refine ze rfl (zl (R0 fun _=>st (mV (Iw k) ?_)))
 have ak:InR ((k+1:Nat):Int):=bo
 refine st (zP (r:=((k+1:Nat):Int)) (k:=.i64) (a:=((k:Nat):Int)) (b:=1) rfl rfl (by rw[show(((k:Nat):Int)+1:Int)=((k+1:Nat):Int)from bo];exact zF ak) (st (aS (Iw (k+1)) (zb ?_))))
 exact⟨_,by omega,k+1,_,rfl,sSf,by omega,(yL hm om),I⟩
 have f:=tD f
 refine zg rfl (za (R0 fun _=>st (aS (.bool false) (zb (zk (zG tR (show _=(.bool false:Value)from rfl) ?_))))))
 refine⟨?_,(I.s3_)⟩
 rw[Xx d rfl g.1,decide_eq_true (show((yb L (((o:Nat):Int),(e.deps.getD o 0))).getD default).lam<e.lam by omega),Bool.true_and]
 congr 1
 symm
 rw[List.all_eq_false]
 exact⟨k,List.mem_range.2 (by omega),by simp only[decide_eq_true_eq];omega⟩
 have l:=u
 try simp only[zf]at u
 refine zg rfl (za (R0 fun _=>st (aS (.bool false) (zb (zk (zG tR (show _=(.bool false:Value)from rfl) ?_))))))
 refine⟨?_,(t.s3_)⟩
 cases g:(yb L (((o:Nat):Int),e.deps.getD o 0)).isSome
 rw[zaG d g]
 rw[Xx d rfl g]
 have h9: ¬((yb L (((o:Nat):Int),(e.deps.getD o 0))).getD default).lam<e.lam:=by rw[g]at l;simpa using l
 rw[decide_eq_false h9];rfl
 have d:=tD d
 refine zg rfl (za (R0 fun _=>st (aS (.bool true) (zb (zk (zG tR (show _=(.bool true:Value)from rfl) ?_))))))
 refine⟨?_,(q.s1_)⟩
 rw[zbK d]
theorem Xb {l:List Int}{k:Nat}(hk:k<l.length)(h:l.getD k 0<0):Yg l=true:=by
 unfold Yg
 rw[List.any_eq_true]
 exact⟨l.getD k 0,by rw[zB _ hk];exact List.getElem_mem hk,by simpa using h⟩
theorem Xh {l:List Int}(h: ∀i,i<l.length→ ¬l.getD i 0<0):Yg l=false:=by
 unfold Yg
 rw[List.any_eq_false]
 intro x hx
 obtain⟨i,hi,rfl⟩:=List.getElem_of_mem hx
 have:=h i hi
 rw[zB _ hi]at this
 simpa using this
theorem Zc {e:Ev}{n:Int}:yv e n=
 if((((((decide (e.origin<0)||decide (n≤e.origin))||decide (e.seq<1))||decide (e.lam<1))||decide (e.agg<0))||decide (e.key<0))|| !decide (((e.deps.length:Nat):Int)=n))=true then 1
 else if Yg e.deps=true then 1
 else if(!decide (e.deps.getD e.origin.toNat 0=e.seq-1))=true then 9
 else if(decide (e.op<1)||decide (5<e.op))=true then 2
 else if(((decide (e.typ<0)||decide (7<e.typ))||decide (e.field<0))||decide (7<e.field))=true then 8
 else 0:=by
 unfold yv
 have h1:decide (min e.seq e.lam<1)=(decide (e.seq<1)||decide (e.lam<1)):=by rw[Bool.eq_iff_iff];simp only[Bool.or_eq_true,decide_eq_true_eq];omega
 have h2:decide (min e.agg e.key<0)=(decide (e.agg<0)||decide (e.key<0)):=by rw[Bool.eq_iff_iff];simp only[Bool.or_eq_true,decide_eq_true_eq];omega
 have h3:((decide (min e.typ e.field<0)||decide (8≤e.typ))||decide (8≤e.field))=(((decide (e.typ<0)||decide (7<e.typ))||decide (e.field<0))||decide (7<e.field)):=by rw[Bool.eq_iff_iff];simp only[Bool.or_eq_true,decide_eq_true_eq];omega
 rw[h1,h2,h3]
 cases hn:Yg e.deps
 ·simp only[Bool.or_false,Bool.or_assoc,Bool.false_eq_true,if_false]
 ·simp only[Bool.or_true,Bool.or_assoc,if_true]
  split<;>rfl
theorem Jz {e:Ev}{de0:Value}(hde0:RdS W G de0 e.deps)(oe:e.Ok){n:Nat}(hn:n≤1000)(hS0:Sep G W Rs w):Ret Tryz.prog 27 [.agg (e.cells de0).toArray,.int .i64 ((n:Nat):Int)] w (fun r w'=>r=(.int .i64 ((yv e ((n:Nat):Int))):Value)∧Sep G W Rs w'):=by
 have hde0s:_*8≤_:=hde0.small
 refine zi (args:=[.agg (e.cells de0).toArray,Iw n]) Tryz.func27 rfl rfl ?_
 refine za (R0 fun _=>st (zM (v:=.agg (e.cells de0).toArray) rfl ?_))
 intro w3 b2 bm
 have o:=hS0.new bm
 refine st (aS (Iv 0) (zb (za (za (zA kr (st (yp rfl (st (xa rfl (st (lD (Iv (e.origin)) kT rfl (zd (o.b0) rfl) (st (zC (k:=.i64) (a:=e.origin) (b:=0) rfl rfl (st (mV (.bool (decide (e.origin<0))) (stc (V:=Ix b2 0) rfl rfl (fun bn=>?_) ?_))))))))))))))))
 have hl6:=fD bn
 exact yp rfl ⟨rfl,rfl⟩
 refine stc (V:=Ix b2 0) rfl rfl (fun aI=>?_) ?_
 have hl8:=fD aI
 exact xa (if_pos aI) ⟨rfl,rfl⟩
 refine stc (V:=Iv (e.origin)) rfl rfl (fun aJ=>?_) ?_
 have hl10:=fD aJ
 exact lD (Iv (e.origin)) kT (if_pos aJ) (zd (o.b0) rfl) ⟨rfl,rfl⟩
 refine stc (V:=Iw n) rfl rfl (fun aK=>?_) ?_
 have hl12:=fD aK
 exact mV (Iw n) ⟨rfl,rfl⟩
 refine stc (V:=.bool (decide (((n:Nat):Int)≤e.origin))) rfl rfl (fun A=>?_) ?_
 have hl14:=fD A
 exact yR (k:=.i64) (a:=e.origin) (b:=((n:Nat):Int)) (if_pos A) (if_pos A) ⟨rfl,rfl⟩
 refine st (zt (b:=decide (e.origin<0)) (b':=decide (((n:Nat):Int)≤e.origin)) rfl (fun hbp=>(if_pos hbp)) (st (mV (.bool ((decide (e.origin<0))||(decide (((n:Nat):Int)≤e.origin)))) (stc (V:=Ix b2 0) rfl rfl (fun aL=>?_) ?_))))
 have aM:=aL
 try simp only[zf]at aM
 exact yp rfl ⟨rfl,rfl⟩
 refine stc (V:=Ix b2 1) rfl rfl (fun P=>?_) ?_
 have aN:=P
 try simp only[zf]at aN
 exact xE (if_pos P) ⟨rfl,rfl⟩
 refine stc (V:=Iv (e.seq)) rfl rfl (fun Q=>?_) ?_
 have aO:=Q
 try simp only[zf]at aO
 exact lD (Iv (e.seq)) kT (if_pos Q) (zd (o.b0) rfl) ⟨rfl,rfl⟩
 refine stc (V:=.bool (decide (e.seq<1))) rfl rfl (fun R=>?_) ?_
 have aP:=R
 try simp only[zf]at aP
 exact zC (k:=.i64) (a:=e.seq) (b:=1) (if_pos R) rfl ⟨rfl,rfl⟩
 refine st (zt (b:=(decide (e.origin<0))||(decide (((n:Nat):Int)≤e.origin))) (b':=decide (e.seq<1)) rfl (fun hbp=>(if_pos hbp)) (st (mV (.bool (((decide (e.origin<0))||(decide (((n:Nat):Int)≤e.origin)))||(decide (e.seq<1)))) (stc (V:=Ix b2 2) rfl rfl (fun aQ=>?_) ?_))))
 have aR:=aQ
 try simp only[zf]at aR
 exact xC rfl ⟨rfl,rfl⟩
 refine stc (V:=Iv (e.lam)) rfl rfl (fun S=>?_) ?_
 have aT:=S
 try simp only[zf]at aT
 exact lD (Iv (e.lam)) kT (if_pos S) (zd (o.b0) rfl) ⟨rfl,rfl⟩
 refine stc (V:=.bool (decide (e.lam<1))) rfl rfl (fun T=>?_) ?_
 have aU:=T
 try simp only[zf]at aU
 exact zC (k:=.i64) (a:=e.lam) (b:=1) (if_pos T) rfl ⟨rfl,rfl⟩
 refine st (zt (b:=((decide (e.origin<0))||(decide (((n:Nat):Int)≤e.origin)))||(decide (e.seq<1))) (b':=decide (e.lam<1)) rfl (fun hbp=>(if_pos hbp)) (st (mV (.bool ((((decide (e.origin<0))||(decide (((n:Nat):Int)≤e.origin)))||(decide (e.seq<1)))||(decide (e.lam<1)))) (stc (V:=Ix b2 5) rfl rfl (fun aV=>?_) ?_))))
 have aW:=aV
 try simp only[zf]at aW
 exact ZC rfl ⟨rfl,rfl⟩
 refine stc (V:=Iv (e.agg)) rfl rfl (fun U=>?_) ?_
 have aX:=U
 try simp only[zf]at aX
 exact lD (Iv (e.agg)) kT (if_pos U) (zd (o.b0) rfl) ⟨rfl,rfl⟩
 refine stc (V:=.bool (decide (e.agg<0))) rfl rfl (fun X=>?_) ?_
 have aY:=X
 try simp only[zf]at aY
 exact zC (k:=.i64) (a:=e.agg) (b:=0) (if_pos X) rfl ⟨rfl,rfl⟩
 refine st (zt (b:=(((decide (e.origin<0))||(decide (((n:Nat):Int)≤e.origin)))||(decide (e.seq<1)))||(decide (e.lam<1))) (b':=decide (e.agg<0)) rfl (fun hbp=>(if_pos hbp)) (st (mV (.bool (((((decide (e.origin<0))||(decide (((n:Nat):Int)≤e.origin)))||(decide (e.seq<1)))||(decide (e.lam<1)))||(decide (e.agg<0)))) (stc (V:=Ix b2 9) rfl rfl (fun aZ=>?_) ?_))))
 have ba:=aZ
 try simp only[zf]at ba
 exact YV rfl ⟨rfl,rfl⟩
 refine stc (V:=Iv (e.key)) rfl rfl (fun Y=>?_) ?_
 have bb:=Y
 try simp only[zf]at bb
 exact lD (Iv (e.key)) kT (if_pos Y) (zd (o.b0) rfl) ⟨rfl,rfl⟩
 refine stc (V:=.bool (decide (e.key<0))) rfl rfl (fun Z=>?_) ?_
 have bc:=Z
 try simp only[zf]at bc
 exact zC (k:=.i64) (a:=e.key) (b:=0) (if_pos Z) rfl ⟨rfl,rfl⟩
 refine st (zt (b:=((((decide (e.origin<0))||(decide (((n:Nat):Int)≤e.origin)))||(decide (e.seq<1)))||(decide (e.lam<1)))||(decide (e.agg<0))) (b':=decide (e.key<0)) rfl (fun hbp=>(if_pos hbp)) (st (mV (.bool ((((((decide (e.origin<0))||(decide (((n:Nat):Int)≤e.origin)))||(decide (e.seq<1)))||(decide (e.lam<1)))||(decide (e.agg<0)))||(decide (e.key<0)))) (stc (V:=Ix b2 3) rfl rfl (fun bd=>?_) ?_))))
 have be:=bd
 try simp only[zf]at be
 exact yQ rfl ⟨rfl,rfl⟩
 refine stc (V:=de0) rfl rfl (fun aa=>?_) ?_
 have bf:=aa
 try simp only[zf]at bf
 exact lD de0 vT (if_pos aa) (zd (o.b0) rfl) ⟨rfl,rfl⟩
 refine stc (V:=Iw e.deps.length) rfl rfl (fun ab=>?_) ?_
 have bg:=ab
 try simp only[zf]at bg
 exact zJ (n:=e.deps.length) rT (if_pos ab) hde0.sl ⟨rfl,rfl⟩
 refine stc (V:=Iw n) rfl rfl (fun bh=>?_) ?_
 have bi:=bh
 try simp only[zf]at bi
 exact mV (Iw n) ⟨rfl,rfl⟩
 refine stc (V:=.bool (!decide (((e.deps.length:Nat):Int)=((n:Nat):Int)))) rfl rfl (fun B=>?_) ?_
 have bj:=B
 try simp only[zf]at bj
 exact yn (k:=.i64) (a:=((e.deps.length:Nat):Int)) (b:=((n:Nat):Int)) (if_pos B) (if_pos B) ⟨rfl,rfl⟩
 refine st (zt (b:=(((((decide (e.origin<0))||(decide (((n:Nat):Int)≤e.origin)))||(decide (e.seq<1)))||(decide (e.lam<1)))||(decide (e.agg<0)))||(decide (e.key<0))) (b':= !decide (((e.deps.length:Nat):Int)=((n:Nat):Int))) rfl (fun hbp=>(if_pos hbp)) (zb ?_))
 cases y:((((((decide (e.origin<0))||(decide (((n:Nat):Int)≤e.origin)))||(decide (e.seq<1)))||(decide (e.lam<1)))||(decide (e.agg<0)))||(decide (e.key<0)))||(!decide (((e.deps.length:Nat):Int)=((n:Nat):Int)))
 have d:=y
 try simp only[zf]at y
 refine ze rfl (zl (za (za (R0 fun _=>st (aS (Iv 0) (zb (zn (zZ (fun mq σ wq=> ∃(k:Nat) (ρ:Env),mq=n-k∧σ=yd ρ [(2,Ix b2 0),(1,Iw n),(5,Iw k)]∧(k≤n)∧(∀i,i<k→ ¬e.deps.getD i 0<0)∧Sep G W ((Blk b2 (e.cells de0).toArray 44)::Rs) wq) ⟨0,_,rfl,sSf,Nat.zero_le _,(fun i h=>absurd h (Nat.not_lt_zero i)),o⟩ ?_))))))))
 rintro m53 σ54 w52 ⟨k,ρl1,rfl,rfl,hkk,hm,u⟩
 refine za (za (R0 fun _=>st (mV (Iw k) (st (mV (Iw n) (st (zC (k:=.i64) (a:=((k:Nat):Int)) (b:=((n:Nat):Int)) rfl rfl (zb ?_))))))))
 cases q:decide (((k:Nat):Int)<((n:Nat):Int))
 have g:=q
 have q:=fD q
 refine ze rfl (ya (zS (za (za ?_))))
 refine WD4 (WF [fun vals wq=>Sep G W ((Blk b2 (e.cells de0).toArray 44)::Rs) wq]) (AF [Vl 0 (Ix b2 3),Vl 1 (de0),Vl 2 (Ix b2 0),Vl 3 (Ix b2 0),Vl 4 (Iv (e.origin)),Vl 5 (Ix (sb de0) (so de0+e.origin.toNat*1)),Vl 6 (Iv ((e.deps.getD e.origin.toNat 0))),Vl 7 (Ix b2 0),Vl 8 (Ix b2 1),Vl 9 (Iv (e.seq)),Vl 10 (Iv (e.seq-1)),Vl 11 (.bool (!decide ((e.deps.getD e.origin.toNat 0)=(e.seq-1))))]) [[],[0],[],[2],[2,3],(rg 5),(rg 6),[],[7],[7,8],[7,8,9],(rg 11)] [] [(0,0),(0,0),(0,0),(0,0),(0,0),(0,0),(0,0),(0,0),(0,0),(0,0),(0,0),(0,0)] u ⟨fun _ _ _ _ _ _ _=>obl rfl (yQ rfl dR),ob1 0 fun _ _ (ag:Sep _ _ _ _) ah=>obl rfl (lD de0 vT (ah 0 dc) (zd (ag.b0) rfl) dR),fun _ _ _ _ _ _ _=>obl rfl (yp rfl dR),fun _ _ _ _ _ _ ai=>obl rfl (xa (ai 2 dc) dR),ob1 0 fun _ _ (aj:Sep _ _ _ _) ak=>obl rfl (lD (Iv (e.origin)) kT (ak 3 dc) (zd (aj.b0) rfl) dR),?_,?_,fun _ _ _ _ _ _ _=>obl rfl (yp rfl dR),fun _ _ _ _ _ _ al=>obl rfl (xE (al 7 dc) dR),ob1 0 fun _ _ (am:Sep _ _ _ _) an=>obl rfl (lD (Iv (e.seq)) kT (an 8 dc) (zd (am.b0) rfl) dR),?_,ob1 0 fun _ _ _ C=>obl rfl (yn (k:=.i64) (a:=(e.deps.getD e.origin.toNat 0)) (b:=e.seq-1) (C 6 dc) (C 10 dc) dR),trivial⟩ ?_
 refine ob1 0 fun _ _ _ D=>(obl rfl ?_)
 have hi196:e.origin.toNat<e.deps.length:=bo
 exact zr (k:=1) (i:=e.origin) rT sT (D 1 dc) hde0.sl (D 4 dc) ⟨by omega,by omega⟩ dR
 refine ob1 0 fun _ _ (ao:Sep _ _ _ _) ap=>(obl rfl ?_)
 have E:e.origin.toNat<e.deps.length:=bo
 obtain⟨ac,hxe205⟩:=hde0.intD E
 have ad:=ao.cells ac (hde0.foot (ne_of_lt E))
 exact lD (Iv ((e.deps.getD e.origin.toNat 0))) kT (ap 5 dc) (ad.get (j:=0) rfl) dR
 refine ob1 0 fun _ _ _ aq=>(obl rfl ?_)
 have ar:InR (e.seq-1):=(by have h9:=oe.seq;omega)
 exact YU (r:=e.seq-1) (k:=.i64) (a:=e.seq) (b:=1) (aq 9 (by decide)) rfl (by rw[show(e.seq-1:Int)=e.seq-1 from rfl];exact zF ar) dR
 intro vals w247 au av
 have c:Sep _ _ _ _:=au
 have bl:=av 11 dc
 refine zT (kv:=[(2,Ix b2 0),(1,Iw n),(5,Iw k),(45,Iw k),(46,Iw n),(47,.bool false),(67,.bool (!decide ((e.deps.getD e.origin.toNat 0)=(e.seq-1))))]) ⟨rfl,rfl,rfl,rfl,rfl,rfl,(by exact bl),trivial⟩ (fun ρw247=>(zb ?_))
 cases l: !decide ((e.deps.getD e.origin.toNat 0)=(e.seq-1))
 have f:=l
 have l:=zQ l
 refine ze rfl (zl (za (za (zA kr (st (xw rfl (st (lD (Iv (e.op)) kT rfl (zd (c.b0) rfl) (st (zC (k:=.i64) (a:=e.op) (b:=1) rfl rfl (st (mV (.bool (decide (e.op<1))) (stc (V:=Ix b2 7) rfl rfl (fun aw=>?_) ?_)))))))))))))
 have hl254:=fD aw
 exact xw rfl ⟨rfl,rfl⟩
 refine stc (V:=Iv (e.op)) rfl rfl (fun F=>?_) ?_
 have hl256:=fD F
 exact lD (Iv (e.op)) kT (if_pos F) (zd (c.b0) rfl) ⟨rfl,rfl⟩
 refine stc (V:=.bool (decide (5<e.op))) rfl rfl (fun H=>?_) ?_
 have hl258:=fD H
 exact yT (k:=.i64) (a:=e.op) (b:=5) (if_pos H) rfl ⟨rfl,rfl⟩
 refine st (zt (b:=decide (e.op<1)) (b':=decide (5<e.op)) rfl (fun hbp=>(if_pos hbp)) (zb ?_))
 cases s:(decide (e.op<1))||(decide (5<e.op))
 have p:=s
 try simp only[zf]at s
 refine ze rfl (zl (za (za (zA kr (st (xr rfl (st (lD (Iv (e.typ)) kT rfl (zd (c.b0) rfl) (st (zC (k:=.i64) (a:=e.typ) (b:=0) rfl rfl (st (mV (.bool (decide (e.typ<0))) (stc (V:=Ix b2 4) rfl rfl (fun ax=>?_) ?_)))))))))))))
 have hl261:=fD ax
 exact xr rfl ⟨rfl,rfl⟩
 refine stc (V:=Iv (e.typ)) rfl rfl (fun I=>?_) ?_
 have hl263:=fD I
 exact lD (Iv (e.typ)) kT (if_pos I) (zd (c.b0) rfl) ⟨rfl,rfl⟩
 refine stc (V:=.bool (decide (7<e.typ))) rfl rfl (fun J=>?_) ?_
 have hl265:=fD J
 exact yT (k:=.i64) (a:=e.typ) (b:=7) (if_pos J) rfl ⟨rfl,rfl⟩
 refine st (zt (b:=decide (e.typ<0)) (b':=decide (7<e.typ)) rfl (fun hbp=>(if_pos hbp)) (st (mV (.bool ((decide (e.typ<0))||(decide (7<e.typ)))) (stc (V:=Ix b2 6) rfl rfl (fun ay=>?_) ?_))))
 have az:=ay
 try simp only[zf]at az
 exact xt rfl ⟨rfl,rfl⟩
 refine stc (V:=Iv (e.field)) rfl rfl (fun K=>?_) ?_
 have aA:=K
 try simp only[zf]at aA
 exact lD (Iv (e.field)) kT (if_pos K) (zd (c.b0) rfl) ⟨rfl,rfl⟩
 refine stc (V:=.bool (decide (e.field<0))) rfl rfl (fun L=>?_) ?_
 have aB:=L
 try simp only[zf]at aB
 exact zC (k:=.i64) (a:=e.field) (b:=0) (if_pos L) rfl ⟨rfl,rfl⟩
 refine st (zt (b:=(decide (e.typ<0))||(decide (7<e.typ))) (b':=decide (e.field<0)) rfl (fun hbp=>(if_pos hbp)) (st (mV (.bool (((decide (e.typ<0))||(decide (7<e.typ)))||(decide (e.field<0)))) (stc (V:=Ix b2 6) rfl rfl (fun aC=>?_) ?_))))
 have aD:=aC
 try simp only[zf]at aD
 exact xt rfl ⟨rfl,rfl⟩
 refine stc (V:=Iv (e.field)) rfl rfl (fun M=>?_) ?_
 have aE:=M
 try simp only[zf]at aE
 exact lD (Iv (e.field)) kT (if_pos M) (zd (c.b0) rfl) ⟨rfl,rfl⟩
 refine stc (V:=.bool (decide (7<e.field))) rfl rfl (fun N=>?_) ?_
 have aF:=N
 try simp only[zf]at aF
 exact yT (k:=.i64) (a:=e.field) (b:=7) (if_pos N) rfl ⟨rfl,rfl⟩
 refine st (zt (b:=((decide (e.typ<0))||(decide (7<e.typ)))||(decide (e.field<0))) (b':=decide (7<e.field)) rfl (fun hbp=>(if_pos hbp)) (zb ?_))
 cases t:(((decide (e.typ<0))||(decide (7<e.typ)))||(decide (e.field<0)))||(decide (7<e.field))
 have x:=t
 try simp only[zf]at t
 refine ze rfl (zl (za (R0 fun _=>st (aS (Iv 0) (zb (zk (zG lR (show _=(Iv 0:Value)from rfl) ?_)))))))
 refine⟨?_,(c.s1_)⟩
 rw[Zc]
 rw[if_neg (by rw[d];decide)]
 ·first|rw[if_pos (Xb (k:=k) (by omega) (by omega))]|(rw[if_neg (by rw[Xh (fun i hi=>hm i (by omega))];decide)];(repeat first|rw[if_pos (by assumption)]|rw[if_neg (by first|(rw[g];decide)|(rw[f];decide)|(rw[p];decide)|(rw[x];decide)|skip)]))
 have x:=t
 try simp only[zf]at t
 refine zg rfl (za (R0 fun _=>st (aS (Iv 8) (zb (zk (zG lR (show _=(Iv 8:Value)from rfl) ?_))))))
 refine⟨?_,(c.s1_)⟩
 rw[Zc]
 rw[if_neg (by rw[d];decide)]
 ·first|rw[if_pos (Xb (k:=k) (by omega) (by omega))]|(rw[if_neg (by rw[Xh (fun i hi=>hm i (by omega))];decide)];(repeat first|rw[if_pos (by assumption)]|rw[if_neg (by first|(rw[g];decide)|(rw[f];decide)|(rw[p];decide)|(rw[x];decide)|skip)]))
 have p:=s
 try simp only[zf]at s
 refine zg rfl (za (R0 fun _=>st (aS (Iv 2) (zb (zk (zG lR (show _=(Iv 2:Value)from rfl) ?_))))))
 refine⟨?_,(c.s1_)⟩
 rw[Zc]
 rw[if_neg (by rw[d];decide)]
 ·first|rw[if_pos (Xb (k:=k) (by omega) (by omega))]|(rw[if_neg (by rw[Xh (fun i hi=>hm i (by omega))];decide)];(repeat first|rw[if_pos (by assumption)]|rw[if_neg (by first|(rw[g];decide)|(rw[f];decide)|(rw[p];decide)|skip)]))
 have f:=l
 have l:=zz l
 refine zg rfl (za (R0 fun _=>st (aS (Iv 9) (zb (zk (zG lR (show _=(Iv 9:Value)from rfl) ?_))))))
 refine⟨?_,(c.s1_)⟩
 rw[Zc]
 rw[if_neg (by rw[d];decide)]
 ·first|rw[if_pos (Xb (k:=k) (by omega) (by omega))]|(rw[if_neg (by rw[Xh (fun i hi=>hm i (by omega))];decide)];(repeat first|rw[if_pos (by assumption)]|rw[if_neg (by first|(rw[g];decide)|(rw[f];decide)|skip)]))
 have g:=q
 have q:=tD q
 refine zg rfl (zl (za (zn (za (R0 fun _=>st (yQ rfl (st (lD de0 vT rfl (zd (u.b0) rfl) (st (mV (Iw k) ?_))))))))))
 have aG:k<e.deps.length:=bo
 refine st (zj (k:=1) (i:=k) rT sT rfl hde0.sl rfl aG ?_)
 have O:k<e.deps.length:=bo
 obtain⟨ae,hxe284⟩:=hde0.intD O
 have af:=u.cells ae (hde0.foot (ne_of_lt O))
 refine st (lD (Iv ((e.deps.getD k 0))) kT rfl (af.get (j:=0) rfl) (st (zC (k:=.i64) (a:=(e.deps.getD k 0)) (b:=0) rfl rfl (zb ?_))))
 cases m:decide ((e.deps.getD k 0)<0)
 have z:=m
 have m:=fD m
 refine ze rfl (zl (R0 fun _=>st (mV (Iw k) ?_)))
 have aH:InR ((k+1:Nat):Int):=bo
 refine st (zP (r:=((k+1:Nat):Int)) (k:=.i64) (a:=((k:Nat):Int)) (b:=1) rfl rfl (by rw[show(((k:Nat):Int)+1:Int)=((k+1:Nat):Int)from bo];exact zF aH) (st (aS (Iw (k+1)) (zb ?_))))
 exact⟨_,by omega,k+1,_,rfl,sSf,by omega,(yL hm om),u⟩
 have z:=m
 have m:=tD m
 refine zg rfl (za (R0 fun _=>st (aS (Iv 1) (zb (zk (zG lR (show _=(Iv 1:Value)from rfl) ?_))))))
 refine⟨?_,(u.s1_)⟩
 rw[Zc]
 rw[if_neg (by rw[d];decide)]
 ·first|rw[if_pos (Xb (k:=k) (by omega) (by omega))]|(rw[if_neg (by rw[Xh (fun i hi=>hm i (by omega))];decide)];(repeat first|rw[if_pos (by assumption)]|rw[if_neg (by first|(rw[g];decide)|(rw[z];decide)|skip)]))
 have d:=y
 try simp only[zf]at y
 refine zg rfl (za (R0 fun _=>st (aS (Iv 1) (zb (zk (zG lR (show _=(Iv 1:Value)from rfl) ?_))))))
 refine⟨?_,(o.s1_)⟩
 rw[Zc]
 rw[if_pos d]
section
variable {L:List Ev}{key:Int}{k:Nat}
theorem zav (hm: ∀i,i<k→ZJ key (L.getD i default)=false)(hk:k<L.length)(h:ZJ key (L.getD k default)=true):yO L key=some (L.getD k default):=by
 unfold yO
 rw[List.find?_eq_some_iff_getElem]
 rw[zB _ hk]at h⊢
 refine⟨h,k,hk,rfl,fun i hi=>?_⟩
 have:=hm i hi
 rw[zB _ (by omega)]at this
 rw[this];rfl
theorem Ju (hm: ∀i,i<L.length→ZJ key (L.getD i default)=false):yO L key=none:=by
 unfold yO
 rw[List.find?_eq_none]
 intro x hx
 obtain⟨i,hi,rfl⟩:=List.getElem_of_mem hx
 have:=hm i hi
 rw[zB _ hi]at this
 rw[this];decide
end
theorem Jv {b:Nat}{n:Nat}{L:List Ev}(hb:(RefS b n L).p W G){key:Int}(hkey:InR key)(hS0:Sep G W Rs w):Ret Tryz.prog 45 [.pointer (some ⟨b,0,none⟩),.int .i64 (key)] w (fun r w'=> ∃(v:Value),r=(.tuple #[.agg (((yO L key).getD default).cells v).toArray,.bool (yO L key).isSome]:Value)∧(((yO L key).getD default).Ok)∧Sep G W ((RowE (α:=Int) own 3 v (((yO L key).getD default).deps))::Rs) w'):=by
 refine zi (args:=[Ix b 0,Iv key]) Tryz.func45 rfl rfl ?_
 let p:=((⟨0,0,0,[],0,0,0,0,0,0⟩:Ev).cells (Iz))
 obtain⟨d,z,f⟩:=RefS.sh hb
 have hsm4:L.length*96≤140737488355328:=f.small
 refine za (R0 fun _=>st (zq pR ?_))
 intro w7 N ae
 refine st (aS (.bool false) (zb (za (za (R0 fun _=>st (aS (Iv 0) (zb (zn (zZ (fun mq σ wq=> ∃(k:Nat) (ρ:Env),mq=L.length-k∧σ=yd ρ [(1,Iv key),(4,Ix N 0),(0,Ix b 0),(6,Iw k)]∧(k≤L.length)∧(∀i,i<k→ZJ key (L.getD i default)=false)∧Sep G W ((Blk N #[Iv 0,Iv 0,Iv 0,(Iz),Iv 0,Iv 0,Iv 0,Iv 0,Iv 0,Iv 0] 44)::Rs) wq) ⟨0,_,rfl,sSf,Nat.zero_le _,(fun i h=>absurd h (Nat.not_lt_zero i)),(hS0.new ae)⟩ ?_)))))))))
 rintro m10 σ11 w9 ⟨k,ρl1,rfl,rfl,hkk,hm,c⟩
 refine za (za (R0 fun _=>st (mV (Iw k) (st (mV (Ix b 0) (st (zo (b:=b) (o:=0) rfl (st (xq rfl (st (lD d pT rfl (zd (c.gblk z) rfl) (st (zJ (n:=L.length) nT rfl f.sl (st (zC (k:=.i64) (a:=((k:Nat):Int)) (b:=((L.length:Nat):Int)) rfl rfl (zb ?_))))))))))))))))
 cases g:decide (((k:Nat):Int)<((L.length:Nat):Int))
 have hc13r:=g
 have g:=fD g
 refine ze rfl (ya (zS (za (R0 fun _=>?_))))
 have S:Ev.Ok (⟨0,0,0,[],0,0,0,0,0,0⟩:Ev):=⟨(show InR (0)from dc),(show InR (0)from dc),(show InR (0)from dc),(show InR (0)from dc),(show InR (0)from dc),(show InR (0)from dc),(show InR (0)from dc),(show InR (0)from dc),(show InR (0)from dc)⟩
 refine st (zL (parts':=[]) (v:=.agg p.toArray) rfl (by simp+zetaDelta [Instr.build,Instr.fill,Ev.cells,go_sem,Mv.cells,Fld.cells,Typ.cells,Prj.cells,Dcl.cells,Cel.cells,AskR.cells,CelS.cells,Ev.cells,Ent.cells,Sta.cells,Cmd.cells]) (stn (zp (v:=.agg p.toArray) (c':=p.toArray) lT rfl rfl (c.b0) (zX ⟨rfl,rfl,rfl,rfl,rfl,rfl,rfl,rfl,rfl,rfl,trivial⟩) yqc rfl ?_)))
 intro w15 T
 have A:=c.pt0 T
 refine st (aS (.bool false) (zb (zk (xD (b:=N) qY oT lT rfl rfl (CellsAt.all (A.b0)) (show _=(.bool false:Value)from rfl) ?_))))
 have U:Sep _ _ ((RowE (α:=Int) own 3 (Iz) ([]:List Int))::_) _:=A.rowNil own 3
 rw[Ju (fun i hi=>hm i (by omega))]
 refine⟨(Iz),?_,?_,(U.s2_a)⟩
 rfl
 exact S
 have g:=tD g
 refine zg rfl (zl (za (zn (za (zA kr (st (mV (Iv key) (st (yn (k:=.i64) (a:=key) (b:=0) rfl rfl (st (mV (.bool (!decide (key=0))) (stc (V:=Ix b 0) rfl rfl (fun X=>?_) ?_))))))))))))
 have hl21:=zz X
 exact mV (Ix b 0) ⟨rfl,rfl⟩
 refine stc (V:=Ix b 0) rfl rfl (fun B=>?_) ?_
 have hl23:=zz B
 exact zo (b:=b) (o:=0) (if_pos B) ⟨rfl,rfl⟩
 refine stc (V:=Ix b 1) rfl rfl (fun C=>?_) ?_
 have hl25:=zz C
 exact xq (if_pos C) ⟨rfl,rfl⟩
 refine stc (V:=d) rfl rfl (fun D=>?_) ?_
 have hl27:=zz D
 exact lD d pT (if_pos D) (zd (c.gblk z) rfl) ⟨rfl,rfl⟩
 refine stc (V:=Iw k) rfl rfl (fun Y=>?_) ?_
 have hl29:=zz Y
 exact mV (Iw k) ⟨rfl,rfl⟩
 refine stc (V:=Ix (sb d) (so d+k*10)) rfl rfl (fun t=>?_) ?_
 have hl31:=zz t
 have Z:k<L.length:=bo
 exact zj (k:=10) (i:=k) nT lT (if_pos t) f.sl (if_pos t) Z ⟨rfl,rfl⟩
 refine stc (V:=Ix (sb d) (so d+k*10+9)) rfl rfl (fun E=>?_) ?_
 have hl34:=zz E
 exact YV (if_pos E) ⟨rfl,rfl⟩
 refine stc (V:=Iv ((L.getD k default).key)) rfl rfl (fun F=>?_) ?_
 have hl36:=zz F
 have H:k<L.length:=bo
 obtain⟨O,y,hoke37⟩:=f.evD H
 have hsm39:((L.getD k default).deps).length*8≤140737488355328:=y.small
 have P:=c.cells O (f.foot (ne_of_lt H))
 exact lD (Iv ((L.getD k default).key)) kT (if_pos F) (P.get (j:=9) rfl) ⟨rfl,rfl⟩
 refine stc (V:=Iv key) rfl rfl (fun aa=>?_) ?_
 have hl42:=zz aa
 exact mV (Iv key) ⟨rfl,rfl⟩
 refine stc (V:=.bool (decide (((L.getD k default).key)=key))) rfl rfl (fun u=>?_) ?_
 have hl44:=zz u
 exact zR (k:=.i64) (a:=(L.getD k default).key) (b:=key) (if_pos u) (if_pos u) ⟨rfl,rfl⟩
 refine st (zy (b:= !decide (key=0)) (b':=decide (((L.getD k default).key)=key)) rfl (fun hbp=>(if_pos hbp)) (zb ?_))
 cases m:(!decide (key=0))&&(decide (((L.getD k default).key)=key))
 have q:=m
 try simp only[zf]at m
 refine ze rfl (zl (R0 fun _=>st (mV (Iw k) ?_)))
 have ab:InR ((k+1:Nat):Int):=bo
 refine st (zP (r:=((k+1:Nat):Int)) (k:=.i64) (a:=((k:Nat):Int)) (b:=1) rfl rfl (by rw[show(((k:Nat):Int)+1:Int)=((k+1:Nat):Int)from bo];exact zF ab) (st (aS (Iw (k+1)) (zb ?_))))
 exact⟨_,by omega,k+1,_,rfl,sSf,by omega,(yL hm q),c⟩
 have q:=m
 try simp only[zf]at m
 refine zg rfl (za (R0 fun _=>st (mV (Ix b 0) (st (zo (b:=b) (o:=0) rfl (st (xq rfl (st (lD d pT rfl (zd (c.gblk z) rfl) (st (mV (Iw k) ?_)))))))))))
 have ac:k<L.length:=bo
 refine st (zj (k:=10) (i:=k) nT lT rfl f.sl rfl ac ?_)
 have I:k<L.length:=bo
 obtain⟨Q,l,s⟩:=f.evD I
 have hsm50:((L.getD k default).deps).length*8≤140737488355328:=l.small
 have R:=c.cells Q (f.foot (ne_of_lt I))
 refine st (zh (k:=10) oT lT rfl rfl R (st (cL kR (xl (e:=(L.getD k default)) l s c) ?_)))
 rintro _ w53 ⟨J,rfl,x⟩
 have K:=x.r0
 have hr55s:_*8≤_:=K.2
 refine stn (zp (v:=.agg ((L.getD k default).cells J).toArray) (c':=((L.getD k default).cells J).toArray) lT rfl rfl (x.b1) (zX ⟨rfl,rfl,rfl,K.1.one,rfl,rfl,rfl,rfl,rfl,rfl,trivial⟩) yqc rfl ?_)
 intro w56 ad
 have M:=x.pt1 ad
 refine st (aS (.bool true) (zb (zk (xD (b:=N) qY oT lT rfl rfl (CellsAt.all (M.b1)) (show _=(.bool true:Value)from rfl) ?_))))
 rw[zav hm (by omega) q]
 refine⟨J,?_,?_,(M.s2_a)⟩
 rfl
 exact s
theorem KT {b:Nat}{n:Nat}{L:List Ev}(hb:(RefS b n L).p W G)(hS0:Sep G W Rs w):Ret Tryz.prog 17 [.pointer (some ⟨b,0,none⟩)] w (fun r w'=> ∃(v:Value),r=(v:Value)∧Sep G W ((RowE (α:=Ev) own 44 v L)::Rs) w'):=by
 refine zi (args:=[Ix b 0]) Tryz.func17 rfl rfl ?_
 obtain⟨y,z,h⟩:=RefS.sh hb
 have hsm4:L.length*96≤140737488355328:=h.small
 refine za (R0 fun _=>st (aS (Iz) (zb (za (R0 fun _=>st (aS (Iz) (zb (za (za (R0 fun _=>st (aS (Iv 0) (zb (zn ?_)))))))))))))
 have K:Sep G W ((RowE (α:=Ev) own 44 (Iz) ([]:List Ev))::Rs) w:=hS0.rowNil own 44
 refine zZ (fun mq σ N=> ∃(k:Nat) (vo:Value) (ρ:Env),mq=L.length-k∧σ=yd ρ [(0,Ix b 0),(4,Iw k),(3,vo)]∧(k≤L.length)∧Sep G W ((RowE (α:=Ev) own 44 vo (L.take k))::Rs) N) ⟨0,(Iz),_,rfl,sSf,Nat.zero_le _,K⟩ ?_
 rintro m7 σ8 w6 ⟨k,vo,ρl1,rfl,rfl,hkk,d⟩
 have C:=d.r0
 have hr10s:_*96≤_:=C.2
 refine za (za (R0 fun _=>st (mV (Iw k) (st (mV (Ix b 0) (st (zo (b:=b) (o:=0) rfl (st (xq rfl (st (lD y pT rfl (zd (d.gblk z) rfl) (st (zJ (n:=L.length) nT rfl h.sl (st (zC (k:=.i64) (a:=((k:Nat):Int)) (b:=((L.length:Nat):Int)) rfl rfl (zb ?_))))))))))))))))
 cases g:decide (((k:Nat):Int)<((L.length:Nat):Int))
 have g:=fD g
 refine ze rfl (ya (zS (za (R0 fun _=>st (mV vo (st (aS vo (zb (zk (zG Tryz.results17 (show _=(vo:Value)from rfl) ?_))))))))))
 have M:k=L.length:=by omega
 rw[M,List.take_length]at d
 refine⟨vo,rfl,d⟩
 have g:=tD g
 refine zg rfl (zl (za (zn (R0 fun _=>st (mV vo (st (mV (Ix b 0) (st (zo (b:=b) (o:=0) rfl (st (xq rfl (st (lD y pT rfl (zd (d.gblk z) rfl) (st (mV (Iw k) ?_)))))))))))))))
 have D:k<L.length:=bo
 refine st (zj (k:=10) (i:=k) nT lT rfl h.sl rfl D ?_)
 have m:k<L.length:=bo
 obtain⟨t,f,j⟩:=h.evD m
 have hsm15:((L.getD k default).deps).length*8≤140737488355328:=f.small
 have u:=d.cells t (h.foot (ne_of_lt m))
 refine st (zh (k:=10) oT lT rfl rfl u (st (cL kR (xl (e:=(L.getD k default)) f j d) ?_)))
 rintro _ w18 ⟨A,rfl,q⟩
 have E:=q.r0
 have hr20s:_*8≤_:=E.2
 refine st (zI (k:=10) (parts':=[(0,.agg ((L.getD k default).cells A).toArray)]) (c:=((L.getD k default).cells A).toArray) nT lT pR dc rfl kr ?_)
 intro w23 b22 F
 have s:=q.new F
 have x:=s.b0
 refine st (yj (src:=own) (bytes:=96) (x1:=(L.getD k default)) (s.s3_cb) UP rfl rfl x (fun _ _ O=>⟨_,rfl,RowE.soft O,j⟩) yqb rfl ?_)
 intro B w25 l
 have H:=l.r0
 have hr30s:_*96≤_:=H.2
 refine st (aS B (zb (R0 fun _=>st (mV (Iw k) ?_))))
 have I:InR ((k+1:Nat):Int):=bo
 refine st (zP (r:=((k+1:Nat):Int)) (k:=.i64) (a:=((k:Nat):Int)) (b:=1) rfl rfl (by rw[show(((k:Nat):Int)+1:Int)=((k+1:Nat):Int)from bo];exact zF I) (st (aS (Iw (k+1)) (zb ?_))))
 have J:(L.take (k+1))=(L.take k)++[(L.getD k default)]:=(List.take_getD om)
 rw[←J]at l
 exact⟨_,by omega,k+1,B,_,rfl,sSf,by omega,l⟩
end
end Go.Proofs.YtbcdijeggfoabaaGreatDoor
