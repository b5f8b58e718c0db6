import Derived.Test.YtbcdijeggfoabaaGreatDoorW8
import Derived.Test.YtbcdijeggfoabaaGreatDoorW10
import Derived.Test.YtbcdijeggfoabaaGreatDoorW12
import Derived.Test.YtbcdijeggfoabaaGreatDoorW11
set_option linter.unusedSimpArgs false
set_option linter.unusedVariables false
set_option linter.unusedSectionVars false
set_option linter.deprecated false
open Go.Proofs.Tryz renaming sizeOf44→kT,isAgg44→lT,isAgg3→mT,underlying26→nT,zeroValue44→oT,sizeOf49→pT,isAgg25→qT,sizeOf25→rT,isAgg49→sT,results32→tT,results12→uT,underlying27→vT,sizeOf74→wT,isAgg26→kR,call50→lR,underlying42→mR,sizeOf3→nR,results15→oR,isAgg22→pR,underlying22→qR,isAgg74→rR,call51→sR,call49→tR,sizeOf26→uR,call56→vR,call13→wR,call17→kY,call7→lY,call6→mY,results3→nY,call11→oY,call12→pY
namespace Go.Proofs.YtbcdijeggfoabaaGreatDoor
variable {G:Nat→Prop}{W w:World}{Rs:List HP}
section
set_option maxRecDepth 8000
set_option maxHeartbeats 4000000
open Go.Proofs Go.RowKit
theorem zdg {c:Cmd}{v:Int}(h:(!decide (c.expect= -1)&& !decide (c.expect=v))=true):Zb c v=11:=by
 unfold Zb
 rw[Bool.and_eq_true,Bool.not_eq_true',Bool.not_eq_true']at h
 rw[h.1,h.2];rfl
theorem zbP {c:Cmd}{v:Int}(h:(!decide (c.expect= -1)&& !decide (c.expect=v))=false):Zb c v=0:=by
 unfold Zb
 rw[if_pos]
 revert h
 cases decide (c.expect= -1)<;>cases decide (c.expect=v)<;>simp
theorem Jf {b:Nat}{n:Nat}{L:List Ev}(hb:(RefS b n L).p W G)(hS0:Sep G W Rs w)(hG:Good n L):Ret Tryz.prog 51 [.pointer (some ⟨b,0,none⟩)] w (fun r w'=>r=(.int .i64 ((zK L)):Value)∧Sep G W Rs w'):=by
 refine Ret.mono (zcu hb hS0 hG) ?_
 rintro r w' ⟨h1,_,h3⟩
 exact⟨h1,h3⟩
set_option maxHeartbeats 8000000 in
theorem KW {d:Dcl}{dd0:Value}(hdd0:RdS W G dd0 d.types){dd1:Value}(hdd1:RdS W G dd1 d.projs)(od:d.Ok){sq:Nat}{n:Nat}{L:List Ev}(hsq:(RefS sq n L).p W G){vb:Nat}{V:List Ent}(hvb:(RefV vb d V).p W G){o:Int}(ho:InR o){start:Int}(hstart:InR start){c:Cmd}(oc:c.Ok)(hS0:Sep G W Rs w)(hd:DclOk d)(hrl:Ran d V)(hml:V.length≤1000000)(hG:Good n L)(hn:n≤1000)(htop:InR (zK L)):Ret Tryz.prog 12 [.agg (d.cells dd0 dd1).toArray,.pointer (some ⟨sq,0,none⟩),.pointer (some ⟨vb,0,none⟩),.int .i64 (o),.int .i64 (start),.agg (c.cells).toArray] w (fun r w'=> ∃(vd:Value),r=(.tuple #[.agg ((exR d n L V o start c).1.cells vd).toArray,.bool ((exR d n L V o start c).2.1),.int .i64 ((exR d n L V o start c).2.2)]:Value)∧Sep G W ((RowE (α:=Int) own 3 vd ((exR d n L V o start c).1.deps))::Rs) w'):=by
 have hdd0s:_*24≤_:=hdd0.small
 have hdd1s:_*40≤_:=hdd1.small
 refine zi (args:=[.agg (d.cells dd0 dd1).toArray,Ix sq 0,Ix vb 0,Iv o,Iv start,.agg (c.cells).toArray]) Tryz.func12 rfl rfl ?_
 refine za ?_
 obtain⟨vl1,hb2,dX⟩:=RefS.sh hsq
 have hsm4:L.length*96≤140737488355328:=dX.small
 obtain⟨vt5,vp6,ve7,hb8,dY,dk,dl⟩:=RefV.sh hvb
 have hsm12:d.types.length*24≤140737488355328:=dY.small
 have hsm13:d.projs.length*40≤140737488355328:=dk.small
 have hsm14:V.length*120≤140737488355328:=dl.small
 refine R0 fun _=>st (zM (v:=.agg (d.cells dd0 dd1).toArray) rfl ?_)
 intro w17 N dm
 let eh:=Blk N (d.cells dd0 dd1).toArray 25
 refine st (zM (v:=.agg (c.cells).toArray) rfl ?_)
 intro w21 A dp
 refine st (zq oT ?_)
 intro w25 D dq
 let ed:=Blk D #[Iv 0,Iv 0,Iv 0,(Iz),Iv 0,Iv 0,Iv 0,Iv 0,Iv 0,Iv 0] 44
 have ax:=((hS0.new dm).new dp).new dq
 refine st (aS (.bool false) (st (aS (Iv 0) (zb (za (R0 fun _=>st (zh (k:=2) qT rT rfl rfl (CellsAt.all (ax.b2)) (st (zh (k:=7) sT pT rfl rfl (CellsAt.all (ax.b1)) (st (cL Tryz.call44 (Jo (d:=d) (c:=c) hdd0 hdd1 od oc ax) ?_)))))))))))
 rintro _ w27 ⟨rfl,aa⟩
 refine st (aS (Iv (xx d c)) (zb (za (za (R0 fun _=>st (mV (Iv (xx d c)) (st (yn (k:=.i64) (a:=xx d c) (b:=0) rfl rfl (zb ?_)))))))))
 cases M: !decide ((xx d c)=0)
 have hc29r:=M
 have M:=zQ M
 have hzc:xx d c=0:=by simpa using M
 obtain⟨dZ,ea,eb⟩:=Yb (QA hzc)
 refine ze rfl (zl (za (R0 fun _=>st (mV (Ix sq 0) (st (Xm rfl (st (lD (Iv (c.ckey)) mT rfl (zd (aa.b1) rfl) (st (cL Tryz.call45 (Jv (key:=c.ckey) hsq oc.ckey aa) ?_))))))))))
 rintro _ w32 ⟨z,rfl,hgo31,bg⟩
 let p:=((yO L c.ckey).getD default).cells z
 have ay:=bg.r0
 have hr34s:_*8≤_:=ay.2
 refine st (mV (.tuple #[.agg p.toArray,.bool (yO L c.ckey).isSome]) (st (zm (vs:=[.agg p.toArray,.bool ((yO L c.ckey).isSome)]) (i:=0) (v:=.agg p.toArray) rfl rfl (st (zm (vs:=[.agg p.toArray,.bool ((yO L c.ckey).isSome)]) (i:=1) (v:=.bool ((yO L c.ckey).isSome)) rfl rfl (st (zq oT ?_)))))))
 intro w37 bh dr
 have bi:=bg.new dr
 refine stn (zp (v:=.agg p.toArray) (c':=p.toArray) kT rfl rfl (bi.b0) (zX ⟨rfl,rfl,rfl,ay.1.one,rfl,rfl,rfl,rfl,rfl,rfl,trivial⟩) yqc rfl ?_)
 intro w39 ds
 have P:=bi.pt0 ds
 refine st (aS (.bool ((yO L c.ckey).isSome)) (zb (za (za (R0 fun _=>st (mV (.bool ((yO L c.ckey).isSome)) (zb ?_)))))))
 cases az:(yO L c.ckey).isSome
 have hc42r:=az
 have hzk:(yO L c.ckey).isSome=false:=by simpa using az
 refine ze rfl (zl (za (R0 fun _=>st (mV (Ix vb 0) (st (Yc rfl (st (lD (Iv (c.ctyp)) mT rfl (zd (P.b3) rfl) (st (Xw rfl (st (lD (Iv (c.cagg)) mT rfl (zd (P.b3) rfl) (st (cL Tryz.call46 (Wz (ty:=c.ctyp) (no:=c.cagg) hvb oc.ctyp oc.cagg P (hd) (hrl) (hml)) ?_))))))))))))))
 rintro _ w44 ⟨S,rfl,bj⟩
 let ec:=(XR d (c.ctyp,c.cagg) V).cells S
 have bk:=bj.r0
 have hr46s:_*32≤_:=bk.2
 refine st (mV (.tuple #[.agg ec.toArray,.bool ((zw d V (c.ctyp,c.cagg)).isSome)]) (st (zm (vs:=[.agg ec.toArray,.bool ((zw d V (c.ctyp,c.cagg)).isSome)]) (i:=0) (v:=.agg ec.toArray) rfl rfl (st (zm (vs:=[.agg ec.toArray,.bool ((zw d V (c.ctyp,c.cagg)).isSome)]) (i:=1) (v:=.bool ((zw d V (c.ctyp,c.cagg)).isSome)) rfl rfl (st (zq Tryz.zeroValue77 ?_)))))))
 intro w49 K dt
 have bl:=bj.new dt
 refine stn (zp (v:=.agg ec.toArray) (c':=ec.toArray) Tryz.sizeOf77 rfl rfl (bl.b0) (zX ⟨rfl,bk.1.one,trivial⟩) yqc rfl ?_)
 intro w51 du
 have Q:=bl.pt0 du
 refine st (aS (.bool ((zw d V (c.ctyp,c.cagg)).isSome)) (zb (za (za (R0 fun _=>st (mV (.bool ((zw d V (c.ctyp,c.cagg)).isSome)) (st (yB (a:=(zw d V (c.ctyp,c.cagg)).isSome) rfl (zb (Ut (fun σ B=> ∃(H:Value) (ρ:Env),σ=yd ρ [(1,Ix sq 0),(2,Ix vb 0),(3,Iv o),(4,Iv start),(6,Ix N 0),(11,Ix A 0),(12,Ix D 0),(18,Ix K 0)]∧Sep G W ((Blk K ((xH d (c.ctyp,c.cagg) V).cells H).toArray 77)::(RowE (α:=Cel) own 140 H (zO d (c.ctyp,c.cagg) V))::(Blk bh p.toArray 44)::(RowE (α:=Int) own 3 z (((yO L c.ckey).getD default).deps))::ed::(Blk A (c.cells).toArray 49)::eh::Rs) B) ?_ ?_))))))))))
 cases ab: !((zw d V (c.ctyp,c.cagg)).isSome)
 try simp only[zf]at ab
 refine ze rfl (zl ?_)
 have aA:(stL d (c.ctyp,c.cagg) V)=(zO d (c.ctyp,c.cagg) V):=KX (by simpa using ab)
 rw[aA]at Q
 exact⟨rfl,S,_,yW ⟨(show _=(Ix sq 0:Value)from rfl),(show _=(Ix vb 0:Value)from rfl),(show _=(Iv o:Value)from rfl),(show _=(Iv start:Value)from rfl),(show _=(Ix N 0:Value)from rfl),(show _=(Ix A 0:Value)from rfl),(show _=(Ix D 0:Value)from rfl),(show _=(Ix K 0:Value)from rfl),trivial⟩,Q⟩
 try simp only[zf]at ab
 refine zg rfl (R0 fun _=>st (yC rfl (st (lD dd0 pR rfl (zd (Q.b6) rfl) (st (Yc rfl (st (lD (Iv (c.ctyp)) mT rfl (zd (Q.b5) rfl) ?_))))))))
 have hi55:c.ctyp.toNat<d.types.length:=bo
 refine st (zr (k:=1) (i:=c.ctyp) qR wT rfl hdd0.sl rfl ⟨by omega,by omega⟩ ?_)
 have bm:c.ctyp.toNat<d.types.length:=bo
 obtain⟨bx,Z,bn⟩:=hdd0.typD bm
 have hsm58:((d.types.getD c.ctyp.toNat default).fields).length*48≤140737488355328:=Z.small
 have bz:=Q.cells bx (hdd0.foot (ne_of_lt bm))
 refine st (zh (k:=1) rR wT rfl rfl bz (st (cL Tryz.call47 (YT (t:=(d.types.getD c.ctyp.toNat default)) Z bn Q) ?_)))
 rintro bp w61 ⟨_,rfl,aB⟩
 have bq:=aB.r0
 have hr63s:_*32≤_:=bq.2
 refine st (xO rfl (stn (ym (v:=bp) (c:=[Iv ((XR d (c.ctyp,c.cagg) V).ver),S]) (c':=[Iv ((XR d (c.ctyp,c.cagg) V).ver),bp]) Tryz.sizeOf75 rfl rfl (aB.b1) bq.1.one rfl rfl ?_)))
 intro w64 dv
 have br:=aB.pt1 dv
 refine zb ?_
 have aA:(List.replicate (d.types.getD c.ctyp.toNat default).fields.length (⟨0,[]⟩:Cel))=(zO d (c.ctyp,c.cagg) V):=(VP (d:=d) (k:=(c.ctyp,c.cagg)) (L:=V) (Vk (by simpa using ab))).symm
 rw[aA]at br
 exact⟨rfl,bp,_,yW ⟨(show _=(Ix sq 0:Value)from rfl),(show _=(Ix vb 0:Value)from rfl),(show _=(Iv o:Value)from rfl),(show _=(Iv start:Value)from rfl),(show _=(Ix N 0:Value)from rfl),(show _=(Ix A 0:Value)from rfl),(show _=(Ix D 0:Value)from rfl),(show _=(Ix K 0:Value)from rfl),trivial⟩,((br.s8_abdefgh).mv1)⟩
 rintro _ w69 ⟨H,ρj1,rfl,R⟩
 refine za (za (zA kr (st (Yo rfl (st (lD (Iv (c.expect)) mT rfl (zd (R.b5) rfl) (st (yn (k:=.i64) (a:=c.expect) (b:= -1) rfl rfl (st (mV (.bool (!decide (c.expect=(-1)))) (stc (V:=Ix A 5) rfl rfl (fun dw=>?_) ?_)))))))))))
 have hl72:=zz dw
 exact Yo rfl ⟨rfl,rfl⟩
 refine stc (V:=Iv (c.expect)) rfl rfl (fun bs=>?_) ?_
 have hl74:=zz bs
 exact lD (Iv (c.expect)) mT (if_pos bs) (zd (R.b5) rfl) ⟨rfl,rfl⟩
 refine stc (V:=Ix K 0) rfl rfl (fun dx=>?_) ?_
 have hl76:=zz dx
 exact Xt rfl ⟨rfl,rfl⟩
 refine stc (V:=Iv ((xH d (c.ctyp,c.cagg) V).ver)) rfl rfl (fun bt=>?_) ?_
 have hl78:=zz bt
 exact lD (Iv ((xH d (c.ctyp,c.cagg) V).ver)) mT (if_pos bt) (zd (R.b0) rfl) ⟨rfl,rfl⟩
 refine stc (V:=.bool (!decide (c.expect=((xH d (c.ctyp,c.cagg) V).ver)))) rfl rfl (fun aC=>?_) ?_
 have hl80:=zz aC
 exact yn (k:=.i64) (a:=c.expect) (b:=(xH d (c.ctyp,c.cagg) V).ver) (if_pos aC) (if_pos aC) ⟨rfl,rfl⟩
 refine st (zy (b:= !decide (c.expect=(-1))) (b':= !decide (c.expect=((xH d (c.ctyp,c.cagg) V).ver))) rfl (fun hbp=>(if_pos hbp)) (zb ?_))
 cases ac:(!decide (c.expect=(-1)))&&(!decide (c.expect=((xH d (c.ctyp,c.cagg) V).ver)))
 have ad:=ac
 try simp only[zf]at ac
 have hzx:Zb c ((yh (c.ctyp,c.cagg) V:Nat):Int)=0:=zbP ad
 refine ze rfl (zl (za (za ?_)))
 refine WD4 ((fun TT F dj=>WF [fun vals B=>Sep G W (F::dj::TT) B,fun vals B=>(vals 14=(Iv ((yH (d.types.getD c.ctyp.toNat default) (zO d (c.ctyp,c.cagg) V) c.cfield c.cop c.carg)):Value))∧Sep G W (dj::F::TT) B]) ((Blk bh p.toArray 44)::(RowE (α:=Int) own 3 z (((yO L c.ckey).getD default).deps))::ed::(Blk A (c.cells).toArray 49)::eh::Rs) (Blk K ((xH d (c.ctyp,c.cagg) V).cells H).toArray 77) (RowE (α:=Cel) own 140 H (zO d (c.ctyp,c.cagg) V))) (AF [Vl 0 (Ix N 0),Vl 1 (dd0),Vl 2 (Ix A 0),Vl 3 (Iv (c.ctyp)),Vl 4 (Ix (sb dd0) (so dd0+c.ctyp.toNat*1)),Vl 5 (.agg ((d.types.getD c.ctyp.toNat default).cells (zN W (sb dd0) (so dd0+c.ctyp.toNat*1+0))).toArray),Vl 6 (Ix K 1),Vl 7 (H),Vl 8 (Ix A 2),Vl 9 (Iv (c.cfield)),Vl 10 (Ix A 3),Vl 11 (Iv (c.cop)),Vl 12 (Ix A 4),Vl 13 (Iv (c.carg)),fun _=>True,Vl 15 (.bool (!decide ((yH (d.types.getD c.ctyp.toNat default) (zO d (c.ctyp,c.cagg) V) c.cfield c.cop c.carg)=0)))]) [[],[0],[],[2],(rg 4),(rg 5),[],[6],[],[8],[],[10],[],[12],(rg 14),(rg 15)] [14] [(0,0),(0,0),(0,0),(0,0),(0,0),(0,0),(0,0),(0,0),(0,0),(0,0),(0,0),(0,0),(0,0),(0,0),(0,0),(1,1)] R ⟨fun _ _ _ _ _ _ _=>obl rfl (yC rfl dR),ob1 0 fun _ _ (bA:Sep _ _ _ _) bB=>obl rfl (lD dd0 pR (bB 0 dc) (zd (bA.b6) rfl) dR),fun _ _ _ _ _ _ _=>obl rfl (Yc rfl dR),ob1 0 fun _ _ (bC:Sep _ _ _ _) bD=>obl rfl (lD (Iv (c.ctyp)) mT (bD 2 dc) (zd (bC.b5) rfl) dR),?_,?_,fun _ _ _ _ _ _ _=>obl rfl (xO rfl dR),ob1 0 fun _ _ (bE:Sep _ _ _ _) bF=>obl rfl (lD H Tryz.isAgg75 (bF 6 dc) (zd (bE.b0) rfl) dR),fun _ _ _ _ _ _ _=>obl rfl (Xp rfl dR),ob1 0 fun _ _ (bG:Sep _ _ _ _) bH=>obl rfl (lD (Iv (c.cfield)) mT (bH 8 dc) (zd (bG.b5) rfl) dR),fun _ _ _ _ _ _ _=>obl rfl (Xz rfl dR),ob1 0 fun _ _ (bI:Sep _ _ _ _) bJ=>obl rfl (lD (Iv (c.cop)) mT (bJ 10 dc) (zd (bI.b5) rfl) dR),fun _ _ _ _ _ _ _=>obl rfl (YS rfl dR),ob1 0 fun _ _ (bK:Sep _ _ _ _) bL=>obl rfl (lD (Iv (c.carg)) mT (bL 12 dc) (zd (bK.b5) rfl) dR),?_,?_,trivial⟩ ?_
 refine ob1 0 fun _ _ _ aE=>(obl rfl ?_)
 have hi260:c.ctyp.toNat<d.types.length:=bo
 exact zr (k:=1) (i:=c.ctyp) qR wT (aE 1 dc) hdd0.sl (aE 3 dc) ⟨by omega,by omega⟩ dR
 refine ob1 0 fun _ _ (bM:Sep _ _ _ _) bN=>(obl rfl ?_)
 have aF:c.ctyp.toNat<d.types.length:=bo
 obtain⟨bu,aD,hoke269⟩:=hdd0.typD aF
 have hsm271:((d.types.getD c.ctyp.toNat default).fields).length*48≤140737488355328:=aD.small
 have bv:=bM.cells bu (hdd0.foot (ne_of_lt aF))
 exact zh (k:=1) rR wT rfl (bN 4 dc) bv dR
 refine ob1 0 fun vals _ (aG:Sep _ _ _ _) O=>(obl rfl ?_)
 have aH:c.ctyp.toNat<d.types.length:=bo
 obtain⟨bw,X,bf⟩:=hdd0.typD aH
 have hsm202:((d.types.getD c.ctyp.toNat default).fields).length*48≤140737488355328:=X.small
 have hcw203:=aG.cells bw (hdd0.foot (ne_of_lt aH))
 obtain⟨G205,bO,bP,bQ,bR⟩:=(aG.mv1).lend
 have ai:=RowE.rd bO
 have hrd211s:_*32≤_:=ai.small
 refine(zH (f:=48) (vals:=[.agg ((d.types.getD c.ctyp.toNat default).cells (zN W (sb dd0) (so dd0+c.ctyp.toNat*1+0))).toArray,H,Iv (c.cfield),Iv (c.cop),Iv (c.carg)]) (cap:=[]) rfl (yE ⟨(O 5 dc),(O 7 dc),(O 9 dc),(O 11 dc),(O 13 dc),trivial⟩) Tryz.call48 (Wk (t:=(d.types.getD c.ctyp.toNat default)) (c:=(zO d (c.ctyp,c.cagg) V)) (vc:=H) (fi:=c.cfield) (op:=c.cop) (arg:=c.carg) (RdS.base X bP) bf ai oc.cfield oc.cop oc.carg bQ ((show Yw _ _ _ _ _ from eb.ask (hd.typ _ om) (hrl.inv hd c.ctyp c.cagg dZ ea)))) ?_)
 rintro _ w212 ⟨rfl,bS⟩
 have bT:=bR _ _ bS
 exact fun x y s=>⟨(zx y bT),trivial⟩
 refine ob1 1 fun _ _ bU _=>?_
 obtain⟨aI,hS335⟩:=bU
 exact obl rfl (yn (k:=.i64) (a:=(yH (d.types.getD c.ctyp.toNat default) (zO d (c.ctyp,c.cagg) V) c.cfield c.cop c.carg)) (b:=0) aI rfl dR)
 intro vals w336 bV bW
 obtain⟨aI,ae⟩:=bV
 have dy:=bW 15 dc
 refine zT (kv:=[(1,Ix sq 0),(2,Ix vb 0),(3,Iv o),(4,Iv start),(6,Ix N 0),(11,Ix A 0),(12,Ix D 0),(18,Ix K 0),(56,Ix A 5),(57,Iv (c.expect)),(58,.bool (!decide (c.expect=(-1)))),(59,.bool (!decide (c.expect=(-1)))),(65,.bool false),(82,.bool (!decide ((yH (d.types.getD c.ctyp.toNat default) (zO d (c.ctyp,c.cagg) V) c.cfield c.cop c.carg)=0)))]) ⟨rfl,rfl,rfl,rfl,rfl,rfl,rfl,rfl,rfl,rfl,rfl,rfl,rfl,(by exact dy),trivial⟩ (fun ρw336=>(zb ?_))
 cases E: !decide ((yH (d.types.getD c.ctyp.toNat default) (zO d (c.ctyp,c.cagg) V) c.cfield c.cop c.carg)=0)
 have hc341r:=E
 have E:=zQ E
 have hzm:=E
 refine ze rfl (zl (za ?_))
 refine WD6 ((fun TT F=>WF [fun vals B=>Sep G W (F::TT) B,fun vals B=> ∃(g:Value),(vals 3=(g:Value))∧Sep G W ((RowE (α:=Int) own 3 g (zu n L))::F::TT) B,fun _ _=>True,fun vals B=> ∃(g:Value),(vals 3=(g:Value))∧(vals 5=(Iv ((zK L)):Value))∧Sep G W ((RowE (α:=Int) own 3 g (zu n L))::F::TT) B,fun _ _=>True,fun _ _=>True,fun _ _=>True,fun vals B=> ∃(g:Value) (e:Value),(vals 3=(g:Value))∧(vals 5=(Iv ((zK L)):Value))∧(vals 8=(.tuple #[.agg ((evE c o (zu n L) (max (zK L) start)).cells e).toArray,Iv ((evN o (zu n L) (max (zK L) start)))]:Value))∧Sep G W ((RowE (α:=Int) own 3 g (zu n L))::(RowE (α:=Int) own 3 e ((evE c o (zu n L) (max (zK L) start)).deps))::F::TT) B,fun vals B=> ∃(j:Nat),(vals 12=(Ix j 0:Value))∧Sep G W ((Blk j #[Iv 0,Iv 0,Iv 0,(Iz),Iv 0,Iv 0,Iv 0,Iv 0,Iv 0,Iv 0] 44)::F::TT) B,fun vals B=> ∃(g:Value) (j:Nat),(vals 3=(g:Value))∧(vals 12=(Ix j 0:Value))∧Sep G W ((Blk j #[Iv 0,Iv 0,Iv 0,(Iz),Iv 0,Iv 0,Iv 0,Iv 0,Iv 0,Iv 0] 44)::(RowE (α:=Int) own 3 g (zu n L))::F::TT) B,fun _ _=>True,fun vals B=> ∃(g:Value) (j:Nat),(vals 3=(g:Value))∧(vals 5=(Iv ((zK L)):Value))∧(vals 12=(Ix j 0:Value))∧Sep G W ((Blk j #[Iv 0,Iv 0,Iv 0,(Iz),Iv 0,Iv 0,Iv 0,Iv 0,Iv 0,Iv 0] 44)::(RowE (α:=Int) own 3 g (zu n L))::F::TT) B,fun _ _=>True,fun _ _=>True,fun _ _=>True,fun vals B=> ∃(g:Value) (e:Value) (j:Nat),(vals 3=(g:Value))∧(vals 5=(Iv ((zK L)):Value))∧(vals 8=(.tuple #[.agg ((evE c o (zu n L) (max (zK L) start)).cells e).toArray,Iv ((evN o (zu n L) (max (zK L) start)))]:Value))∧(vals 12=(Ix j 0:Value))∧Sep G W ((Blk j #[Iv 0,Iv 0,Iv 0,(Iz),Iv 0,Iv 0,Iv 0,Iv 0,Iv 0,Iv 0] 44)::(RowE (α:=Int) own 3 g (zu n L))::(RowE (α:=Int) own 3 e ((evE c o (zu n L) (max (zK L) start)).deps))::F::TT) B,fun _ _=>True,fun _ _=>True,fun _ _=>True,fun _ _=>True,fun _ _=>True,fun _ _=>True,fun _ _=>True,fun _ _=>True,fun _ _=>True,fun _ _=>True,fun _ _=>True,fun _ _=>True,fun _ _=>True,fun _ _=>True,fun _ _=>True,fun vals B=> ∃(g:Value) (e:Value) (j:Nat),(vals 3=(g:Value))∧(vals 5=(Iv ((zK L)):Value))∧(vals 8=(.tuple #[.agg ((evE c o (zu n L) (max (zK L) start)).cells e).toArray,Iv ((evN o (zu n L) (max (zK L) start)))]:Value))∧(vals 12=(Ix j 0:Value))∧Sep G W ((Blk j ((evE c o (zu n L) (max (zK L) start)).cells e).toArray 44)::(RowE (α:=Int) own 3 g (zu n L))::(RowE (α:=Int) own 3 e ((evE c o (zu n L) (max (zK L) start)).deps))::F::TT) B]) ((Blk K ((xH d (c.ctyp,c.cagg) V).cells H).toArray 77)::(Blk bh p.toArray 44)::(RowE (α:=Int) own 3 z (((yO L c.ckey).getD default).deps))::ed::(Blk A (c.cells).toArray 49)::eh::Rs) (RowE (α:=Cel) own 140 H (zO d (c.ctyp,c.cagg) V))) (AF [Vl 0 (.agg (c.cells).toArray),Vl 1 (Iv o),Vl 2 (Ix sq 0),fun _=>True,Vl 4 (Ix sq 0),fun _=>True,Vl 6 (Iv start),Vl 7 (Iv (max (zK L) start)),fun _=>True,fun vals=> ∀(e:Value),vals 8=(.tuple #[.agg ((evE c o (zu n L) (max (zK L) start)).cells e).toArray,Iv ((evN o (zu n L) (max (zK L) start)))]:Value)→vals 9=(.tuple #[.agg ((evE c o (zu n L) (max (zK L) start)).cells e).toArray,Iv ((evN o (zu n L) (max (zK L) start)))]:Value),fun vals=> ∀(e:Value),vals 8=(.tuple #[.agg ((evE c o (zu n L) (max (zK L) start)).cells e).toArray,Iv ((evN o (zu n L) (max (zK L) start)))]:Value)→vals 10=(.agg ((evE c o (zu n L) (max (zK L) start)).cells e).toArray:Value),Vl 11 (Iv ((evN o (zu n L) (max (zK L) start)))),fun _=>True,fun _=>True,Vl 14 (Iv ((evN o (zu n L) (max (zK L) start))))]) [[],[],[],[2],[],[2,3,4],[],[2,3,4,5,6],(rg 8),(rg 9),(rg 10),(rg 10),[],[0,1,2,3,4,5,6,7,8,9,10,12],(rg 14)] [3,5,8,12,13] [[0,1,3,8,9,11],[0,1,3,8,9,11],[0,8],[0,8],[0,1,8,9],[1,9],[0,1,3,8,9,11],[3,11],[3,11],[7,15],[7,15],[7,15,31],[0,1,3,7],[15],[31]] ae ⟨?_,fun _ _ _ _ _ _=>obl rfl (mV (Iv o) dR),fun _ _ _ _ _ _=>obl rfl (mV (Ix sq 0) dR),?_,fun _ _ _ _ _ _=>obl rfl (mV (Ix sq 0) dR),?_,fun _ _ _ _ _ _=>obl rfl (mV (Iv start) dR),?_,?_,?_,?_,?_,?_,?_,fun _ _ _ _ _ bX=>obl rfl (zY (v:=Iv ((evN o (zu n L) (max (zK L) start)))) (bX 11 dc) dR),trivial⟩ ?_ (hlocA:=yX ⟨dA,dA,dA,dT,dA,dT,dA,dA,dT,fun vals x y h=>fun e C=>(y 9 (.inl rfl)).trans (h e ((y 8 (.inr dc)).symm.trans C)),fun vals x y h=>fun e C=>(y 10 (.inl rfl)).trans (h e ((y 8 (.inr dc)).symm.trans C)),dA,dT,dT,dA,trivial⟩)
 intro dz vals w473 bY I hA474
 have aj:dz∈[0,1,3,8,9,11]:=bY
 simp only[yt]at aj
 rcases aj with rfl|rfl|rfl|rfl|rfl|rfl
 have bZ:Sep _ _ _ _:=I
 exact obl rfl (zh (k:=7) sT pT rfl rfl (CellsAt.all (bZ.b5)) dR)
 obtain⟨g,l,ca⟩:=I
 exact obl rfl (zh (k:=7) sT pT rfl rfl (CellsAt.all (ca.b6)) dR)
 obtain⟨g,l,m,cb⟩:=I
 exact obl rfl (zh (k:=7) sT pT rfl rfl (CellsAt.all (cb.b6)) dR)
 obtain⟨j,u,cc⟩:=I
 exact obl rfl (zh (k:=7) sT pT rfl rfl (CellsAt.all (cc.b6)) dR)
 obtain⟨g,j,l,u,cd⟩:=I
 exact obl rfl (zh (k:=7) sT pT rfl rfl (CellsAt.all (cd.b7)) dR)
 obtain⟨g,j,l,m,u,ce⟩:=I
 exact obl rfl (zh (k:=7) sT pT rfl rfl (CellsAt.all (ce.b7)) dR)
 intro dB vals w504 cf aJ aK
 have ak:dB∈[0,8]:=cf
 simp only[yt]at ak
 rcases ak with rfl|rfl
 have cg:Sep _ _ _ _:=aJ
 refine obl rfl ((zH (f:=50) (vals:=[Ix sq 0]) (cap:=[]) rfl (yE ⟨(aK 2 dc),trivial⟩) lR (Uu hsq cg (hG) (hn)) ?_))
 rintro g w511 ⟨_,rfl,aL⟩
 have ch:=aL.r0
 have hr513s:_*8≤_:=ch.2
 exact fun x y s=>⟨(exiA g (zx y aL)),trivial⟩
 obtain⟨j,u,ci⟩:=aJ
 refine obl rfl ((zH (f:=50) (vals:=[Ix sq 0]) (cap:=[]) rfl (yE ⟨(aK 2 dc),trivial⟩) lR (Uu hsq ci (hG) (hn)) ?_))
 rintro g w517 ⟨_,rfl,aM⟩
 have cj:=aM.r0
 have hr519s:_*8≤_:=cj.2
 exact fun x y s=>⟨(exiA g (exiA j (zx y (zx ((s 12 dc).trans u) (aM.mv1))))),trivial⟩
 intro dC vals w527 ck aN aO
 have al:dC∈[1,9]:=ck
 simp only[yt]at al
 rcases al with rfl|rfl
 obtain⟨g,l,cl⟩:=aN
 refine obl rfl ((zH (f:=51) (vals:=[Ix sq 0]) (cap:=[]) rfl (yE ⟨(aO 4 dc),trivial⟩) sR (Jf hsq cl (hG)) ?_))
 rintro _ w533 ⟨rfl,cm⟩
 exact fun x y s=>⟨(exiA g (zx ((s 3 dc).trans l) (zx y cm))),trivial⟩
 obtain⟨g,j,l,u,cn⟩:=aN
 refine obl rfl ((zH (f:=51) (vals:=[Ix sq 0]) (cap:=[]) rfl (yE ⟨(aO 4 dc),trivial⟩) sR (Jf hsq cn (hG)) ?_))
 rintro _ w537 ⟨rfl,co⟩
 exact fun x y s=>⟨(exiA g (exiA j (zx ((s 3 dc).trans l) (zx y (zx ((s 12 dc).trans u) co))))),trivial⟩
 intro dD vals w545 cp aP aQ
 have am:dD∈[3,11]:=cp
 simp only[yt]at am
 rcases am with rfl|rfl
 obtain⟨g,l,m,hS549⟩:=aP
 exact obl rfl (Yj (k:=.i64) (a:=(zK L)) (b:=start) m (aQ 6 dc) dR)
 obtain⟨g,j,l,m,u,hS551⟩:=aP
 exact obl rfl (Yj (k:=.i64) (a:=(zK L)) (b:=start) m (aQ 6 dc) dR)
 intro dE vals w554 cq aR J
 have an:dE∈[3,11]:=cq
 simp only[yt]at an
 rcases an with rfl|rfl
 obtain⟨g,l,m,cr⟩:=aR
 refine obl rfl ?_
 obtain⟨G562,cs,hB565,ct,cu⟩:=cr.lend
 have ao:=RowE.rd cs
 have hrd568s:_*8≤_:=ao.small
 refine(zH (f:=49) (vals:=[.agg (c.cells).toArray,Iv o,g,Iv (max (zK L) start)]) (cap:=[]) rfl (yE ⟨(J 0 dc),(J 1 dc),l,(J 7 dc),trivial⟩) tR (Vg (c:=c) (o:=o) (v:=zu n L) (vv:=g) (lam:=max (zK L) start) oc om ao (by have h1:InR (zK L):=(by omega);have h2:InR start:=(by omega);omega) ct) ?_)
 rintro _ w570 ⟨e,rfl,aT⟩
 have cv:=aT.r0
 have hr572s:_*8≤_:=cv.2
 have cw:=cu _ _ aT
 exact fun x y s=>⟨(exiA g (exiA e (zx ((s 3 dc).trans l) (zx ((s 5 dc).trans m) (zx y cw))))),trivial⟩
 obtain⟨g,j,l,m,u,cx⟩:=aR
 refine obl rfl ?_
 obtain⟨G579,cy,hB582,cz,cC⟩:=(cx.mv1).lend
 have ap:=RowE.rd cy
 have hrd585s:_*8≤_:=ap.small
 refine(zH (f:=49) (vals:=[.agg (c.cells).toArray,Iv o,g,Iv (max (zK L) start)]) (cap:=[]) rfl (yE ⟨(J 0 dc),(J 1 dc),l,(J 7 dc),trivial⟩) tR (Vg (c:=c) (o:=o) (v:=zu n L) (vv:=g) (lam:=max (zK L) start) oc om ap (by have h1:InR (zK L):=(by omega);have h2:InR start:=(by omega);omega) cz) ?_)
 rintro _ w587 ⟨e,rfl,aU⟩
 have cD:=aU.r0
 have hr589s:_*8≤_:=cD.2
 have cE:=cC _ _ aU
 exact fun x y s=>⟨(exiA g (exiA e (exiA j (zx ((s 3 dc).trans l) (zx ((s 5 dc).trans m) (zx y (zx ((s 12 dc).trans u) (cE.mv2)))))))),trivial⟩
 intro dG vals w593 cF aV hA594
 have aq:dG∈[7,15]:=cF
 simp only[yt]at aq
 rcases aq with rfl|rfl
 obtain⟨g,e,l,m,q,hS597⟩:=aV
 refine obl rfl (yi (v:=.tuple #[.agg ((evE c o (zu n L) (max (zK L) start)).cells e).toArray,Iv ((evN o (zu n L) (max (zK L) start)))]) q (fun x y s=>⟨rfl,?_⟩))
 intro Y C
 rw[s 8 (by decide)]at C;cases q.symm.trans C
 exact y
 obtain⟨g,e,j,l,m,q,u,hS598⟩:=aV
 refine obl rfl (yi (v:=.tuple #[.agg ((evE c o (zu n L) (max (zK L) start)).cells e).toArray,Iv ((evN o (zu n L) (max (zK L) start)))]) q (fun x y s=>⟨rfl,?_⟩))
 intro Y C
 rw[s 8 (by decide)]at C;cases q.symm.trans C
 exact y
 intro dH vals w600 cG aW aX
 have ar:dH∈[7,15]:=cG
 simp only[yt]at ar
 rcases ar with rfl|rfl
 obtain⟨g,e,l,m,q,hS604⟩:=aW
 let ee:=(evE c o (zu n L) (max (zK L) start)).cells e
 have dI:vals 9=(.tuple #[.agg ee.toArray,Iv ((evN o (zu n L) (max (zK L) start)))]:Value):=aX 9 dc e q
 refine obl rfl (zm (vs:=[.agg ee.toArray,Iv ((evN o (zu n L) (max (zK L) start)))]) (i:=0) (v:=.agg ee.toArray) dI rfl (fun x y s=>⟨rfl,?_⟩))
 intro Y C
 rw[s 8 (by decide)]at C;cases q.symm.trans C
 exact y
 obtain⟨g,e,j,l,m,q,u,hS606⟩:=aW
 let ef:=(evE c o (zu n L) (max (zK L) start)).cells e
 have dJ:vals 9=(.tuple #[.agg ef.toArray,Iv ((evN o (zu n L) (max (zK L) start)))]:Value):=aX 9 dc e q
 refine obl rfl (zm (vs:=[.agg ef.toArray,Iv ((evN o (zu n L) (max (zK L) start)))]) (i:=0) (v:=.agg ef.toArray) dJ rfl (fun x y s=>⟨rfl,?_⟩))
 intro Y C
 rw[s 8 (by decide)]at C;cases q.symm.trans C
 exact y
 intro dK vals w609 cH af ag
 have au:dK∈[7,15,31]:=cH
 simp only[yt]at au
 rcases au with rfl|rfl|rfl
 obtain⟨g,e,l,m,q,hS613⟩:=af
 have dL:vals 9=(.tuple #[.agg ((evE c o (zu n L) (max (zK L) start)).cells e).toArray,Iv ((evN o (zu n L) (max (zK L) start)))]:Value):=ag 9 dc e q
 exact obl rfl (zm (vs:=[.agg ((evE c o (zu n L) (max (zK L) start)).cells e).toArray,Iv ((evN o (zu n L) (max (zK L) start)))]) (i:=1) (v:=Iv ((evN o (zu n L) (max (zK L) start)))) dL rfl dR)
 obtain⟨g,e,j,l,m,q,u,hS615⟩:=af
 have dM:vals 9=(.tuple #[.agg ((evE c o (zu n L) (max (zK L) start)).cells e).toArray,Iv ((evN o (zu n L) (max (zK L) start)))]:Value):=ag 9 dc e q
 exact obl rfl (zm (vs:=[.agg ((evE c o (zu n L) (max (zK L) start)).cells e).toArray,Iv ((evN o (zu n L) (max (zK L) start)))]) (i:=1) (v:=Iv ((evN o (zu n L) (max (zK L) start)))) dM rfl dR)
 obtain⟨g,e,j,l,m,q,u,hS617⟩:=af
 have dN:vals 9=(.tuple #[.agg ((evE c o (zu n L) (max (zK L) start)).cells e).toArray,Iv ((evN o (zu n L) (max (zK L) start)))]:Value):=ag 9 dc e q
 exact obl rfl (zm (vs:=[.agg ((evE c o (zu n L) (max (zK L) start)).cells e).toArray,Iv ((evN o (zu n L) (max (zK L) start)))]) (i:=1) (v:=Iv ((evN o (zu n L) (max (zK L) start)))) dN rfl dR)
 intro dO vals w620 cI T hA621
 have av:dO∈[0,1,3,7]:=cI
 simp only[yt]at av
 rcases av with rfl|rfl|rfl|rfl
 have cJ:Sep _ _ _ _:=T
 refine obl rfl ((zq oT ?_))
 intro w627 j cK
 exact fun x y s=>⟨(exiA j (zx y (cJ.new cK))),trivial⟩
 obtain⟨g,l,cM⟩:=T
 refine obl rfl ((zq oT ?_))
 intro w632 j cN
 exact fun x y s=>⟨(exiA g (exiA j (zx ((s 3 dc).trans l) (zx y (cM.new cN))))),trivial⟩
 obtain⟨g,l,m,cO⟩:=T
 refine obl rfl ((zq oT ?_))
 intro w637 j cP
 exact fun x y s=>⟨(exiA g (exiA j (zx ((s 3 dc).trans l) (zx ((s 5 dc).trans m) (zx y (cO.new cP)))))),trivial⟩
 obtain⟨g,e,l,m,q,cQ⟩:=T
 refine obl rfl ((zq oT ?_))
 intro w642 j cR
 exact fun x y s=>⟨(exiA g (exiA e (exiA j (zx ((s 3 dc).trans l) (zx ((s 5 dc).trans m) (zx ((s 8 dc).trans q) (zx y (cQ.new cR)))))))),trivial⟩
 intro dP vals w645 cS cT cU
 have aw:dP∈[15]:=cS
 simp only[yt]at aw
 subst aw
 obtain⟨g,e,j,l,m,q,u,ah⟩:=cT
 let eg:=(evE c o (zu n L) (max (zK L) start)).cells e
 refine obl rfl ?_
 have dQ:vals 10=(.agg eg.toArray:Value):=cU 10 dc e q
 have aY:=ah.r2
 have hr653s:_*8≤_:=aY.2
 refine(zp (v:=.agg eg.toArray) (c':=eg.toArray) kT u dQ (ah.b0) (zX ⟨rfl,rfl,rfl,aY.1.one,rfl,rfl,rfl,rfl,rfl,rfl,trivial⟩) yqc rfl ?_)
 intro w651 cV
 exact fun x y s=>⟨(exiA g (exiA e (exiA j (zx ((s 3 dc).trans l) (zx ((s 5 dc).trans m) (zx ((s 8 dc).trans q) (zx ((s 12 dc).trans u) (ah.pt0 cV)))))))),trivial⟩
 intro vals w661 cW cX
 obtain⟨g,e,j,l,m,q,u,U⟩:=cW
 have dS:=cX 14 dc
 refine zT (kv:=[(1,Ix sq 0),(2,Ix vb 0),(3,Iv o),(4,Iv start),(6,Ix N 0),(11,Ix A 0),(12,Ix D 0),(18,Ix K 0),(56,Ix A 5),(57,Iv (c.expect)),(58,.bool (!decide (c.expect=(-1)))),(59,.bool (!decide (c.expect=(-1)))),(65,.bool false),(82,.bool false),(20,Ix j 0),(15,Iv ((evN o (zu n L) (max (zK L) start))))]) ⟨rfl,rfl,rfl,rfl,rfl,rfl,rfl,rfl,rfl,rfl,rfl,rfl,rfl,rfl,(by exact u),(by exact dS),trivial⟩ (fun ρw661=>(zb (za (R0 fun _=>st (zh (k:=10) lT kT rfl rfl (CellsAt.all (U.b0)) (st (mV (Iv ((evN o (zu n L) (max (zK L) start)))) (st (zR (k:=.i64) (a:=(evN o (zu n L) (max (zK L) start))) (b:=0) rfl rfl (st (mV (Iv ((evN o (zu n L) (max (zK L) start)))) ?_)))))))))))
 have aZ:=U.r2
 have hr668s:_*8≤_:=aZ.2
 refine stn (zp (v:=.agg ((evE c o (zu n L) (max (zK L) start)).cells e).toArray) (c':=((evE c o (zu n L) (max (zK L) start)).cells e).toArray) kT rfl rfl (U.b7) (zX ⟨rfl,rfl,rfl,aZ.1.one,rfl,rfl,rfl,rfl,rfl,rfl,trivial⟩) yqc rfl ?_)
 intro dU cY
 have ba:=U.pt7 cY
 refine st (aS (.bool (decide ((evN o (zu n L) (max (zK L) start))=0))) (st (aS (Iv ((evN o (zu n L) (max (zK L) start)))) (zb (zk (YM (b:=D) uT lT kT rfl rfl (CellsAt.all (ba.b7)) (show _=(.bool (decide ((evN o (zu n L) (max (zK L) start))=0)):Value)from rfl) (show _=(Iv ((evN o (zu n L) (max (zK L) start))):Value)from rfl) ?_))))))
 have cZ:Sep G W ((RowE (α:=Int) own 3 e ((evE c o (zu n L) (max (zK L) start)).deps))::Rs) dU:=ba.sel 10 [2] (Nat.le_add_left _ _) rfl rfl
 rw[show exR d n L V o start c=((evE c o (zu n L) (max (zK L) start)),decide ((evN o (zu n L) (max (zK L) start))=0),(evN o (zu n L) (max (zK L) start)))from zbS hzc hzk hzx hzm]
 refine⟨e,rfl,cZ⟩
 have E:=zz E
 have hzm:=E
 have dV:yH (xX d c.ctyp) (zO d (c.ctyp,c.cagg) V) c.cfield c.cop c.carg=10:=mayL_two.resolve_left hzm
 refine zg rfl (za (yq (by kernel_rfl) (fun _=>(st (zL (parts':=[]) (v:=.agg (ev0.cells (Iz)).toArray) rfl (by simp+zetaDelta [Instr.build,Instr.fill,go_sem,Ev.cells,ev0]) (stn (zp (v:=.agg (ev0.cells (Iz)).toArray) (c':=(ev0.cells (Iz)).toArray) kT rfl rfl (ae.b4) (zX ⟨rfl,rfl,rfl,rfl,rfl,rfl,rfl,rfl,rfl,rfl,trivial⟩) yqc rfl ?_)))))))
 intro w671 da
 have bb:=ae.pt4 da
 refine st (aS (.bool false) (st (aS (Iv 10) (zb (zk (YM (b:=D) uT lT kT rfl rfl (CellsAt.all (bb.b4)) (show _=(.bool false:Value)from rfl) (show _=(Iv 10:Value)from rfl) ?_))))))
 have db:Sep _ _ ((RowE (α:=Int) own 3 (Iz) ([]:List Int))::_) _:=bb.rowNil own 3
 rw[show exR d n L V o start c=(ev0,false,10)from(zax hzc hzk hzx hzm).trans (by rw[dV])]
 refine⟨(Iz),rfl,(db.s8_a)⟩
 have ad:=ac
 try simp only[zf]at ac
 have hzx:Zb c ((yh (c.ctyp,c.cagg) V:Nat):Int)=11:=zdg ad
 refine zg rfl (za (yq (by kernel_rfl) (fun _=>(st (zL (parts':=[]) (v:=.agg (ev0.cells (Iz)).toArray) rfl (by simp+zetaDelta [Instr.build,Instr.fill,go_sem,Ev.cells,ev0]) (stn (zp (v:=.agg (ev0.cells (Iz)).toArray) (c':=(ev0.cells (Iz)).toArray) kT rfl rfl (R.b4) (zX ⟨rfl,rfl,rfl,rfl,rfl,rfl,rfl,rfl,rfl,rfl,trivial⟩) yqc rfl ?_)))))))
 intro w676 dd
 have bc:=R.pt4 dd
 refine st (aS (.bool false) (st (aS (Iv 11) (zb (zk (YM (b:=D) uT lT kT rfl rfl (CellsAt.all (bc.b4)) (show _=(.bool false:Value)from rfl) (show _=(Iv 11:Value)from rfl) ?_))))))
 have de:Sep _ _ ((RowE (α:=Int) own 3 (Iz) ([]:List Int))::_) _:=bc.rowNil own 3
 rw[show exR d n L V o start c=(ev0,false,11)from(zbl hzc hzk (by rw[hzx];decide)).trans (by rw[hzx])]
 refine⟨(Iz),rfl,(de.s8_a)⟩
 have hzk:(yO L c.ckey).isSome=true:=by simpa using az
 refine zg rfl (za (R0 fun _=>st (zh (k:=10) lT kT rfl rfl (CellsAt.all (P.b0)) (stn (zp (v:=.agg p.toArray) (c':=p.toArray) kT rfl rfl (P.b2) (zX ⟨rfl,rfl,rfl,ay.1.one,rfl,rfl,rfl,rfl,rfl,rfl,trivial⟩) yqc rfl ?_)))))
 intro dW df
 have bd:=P.pt2 df
 refine st (aS (.bool false) (st (aS (Iv 0) (zb (zk (YM (b:=D) uT lT kT rfl rfl (CellsAt.all (bd.b2)) (show _=(.bool false:Value)from rfl) (show _=(Iv 0:Value)from rfl) ?_))))))
 have dg:Sep G W ((RowE (α:=Int) own 3 z (((yO L c.ckey).getD default).deps))::Rs) dW:=bd.sel 5 [1] (Nat.le_add_left _ _) rfl rfl
 rw[show exR d n L V o start c=(((yO L c.ckey).getD default),false,0)from zbj hzc hzk]
 refine⟨z,rfl,dg⟩
 have M:=zz M
 have hzc: ¬xx d c=0:=by simpa using M
 refine zg rfl (za (yq (by kernel_rfl) (fun _=>(st (zL (parts':=[]) (v:=.agg (ev0.cells (Iz)).toArray) rfl (by simp+zetaDelta [Instr.build,Instr.fill,go_sem,Ev.cells,ev0]) (st (mV (Iv (xx d c)) (stn (zp (v:=.agg (ev0.cells (Iz)).toArray) (c':=(ev0.cells (Iz)).toArray) kT rfl rfl (aa.b0) (zX ⟨rfl,rfl,rfl,rfl,rfl,rfl,rfl,rfl,rfl,rfl,trivial⟩) yqc rfl ?_)))))))))
 intro w685 dh
 have be:=aa.pt0 dh
 refine st (aS (.bool false) (st (aS (Iv (xx d c)) (zb (zk (YM (b:=D) uT lT kT rfl rfl (CellsAt.all (be.b0)) (show _=(.bool false:Value)from rfl) (show _=(Iv (xx d c):Value)from rfl) ?_))))))
 have di:Sep _ _ ((RowE (α:=Int) own 3 (Iz) ([]:List Int))::_) _:=be.rowNil own 3
 rw[show exR d n L V o start c=(ev0,false,xx d c)from zbv hzc]
 refine⟨(Iz),rfl,(di.s4_a)⟩
def yJ (e:Ev)(L:List Ev)(k:Nat):Bool:=(L.take k).any (ltE e)
def xK (e:Ev)(L:List Ev)(k:Nat):List Ev:=if yJ e L k=true then xo e (L.take k)else L.take k
section
variable {e x:Ev}{A B L:List Ev}{k:Nat}
theorem Qe: ∀{A:List Ev},A.any (ltE e)=true→xo e (A++B)=xo e A++B
 |x::l,h=>by
  simp only[List.cons_append,xo]
  by_cases hx:ltE e x=true
  ·rw[if_pos hx,if_pos hx];rfl
  ·rw[if_neg hx,if_neg hx]
   rw[List.any_cons,Bool.or_eq_true]at h
   rw[Qe (h.resolve_left hx)];rfl
theorem Vq: ∀{A:List Ev},A.any (ltE e)=false→xo e A=A++[e]
 |[],_=>rfl
 |x::l,h=>by
  rw[List.any_cons,Bool.or_eq_false_iff]at h
  simp only[xo]
  rw[if_neg (by rw[h.1];decide),Vq h.2];rfl
theorem Vj: ∀{A:List Ev},A.any (ltE e)=false→ltE e x=true→xo e (A++[x])=A++[e]++[x]
 |[],_,hx=>by show xo e [x]=_;simp only[xo];rw[if_pos hx];rfl
 |y::l,h,hx=>by
  rw[List.any_cons,Bool.or_eq_false_iff]at h
  simp only[List.cons_append,xo]
  rw[if_neg (by rw[h.1];decide),Vj h.2 hx]
theorem Wq (hk:k<L.length):yJ e L (k+1)=(yJ e L k||ltE e (L.getD k default)):=by
 unfold yJ
 rw[Zt hk,List.any_append];simp
theorem UF (hk:k<L.length)(h:((!yJ e L k)&&ltE e (L.getD k default))=true):xK e L (k+1)=xK e L k++[e]++[L.getD k default]∧yJ e L (k+1)=true:=by
 rw[Bool.and_eq_true,Bool.not_eq_true']at h
 have h2:yJ e L (k+1)=true:=by rw[Wq hk,h.2,Bool.or_true]
 refine⟨?_,h2⟩
 unfold xK
 rw[if_pos h2,if_neg (by rw[h.1];decide),Zt hk,Vj h.1 h.2]
theorem VA (hk:k<L.length)(h:((!yJ e L k)&&ltE e (L.getD k default))=false):xK e L (k+1)=xK e L k++[L.getD k default]∧yJ e L (k+1)=yJ e L k:=by
 have h2:yJ e L (k+1)=yJ e L k:=by
  rw[Wq hk]
  revert h;cases yJ e L k<;>simp
 refine⟨?_,h2⟩
 unfold xK
 rw[h2]
 by_cases hb:yJ e L k=true
 ·rw[if_pos hb,if_pos hb,Zt hk,Qe hb]
 ·rw[if_neg hb,if_neg hb,Zt hk]
theorem JT:(xK e L k).length≤k+1:=by
 unfold xK
 split
 ·rw[Qu,List.length_take];omega
 ·rw[List.length_take];omega
theorem zby (hk:k=L.length)(h:yJ e L k=true):xK e L k=xo e L:=by
 unfold xK
 rw[if_pos h,hk,List.take_length]
theorem Ji (hk:k=L.length)(h:yJ e L k=false):xK e L k++[e]=xo e L:=by
 unfold xK
 unfold yJ at h
 unfold yJ
 rw[if_neg (by rw[h];decide),Vq (A:=L) (by rw[hk,List.take_length]at h;exact h),hk,List.take_length]
theorem zbO {F:Nat→Prop}{W w:World}{f:Nat→Prop}{cs:List Value}(h:Rep.rd W F cs x):((alt F W).el cs x).p w f:=Or.inr h
end
theorem KY {x:Ev}{F:Nat→Prop}{W w:World}{f:Nat→Prop}{v:Value}(h:(RowE (α:=Int) own 3 v x.deps).p w f)(ho:x.Ok):((alt F W).el (x.cells v) x).p w f:=Or.inl ⟨_,rfl,RowE.soft h,ho⟩
theorem zcd {b:Nat}{n:Nat}{L:List Ev}{e:Ev}{de0:Value}(hde0:RdS W G de0 e.deps)(oe:e.Ok)(hS0:Sep G W ((RefS b n L)::Rs) w)(hG:Good n L)(hn:n≤1000)(hL:L.length≤1000000):Ret Tryz.prog 32 [.pointer (some ⟨b,0,none⟩),.agg (e.cells de0).toArray] w (fun r w'=> ∃(L1:List Ev),r=(.int .i64 ((ZM n L e)):Value)∧(L1=addL n L e)∧Sep G W ((RefS b n L1)::Rs) w'):=by
 have hde0s:_*8≤_:=hde0.small
 refine zi (args:=[Ix b 0,.agg (e.cells de0).toArray]) Tryz.func32 rfl rfl ?_
 refine za ?_
 obtain⟨G1,aA,dw,dW,au⟩:=hS0.lend
 obtain⟨vl7,dx,dy⟩:=RefS.sh aA
 have hsm10:L.length*96≤140737488355328:=dy.small
 have hvl9:(zu n L).length=n:=Yt
 refine R0 fun _=>st (zM (v:=.agg (e.cells de0).toArray) rfl ?_)
 intro w13 x dz
 let dQ:=Blk x (e.cells de0).toArray 44
 refine st (aS (Iv 0) (zb (za ?_)))
 refine WD4 ((fun T=>WF [fun vals I=>Sep G1 w (T::Rs) I,fun vals I=>(vals 5=(Iv ((yv e ((n:Nat):Int))):Value))∧Sep G1 w (T::Rs) I]) dQ) (AF [Vl 0 (.agg (e.cells de0).toArray),Vl 1 (Ix b 0),Vl 2 (Ix b 0),Vl 3 (Ix b 0),Vl 4 (Iw n),fun _=>True,Vl 6 (Iv ((yv e ((n:Nat):Int))))]) [[],[],[1],[1,2],[1,2,3],(rg 5),(rg 6)] [5] [(0,0),(0,0),(0,0),(0,0),(0,0),(0,0),(1,1)] (dW.new dz) ⟨ob1 0 fun _ _ (dB:Sep _ _ _ _) _=>obl rfl (zh (k:=10) lT kT rfl rfl (CellsAt.all (dB.b0)) dR),fun _ _ _ _ _ _ _=>obl rfl (mV (Ix b 0) dR),fun _ _ _ _ _ _ dC=>obl rfl (zo (b:=b) (o:=0) (dC 1 dc) dR),fun _ _ _ _ _ _ dD=>obl rfl (Uy (dD 2 dc) dR),ob1 0 fun _ _ (bJ:Sep _ _ _ _) dE=>obl rfl (lD (Iw n) mT (dE 3 dc) (zd (bJ.gblk dx) rfl) dR),?_,?_,trivial⟩ ?_
 refine ob1 0 fun vals _ (dG:Sep _ _ _ _) bl=>(obl rfl ?_)
 refine(zH (f:=27) (vals:=[.agg (e.cells de0).toArray,Iw n]) (cap:=[]) rfl (yE ⟨(bl 0 dc),(bl 4 dc),trivial⟩) Tryz.call27 (Jz (e:=e) (n:=n) (RdS.base hde0 dw) oe yqe dG) ?_)
 rintro _ w59 ⟨rfl,dH⟩
 exact fun m s av=>⟨(zx s dH),trivial⟩
 refine ob1 1 fun _ _ bK _=>?_
 obtain⟨bm,hS110⟩:=bK
 exact obl rfl (zY (v:=Iv ((yv e ((n:Nat):Int)))) bm dR)
 intro vals w111 bL bM
 obtain⟨bm,ad⟩:=bL
 have dI:=bM 6 dc
 refine zT (kv:=[(0,Ix b 0),(1,.agg (e.cells de0).toArray),(3,Ix x 0),(4,Iv 0),(5,Iv ((yv e ((n:Nat):Int))))]) ⟨rfl,rfl,rfl,rfl,(by exact dI),trivial⟩ (fun ρw111=>(zb (za (za (R0 fun _=>st (mV (Iv ((yv e ((n:Nat):Int)))) (st (yn (k:=.i64) (a:=(yv e ((n:Nat):Int))) (b:=0) rfl rfl (zb ?_)))))))))
 cases q: !decide ((yv e ((n:Nat):Int))=0)
 have hc116r:=q
 have q:=zQ q
 obtain⟨⟨ho9,ho9'⟩,⟨hs9,dy⟩,dX,hq9⟩:=Zq q
 have U:(zu n L).getD e.origin.toNat 0=((Yh L e.origin.toNat:Nat):Int):=Xd om
 have hcl9:=XV (L:=L) (o:=e.origin.toNat)
 refine ze rfl (zl (za (R0 fun _=>st (mV (Ix b 0) (st (yp rfl (st (zh (k:=2) (cs:=[Iv (e.origin),Iv (e.seq)]) Tryz.isAgg41 Tryz.sizeOf41 rfl rfl (CellsAt.sub (CellsAt.all (ad.b0)) 0 (cs2:=[Iv (e.origin),Iv (e.seq)]) rfl) (st (cL Tryz.call71 (Ky aA oe.origin oe.seq ad) ?_))))))))))
 rintro _ w119 ⟨l,rfl,hgo118,aB⟩
 let bk:=((yb L (e.origin,e.seq)).getD default).cells l
 have aC:=aB.r0
 have hr121s:_*8≤_:=aC.2
 refine st (mV (.tuple #[.agg bk.toArray,.bool (yb L (e.origin,e.seq)).isSome]) (st (zm (vs:=[.agg bk.toArray,.bool ((yb L (e.origin,e.seq)).isSome)]) (i:=0) (v:=.agg bk.toArray) rfl rfl (st (zm (vs:=[.agg bk.toArray,.bool ((yb L (e.origin,e.seq)).isSome)]) (i:=1) (v:=.bool ((yb L (e.origin,e.seq)).isSome)) rfl rfl (st (zq oT ?_)))))))
 intro w124 z bN
 let dY:=Blk z bk.toArray 44
 have aD:=aB.new bN
 refine stn (zp (v:=.agg bk.toArray) (c':=bk.toArray) kT rfl rfl (aD.b0) (zX ⟨rfl,rfl,rfl,aC.1.one,rfl,rfl,rfl,rfl,rfl,rfl,trivial⟩) yqc rfl ?_)
 intro w126 bO
 have aE:=aD.pt0 bO
 refine st (aS (.bool ((yb L (e.origin,e.seq)).isSome)) (zb (za (za (R0 fun _=>st (mV (.bool ((yb L (e.origin,e.seq)).isSome)) (zb ?_)))))))
 cases y:(yb L (e.origin,e.seq)).isSome
 have hc129r:=y
 refine ze rfl (zl (za (za ?_)))
 refine WD4 ((fun TT T=>WF [fun vals I=>Sep G1 w (T::TT) I,fun vals I=> ∃(g:Value),(vals 4=(g:Value))∧Sep G1 w ((RowE (α:=Int) own 3 g (zu n L))::T::TT) I]) ((RowE (α:=Int) own 3 l (((yb L (e.origin,e.seq)).getD default).deps))::dQ::Rs) dY) (AF [Vl 0 (Ix x 0),Vl 1 (Ix x 1),Vl 2 (Iv (e.seq)),Vl 3 (Ix b 0),fun _=>True,Vl 5 (Ix x 0),Vl 6 (Ix x 0),Vl 7 (Iv (e.origin)),fun vals=> ∀(g:Value),vals 4=(g:Value)→vals 8=(Ix (sb g) (so g+e.origin.toNat*1):Value),Vl 9 (Iv (((zu n L).getD e.origin.toNat 0))),Vl 10 (Iv (((zu n L).getD e.origin.toNat 0)+1)),Vl 11 (.bool (!decide (e.seq=(((zu n L).getD e.origin.toNat 0)+1))))]) [[],[0],[0,1],[],[3],[],[5],[5,6],[3,4,5,6,7],[3,4,5,6,7,8],[3,4,5,6,7,8,9],(rg 11)] [4] [(0,1),(0,1),(0,1),(0,0),(0,0),(0,1),(0,1),(0,1),(1,1),(1,1),(1,1),(1,1)] aE ⟨fun _ _ _ _ _ _ _=>obl rfl (yp rfl dR),fun _ _ _ _ _ _ bP=>obl rfl (xE (bP 0 dc) dR),?_,fun _ _ _ _ _ _ _=>obl rfl (mV (Ix b 0) dR),?_,fun _ _ _ _ _ _ _=>obl rfl (yp rfl dR),fun _ _ _ _ _ _ bQ=>obl rfl (xa (bQ 5 dc) dR),?_,?_,?_,?_,?_,trivial⟩ ?_ (hlocA:=yX ⟨dA,dA,dA,dA,dT,dA,dA,dA,fun vals m s h=>fun g aF=>(s 8 (.inl rfl)).trans (h g ((s 4 (.inr dc)).symm.trans aF)),dA,dA,dA,trivial⟩)
 refine fun ae _ _ dJ dK aG aH=>?_
 have hkk:=xk dJ dK
 rcases hkk with rfl|rfl
 have bR:Sep _ _ _ _:=aG
 exact obl rfl (lD (Iv (e.seq)) mT (aH 1 dc) (zd (bR.b2) rfl) dR)
 obtain⟨g,A,bS⟩:=aG
 exact obl rfl (lD (Iv (e.seq)) mT (aH 1 dc) (zd (bS.b3) rfl) dR)
 refine ob1 0 fun vals _ (bT:Sep _ _ _ _) bU=>(obl rfl ?_)
 refine(zH (f:=50) (vals:=[Ix b 0]) (cap:=[]) rfl (yE ⟨(bU 3 dc),trivial⟩) lR (Uu aA bT (hG) bo) ?_)
 rintro g w166 ⟨_,rfl,aI⟩
 have bV:=aI.r0
 have hr168s:_*8≤_:=bV.2
 exact fun m s av=>⟨(exiA g (zx s aI)),trivial⟩
 refine fun af _ _ dL dM aJ aK=>?_
 have hkk:=xk dL dM
 rcases hkk with rfl|rfl
 have bW:Sep _ _ _ _:=aJ
 exact obl rfl (lD (Iv (e.origin)) mT (aK 6 dc) (zd (bW.b2) rfl) dR)
 obtain⟨g,A,bX⟩:=aJ
 exact obl rfl (lD (Iv (e.origin)) mT (aK 6 dc) (zd (bX.b3) rfl) dR)
 refine ob1 1 fun _ _ bY bZ=>?_
 obtain⟨g,A,ca⟩:=bY
 refine obl rfl ?_
 have hi289:e.origin.toNat<(zu n L).length:=bo
 have aL:=ca.r0
 have hr290s:_*8≤_:=aL.2
 refine zr (k:=1) (i:=e.origin) mR nR A aL.1 (bZ 7 dc) ⟨by omega,by omega⟩ (fun m s av=>⟨rfl,?_⟩)
 intro v165q aF
 rw[av 4 (by decide)]at aF;cases A.symm.trans aF
 exact s
 refine ob1 1 fun vals _ cb cc=>?_
 obtain⟨g,A,cd⟩:=cb
 have dN:vals 8=(Ix (sb g) (so g+e.origin.toNat*1):Value):=cc 8 dc g A
 refine obl rfl ?_
 have ce:e.origin.toNat<(zu n L).length:=bo
 obtain⟨_,_,bn,rfl,hxe299⟩:=cd.rowAtI (i:=0) (j:=e.origin.toNat) rfl ce
 exact lD (Iv (((zu n L).getD e.origin.toNat 0))) mT dN (bn.get (j:=0) rfl) dR
 refine ob1 1 fun _ _ cf cg=>?_
 obtain⟨g,A,hS307⟩:=cf
 refine obl rfl ?_
 have ch:InR (((zu n L).getD e.origin.toNat 0)+1):=by omega
 exact zP (r:=((zu n L).getD e.origin.toNat 0)+1) (k:=.i64) (a:=((zu n L).getD e.origin.toNat 0)) (b:=1) (cg 9 dc) rfl (zF ch) dR
 refine ob1 1 fun _ _ ci aM=>?_
 obtain⟨g,A,hS316⟩:=ci
 exact obl rfl (yn (k:=.i64) (a:=e.seq) (b:=((zu n L).getD e.origin.toNat 0)+1) (aM 2 dc) (aM 10 dc) dR)
 intro vals w319 cj ck
 obtain⟨g,A,aN⟩:=cj
 have dO:=ck 11 dc
 refine zT (kv:=[(0,Ix b 0),(1,.agg (e.cells de0).toArray),(3,Ix x 0),(4,Iv 0),(5,Iv ((yv e ((n:Nat):Int)))),(18,Iv ((yv e ((n:Nat):Int)))),(19,.bool false),(22,Ix b 0),(23,Ix x 0),(24,.agg #[Iv (e.origin),Iv (e.seq)]),(6,Ix z 0),(28,.bool false),(40,.bool (!decide (e.seq=(((zu n L).getD e.origin.toNat 0)+1))))]) ⟨rfl,rfl,rfl,rfl,rfl,rfl,rfl,rfl,rfl,rfl,rfl,rfl,(by exact dO),trivial⟩ (fun ρw319=>(zb ?_))
 cases p: !decide (e.seq=(((zu n L).getD e.origin.toNat 0)+1))
 have hc324r:=p
 have p:=zQ p
 refine ze rfl (zl (za (za (R0 fun _=>st (aS (Iv 0) (zb (zn (zZ (fun mq σ I=> ∃(k:Nat) (ρ:Env),mq=n-k∧σ=yd ρ [(0,Ix b 0),(3,Ix x 0),(8,Iw k)]∧(k≤n)∧(∀i,i<k→xB L e i=true)∧Sep G1 w ((RowE (α:=Int) own 3 g (zu n L))::(Blk z (((yb L (e.origin,e.seq)).getD default).cells l).toArray 44)::(RowE (α:=Int) own 3 l (((yb L (e.origin,e.seq)).getD default).deps))::(Blk x (e.cells de0).toArray 44)::Rs) I) ⟨0,_,rfl,sSf,Nat.zero_le _,(fun i h=>absurd h (Nat.not_lt_zero i)),aN⟩ ?_))))))))
 rintro m326 σ327 t ⟨k,ρl1,rfl,rfl,hkk,hm,V⟩
 refine za (za (R0 fun _=>st (mV (Iw k) (st (mV (Ix b 0) (st (zo (b:=b) (o:=0) rfl (st (Uy rfl (st (lD (Iw n) mT rfl (zd (V.gblk dx) rfl) (st (zC (k:=.i64) (a:=((k:Nat):Int)) (b:=((n:Nat):Int)) rfl rfl (zb ?_))))))))))))))
 cases J:decide (((k:Nat):Int)<((n:Nat):Int))
 have hc329r:=J
 have J:=fD J
 refine ze rfl (ya (zS (za (R0 fun _=>st (aS (Iz) (zb (za (R0 fun _=>st (aS (.bool false) (zb (za (za ?_))))))))))))
 have cl:=au _ _ V
 obtain⟨d,cm⟩:=RefS.open cl
 let eb:=Blk b #[Iw n,d] 93
 have aw:Sep G W (eb::(RowE (α:=Ev) own 44 d L)::(RowE (α:=Int) own 3 g (zu n L))::dY::(RowE (α:=Int) own 3 l (((yb L (e.origin,e.seq)).getD default).deps))::dQ::Rs) t:=cm
 have cn:=aw.r1
 have hr333s:_*96≤_:=cn.2
 obtain⟨B,ag,ah,bp,ai,co,aO⟩:=(aw.mv1).lendA
 have u:=RdS.base ah bp
 have hsm343:L.length*96≤140737488355328:=u.small
 refine R0 fun _=>st (aS (Iv 0) (zb (zn ?_)))
 have cp:Sep _ _ ((RowE (α:=Ev) (alt B t) 44 (Iz) ([]:List Ev))::_) _:=co.rowNil (alt B t) 44
 refine zZ (fun mq σ I=> ∃(k:Nat) (vo:Value) (ρ:Env),mq=L.length-k∧σ=yd ρ [(0,Ix b 0),(3,Ix x 0),(10,.bool ((yJ e L k))),(11,Iw k),(9,vo)]∧(k≤L.length)∧Sep ag t ((RowE (α:=Ev) (alt B t) 44 vo (xK e L k))::(Blk b #[Iw n,d] 93)::(RowE (α:=Int) own 3 g (zu n L))::(Blk z (((yb L (e.origin,e.seq)).getD default).cells l).toArray 44)::(RowE (α:=Int) own 3 l (((yb L (e.origin,e.seq)).getD default).deps))::(Blk x (e.cells de0).toArray 44)::Rs) I) ⟨0,(Iz),_,rfl,sSf,Nat.zero_le _,cp⟩ ?_
 rintro m346 σ347 bq ⟨k,vo,ρl2,rfl,rfl,hkk,D⟩
 let dZ:=zN t (sb d) (so d+k*10+3)
 let ea:=(L.getD k default).cells dZ
 have cq:=D.r0
 have hr349s:_*96≤_:=cq.2
 have hlk9:=JT (e:=e) (L:=L) (k:=k)
 refine za (za (R0 fun _=>st (mV (Iw k) (st (mV (Ix b 0) (st (zo (b:=b) (o:=0) rfl (st (xq rfl (st (lD d kR rfl (zd (D.b1) rfl) (st (zJ (n:=L.length) nT rfl u.sl (st (zC (k:=.i64) (a:=((k:Nat):Int)) (b:=((L.length:Nat):Int)) rfl rfl (zb ?_))))))))))))))))
 cases K:decide (((k:Nat):Int)<((L.length:Nat):Int))
 have hc350r:=K
 have K:=fD K
 refine ze rfl (ya (zS (za (za (R0 fun _=>st (mV (.bool ((yJ e L k))) (st (yB (a:=(yJ e L k)) rfl (zb ?_)))))))))
 cases M: !(yJ e L k)
 have hc351r:=M
 try simp only[zf]at M
 refine ze rfl (zl (za ?_))
 have aj:Sep G W ((RowE (α:=Ev) own 44 vo (xK e L k))::eb::(RowE (α:=Int) own 3 g (zu n L))::dY::(RowE (α:=Int) own 3 l (((yb L (e.origin,e.seq)).getD default).deps))::dQ::Rs) bq:=aO _ _ _ _ _ D
 have cr:=aj.r0
 have hr353s:_*96≤_:=cr.2
 rw[zby (by omega) (by simpa using M)]at aj
 have ak:Sep G W ((RowE (α:=Ev) own 44 vo (xo e L))::eb::(RowE (α:=Int) own 3 g (zu n L))::dY::(RowE (α:=Int) own 3 l (((yb L (e.origin,e.seq)).getD default).deps))::dQ::Rs) bq:=aj
 have aP:=ak.r0
 have hr355s:_*96≤_:=aP.2
 refine R0 fun _=>st (mV (Ix b 0) (st (mV vo (st (zo (b:=b) (o:=0) rfl (st (xq rfl (stn (ym (v:=vo) (c:=[Iw n,d]) (c':=[Iw n,vo]) uR rfl rfl (ak.b1) aP.1.one rfl rfl ?_)))))))))
 intro dP ct
 refine zb (za (R0 fun _=>st (aS (Iv 0) (zb (zk (zG tT (show _=(Iv 0:Value)from rfl) ?_))))))
 have cu:Sep G W ((RefS b n (xo e L))::(RowE (α:=Int) own 3 g (zu n L))::dY::(RowE (α:=Int) own 3 l (((yb L (e.origin,e.seq)).getD default).deps))::dQ::Rs) dP:=RefS.close (n:=n) (L:=(xo e L)) ((ak.pt1 ct).mv1)
 refine⟨(xo e L),?_,?_,(cu.s5_a)⟩
 rw[VD q y (by rw[U]at p;exact p) (fun i hi=>hm i (by omega))]
 rw[WD (VD q y (by rw[U]at p;exact p) (fun i hi=>hm i (by omega)))]
 try simp only[zf]at M
 refine zg rfl (R0 fun _=>st (mV vo (st (zh (k:=10) lT kT rfl rfl (CellsAt.all (D.b5)) (st (cL vR (xl (e:=e) (RdS.base hde0 ai) oe D) ?_))))))
 rintro _ w363 ⟨br,rfl,aQ⟩
 have cv:=aQ.r0
 have hr365s:_*8≤_:=cv.2
 refine st (zI (k:=10) (parts':=[(0,.agg (e.cells br).toArray)]) (c:=(e.cells br).toArray) nT kT oT dc rfl kr ?_)
 intro w368 b367 cw
 have aR:=aQ.new cw
 have bs:=aR.b0
 refine st (yj (src:=(alt B t)) (bytes:=96) (x1:=e) (aR.s8_cbdefgh) UP rfl rfl bs (fun _ _ hN=>KY hN oe) yqb rfl ?_)
 intro S bt aT
 have cx:=aT.r0
 have hr375s:_*96≤_:=cx.2
 refine st (aS S (zb (za ?_)))
 have al:Sep G W ((RowE (α:=Ev) own 44 S ((xK e L k)++[e]))::eb::(RowE (α:=Int) own 3 g (zu n L))::dY::(RowE (α:=Int) own 3 l (((yb L (e.origin,e.seq)).getD default).deps))::dQ::Rs) bt:=aO _ _ _ _ _ aT
 have cy:=al.r0
 have hr377s:_*96≤_:=cy.2
 rw[Ji (by omega) (by simpa using M)]at al
 have am:Sep G W ((RowE (α:=Ev) own 44 S (xo e L))::eb::(RowE (α:=Int) own 3 g (zu n L))::dY::(RowE (α:=Int) own 3 l (((yb L (e.origin,e.seq)).getD default).deps))::dQ::Rs) bt:=al
 have aU:=am.r0
 have hr379s:_*96≤_:=aU.2
 refine R0 fun _=>st (mV (Ix b 0) (st (mV S (st (zo (b:=b) (o:=0) rfl (st (xq rfl (stn (ym (v:=S) (c:=[Iw n,d]) (c':=[Iw n,S]) uR rfl rfl (am.b1) aU.1.one rfl rfl ?_)))))))))
 intro dS cz
 refine zb (za (R0 fun _=>st (aS (Iv 0) (zb (zk (zG tT (show _=(Iv 0:Value)from rfl) ?_))))))
 have cC:Sep G W ((RefS b n (xo e L))::(RowE (α:=Int) own 3 g (zu n L))::dY::(RowE (α:=Int) own 3 l (((yb L (e.origin,e.seq)).getD default).deps))::dQ::Rs) dS:=RefS.close (n:=n) (L:=(xo e L)) ((am.pt1 cz).mv1)
 refine⟨(xo e L),?_,?_,(cC.s5_a)⟩
 rw[VD q y (by rw[U]at p;exact p) (fun i hi=>hm i (by omega))]
 rw[WD (VD q y (by rw[U]at p;exact p) (fun i hi=>hm i (by omega)))]
 have K:=tD K
 refine zg rfl (zl (za (zn (za (za ?_)))))
 refine WD4 ((fun TT T=>WF [fun vals I=>Sep ag t (T::TT) I,fun vals I=>(vals 11=(if(!(yJ e L k))=true then(.bool ((ltE e (L.getD k default))):Value)else undef))∧Sep ag t (T::TT) I]) (eb::(RowE (α:=Int) own 3 g (zu n L))::dY::(RowE (α:=Int) own 3 l (((yb L (e.origin,e.seq)).getD default).deps))::dQ::Rs) (RowE (α:=Ev) (alt B t) 44 vo (xK e L k))) (AF [Vl 0 (.bool ((yJ e L k))),Vl 1 (.bool (!(yJ e L k))),Vl 2 (.bool (!(yJ e L k))),Vl 3 (if(!(yJ e L k))=true then .agg (e.cells de0).toArray else undef),Vl 4 (if(!(yJ e L k))=true then Ix b 0 else undef),Vl 5 (if(!(yJ e L k))=true then Ix b 0 else undef),Vl 6 (if(!(yJ e L k))=true then Ix b 1 else undef),Vl 7 (if(!(yJ e L k))=true then d else undef),Vl 8 (if(!(yJ e L k))=true then Iw k else undef),Vl 9 (if(!(yJ e L k))=true then Ix (sb d) (so d+k*10)else undef),Vl 10 (if(!(yJ e L k))=true then .agg ea.toArray else undef),fun _=>True,Vl 12 (.bool ((!(yJ e L k))&&(ltE e (L.getD k default))))]) [[],[0],[0,1],[0,1,2],[0,1,2],[0,1,2,4],[0,1,2,4,5],[0,1,2,4,5,6],[0,1,2],[0,1,2,4,5,6,7,8],[0,1,2,4,5,6,7,8,9],(rg 11),(rg 12)] [11] [(0,0),(0,0),(0,0),(0,0),(0,0),(0,0),(0,0),(0,0),(0,0),(0,0),(0,0),(0,0),(1,1)] D ⟨fun _ _ _ _ _ _ _=>obl rfl (mV (.bool ((yJ e L k))) dR),fun _ _ _ _ _ _ cD=>obl rfl (yB (a:=(yJ e L k)) (cD 0 dc) dR),fun _ _ _ _ _ _ cE=>obl rfl (yi (v:=.bool (!(yJ e L k))) (cE 1 dc) dR),?_,?_,?_,?_,?_,?_,?_,?_,?_,?_,trivial⟩ ?_
 refine ob1 0 fun _ _ (cF:Sep _ _ _ _) cG=>(yr rfl rfl (cG 2 dc) (fun X=>?_) (fun X=>fun m s _=>⟨trivial,s.trans (if_neg X).symm⟩))
 have cH:=X
 try simp only[zf]at cH
 exact zh (k:=10) lT kT rfl rfl (CellsAt.all (cF.b5)) (fun m s _=>⟨rfl,s.trans (if_pos X).symm⟩)
 refine fun _ _ _ _ _ _ cI=>(yr rfl rfl (cI 2 dc) (fun Y=>?_) (fun Y=>fun m s _=>⟨trivial,s.trans (if_neg Y).symm⟩))
 have cJ:=Y
 try simp only[zf]at cJ
 exact mV (Ix b 0) (fun m s _=>⟨rfl,s.trans (if_pos Y).symm⟩)
 refine fun _ _ _ _ _ _ aV=>(yr rfl rfl (aV 2 dc) (fun N=>?_) (fun N=>fun m s _=>⟨trivial,s.trans (if_neg N).symm⟩))
 have cK:=N
 try simp only[zf]at cK
 exact zo (b:=b) (o:=0) (Eq.trans (aV 4 dc) (if_pos N)) (fun m s _=>⟨rfl,s.trans (if_pos N).symm⟩)
 refine fun _ _ _ _ _ _ aW=>(yr rfl rfl (aW 2 dc) (fun O=>?_) (fun O=>fun m s _=>⟨trivial,s.trans (if_neg O).symm⟩))
 have cM:=O
 try simp only[zf]at cM
 exact xq (Eq.trans (aW 5 dc) (if_pos O)) (fun m s _=>⟨rfl,s.trans (if_pos O).symm⟩)
 refine ob1 0 fun _ _ (cN:Sep _ _ _ _) aX=>(yr rfl rfl (aX 2 dc) (fun P=>?_) (fun P=>fun m s _=>⟨trivial,s.trans (if_neg P).symm⟩))
 have cO:=P
 try simp only[zf]at cO
 exact lD d kR (Eq.trans (aX 6 dc) (if_pos P)) (zd (cN.b1) rfl) (fun m s _=>⟨rfl,s.trans (if_pos P).symm⟩)
 refine fun _ _ _ _ _ _ cP=>(yr rfl rfl (cP 2 dc) (fun Z=>?_) (fun Z=>fun m s _=>⟨trivial,s.trans (if_neg Z).symm⟩))
 have cQ:=Z
 try simp only[zf]at cQ
 exact mV (Iw k) (fun m s _=>⟨rfl,s.trans (if_pos Z).symm⟩)
 refine ob1 0 fun _ _ _ an=>(yr rfl rfl (an 2 dc) (fun E=>?_) (fun E=>fun m s _=>⟨trivial,s.trans (if_neg E).symm⟩))
 have cR:=E
 try simp only[zf]at cR
 have cS:k<L.length:=bo
 exact zj (k:=10) (i:=k) nT kT (Eq.trans (an 7 dc) (if_pos E)) u.sl (Eq.trans (an 8 dc) (if_pos E)) cS (fun m s _=>⟨rfl,s.trans (if_pos E).symm⟩)
 refine ob1 0 fun _ _ (cT:Sep _ _ _ _) aY=>(yr rfl rfl (aY 2 dc) (fun Q=>?_) (fun Q=>fun m s _=>⟨trivial,s.trans (if_neg Q).symm⟩))
 have cU:=Q
 try simp only[zf]at cU
 have aZ:k<L.length:=bo
 obtain⟨bu,ax,hoke623⟩:=u.evD aZ
 have hsm625:((L.getD k default).deps).length*8≤140737488355328:=ax.small
 have bv:=cT.cells bu (u.foot (ne_of_lt aZ))
 exact zh (k:=10) lT kT rfl (Eq.trans (aY 9 dc) (if_pos Q)) bv (fun m s _=>⟨rfl,s.trans (if_pos Q).symm⟩)
 refine ob1 0 fun vals dU (ao:Sep _ _ _ _) ap=>(yr rfl rfl (ap 2 dc) (fun F=>?_) (fun F m s av=>?_))
 have cV:=F
 try simp only[zf]at cV
 have ba:k<L.length:=bo
 obtain⟨bw,ac,bj⟩:=u.evD ba
 have hsm507:((L.getD k default).deps).length*8≤140737488355328:=ac.small
 have hcw508:=ao.cells bw (u.foot (ne_of_lt ba))
 refine(zH (f:=73) (vals:=[.agg (e.cells de0).toArray,.agg ea.toArray]) (cap:=[]) rfl (yE ⟨(Eq.trans (ap 3 dc) (if_pos F)),(Eq.trans (ap 10 dc) (if_pos F)),trivial⟩) Tryz.call73 (zaV (a:=e) (b:=(L.getD k default)) (RdS.base hde0 ai) oe ac bj ao) ?_)
 rintro _ w509 ⟨rfl,cW⟩
 exact fun m s av=>⟨(zx (s.trans (if_pos F).symm) cW),trivial⟩
 refine⟨?_,trivial⟩
 show(m 11=(if(!(yJ e L k))=true then(.bool ((ltE e (L.getD k default))):Value)else undef))∧Sep ag t ((RowE (α:=Ev) (alt B t) 44 vo (xK e L k))::eb::(RowE (α:=Int) own 3 g (zu n L))::dY::(RowE (α:=Int) own 3 l (((yb L (e.origin,e.seq)).getD default).deps))::dQ::Rs) dU
 exact⟨(s.trans (if_neg F).symm),ao⟩
 refine ob1 1 fun _ _ cX cY=>?_
 obtain⟨bb,hS633⟩:=cX
 exact obl rfl (zy (b:= !(yJ e L k)) (b':=(ltE e (L.getD k default))) (cY 2 dc) (fun hbp=>(Eq.trans bb (if_pos hbp))) dR)
 intro vals w635 cZ da
 obtain⟨bb,R⟩:=cZ
 have dV:=da 12 dc
 refine zT (kv:=[(0,Ix b 0),(3,Ix x 0),(10,.bool ((yJ e L k))),(11,Iw k),(9,vo),(54,Iw k),(55,Ix b 0),(56,Ix b 0),(57,Ix b 1),(58,d),(59,Iw L.length),(60,.bool true),(75,.bool ((!(yJ e L k))&&(ltE e (L.getD k default))))]) ⟨rfl,rfl,rfl,rfl,rfl,rfl,rfl,rfl,rfl,rfl,rfl,rfl,(by exact dV),trivial⟩ (fun ρw635=>(zb ?_))
 cases aa:(!(yJ e L k))&&(ltE e (L.getD k default))
 have C:=aa
 try simp only[zf]at aa
 refine ze rfl (zl (R0 fun _=>st (mV vo (st (mV (Ix b 0) (st (zo (b:=b) (o:=0) rfl (st (xq rfl (st (lD d kR rfl (zd (R.b1) rfl) (st (mV (Iw k) ?_)))))))))))))
 have db:k<L.length:=bo
 refine st (zj (k:=10) (i:=k) nT kT rfl u.sl rfl db ?_)
 have bc:k<L.length:=bo
 obtain⟨bx,ay,hoke642⟩:=u.evD bc
 have hsm644:((L.getD k default).deps).length*8≤140737488355328:=ay.small
 have bz:=R.cells bx (u.foot (ne_of_lt bc))
 refine st (zh (k:=10) lT kT rfl rfl bz (st (zI (k:=10) (parts':=[(0,.agg ea.toArray)]) (c:=ea.toArray) nT kT oT dc rfl kr ?_)))
 intro w648 b647 dd
 have bd:=R.new dd
 have bA:=bd.b0
 refine st (yj (src:=(alt B t)) (bytes:=96) (x1:=(L.getD k default)) ((bd.s7_bcdefg).emp1) UP rfl rfl bA (fun _ _ _=>(show _ from zbO (RdS.evG ah (by omega)))) yqb rfl ?_)
 intro bB w650 aq
 have de:=aq.r0
 have hr656s:_*96≤_:=de.2
 refine st (aS bB (zb (R0 fun _=>st (mV (Iw k) ?_))))
 have df:InR ((k+1:Nat):Int):=bo
 refine st (zP (r:=((k+1:Nat):Int)) (k:=.i64) (a:=((k:Nat):Int)) (b:=1) rfl rfl (by rw[show(((k:Nat):Int)+1:Int)=((k+1:Nat):Int)from bo];exact zF df) (st (aS (Iw (k+1)) (zb ?_))))
 have dg:(xK e L (k+1))=(xK e L k)++[(L.getD k default)]:=(VA om C).1
 rw[←dg]at aq
 exact⟨_,by omega,k+1,bB,_,rfl,yW ⟨rfl,rfl,(show _=(.bool (yJ e L (k+1)):Value)from(congrArg Value.bool (VA om C).2).symm),rfl,rfl,trivial⟩,by omega,aq⟩
 have C:=aa
 try simp only[zf]at aa
 refine zg rfl (za (R0 fun _=>st (mV vo (st (zh (k:=10) lT kT rfl rfl (CellsAt.all (R.b5)) (st (cL vR (xl (e:=e) (RdS.base hde0 ai) oe R) ?_)))))))
 rintro _ w660 ⟨bC,rfl,be⟩
 have dh:=be.r0
 have hr662s:_*8≤_:=dh.2
 refine st (zI (k:=10) (parts':=[(0,.agg (e.cells bC).toArray)]) (c:=(e.cells bC).toArray) nT kT oT dc rfl kr ?_)
 intro w665 b664 di
 have bf:=be.new di
 have bD:=bf.b0
 refine st (yj (src:=(alt B t)) (bytes:=96) (x1:=e) (bf.s8_cbdefgh) UP rfl rfl bD (fun _ _ hN=>KY hN oe) yqb rfl ?_)
 intro bE w667 ab
 have dj:=ab.r0
 have hr672s:_*96≤_:=dj.2
 refine st (aS bE (zb (R0 fun _=>st (aS (.bool true) (zb (R0 fun _=>st (mV bE (st (mV (Ix b 0) (st (zo (b:=b) (o:=0) rfl (st (xq rfl (st (lD d kR rfl (zd (ab.b1) rfl) (st (mV (Iw k) ?_)))))))))))))))))
 have dk:k<L.length:=bo
 refine st (zj (k:=10) (i:=k) nT kT rfl u.sl rfl dk ?_)
 have bg:k<L.length:=bo
 obtain⟨bF,az,hoke674⟩:=u.evD bg
 have hsm676:((L.getD k default).deps).length*8≤140737488355328:=az.small
 have bG:=ab.cells bF (u.foot (ne_of_lt bg))
 refine st (zh (k:=10) lT kT rfl rfl bG (st (zI (k:=10) (parts':=[(0,.agg ea.toArray)]) (c:=ea.toArray) nT kT oT dc rfl kr ?_)))
 intro w680 b679 dl
 have bh:=ab.new dl
 have bH:=bh.b0
 refine st (yj (src:=(alt B t)) (bytes:=96) (x1:=(L.getD k default)) ((bh.s7_bcdefg).emp1) UP rfl rfl bH (fun _ _ _=>(show _ from zbO (RdS.evG ah (by omega)))) yqb rfl ?_)
 intro bI w682 ar
 have dm:=ar.r0
 have hr688s:_*96≤_:=dm.2
 refine st (aS bI (zb (R0 fun _=>st (mV (Iw k) ?_))))
 have dp:InR ((k+1:Nat):Int):=bo
 refine st (zP (r:=((k+1:Nat):Int)) (k:=.i64) (a:=((k:Nat):Int)) (b:=1) rfl rfl (by rw[show(((k:Nat):Int)+1:Int)=((k+1:Nat):Int)from bo];exact zF dp) (st (aS (Iw (k+1)) (zb ?_))))
 have dq:(xK e L (k+1))=(xK e L k)++[e]++[(L.getD k default)]:=(UF om C).1
 rw[←dq]at ar
 exact⟨_,by omega,k+1,bI,_,rfl,yW ⟨rfl,rfl,(show _=(.bool (yJ e L (k+1)):Value)from(congrArg Value.bool (UF om C).2).symm),rfl,rfl,trivial⟩,by omega,ar⟩
 have J:=tD J
 refine zg rfl (zl (za (zn (za (R0 fun _=>st (mV (Ix b 0) (st (zh (k:=10) lT kT rfl rfl (CellsAt.all (V.b3)) (st (mV (Iw k) ?_))))))))))
 refine st (cL Tryz.call72 (zbL (e:=e) (o:=k) aA (RdS.base hde0 dw) oe yqe V (dX) (hG.len)) ?_)
 rintro _ w691 ⟨rfl,bi⟩
 refine st (yB (a:=(xB L e k)) rfl (zb ?_))
 cases H: !(xB L e k)
 have hc693r:=H
 try simp only[zf]at H
 refine ze rfl (zl (R0 fun _=>st (mV (Iw k) ?_)))
 have dr:InR ((k+1:Nat):Int):=bo
 refine st (zP (r:=((k+1:Nat):Int)) (k:=.i64) (a:=((k:Nat):Int)) (b:=1) rfl rfl (by rw[show(((k:Nat):Int)+1:Int)=((k+1:Nat):Int)from bo];exact zF dr) (st (aS (Iw (k+1)) (zb ?_))))
 exact⟨_,by omega,k+1,_,rfl,sSf,by omega,(yL hm (by simpa using H)),bi⟩
 try simp only[zf]at H
 refine zg rfl (za (R0 fun _=>st (aS (Iv 9) (zb (zk (zG tT (show _=(Iv 9:Value)from rfl) ?_))))))
 have ds:=au _ _ bi
 refine⟨L,?_,?_,(ds.s5_a)⟩
 rw[KA q y (by rw[U]at p;exact p) (k:=k) (by omega) (by simpa using H)]
 rw[Zy (by rw[KA q y (by rw[U]at p;exact p) (k:=k) (by omega) (by simpa using H)];decide)]
 have p:=zz p
 refine zg rfl (za (R0 fun _=>st (aS (Iv 9) (zb (zk (zG tT (show _=(Iv 9:Value)from rfl) ?_))))))
 have dt:=au _ _ aN
 refine⟨L,?_,?_,(dt.s5_a)⟩
 rw[KG q y (by rw[U]at p;exact p)]
 rw[Zy (by rw[KG q y (by rw[U]at p;exact p)];decide)]
 refine zg rfl (za (R0 fun _=>st (aS (Iv 16) (zb (zk (zG tT (show _=(Iv 16:Value)from rfl) ?_))))))
 have du:=au _ _ aE
 refine⟨L,?_,?_,(du.s4_a)⟩
 rw[KD q y]
 rw[Zy (by rw[KD q y];decide)]
 have q:=zz q
 refine zg rfl (za (R0 fun _=>st (mV (Iv ((yv e ((n:Nat):Int)))) (st (aS (Iv ((yv e ((n:Nat):Int)))) (zb (zk (zG tT (show _=(Iv ((yv e ((n:Nat):Int))):Value)from rfl) ?_))))))))
 have dv:=au _ _ ad
 refine⟨L,?_,?_,(dv.s2_a)⟩
 rw[Ja q]
 rw[Zy (by rw[Ja q];exact q)]
theorem zae {b:Nat}{n:Nat}{L:List Ev}{e:Ev}{de0:Value}(hde0:RdS W G de0 e.deps)(oe:e.Ok)(hS0:Sep G W ((RefS b n L)::Rs) w)(hG:Good n L)(hn:n≤1000)(hL:L.length≤1000000):Ret Tryz.prog 32 [.pointer (some ⟨b,0,none⟩),.agg (e.cells de0).toArray] w (fun r w'=>r=(.int .i64 ((ZM n L e)):Value)∧Sep G W ((RefS b n (addL n L e))::Rs) w'):=by
 refine Ret.mono (zcd hde0 oe hS0 hG hn hL) ?_
 rintro r w' ⟨L1,h1,h2,h3⟩
 subst h2
 exact⟨h1,h3⟩
end
section
set_option maxRecDepth 8000
set_option maxHeartbeats 4000000
open Go.Proofs Go.RowKit
theorem UO (n:Int):InR (IntKind.i64.wrap n):=by
 rw[IntKind.wrap_i64]
 omega
theorem UN {i:Int}(hi:InR i)(hS0:Sep G W Rs w):Ret Tryz.prog 53 [.int .i64 (i)] w (fun r w'=> ∃(m:Int),r=(.int .i64 (m):Value)∧(InR m)∧Sep G W Rs w'):=by
 refine zi (args:=[Iv i]) Tryz.func53 rfl rfl ?_
 refine za (R0 fun _=>st (aS (Iv 0) (zb (za (R0 fun _=>st (mV (Iv i) (st (zdC (r:=IntKind.i64.wrap (13*i)) (k:=.i64) (a:=13) (b:=i) rfl rfl rfl (st (zP (r:=IntKind.i64.wrap (7001+(IntKind.i64.wrap (13*i)))) (k:=.i64) (a:=7001) (b:=IntKind.i64.wrap (13*i)) rfl rfl rfl (st (aS (Iv (IntKind.i64.wrap (7001+(IntKind.i64.wrap (13*i))))) (zb (zk (zG Tryz.results53 (show _=(Iv (IntKind.i64.wrap (7001+(IntKind.i64.wrap (13*i)))):Value)from rfl) ?_)))))))))))))))
 refine⟨IntKind.i64.wrap (7001+(IntKind.i64.wrap (13*i))),rfl,?_,hS0⟩
 exact UO _
theorem Uw {w0:World}{f0:Nat→Prop}{X:Nat→Nat→Prop}{vl:Value}{l:List Int}(hl9:RdS w0 f0 vl l)(hS0:Sep G W ((ML w0 f0 X)::Rs) w):Ret Tryz.prog 14 [vl] w (fun r w'=>r=(.tuple #[]:Value)∧Sep G W ((ML w0 f0 X)::Rs) w'):=by
 have hl9s:_*8≤_:=hl9.small
 refine zi (args:=[vl]) Tryz.func14 rfl rfl ?_
 refine za (R0 fun _=>st (aS (Iv 0) (zb (zn (zZ (fun mq σ t=> ∃(k:Nat) (ρ:Env),mq=l.length-k∧σ=yd ρ [(0,vl),(2,Iw k)]∧(k≤l.length)∧Sep G W ((ML w0 f0 X)::Rs) t) ⟨0,_,rfl,sSf,Nat.zero_le _,hS0⟩ ?_)))))
 rintro m2 σ3 w1 ⟨k,ρl1,rfl,rfl,hkk,f⟩
 refine za (za (R0 fun _=>st (mV (Iw k) (st (mV vl (st (zJ (n:=l.length) mR rfl hl9.sl (st (zC (k:=.i64) (a:=((k:Nat):Int)) (b:=((l.length:Nat):Int)) rfl rfl (zb ?_))))))))))
 cases c:decide (((k:Nat):Int)<((l.length:Nat):Int))
 have c:=fD c
 refine ze rfl (ya (zS (UB Tryz.results14 ?_)))
 refine⟨rfl,f⟩
 have c:=tD c
 refine zg rfl (zl (za (zn (R0 fun _=>st (mV vl (st (mV (Iw k) (st (mV (Iw k) ?_)))))))))
 have g:InR ((k+7:Nat):Int):=bo
 refine st (zP (r:=((k+7:Nat):Int)) (k:=.i64) (a:=((k:Nat):Int)) (b:=7) rfl rfl (by rw[show(((k:Nat):Int)+7:Int)=((k+7:Nat):Int)from bo];exact zF g) (st (cL Tryz.call53 (UN (i:=((k+7:Nat):Int)) g f) ?_)))
 rintro _ w9 ⟨j,rfl,hr8,m⟩
 have p:k<l.length:=bo
 refine st (zj (k:=1) (i:=k) mR nR rfl hl9.sl rfl p ?_)
 have d:k<l.length:=bo
 obtain⟨e,_⟩:=hl9.int d
 refine stn (QJ (b:=sb vl) (o:=so vl+k*1) (u:=Iv j) (us:=[Iv j]) (X':=X) m nR rfl (hl9.foot (ne_of_lt d)) rfl rfl (zX ⟨rfl,trivial⟩) e rfl (Nat.zero_lt_succ _) (fun v x y z A=>.inr (MildAll.at_ (show MildAll [Iv (l[k])] [Iv j]from⟨MildV.num om,trivial⟩) v x y z A)) (fun _ _ h=>h) ?_)
 intro w12 q
 refine zb (R0 fun _=>st (mV (Iw k) ?_))
 have s:InR ((k+1:Nat):Int):=bo
 refine st (zP (r:=((k+1:Nat):Int)) (k:=.i64) (a:=((k:Nat):Int)) (b:=1) rfl rfl (by rw[show(((k:Nat):Int)+1:Int)=((k+1:Nat):Int)from bo];exact zF s) (st (aS (Iw (k+1)) (zb ?_))))
 exact⟨_,by omega,k+1,_,rfl,sSf,by omega,q⟩
theorem Sep.depoML {G:Nat→Prop}{W w:World}{As:List HP}{d:Value}{l:List Int}(h:Sep G W (DepO d l::As) w): ∃f0,RdS w f0 d l∧Sep G W (ML w f0 noX::As) w:=by
 obtain⟨f,hA,hl,hT⟩:=h.take (i:=0) rfl
 exact⟨fun b=>f b∧Soft w b,hA,hT w _ f (Chg.refl _ _) (fun b hb=>⟨hb.1,hb.2,fun o v hv=>⟨v,hv,.inr (.inl rfl)⟩⟩) (fun _ h=>.inl h)⟩
theorem Uo {va:Value}{a:List Ev}(ha:RdS W G va a){vb:Value}{b:List Ev}(hb:RdS W G vb b)(hS0:Sep G W Rs w):Ret Tryz.prog 15 [va,vb] w (fun r w'=>r=(.bool (decide (a=b)):Value)∧Sep G W Rs w'):=by
 have has:_*96≤_:=ha.small
 have hbs:_*96≤_:=hb.small
 refine zi (args:=[va,vb]) Tryz.func15 rfl rfl ?_
 refine za (R0 fun _=>st (aS (.bool false) (zb (za (za (R0 fun _=>st (mV va (st (zJ (n:=a.length) nT rfl ha.sl (st (mV vb (st (zJ (n:=b.length) nT rfl hb.sl (st (yn (k:=.i64) (a:=((a.length:Nat):Int)) (b:=((b.length:Nat):Int)) rfl rfl (zb ?_))))))))))))))))
 cases j: !decide (((a.length:Nat):Int)=((b.length:Nat):Int))
 have j:=zQ j
 refine ze rfl (zl (za (za (R0 fun _=>st (aS (Iv 0) (zb (zn (zZ (fun mq σ x=> ∃(k:Nat) (ρ:Env),mq=a.length-k∧σ=yd ρ [(0,va),(1,vb),(5,Iw k)]∧(k≤a.length)∧(∀i,i<k→a.getD i default=b.getD i default)∧Sep G W Rs x) ⟨0,_,rfl,sSf,Nat.zero_le _,(fun i h=>absurd h (Nat.not_lt_zero i)),hS0⟩ ?_))))))))
 rintro m3 σ4 w2 ⟨k,ρl1,rfl,rfl,hkk,hm,V⟩
 refine za (za (R0 fun _=>st (mV (Iw k) (st (mV va (st (zJ (n:=a.length) nT rfl ha.sl (st (zC (k:=.i64) (a:=((k:Nat):Int)) (b:=((a.length:Nat):Int)) rfl rfl (zb ?_))))))))))
 cases p:decide (((k:Nat):Int)<((a.length:Nat):Int))
 have p:=fD p
 refine ze rfl (ya (zS (za (R0 fun _=>st (aS (.bool true) (zb (zk (zG oR (show _=(.bool true:Value)from rfl) ?_))))))))
 refine⟨?_,V⟩
 rw[decide_eq_true (Wg (by omega) (fun i hi=>hm i (by omega)))]
 have p:=tD p
 refine zg rfl (zl (za (zn (za (WD4 (WF [fun vals x=>Sep G W Rs x,fun vals x=>(vals 8=(.bool (decide ((a.getD k default)=(b.getD k default))):Value))∧Sep G W Rs x]) (AF [Vl 0 (va),Vl 1 (Iw k),Vl 2 (Ix (sb va) (so va+k*10)),Vl 3 (.agg ((a.getD k default).cells (zN W (sb va) (so va+k*10+3))).toArray),Vl 4 (vb),Vl 5 (Iw k),Vl 6 (Ix (sb vb) (so vb+k*10)),Vl 7 (.agg ((b.getD k default).cells (zN W (sb vb) (so vb+k*10+3))).toArray),fun _=>True,Vl 9 (.bool (!(decide ((a.getD k default)=(b.getD k default)))))]) [[],[],[0,1],[0,1,2],[],[],[4,5],[4,5,6],(rg 8),(rg 9)] [8] [(0,0),(0,0),(0,0),(0,0),(0,0),(0,0),(0,0),(0,0),(0,0),(1,1)] V ⟨fun _ _ _ _ _ _ _=>obl rfl (mV va dR),fun _ _ _ _ _ _ _=>obl rfl (mV (Iw k) dR),?_,?_,fun _ _ _ _ _ _ _=>obl rfl (mV vb dR),fun _ _ _ _ _ _ _=>obl rfl (mV (Iw k) dR),?_,?_,?_,?_,trivial⟩ ?_)))))
 refine ob1 0 fun _ _ _ q=>(obl rfl ?_)
 have J:k<a.length:=bo
 exact zj (k:=10) (i:=k) nT kT (q 0 dc) ha.sl (q 1 dc) J dR
 refine ob1 0 fun _ _ (K:Sep _ _ _ _) L=>(obl rfl ?_)
 have s:k<a.length:=bo
 obtain⟨y,l,hoke132⟩:=ha.evD s
 have hsm134:((a.getD k default).deps).length*8≤140737488355328:=l.small
 have z:=K.cells y (ha.foot (ne_of_lt s))
 exact zh (k:=10) lT kT rfl (L 2 dc) z dR
 refine ob1 0 fun _ _ _ t=>(obl rfl ?_)
 have M:k<b.length:=bo
 exact zj (k:=10) (i:=k) nT kT (t 4 dc) hb.sl (t 5 dc) M dR
 refine ob1 0 fun _ _ (N:Sep _ _ _ _) O=>(obl rfl ?_)
 have u:k<b.length:=bo
 obtain⟨A,m,hoke166⟩:=hb.evD u
 have hsm168:((b.getD k default).deps).length*8≤140737488355328:=m.small
 have B:=N.cells A (hb.foot (ne_of_lt u))
 exact zh (k:=10) lT kT rfl (O 6 dc) B dR
 refine ob1 0 fun vals _ (o:Sep _ _ _ _) C=>(obl rfl ?_)
 have D:k<a.length:=bo
 obtain⟨P,d,E⟩:=ha.evD D
 have hsm86:((a.getD k default).deps).length*8≤140737488355328:=d.small
 have hcw87:=o.cells P (ha.foot (ne_of_lt D))
 have F:k<b.length:=bo
 obtain⟨Q,g,H⟩:=hb.evD F
 have hsm90:((b.getD k default).deps).length*8≤140737488355328:=g.small
 have hcw91:=o.cells Q (hb.foot (ne_of_lt F))
 refine(zH (f:=13) (vals:=[.agg ((a.getD k default).cells (zN W (sb va) (so va+k*10+3))).toArray,.agg ((b.getD k default).cells (zN W (sb vb) (so vb+k*10+3))).toArray]) (cap:=[]) rfl (yE ⟨(C 3 dc),(C 7 dc),trivial⟩) wR (Zx (a:=(a.getD k default)) (b:=(b.getD k default)) d E g H o) ?_)
 rintro _ w92 ⟨rfl,X⟩
 exact fun vals' Z hv'=>⟨(zx Z X),trivial⟩
 refine ob1 1 fun _ _ R _=>?_
 obtain⟨I,hS176⟩:=R
 exact obl rfl (yB (a:=decide ((a.getD k default)=(b.getD k default))) I dR)
 intro vals w177 S T
 obtain⟨I,v⟩:=S
 have Y:=T 9 dc
 refine zT (kv:=[(0,va),(1,vb),(5,Iw k),(11,Iw k),(12,va),(13,Iw a.length),(14,.bool true),(26,.bool (!(decide ((a.getD k default)=(b.getD k default)))))]) ⟨rfl,rfl,rfl,rfl,rfl,rfl,rfl,(by exact Y),trivial⟩ (fun ρw177=>(zb ?_))
 cases c: !(decide ((a.getD k default)=(b.getD k default)))
 have c:=zQ c
 refine ze rfl (zl (R0 fun _=>st (mV (Iw k) ?_)))
 have U:InR ((k+1:Nat):Int):=bo
 refine st (zP (r:=((k+1:Nat):Int)) (k:=.i64) (a:=((k:Nat):Int)) (b:=1) rfl rfl (by rw[show(((k:Nat):Int)+1:Int)=((k+1:Nat):Int)from bo];exact zF U) (st (aS (Iw (k+1)) (zb ?_))))
 exact⟨_,by omega,k+1,_,rfl,sSf,by omega,(yL hm (by simpa using c)),v⟩
 have c:=zz c
 refine zg rfl (za (R0 fun _=>st (aS (.bool false) (zb (zk (zG oR (show _=(.bool false:Value)from rfl) ?_))))))
 refine⟨?_,v⟩
 rw[decide_eq_false (fun e=>by subst e;first|omega|(simp at c))]
 have j:=zz j
 refine zg rfl (za (R0 fun _=>st (aS (.bool false) (zb (zk (zG oR (show _=(.bool false:Value)from rfl) ?_))))))
 refine⟨?_,hS0⟩
 rw[decide_eq_false (fun e=>by subst e;first|omega|(simp at j))]
theorem Kh {d:Dcl}{dd0:Value}(hdd0:RdS W G dd0 d.types){dd1:Value}(hdd1:RdS W G dd1 d.projs)(od:d.Ok){vl:Value}{l:List Ev}(hl:RdS W G vl l)(hS0:Sep G W Rs w)(hd:DclOk d)(hfew:l.length≤1000000):Ret Tryz.prog 33 [.agg (d.cells dd0 dd1).toArray,vl] w (fun r w'=> ∃(b:Nat),r=(.pointer (some ⟨b,0,none⟩):Value)∧Sep G W ((RefV b d (zD d l))::Rs) w'):=by
 have hdd0s:_*24≤_:=hdd0.small
 have hdd1s:_*40≤_:=hdd1.small
 have hls:_*96≤_:=hl.small
 refine zi (args:=[.agg (d.cells dd0 dd1).toArray,vl]) Tryz.func33 rfl rfl ?_
 refine za (R0 fun _=>st (zM (v:=.agg (d.cells dd0 dd1).toArray) rfl ?_))
 intro w3 b2 B
 have u:=hS0.new B
 refine st (aS (.pointer none) (zb (za (R0 fun _=>st (zh (k:=2) qT rT rfl rfl (CellsAt.all (u.b0)) (st (cL Tryz.call74 (QK (d:=d) hdd0 hdd1 od u) ?_)))))))
 rintro _ w6 ⟨g,rfl,C⟩
 refine st (aS (Ix g 0) (zb (za (za (R0 fun _=>st (aS (Iv 0) (zb (zn (zZ (fun mq σ D=> ∃(k:Nat) (ρ:Env),mq=l.length-k∧σ=yd ρ [(1,vl),(2,Ix b2 0),(5,Ix g 0),(6,Iw k)]∧(k≤l.length)∧Sep G W ((RefV g d (zD d (l.take k)))::(Blk b2 (d.cells dd0 dd1).toArray 25)::Rs) D) ⟨0,_,rfl,sSf,Nat.zero_le _,C⟩ ?_)))))))))
 rintro m9 σ10 w8 ⟨k,ρl1,rfl,rfl,hkk,h⟩
 refine za (za (R0 fun _=>st (mV (Iw k) (st (mV vl (st (zJ (n:=l.length) nT rfl hl.sl (st (zC (k:=.i64) (a:=((k:Nat):Int)) (b:=((l.length:Nat):Int)) rfl rfl (zb ?_))))))))))
 cases f:decide (((k:Nat):Int)<((l.length:Nat):Int))
 have f:=fD f
 refine ze rfl (ya (zS (za (R0 fun _=>st (mV (Ix g 0) (st (aS (Ix g 0) (zb (zk (zG Tryz.results33 (show _=(Ix g 0:Value)from rfl) ?_))))))))))
 have j:=h.s2_a
 have hkn:k=l.length:=by omega
 rw[hkn,List.take_length]at j
 refine⟨g,rfl,j⟩
 have f:=tD f
 refine zg rfl (zl (za (zn (R0 fun _=>st (mV (Ix g 0) (st (mV vl (st (mV (Iw k) ?_)))))))))
 have x:k<l.length:=bo
 refine st (zj (k:=10) (i:=k) nT kT rfl hl.sl rfl x ?_)
 have m:k<l.length:=bo
 obtain⟨s,c,o⟩:=hl.evD m
 have hsm17:((l.getD k default).deps).length*8≤140737488355328:=c.small
 have t:=h.cells s (hl.foot (ne_of_lt m))
 refine st (zh (k:=10) lT kT rfl rfl t (st (cL Tryz.call75 (zaQ (e:=(l.getD k default)) c o h (hd) (⟨_,rfl⟩) ((KZ hfew))) ?_)))
 rintro _ w21 ⟨v19,rfl,hok20,p⟩
 have y:=p.r1
 have hr23s:_*8≤_:=y.2
 refine zb (R0 fun _=>st (mV (Iw k) ?_))
 have z:InR ((k+1:Nat):Int):=bo
 refine st (zP (r:=((k+1:Nat):Int)) (k:=.i64) (a:=((k:Nat):Int)) (b:=1) rfl rfl (by rw[show(((k:Nat):Int)+1:Int)=((k+1:Nat):Int)from bo];exact zF z) (st (aS (Iw (k+1)) (zb ?_))))
 have q:=p.s3_ac
 have A:(zD d (l.take (k+1)))=((zD d (l.take k))++[yA d (zD d (l.take k)) (l.getD k default)]):=(Vs om)
 rw[←A]at q
 exact⟨_,by omega,k+1,_,rfl,sSf,by omega,q⟩
theorem zdX {d:Dcl}{dd0:Value}(hdd0:RdS W G dd0 d.types){dd1:Value}(hdd1:RdS W G dd1 d.projs)(od:d.Ok){n:Nat}(hn:n≤1000){vl:Value}{l:List Ev}(hl:RdS W G vl l)(hS0:Sep G W Rs w)(hd:DclOk d)(hl9:l.length≤1000):Ret Tryz.prog 10 [.agg (d.cells dd0 dd1).toArray,.int .i64 ((n:Nat):Int),vl] w (fun r w'=> ∃(bs:Nat) (bv:Nat),r=(.tuple #[.pointer (some ⟨bs,0,none⟩),.pointer (some ⟨bv,0,none⟩)]:Value)∧Sep G W ((RefS bs n (xb n l))::(RefV bv d (zD d (xb n l)))::Rs) w'):=by
 have hdd0s:_*24≤_:=hdd0.small
 have hdd1s:_*40≤_:=hdd1.small
 have hls:_*96≤_:=hl.small
 refine zi (args:=[.agg (d.cells dd0 dd1).toArray,Iw n,vl]) Tryz.func10 rfl rfl ?_
 refine za (R0 fun _=>st (zM (v:=.agg (d.cells dd0 dd1).toArray) rfl ?_))
 intro w3 b2 ax
 refine st (aS (.pointer none) (st (aS (.pointer none) (zb (za (R0 fun _=>st (mV (Iw n) ?_)))))))
 refine st (cL Tryz.call31 (zch (n:=n) yqe (hS0.new ax)) ?_)
 rintro _ w6 ⟨j,rfl,ay⟩
 refine st (aS (Ix j 0) (zb (za (za (R0 fun _=>st (aS (Iv 0) (zb (zn (zZ (fun mq σ x=> ∃(k:Nat) (ρ:Env),mq=l.length-k∧σ=yd ρ [(1,Iw n),(2,vl),(3,Ix b2 0),(8,Ix j 0),(9,Iw k)]∧(k≤l.length)∧Sep G W ((RefS j n (xb n (l.take k)))::(Blk b2 (d.cells dd0 dd1).toArray 25)::Rs) x) ⟨0,_,rfl,sSf,Nat.zero_le _,ay⟩ ?_)))))))))
 rintro m9 σ10 Q ⟨k,ρl1,rfl,rfl,hkk,p⟩
 refine za (za (R0 fun _=>st (mV (Iw k) (st (mV vl (st (zJ (n:=l.length) nT rfl hl.sl (st (zC (k:=.i64) (a:=((k:Nat):Int)) (b:=((l.length:Nat):Int)) rfl rfl (zb ?_))))))))))
 cases q:decide (((k:Nat):Int)<((l.length:Nat):Int))
 have q:=fD q
 refine ze rfl (ya (zS (za ?_)))
 have az:k=l.length:=by omega
 rw[az,List.take_length]at p
 have ac:Sep G W ((RefS j n (xb n l))::(Blk b2 (d.cells dd0 dd1).toArray 25)::Rs) Q:=p
 obtain⟨H,I,J,ad,ae⟩:=ac.lend
 obtain⟨vl20,hb21,af⟩:=RefS.sh I
 have hsm23:(xb n l).length*96≤140737488355328:=af.small
 refine WD4 ((fun K=>WF [fun vals x=>Sep H Q (K::Rs) x,fun vals x=> ∃(g:Value),(vals 3=(g:Value))∧Sep H Q ((RowE (α:=Ev) own 44 g (xb n l))::K::Rs) x,fun vals x=> ∃(g:Value) (c:Nat),(vals 3=(g:Value))∧(vals 4=(Ix c 0:Value))∧Sep H Q ((RowE (α:=Ev) own 44 g (xb n l))::(RefV c d (zD d (xb n l)))::K::Rs) x]) (Blk b2 (d.cells dd0 dd1).toArray 25)) (AF [Vl 0 (Ix j 0),Vl 1 (.agg (d.cells dd0 dd1).toArray),Vl 2 (Ix j 0),fun _=>True,fun _=>True,Vl 5 (Ix j 0),fun vals=> ∀(c:Nat),vals 4=(Ix c 0:Value)→vals 6=(Ix c 0:Value)]) [[],[],[],[2],[1,2,3],(rg 5),(rg 6)] [3,4] [(0,2),(0,1),(0,0),(0,0),(1,1),(2,2),(2,2)] ad ⟨fun _ _ _ _ _ _ _=>obl rfl (mV (Ix j 0) dR),?_,fun _ _ _ _ _ _ _=>obl rfl (mV (Ix j 0) dR),?_,?_,fun _ _ _ _ _ _ R=>obl rfl (zY (v:=Ix j 0) (R 0 dc) dR),?_,trivial⟩ ?_ (hlocA:=yX ⟨dA,dA,dA,dT,dT,dA,fun vals s u h=>fun c y=>(u 6 (.inl rfl)).trans (h c ((u 4 (.inr dc)).symm.trans y)),trivial⟩)
 refine fun z _ _ ag ah L _=>?_
 have hkk:=xk ag ah
 rcases hkk with rfl|rfl
 have S:Sep _ _ _ _:=L
 exact obl rfl (zh (k:=2) qT rT rfl rfl (CellsAt.all (S.b0)) dR)
 obtain⟨g,m,T⟩:=L
 exact obl rfl (zh (k:=2) qT rT rfl rfl (CellsAt.all (T.b1)) dR)
 refine ob1 0 fun vals _ (ai:Sep _ _ _ _) aj=>(obl rfl ((zH (f:=17) (vals:=[Ix j 0]) (cap:=[]) rfl (yE ⟨(aj 2 dc),trivial⟩) kY (KT I ai) ?_)))
 rintro g w52 ⟨_,rfl,M⟩
 have ak:=M.r0
 have hr54s:_*96≤_:=ak.2
 exact fun s u A=>⟨(exiA g (zx u M)),trivial⟩
 refine ob1 1 fun vals _ al am=>?_
 obtain⟨g,m,an⟩:=al
 refine obl rfl ?_
 obtain⟨G64,ao,N,ap,aq⟩:=an.lend
 have B:=RowE.rd ao
 have hrd70s:_*96≤_:=B.small
 refine(zH (f:=33) (vals:=[.agg (d.cells dd0 dd1).toArray,g]) (cap:=[]) rfl (yE ⟨(am 1 dc),m,trivial⟩) Tryz.call33 (Kh (d:=d) (l:=(xb n l)) (vl:=g) (RdS.base (RdS.base hdd0 J) N) (RdS.base (RdS.base hdd1 J) N) od B ap (hd) ((Nat.le_trans ZF om))) ?_)
 rintro _ w72 ⟨c,rfl,ar⟩
 have au:=aq _ _ ar
 exact fun s u A=>⟨(exiA g (exiA c (zx ((A 3 dc).trans m) (zx u au)))),trivial⟩
 refine ob1 2 fun _ _ U _=>?_
 obtain⟨g,c,m,t,hS123⟩:=U
 refine obl rfl (zY (v:=Ix c 0) t (fun s u A=>⟨rfl,?_⟩))
 intro b71q y
 rw[A 4 (by decide)]at y;cases t.symm.trans y
 exact u
 intro vals w124 V C
 obtain⟨g,c,m,t,X⟩:=V
 have av:=C 5 dc
 have aw:vals 6=(Ix c 0:Value):=C 6 dc c t
 refine zT (kv:=[(1,Iw n),(2,vl),(3,Ix b2 0),(8,Ix j 0),(9,Iw k),(12,Iw k),(13,vl),(14,Iw l.length),(15,.bool false),(6,Ix j 0),(7,Ix c 0)]) ⟨rfl,rfl,rfl,rfl,rfl,rfl,rfl,rfl,rfl,(by exact av),(by exact aw),trivial⟩ (fun ρw124=>(zb (zk (zbm Tryz.results10 (show _=(Ix j 0:Value)from rfl) (show _=(Ix c 0:Value)from rfl) ?_))))
 have Y:=ae _ _ X
 refine⟨j,c,rfl,(Y.s4_ac)⟩
 have q:=tD q
 refine zg rfl (zl (za (zn (R0 fun _=>st (mV (Ix j 0) (st (mV vl (st (mV (Iw k) ?_)))))))))
 have Z:k<l.length:=bo
 refine st (zj (k:=10) (i:=k) nT kT rfl hl.sl rfl Z ?_)
 have D:k<l.length:=bo
 obtain⟨O,o,F⟩:=hl.evD D
 have hsm135:((l.getD k default).deps).length*8≤140737488355328:=o.small
 have P:=p.cells O (hl.foot (ne_of_lt D))
 refine st (zh (k:=10) lT kT rfl rfl P (st (cL Tryz.call32 (zae (e:=(l.getD k default)) o F p (laidL_good) (hn) ((Nat.le_trans Vz om))) ?_)))
 rintro _ w137 ⟨rfl,E⟩
 refine zb (R0 fun _=>st (mV (Iw k) ?_))
 have aa:InR ((k+1:Nat):Int):=bo
 refine st (zP (r:=((k+1:Nat):Int)) (k:=.i64) (a:=((k:Nat):Int)) (b:=1) rfl rfl (by rw[show(((k:Nat):Int)+1:Int)=((k+1:Nat):Int)from bo];exact zF aa) (st (aS (Iw (k+1)) (zb ?_))))
 have ab:(xb n (l.take (k+1)))=(addL n (xb n (l.take k)) (l.getD k default)):=(Vv om).symm
 rw[←ab]at E
 exact⟨_,by omega,k+1,_,rfl,sSf,by omega,E⟩
set_option maxHeartbeats 8000000 in
theorem WA {d:Dcl}{dd0:Value}(hdd0:RdS W G dd0 d.types){dd1:Value}(hdd1:RdS W G dd1 d.projs)(od:d.Ok){n:Int}(hn:InR n){vl:Value}{l:List Ev}(hl:RdS W G vl l){o:Int}(ho:InR o){start:Int}(hstart:InR start){vcm:Value}{cm:List Cmd}(hcm:RdS W G vcm cm)(hKN:RdS W G (.slice (some ⟨0,0,none⟩) 6 6) kindsL)(hS0:Sep G W Rs w):Ret Tryz.prog 3 [.agg (d.cells dd0 dd1).toArray,.int .i64 (n),vl,.int .i64 (o),.int .i64 (start),vcm] w (fun r w'=>r=(.bool true:Value)∧Sep G W Rs w'):=by
 have hdd0s:_*24≤_:=hdd0.small
 have hdd1s:_*40≤_:=hdd1.small
 have hls:_*96≤_:=hl.small
 have hcms:_*56≤_:=hcm.small
 have hKNs:_*8≤_:=hKN.small
 refine zi (args:=[.agg (d.cells dd0 dd1).toArray,Iv n,vl,Iv o,Iv start,vcm]) Tryz.func3 rfl rfl ?_
 refine za (R0 fun _=>st (zM (v:=.agg (d.cells dd0 dd1).toArray) rfl ?_))
 intro w3 b2 gL
 let hh:=Blk b2 (d.cells dd0 dd1).toArray 25
 have fs:=hS0.new gL
 refine st (aS (.bool false) (zb (za (za (R0 fun _=>st (zh (k:=2) qT rT rfl rfl (CellsAt.all (fs.b0)) (st (cL Tryz.call5 (zcx (d:=d) hdd0 hdd1 od fs) ?_))))))))
 rintro _ w7 ⟨b5,rfl,gN,ft⟩
 refine st (yB (a:=b5) rfl (zb ?_))
 cases bD: !b5
 have hc9r:=bD
 try simp only[zf]at bD
 have aa:=gN (by simpa using bD)
 refine ze rfl (zl (za (R0 fun _=>st (mV (Iv n) ?_))))
 refine st (cL lY (zaR (x:=n) (n:=64) hn yqe ft) ?_)
 rintro _ w12 ⟨j,rfl,hq11,fu⟩
 have cw:InR ((1+j:Nat):Int):=bo
 refine st (zP (r:=((1+j:Nat):Int)) (k:=.i64) (a:=1) (b:=((j:Nat):Int)) rfl rfl (by rw[show(1+((j:Nat):Int):Int)=((1+j:Nat):Int)from bo];exact zF cw) (st (aS (Iw (1+j)) (zb (za (yq (by kernel_rfl) (fun _=>(st (mV (Iw (1+j)) (st (mV vl (st (cL Tryz.call8 (zbH (n:=((1+j:Nat):Int)) (l:=l) (vl:=vl) cw hl fu) ?_)))))))))))))
 rintro T w19 ⟨_,S,rfl,cV,hft18,cx⟩
 have fv:=cx.r0
 have hr21s:_*96≤_:=fv.2
 refine st (aS T (zb (za (R0 fun _=>st (mV (Iv o) (st (mV (Iw (1+j)) ?_)))))))
 refine st (cL lY (zaR (x:=o) (n:=1+j) ho yqe cx) ?_)
 rintro _ w24 ⟨m,rfl,hq23,cy⟩
 refine st (aS (Iw m) (zb (za (R0 fun _=>st (zh (k:=2) qT rT rfl rfl (CellsAt.all (cy.b1)) (st (mV (Iw (1+j)) (st (mV T ?_)))))))))
 obtain⟨G26,fw,al,fx,fy⟩:=cy.lend
 have bE:=RowE.rdB fw al
 have hrd32s:_*96≤_:=bE.small
 refine st (cL Tryz.call9 (KM (d:=d) (n:=1+j) (l:=S) (vl:=T) (RdS.base hdd0 al) (RdS.base hdd1 al) od yqe bE (RdS.base hKN al) fx (aa.1) (om)) ?_)
 rintro _ w35 ⟨H,I,rfl,fz⟩
 have cz:=fy _ _ fz
 refine st (mV (.tuple #[Ix H 0,Ix I 0]) (st (zm (vs:=[Ix H 0,Ix I 0]) (i:=0) (v:=Ix H 0) rfl rfl (st (zm (vs:=[Ix H 0,Ix I 0]) (i:=1) (v:=Ix I 0) rfl rfl (st (aS (Ix H 0) (st (aS (Ix I 0) (zb (za (R0 fun _=>st (zh (k:=2) qT rT rfl rfl (CellsAt.all (cz.b3)) (st (mV (Iw (1+j)) (st (mV T ?_)))))))))))))))))
 obtain⟨G38,fA,bB,fB,fC⟩:=cz.lend
 have bF:=RowE.rdB fA bB
 have hrd44s:_*96≤_:=bF.small
 refine st (cL Tryz.call10 (zdX (d:=d) (n:=1+j) (l:=S) (vl:=T) (RdS.base hdd0 bB) (RdS.base hdd1 bB) od yqe bF fB (aa.1) (om)) ?_)
 rintro _ gO ⟨M,N,rfl,fE⟩
 have cC:=fC _ _ fE
 refine st (mV (.tuple #[Ix M 0,Ix N 0]) (st (zm (vs:=[Ix M 0,Ix N 0]) (i:=0) (v:=Ix M 0) rfl rfl (st (zm (vs:=[Ix M 0,Ix N 0]) (i:=1) (v:=Ix N 0) rfl rfl (st (aS (Ix M 0) (st (aS (Ix N 0) (zb (za (za ?_))))))))))))
 obtain⟨g,cD⟩: ∃z,(xb (1+j) S)=z:=⟨_,rfl⟩
 let hi:=ViewO I d (zD d g) (zD d g)
 have U:Good (1+j) g:=by rw[←cD];exact laidL_good
 have hLl9:g.length≤60:=by rw[←cD];exact Nat.le_trans ZF cV
 rw[cD]at cC
 have cE:Sep G W ((RowE (α:=Ev) (shr G W) 44 T S)::(RefS M (1+j) g)::(RefV N d (zD d g))::(SetO H (1+j) g)::hi::hh::Rs) gO:=cC
 have bC: ∀e∈g,e.Ok:=(cE).setOks (i:=3) rfl U.ids
 have htp9:=JW bC
 have hrl9:=ZL d g
 refine zA kr (st (mV (Ix H 0) (st (ZH (b:=H) (o:=0) Tryz.underlying32 rfl (st (mV (.bool false) (sty rfl rfl (mV (Ix I 0) (sty rfl rfl (ZH (b:=I) (o:=0) Tryz.underlying33 rfl (st (yw (v:=.bool false) rfl rfl (zb (ze rfl (zl (za (za (R0 fun _=>st (aS (Iv 0) (zb (zn ?_)))))))))))))))))))))
 refine zZ (fun mq σ Q=> ∃(k:Nat) (ρ:Env),mq=cm.length-k∧σ=yd ρ [(3,Iw m),(4,Iv start),(5,vcm),(6,Ix b2 0),(13,Ix H 0),(14,Ix I 0),(15,Ix M 0),(16,Ix N 0),(17,Iw k)]∧(k≤cm.length)∧Sep G W ((RowE (α:=Ev) (shr G W) 44 T S)::(RefS M (1+j) g)::(RefV N d (zD d g))::(SetO H (1+j) g)::(ViewO I d (zD d g) (zD d g))::(Blk b2 (d.cells dd0 dd1).toArray 25)::Rs) Q) ⟨0,_,rfl,sSf,Nat.zero_le _,cE⟩ ?_
 rintro m52 σ53 w51 ⟨k,ρl1,rfl,rfl,hkk,cF⟩
 refine za (za (zA kr (st (mV (Iw k) (st (mV vcm (st (zJ (n:=cm.length) vT rfl hcm.sl (st (zC (k:=.i64) (a:=((k:Nat):Int)) (b:=((cm.length:Nat):Int)) rfl rfl (st (mV (.bool (decide (((k:Nat):Int)<((cm.length:Nat):Int)))) (stc (V:=Iw k) rfl rfl (fun fF=>?_) ?_)))))))))))))
 have hl56:=tD fF
 exact mV (Iw k) ⟨rfl,rfl⟩
 refine stc (V:=.bool (decide (((k:Nat):Int)<30))) rfl rfl (fun cG=>?_) ?_
 have hl58:=tD cG
 exact zC (k:=.i64) (a:=((k:Nat):Int)) (b:=30) (if_pos cG) rfl ⟨rfl,rfl⟩
 refine st (zy (b:=decide (((k:Nat):Int)<((cm.length:Nat):Int))) (b':=decide (((k:Nat):Int)<30)) rfl (fun hbp=>(if_pos hbp)) (zb ?_))
 cases am:(decide (((k:Nat):Int)<((cm.length:Nat):Int)))&&(decide (((k:Nat):Int)<30))
 have bG:=am
 try simp only[zf]at am
 refine ze rfl (ya (zS (za (zA kr (st (mV (Ix H 0) ?_))))))
 obtain⟨G61,cH,hB64,fG,fH⟩:=(cF.mv3).lend
 obtain⟨vv67,m68,R69,hb70,fI,hr72⟩:=SetO.sh cH
 have hsm73:(zu (1+j) g).length*8≤140737488355328:=fI.small
 refine st (cL Tryz.call16 (zbz cH fG (U.ids) (U.srt) (om)) ?_)
 rintro gP w75 ⟨_,rfl,cI⟩
 have fJ:=cI.r0
 have hr77s:_*96≤_:=fJ.2
 have fK:=fH _ _ cI
 refine st (mV (Ix M 0) ?_)
 obtain⟨G80,cJ,hB83,fL,fM⟩:=(fK.mv3).lend
 obtain⟨vl86,hb87,fN⟩:=RefS.sh cJ
 have hsm89:g.length*96≤140737488355328:=fN.small
 refine st (cL kY (KT cJ fL) ?_)
 rintro gQ w91 ⟨_,rfl,cK⟩
 have fO:=cK.r0
 have hr93s:_*96≤_:=fO.2
 have fP:=fM _ _ cK
 obtain⟨G96,fQ,hB99,cW,cX⟩:=(fP.mv3).lend
 have aM:=RowE.rd fQ
 have hrd102s:_*96≤_:=aM.small
 obtain⟨G104,cY,cZ,da,db⟩:=(cW.mv1).lend
 have aN:=RowE.rd cY
 have hrd110s:_*96≤_:=aN.small
 refine st (cL Tryz.call15 (Uo (a:=g) (va:=gP) (b:=g) (vb:=gQ) (RdS.base aM cZ) aN da) ?_)
 rintro _ w111 ⟨rfl,dd⟩
 have de:=db _ _ dd
 have df:=cX _ _ de
 have cM:(decide (g=g))=true:=(decide_eq_true rfl)
 rw[cM]
 refine st (mV (.bool true) (sty rfl rfl (mV (Ix I 0) (sty rfl rfl (cL Tryz.call19 (JK (df.mv6)) ?_)))))
 rintro fR w118 ⟨_,rfl,bH⟩
 have dg:=bH.r1
 have hr120s:_*120≤_:=dg.2
 refine sty rfl rfl (mV (Ix N 0) ?_)
 obtain⟨G122,bI,hB125,dh,di⟩:=(bH.mv7).lend
 obtain⟨vt128,vp129,ve130,hb131,dj,dk,dl⟩:=RefV.sh bI
 have hsm135:d.types.length*24≤140737488355328:=dj.small
 have hsm136:d.projs.length*40≤140737488355328:=dk.small
 have hsm137:(zD d g).length*120≤140737488355328:=dl.small
 refine sty rfl rfl (cL Tryz.call20 (VX bI dh) ?_)
 rintro fS w139 ⟨_,rfl,bJ⟩
 have dm:=bJ.r0
 have hr141s:_*120≤_:=dm.2
 have dp:=di _ _ bJ
 obtain⟨G144,dq,hB147,dr,ds⟩:=(dp.mv3).lend
 have aO:=RowE.rd dq
 have hrd150s:_*120≤_:=aO.small
 obtain⟨G152,dt,du,dv,dw⟩:=(dr.mv1).lend
 have aP:=RowE.rd dt
 have hrd158s:_*120≤_:=aP.small
 refine sty rfl rfl (cL Tryz.call18 (Vd (a:=(zD d g)) (va:=fR) (b:=(zD d g)) (vb:=fS) (RdS.base aO du) aP dv) ?_)
 rintro _ w159 ⟨rfl,dx⟩
 have dy:=dw _ _ dx
 have dz:=ds _ _ dy
 have cN:(decide ((zD d g)=(zD d g)))=true:=(decide_eq_true rfl)
 rw[cN]
 refine st (yz (v:=.bool true) rfl rfl (st (mV (.bool true) (sty rfl rfl (cL mY (VO hKN dz) ?_)))))
 rintro _ fT ⟨rfl,dB⟩
 refine st (yz (v:=.bool true) rfl rfl (st (aS (.bool true) (zb (zk (zG nY (show _=(.bool true:Value)from rfl) ?_))))))
 have dC:Sep G W Rs fT:=dB.sel 10 [] (Nat.le_add_left _ _) rfl rfl
 refine⟨rfl,dC⟩
 have bG:=am
 try simp only[zf]at am
 have hk9:k<cm.length:=by have h9:=bG;simp only[Bool.and_eq_true,decide_eq_true_eq]at h9;omega
 refine zg rfl (zl (za (zn (za ?_))))
 refine WD6 ((fun TT R aQ aR aT aU=>WF [fun vals Q=>Sep G W (R::aQ::aR::aT::aU::TT) Q,fun vals Q=> ∃(p:Value),(vals 9=(.tuple #[.agg ((exR d (1+j) g (zD d g) ((m:Nat):Int) start (cm.getD k default)).1.cells p).toArray,.bool ((exR d (1+j) g (zD d g) ((m:Nat):Int) start (cm.getD k default)).2.1),Iv ((exR d (1+j) g (zD d g) ((m:Nat):Int) start (cm.getD k default)).2.2)]:Value))∧Sep G W (aT::aU::(DepO p ((exR d (1+j) g (zD d g) ((m:Nat):Int) start (cm.getD k default)).1.deps))::R::aQ::aR::TT) Q,fun vals Q=> ∃(u:Nat),(vals 14=(Ix u 0:Value))∧Sep G W ((Blk u #[Iv 0,Iv 0,Iv 0,(Iz),Iv 0,Iv 0,Iv 0,Iv 0,Iv 0,Iv 0] 44)::R::aQ::aR::aT::aU::TT) Q,fun vals Q=> ∃(p:Value) (u:Nat),(vals 9=(.tuple #[.agg ((exR d (1+j) g (zD d g) ((m:Nat):Int) start (cm.getD k default)).1.cells p).toArray,.bool ((exR d (1+j) g (zD d g) ((m:Nat):Int) start (cm.getD k default)).2.1),Iv ((exR d (1+j) g (zD d g) ((m:Nat):Int) start (cm.getD k default)).2.2)]:Value))∧(vals 14=(Ix u 0:Value))∧Sep G W ((Blk u #[Iv 0,Iv 0,Iv 0,(Iz),Iv 0,Iv 0,Iv 0,Iv 0,Iv 0,Iv 0] 44)::aT::aU::(DepO p ((exR d (1+j) g (zD d g) ((m:Nat):Int) start (cm.getD k default)).1.deps))::R::aQ::aR::TT) Q,fun _ _=>True,fun _ _=>True,fun _ _=>True,fun vals Q=> ∃(p:Value) (u:Nat),(vals 9=(.tuple #[.agg ((exR d (1+j) g (zD d g) ((m:Nat):Int) start (cm.getD k default)).1.cells p).toArray,.bool ((exR d (1+j) g (zD d g) ((m:Nat):Int) start (cm.getD k default)).2.1),Iv ((exR d (1+j) g (zD d g) ((m:Nat):Int) start (cm.getD k default)).2.2)]:Value))∧(vals 14=(Ix u 0:Value))∧Sep G W ((Blk u ((exR d (1+j) g (zD d g) ((m:Nat):Int) start (cm.getD k default)).1.cells p).toArray 44)::aT::aU::(DepO p ((exR d (1+j) g (zD d g) ((m:Nat):Int) start (cm.getD k default)).1.deps))::R::aQ::aR::TT) Q]) (hh::Rs) (RowE (α:=Ev) (shr G W) 44 T S) (RefS M (1+j) g) (RefV N d (zD d g)) (SetO H (1+j) g) hi) (AF [Vl 0 (.agg (d.cells dd0 dd1).toArray),Vl 1 (Ix H 0),Vl 2 (Ix I 0),Vl 3 (Iw m),Vl 4 (Iv start),Vl 5 (vcm),Vl 6 (Iw k),Vl 7 (Ix (sb vcm) (so vcm+k*7)),Vl 8 (.agg ((cm.getD k default).cells).toArray),fun _=>True,fun vals=> ∀(p:Value),vals 9=(.tuple #[.agg ((exR d (1+j) g (zD d g) ((m:Nat):Int) start (cm.getD k default)).1.cells p).toArray,.bool ((exR d (1+j) g (zD d g) ((m:Nat):Int) start (cm.getD k default)).2.1),Iv ((exR d (1+j) g (zD d g) ((m:Nat):Int) start (cm.getD k default)).2.2)]:Value)→vals 10=(.tuple #[.agg ((exR d (1+j) g (zD d g) ((m:Nat):Int) start (cm.getD k default)).1.cells p).toArray,.bool ((exR d (1+j) g (zD d g) ((m:Nat):Int) start (cm.getD k default)).2.1),Iv ((exR d (1+j) g (zD d g) ((m:Nat):Int) start (cm.getD k default)).2.2)]:Value),fun vals=> ∀(p:Value),vals 9=(.tuple #[.agg ((exR d (1+j) g (zD d g) ((m:Nat):Int) start (cm.getD k default)).1.cells p).toArray,.bool ((exR d (1+j) g (zD d g) ((m:Nat):Int) start (cm.getD k default)).2.1),Iv ((exR d (1+j) g (zD d g) ((m:Nat):Int) start (cm.getD k default)).2.2)]:Value)→vals 11=(.agg ((exR d (1+j) g (zD d g) ((m:Nat):Int) start (cm.getD k default)).1.cells p).toArray:Value),Vl 12 (.bool ((exR d (1+j) g (zD d g) ((m:Nat):Int) start (cm.getD k default)).2.1)),Vl 13 (Iv ((exR d (1+j) g (zD d g) ((m:Nat):Int) start (cm.getD k default)).2.2)),fun _=>True,fun _=>True,Vl 16 (.bool ((exR d (1+j) g (zD d g) ((m:Nat):Int) start (cm.getD k default)).2.1)),Vl 17 (Iv ((exR d (1+j) g (zD d g) ((m:Nat):Int) start (cm.getD k default)).2.2))]) [[],[],[],[],[],[],[],[5,6],[5,6,7],(rg 9),(rg 10),(rg 11),(rg 11),(rg 11),[],[0,1,2,3,4,5,6,7,8,9,10,11,14],[0,1,2,3,4,5,6,7,8,9,10,11,12,14,15],(rg 17)] [9,14,15] [[0,2],[0,2],[0,2],[0,2],[0,2],[0,2],[0,2],[0,2],[0,2],[0,2],[1,3],[1,3],[1,3,7],[1,3,7],[0,1],[3],[7],[7]] cF ⟨?_,fun _ _ _ _ _ _=>obl rfl (mV (Ix H 0) dR),fun _ _ _ _ _ _=>obl rfl (mV (Ix I 0) dR),fun _ _ _ _ _ _=>obl rfl (mV (Iw m) dR),fun _ _ _ _ _ _=>obl rfl (mV (Iv start) dR),fun _ _ _ _ _ _=>obl rfl (mV vcm dR),fun _ _ _ _ _ _=>obl rfl (mV (Iw k) dR),?_,?_,?_,?_,?_,?_,?_,?_,?_,fun _ _ _ _ _ dD=>obl rfl (zY (v:=.bool ((exR d (1+j) g (zD d g) ((m:Nat):Int) start (cm.getD k default)).2.1)) (dD 12 dc) dR),fun _ _ _ _ _ dE=>obl rfl (zY (v:=Iv ((exR d (1+j) g (zD d g) ((m:Nat):Int) start (cm.getD k default)).2.2)) (dE 13 dc) dR),trivial⟩ ?_ (hlocA:=yX ⟨dA,dA,dA,dA,dA,dA,dA,dA,dA,dT,fun vals A E h=>fun p C=>(E 10 (.inl rfl)).trans (h p ((E 9 (.inr dc)).symm.trans C)),fun vals A E h=>fun p C=>(E 11 (.inl rfl)).trans (h p ((E 9 (.inr dc)).symm.trans C)),dA,dA,dT,dT,dA,dA,trivial⟩)
 intro fU vals w323 dG bK hA324
 have aV:fU∈[0,2]:=dG
 simp only[yt]at aV
 rcases aV with rfl|rfl
 have dH:Sep _ _ _ _:=bK
 exact obl rfl (zh (k:=2) qT rT rfl rfl (CellsAt.all (dH.b5)) dR)
 obtain⟨u,J,dI⟩:=bK
 exact obl rfl (zh (k:=2) qT rT rfl rfl (CellsAt.all (dI.b6)) dR)
 intro fV vals w360 dJ bL ab
 have aW:fV∈[0,2]:=dJ
 simp only[yt]at aW
 rcases aW with rfl|rfl
 have hS364:Sep _ _ _ _:=bL
 refine obl rfl ?_
 have dK:k<cm.length:=bo
 exact zj (k:=7) (i:=k) vT pT (ab 5 dc) hcm.sl (ab 6 dc) dK dR
 obtain⟨u,J,hS368⟩:=bL
 refine obl rfl ?_
 have dL:k<cm.length:=bo
 exact zj (k:=7) (i:=k) vT pT (ab 5 dc) hcm.sl (ab 6 dc) dL dR
 intro fW vals w373 dM bM bN
 have aX:fW∈[0,2]:=dM
 simp only[yt]at aX
 rcases aX with rfl|rfl
 have dN:Sep _ _ _ _:=bM
 refine obl rfl ?_
 have an:k<cm.length:=bo
 obtain⟨aY,cs⟩:=hcm.cmd an
 rw[←zB default an]at aY cs
 have cO:=dN.cells aY (hcm.foot (ne_of_lt an))
 exact zh (k:=7) sT pT rfl (bN 7 dc) cO dR
 obtain⟨u,J,dO⟩:=bM
 refine obl rfl ?_
 have ao:k<cm.length:=bo
 obtain⟨aZ,ct⟩:=hcm.cmd ao
 rw[←zB default ao]at aZ ct
 have cP:=dO.cells aZ (hcm.foot (ne_of_lt ao))
 exact zh (k:=7) sT pT rfl (bN 7 dc) cP dR
 intro fX vals w388 dP bO O
 have ba:fX∈[0,2]:=dP
 simp only[yt]at ba
 rcases ba with rfl|rfl
 have dQ:Sep _ _ _ _:=bO
 refine obl rfl ?_
 obtain⟨G400,bP,X,bQ,dS⟩:=(dQ.mv3).lend
 obtain⟨vv406,m407,R408,hb409,dU,hr411⟩:=SetO.sh bP
 have hsm412:(zu (1+j) g).length*8≤140737488355328:=dU.small
 have ap:k<cm.length:=bo
 obtain⟨bb,ah⟩:=(RdS.base hcm X).cmd ap
 rw[←zB default ap]at bb ah
 have hcw415:=bQ.cells bb ((RdS.base hcm X).foot (ne_of_lt ap))
 refine(zH (f:=11) (vals:=[.agg (d.cells dd0 dd1).toArray,Ix H 0,Ix I 0,Iw m,Iv start,.agg ((cm.getD k default).cells).toArray]) (cap:=[]) rfl (yE ⟨(O 0 dc),(O 1 dc),(O 2 dc),(O 3 dc),(O 4 dc),(O 8 dc),trivial⟩) oY (Yq (d:=d) (o:=((m:Nat):Int)) (start:=start) (c:=(cm.getD k default)) (RdS.base hdd0 X) (RdS.base hdd1 X) od bP om om ah (RdS.base hKN X) (bQ.mv3) (aa.1) ((Inv.run aa.1 _)) (om) (U.ids) (U.srt) (om) (om)) ?_)
 rintro _ w418 ⟨p,rfl,dV⟩
 have dW:=dS _ _ dV
 exact fun A E B=>⟨(exiA p (zx E dW)),trivial⟩
 obtain⟨u,J,dX⟩:=bO
 refine obl rfl ?_
 obtain⟨G429,bR,Y,bS,dY⟩:=(dX.mv4).lend
 obtain⟨vv435,m436,R437,hb438,dZ,hr440⟩:=SetO.sh bR
 have hsm441:(zu (1+j) g).length*8≤140737488355328:=dZ.small
 have aq:k<cm.length:=bo
 obtain⟨bc,ai⟩:=(RdS.base hcm Y).cmd aq
 rw[←zB default aq]at bc ai
 have hcw444:=bS.cells bc ((RdS.base hcm Y).foot (ne_of_lt aq))
 refine(zH (f:=11) (vals:=[.agg (d.cells dd0 dd1).toArray,Ix H 0,Ix I 0,Iw m,Iv start,.agg ((cm.getD k default).cells).toArray]) (cap:=[]) rfl (yE ⟨(O 0 dc),(O 1 dc),(O 2 dc),(O 3 dc),(O 4 dc),(O 8 dc),trivial⟩) oY (Yq (d:=d) (o:=((m:Nat):Int)) (start:=start) (c:=(cm.getD k default)) (RdS.base hdd0 Y) (RdS.base hdd1 Y) od bR om om ai (RdS.base hKN Y) (bS.mv4) (aa.1) ((Inv.run aa.1 _)) (om) (U.ids) (U.srt) (om) (om)) ?_)
 rintro _ w447 ⟨p,rfl,ea⟩
 have eb:=dY _ _ ea
 exact fun A E B=>⟨(exiA p (exiA u (zx E (zx ((B 14 dc).trans J) (eb.mv3))))),trivial⟩
 intro fY vals w452 ec bT hA453
 have bd:fY∈[1,3]:=ec
 simp only[yt]at bd
 rcases bd with rfl|rfl
 obtain⟨p,s,hS456⟩:=bT
 refine obl rfl (yi (v:=.tuple #[.agg ((exR d (1+j) g (zD d g) ((m:Nat):Int) start (cm.getD k default)).1.cells p).toArray,.bool ((exR d (1+j) g (zD d g) ((m:Nat):Int) start (cm.getD k default)).2.1),Iv ((exR d (1+j) g (zD d g) ((m:Nat):Int) start (cm.getD k default)).2.2)]) s (fun A E B=>⟨rfl,?_⟩))
 intro ad C
 rw[B 9 (by decide)]at C;cases s.symm.trans C
 exact E
 obtain⟨p,u,s,J,hS457⟩:=bT
 refine obl rfl (yi (v:=.tuple #[.agg ((exR d (1+j) g (zD d g) ((m:Nat):Int) start (cm.getD k default)).1.cells p).toArray,.bool ((exR d (1+j) g (zD d g) ((m:Nat):Int) start (cm.getD k default)).2.1),Iv ((exR d (1+j) g (zD d g) ((m:Nat):Int) start (cm.getD k default)).2.2)]) s (fun A E B=>⟨rfl,?_⟩))
 intro ad C
 rw[B 9 (by decide)]at C;cases s.symm.trans C
 exact E
 intro fZ vals w459 ed bU bV
 have be:fZ∈[1,3]:=ed
 simp only[yt]at be
 rcases be with rfl|rfl
 obtain⟨p,s,hS463⟩:=bU
 let fD:=((exR d (1+j) g (zD d g) ((m:Nat):Int) start (cm.getD k default)).1.cells p)
 have ga:vals 10=(.tuple #[.agg fD.toArray,.bool ((exR d (1+j) g (zD d g) ((m:Nat):Int) start (cm.getD k default)).2.1),Iv ((exR d (1+j) g (zD d g) ((m:Nat):Int) start (cm.getD k default)).2.2)]:Value):=bV 10 dc p s
 refine obl rfl (zm (vs:=[.agg fD.toArray,.bool ((exR d (1+j) g (zD d g) ((m:Nat):Int) start (cm.getD k default)).2.1),Iv ((exR d (1+j) g (zD d g) ((m:Nat):Int) start (cm.getD k default)).2.2)]) (i:=0) (v:=.agg fD.toArray) ga rfl (fun A E B=>⟨rfl,?_⟩))
 intro ad C
 rw[B 9 (by decide)]at C;cases s.symm.trans C
 exact E
 obtain⟨p,u,s,J,hS465⟩:=bU
 let gM:=((exR d (1+j) g (zD d g) ((m:Nat):Int) start (cm.getD k default)).1.cells p)
 have gc:vals 10=(.tuple #[.agg gM.toArray,.bool ((exR d (1+j) g (zD d g) ((m:Nat):Int) start (cm.getD k default)).2.1),Iv ((exR d (1+j) g (zD d g) ((m:Nat):Int) start (cm.getD k default)).2.2)]:Value):=bV 10 dc p s
 refine obl rfl (zm (vs:=[.agg gM.toArray,.bool ((exR d (1+j) g (zD d g) ((m:Nat):Int) start (cm.getD k default)).2.1),Iv ((exR d (1+j) g (zD d g) ((m:Nat):Int) start (cm.getD k default)).2.2)]) (i:=0) (v:=.agg gM.toArray) gc rfl (fun A E B=>⟨rfl,?_⟩))
 intro ad C
 rw[B 9 (by decide)]at C;cases s.symm.trans C
 exact E
 intro gd vals w468 ee ar au
 have bf:gd∈[1,3,7]:=ee
 simp only[yt]at bf
 rcases bf with rfl|rfl|rfl
 obtain⟨p,s,hS472⟩:=ar
 let gV:=((exR d (1+j) g (zD d g) ((m:Nat):Int) start (cm.getD k default)).1.cells p)
 have ge:vals 10=(.tuple #[.agg gV.toArray,.bool ((exR d (1+j) g (zD d g) ((m:Nat):Int) start (cm.getD k default)).2.1),Iv ((exR d (1+j) g (zD d g) ((m:Nat):Int) start (cm.getD k default)).2.2)]:Value):=au 10 dc p s
 exact obl rfl (zm (vs:=[.agg gV.toArray,.bool ((exR d (1+j) g (zD d g) ((m:Nat):Int) start (cm.getD k default)).2.1),Iv ((exR d (1+j) g (zD d g) ((m:Nat):Int) start (cm.getD k default)).2.2)]) (i:=1) (v:=.bool ((exR d (1+j) g (zD d g) ((m:Nat):Int) start (cm.getD k default)).2.1)) ge rfl dR)
 obtain⟨p,u,s,J,hS474⟩:=ar
 let gW:=((exR d (1+j) g (zD d g) ((m:Nat):Int) start (cm.getD k default)).1.cells p)
 have gf:vals 10=(.tuple #[.agg gW.toArray,.bool ((exR d (1+j) g (zD d g) ((m:Nat):Int) start (cm.getD k default)).2.1),Iv ((exR d (1+j) g (zD d g) ((m:Nat):Int) start (cm.getD k default)).2.2)]:Value):=au 10 dc p s
 exact obl rfl (zm (vs:=[.agg gW.toArray,.bool ((exR d (1+j) g (zD d g) ((m:Nat):Int) start (cm.getD k default)).2.1),Iv ((exR d (1+j) g (zD d g) ((m:Nat):Int) start (cm.getD k default)).2.2)]) (i:=1) (v:=.bool ((exR d (1+j) g (zD d g) ((m:Nat):Int) start (cm.getD k default)).2.1)) gf rfl dR)
 obtain⟨p,u,s,J,hS476⟩:=ar
 let gX:=((exR d (1+j) g (zD d g) ((m:Nat):Int) start (cm.getD k default)).1.cells p)
 have gg:vals 10=(.tuple #[.agg gX.toArray,.bool ((exR d (1+j) g (zD d g) ((m:Nat):Int) start (cm.getD k default)).2.1),Iv ((exR d (1+j) g (zD d g) ((m:Nat):Int) start (cm.getD k default)).2.2)]:Value):=au 10 dc p s
 exact obl rfl (zm (vs:=[.agg gX.toArray,.bool ((exR d (1+j) g (zD d g) ((m:Nat):Int) start (cm.getD k default)).2.1),Iv ((exR d (1+j) g (zD d g) ((m:Nat):Int) start (cm.getD k default)).2.2)]) (i:=1) (v:=.bool ((exR d (1+j) g (zD d g) ((m:Nat):Int) start (cm.getD k default)).2.1)) gg rfl dR)
 intro gh vals w479 ef av aw
 have bg:gh∈[1,3,7]:=ef
 simp only[yt]at bg
 rcases bg with rfl|rfl|rfl
 obtain⟨p,s,hS483⟩:=av
 let gY:=((exR d (1+j) g (zD d g) ((m:Nat):Int) start (cm.getD k default)).1.cells p)
 have gi:vals 10=(.tuple #[.agg gY.toArray,.bool ((exR d (1+j) g (zD d g) ((m:Nat):Int) start (cm.getD k default)).2.1),Iv ((exR d (1+j) g (zD d g) ((m:Nat):Int) start (cm.getD k default)).2.2)]:Value):=aw 10 dc p s
 exact obl rfl (zm (vs:=[.agg gY.toArray,.bool ((exR d (1+j) g (zD d g) ((m:Nat):Int) start (cm.getD k default)).2.1),Iv ((exR d (1+j) g (zD d g) ((m:Nat):Int) start (cm.getD k default)).2.2)]) (i:=2) (v:=Iv ((exR d (1+j) g (zD d g) ((m:Nat):Int) start (cm.getD k default)).2.2)) gi rfl dR)
 obtain⟨p,u,s,J,hS485⟩:=av
 let gZ:=((exR d (1+j) g (zD d g) ((m:Nat):Int) start (cm.getD k default)).1.cells p)
 have gj:vals 10=(.tuple #[.agg gZ.toArray,.bool ((exR d (1+j) g (zD d g) ((m:Nat):Int) start (cm.getD k default)).2.1),Iv ((exR d (1+j) g (zD d g) ((m:Nat):Int) start (cm.getD k default)).2.2)]:Value):=aw 10 dc p s
 exact obl rfl (zm (vs:=[.agg gZ.toArray,.bool ((exR d (1+j) g (zD d g) ((m:Nat):Int) start (cm.getD k default)).2.1),Iv ((exR d (1+j) g (zD d g) ((m:Nat):Int) start (cm.getD k default)).2.2)]) (i:=2) (v:=Iv ((exR d (1+j) g (zD d g) ((m:Nat):Int) start (cm.getD k default)).2.2)) gj rfl dR)
 obtain⟨p,u,s,J,hS487⟩:=av
 let ha:=((exR d (1+j) g (zD d g) ((m:Nat):Int) start (cm.getD k default)).1.cells p)
 have gk:vals 10=(.tuple #[.agg ha.toArray,.bool ((exR d (1+j) g (zD d g) ((m:Nat):Int) start (cm.getD k default)).2.1),Iv ((exR d (1+j) g (zD d g) ((m:Nat):Int) start (cm.getD k default)).2.2)]:Value):=aw 10 dc p s
 exact obl rfl (zm (vs:=[.agg ha.toArray,.bool ((exR d (1+j) g (zD d g) ((m:Nat):Int) start (cm.getD k default)).2.1),Iv ((exR d (1+j) g (zD d g) ((m:Nat):Int) start (cm.getD k default)).2.2)]) (i:=2) (v:=Iv ((exR d (1+j) g (zD d g) ((m:Nat):Int) start (cm.getD k default)).2.2)) gk rfl dR)
 intro gl vals w490 eg bW hA491
 have bh:gl∈[0,1]:=eg
 simp only[yt]at bh
 rcases bh with rfl|rfl
 have eh:Sep _ _ _ _:=bW
 refine obl rfl ((zq oT ?_))
 intro w497 u ei
 exact fun A E B=>⟨(exiA u (zx E (eh.new ei))),trivial⟩
 obtain⟨p,s,ej⟩:=bW
 refine obl rfl ((zq oT ?_))
 intro w502 u ek
 exact fun A E B=>⟨(exiA p (exiA u (zx ((B 9 dc).trans s) (zx E (ej.new ek))))),trivial⟩
 intro gm vals w505 el em en
 have bi:gm∈[3]:=el
 simp only[yt]at bi
 subst bi
 obtain⟨p,u,s,J,ax⟩:=em
 let gR:=((exR d (1+j) g (zD d g) ((m:Nat):Int) start (cm.getD k default)).1.cells p)
 refine obl rfl ?_
 have gn:vals 11=(.agg gR.toArray:Value):=en 11 dc p s
 refine(zp (v:=.agg gR.toArray) (c':=gR.toArray) kT J gn (ax.b0) (zX ⟨rfl,rfl,rfl,(ax.depSl (i:=3) rfl).one,rfl,rfl,rfl,rfl,rfl,rfl,trivial⟩) yqc rfl ?_)
 intro w511 eo
 exact fun A E B=>⟨(exiA p (exiA u (zx ((B 9 dc).trans s) (zx ((B 14 dc).trans J) (ax.pt0 eo))))),trivial⟩
 intro vals ae er bX
 obtain⟨p,u,s,J,es⟩:=er
 have go:=bX 16 dc
 have gp:=bX 17 dc
 refine zT (kv:=[(3,Iw m),(4,Iv start),(5,vcm),(6,Ix b2 0),(13,Ix H 0),(14,Ix I 0),(15,Ix M 0),(16,Ix N 0),(17,Iw k),(57,Iw k),(58,vcm),(59,Iw cm.length),(60,.bool (decide (((k:Nat):Int)<((cm.length:Nat):Int)))),(61,.bool (decide (((k:Nat):Int)<((cm.length:Nat):Int)))),(64,.bool true),(18,Ix u 0),(19,.bool ((exR d (1+j) g (zD d g) ((m:Nat):Int) start (cm.getD k default)).2.1)),(20,Iv ((exR d (1+j) g (zD d g) ((m:Nat):Int) start (cm.getD k default)).2.2))]) ⟨rfl,rfl,rfl,rfl,rfl,rfl,rfl,rfl,rfl,rfl,rfl,rfl,rfl,rfl,rfl,(by exact J),(by exact go),(by exact gp),trivial⟩ (fun ρw526=>(zb (za ?_)))
 obtain⟨G533,ay,F,et,eu⟩:=(es.mv5).lend
 obtain⟨vl539,hb540,ew⟩:=RefS.sh ay
 have hsm542:g.length*96≤140737488355328:=ew.small
 obtain⟨af,az,D,ex,ey⟩:=(et.mv5).lend
 obtain⟨vt550,vp551,ve552,hb553,ez,eA,eB⟩:=RefV.sh az
 have hsm557:d.types.length*24≤140737488355328:=ez.small
 have hsm558:d.projs.length*40≤140737488355328:=eA.small
 have hsm559:(zD d g).length*120≤140737488355328:=eB.small
 refine WD6 ((fun TT R=>WF [fun vals Q=>Sep af ae (R::TT) Q,fun vals Q=> ∃(q:Value),(vals 9=(.tuple #[.agg ((exR d (1+j) g (zD d g) ((m:Nat):Int) start (cm.getD k default)).1.cells q).toArray,.bool ((exR d (1+j) g (zD d g) ((m:Nat):Int) start (cm.getD k default)).2.1),Iv ((exR d (1+j) g (zD d g) ((m:Nat):Int) start (cm.getD k default)).2.2)]:Value))∧Sep af ae ((RowE (α:=Int) own 3 q ((exR d (1+j) g (zD d g) ((m:Nat):Int) start (cm.getD k default)).1.deps))::R::TT) Q,fun vals Q=> ∃(y:Nat),(vals 14=(Ix y 0:Value))∧Sep af ae ((Blk y #[Iv 0,Iv 0,Iv 0,(Iz),Iv 0,Iv 0,Iv 0,Iv 0,Iv 0,Iv 0] 44)::R::TT) Q,fun vals Q=> ∃(q:Value) (y:Nat),(vals 9=(.tuple #[.agg ((exR d (1+j) g (zD d g) ((m:Nat):Int) start (cm.getD k default)).1.cells q).toArray,.bool ((exR d (1+j) g (zD d g) ((m:Nat):Int) start (cm.getD k default)).2.1),Iv ((exR d (1+j) g (zD d g) ((m:Nat):Int) start (cm.getD k default)).2.2)]:Value))∧(vals 14=(Ix y 0:Value))∧Sep af ae ((Blk y #[Iv 0,Iv 0,Iv 0,(Iz),Iv 0,Iv 0,Iv 0,Iv 0,Iv 0,Iv 0] 44)::(RowE (α:=Int) own 3 q ((exR d (1+j) g (zD d g) ((m:Nat):Int) start (cm.getD k default)).1.deps))::R::TT) Q,fun _ _=>True,fun _ _=>True,fun _ _=>True,fun vals Q=> ∃(q:Value) (y:Nat),(vals 9=(.tuple #[.agg ((exR d (1+j) g (zD d g) ((m:Nat):Int) start (cm.getD k default)).1.cells q).toArray,.bool ((exR d (1+j) g (zD d g) ((m:Nat):Int) start (cm.getD k default)).2.1),Iv ((exR d (1+j) g (zD d g) ((m:Nat):Int) start (cm.getD k default)).2.2)]:Value))∧(vals 14=(Ix y 0:Value))∧Sep af ae ((Blk y ((exR d (1+j) g (zD d g) ((m:Nat):Int) start (cm.getD k default)).1.cells q).toArray 44)::(RowE (α:=Int) own 3 q ((exR d (1+j) g (zD d g) ((m:Nat):Int) start (cm.getD k default)).1.deps))::R::TT) Q]) ((SetO H (1+j) g)::hi::(DepO p ((exR d (1+j) g (zD d g) ((m:Nat):Int) start (cm.getD k default)).1.deps))::(RowE (α:=Ev) (shr G W) 44 T S)::hh::Rs) (Blk u ((exR d (1+j) g (zD d g) ((m:Nat):Int) start (cm.getD k default)).1.cells p).toArray 44)) (AF [Vl 0 (.agg (d.cells dd0 dd1).toArray),Vl 1 (Ix M 0),Vl 2 (Ix N 0),Vl 3 (Iw m),Vl 4 (Iv start),Vl 5 (vcm),Vl 6 (Iw k),Vl 7 (Ix (sb vcm) (so vcm+k*7)),Vl 8 (.agg ((cm.getD k default).cells).toArray),fun _=>True,fun vals=> ∀(q:Value),vals 9=(.tuple #[.agg ((exR d (1+j) g (zD d g) ((m:Nat):Int) start (cm.getD k default)).1.cells q).toArray,.bool ((exR d (1+j) g (zD d g) ((m:Nat):Int) start (cm.getD k default)).2.1),Iv ((exR d (1+j) g (zD d g) ((m:Nat):Int) start (cm.getD k default)).2.2)]:Value)→vals 10=(.tuple #[.agg ((exR d (1+j) g (zD d g) ((m:Nat):Int) start (cm.getD k default)).1.cells q).toArray,.bool ((exR d (1+j) g (zD d g) ((m:Nat):Int) start (cm.getD k default)).2.1),Iv ((exR d (1+j) g (zD d g) ((m:Nat):Int) start (cm.getD k default)).2.2)]:Value),fun vals=> ∀(q:Value),vals 9=(.tuple #[.agg ((exR d (1+j) g (zD d g) ((m:Nat):Int) start (cm.getD k default)).1.cells q).toArray,.bool ((exR d (1+j) g (zD d g) ((m:Nat):Int) start (cm.getD k default)).2.1),Iv ((exR d (1+j) g (zD d g) ((m:Nat):Int) start (cm.getD k default)).2.2)]:Value)→vals 11=(.agg ((exR d (1+j) g (zD d g) ((m:Nat):Int) start (cm.getD k default)).1.cells q).toArray:Value),Vl 12 (.bool ((exR d (1+j) g (zD d g) ((m:Nat):Int) start (cm.getD k default)).2.1)),Vl 13 (Iv ((exR d (1+j) g (zD d g) ((m:Nat):Int) start (cm.getD k default)).2.2)),fun _=>True,fun _=>True,Vl 16 (.bool ((exR d (1+j) g (zD d g) ((m:Nat):Int) start (cm.getD k default)).2.1)),Vl 17 (Iv ((exR d (1+j) g (zD d g) ((m:Nat):Int) start (cm.getD k default)).2.2))]) [[],[],[],[],[],[],[],[5,6],[5,6,7],(rg 9),(rg 10),(rg 11),(rg 11),(rg 11),[],[0,1,2,3,4,5,6,7,8,9,10,11,14],[0,1,2,3,4,5,6,7,8,9,10,11,12,14,15],(rg 17)] [9,14,15] [[0,2],[0,2],[0,2],[0,2],[0,2],[0,2],[0,2],[0,2],[0,2],[0,2],[1,3],[1,3],[1,3,7],[1,3,7],[0,1],[3],[7],[7]] ex ⟨?_,fun _ _ _ _ _ _=>obl rfl (mV (Ix M 0) dR),fun _ _ _ _ _ _=>obl rfl (mV (Ix N 0) dR),fun _ _ _ _ _ _=>obl rfl (mV (Iw m) dR),fun _ _ _ _ _ _=>obl rfl (mV (Iv start) dR),fun _ _ _ _ _ _=>obl rfl (mV vcm dR),fun _ _ _ _ _ _=>obl rfl (mV (Iw k) dR),?_,?_,?_,?_,?_,?_,?_,?_,?_,fun _ _ _ _ _ eC=>obl rfl (zY (v:=.bool ((exR d (1+j) g (zD d g) ((m:Nat):Int) start (cm.getD k default)).2.1)) (eC 12 dc) dR),fun _ _ _ _ _ eD=>obl rfl (zY (v:=Iv ((exR d (1+j) g (zD d g) ((m:Nat):Int) start (cm.getD k default)).2.2)) (eD 13 dc) dR),trivial⟩ ?_ (hlocA:=yX ⟨dA,dA,dA,dA,dA,dA,dA,dA,dA,dT,fun vals A E h=>fun q C=>(E 10 (.inl rfl)).trans (h q ((E 9 (.inr dc)).symm.trans C)),fun vals A E h=>fun q C=>(E 11 (.inl rfl)).trans (h q ((E 9 (.inr dc)).symm.trans C)),dA,dA,dT,dT,dA,dA,trivial⟩)
 intro gq vals w702 eE bY hA703
 have bj:gq∈[0,2]:=eE
 simp only[yt]at bj
 rcases bj with rfl|rfl
 have eF:Sep _ _ _ _:=bY
 exact obl rfl (zh (k:=2) qT rT rfl rfl (CellsAt.all (eF.b5)) dR)
 obtain⟨y,K,eG⟩:=bY
 exact obl rfl (zh (k:=2) qT rT rfl rfl (CellsAt.all (eG.b6)) dR)
 intro gr vals w739 eH bZ ac
 have bk:gr∈[0,2]:=eH
 simp only[yt]at bk
 rcases bk with rfl|rfl
 have hS743:Sep _ _ _ _:=bZ
 refine obl rfl ?_
 have eI:k<cm.length:=bo
 exact zj (k:=7) (i:=k) vT pT (ac 5 dc) (RdS.base (RdS.base hcm F) D).sl (ac 6 dc) eI dR
 obtain⟨y,K,hS747⟩:=bZ
 refine obl rfl ?_
 have eJ:k<cm.length:=bo
 exact zj (k:=7) (i:=k) vT pT (ac 5 dc) (RdS.base (RdS.base hcm F) D).sl (ac 6 dc) eJ dR
 intro gs vals w752 eK ca cb
 have bl:gs∈[0,2]:=eK
 simp only[yt]at bl
 rcases bl with rfl|rfl
 have eL:Sep _ _ _ _:=ca
 refine obl rfl ?_
 have aA:k<cm.length:=bo
 obtain⟨bm,cu⟩:=(RdS.base (RdS.base hcm F) D).cmd aA
 rw[←zB default aA]at bm cu
 have cQ:=eL.cells bm ((RdS.base (RdS.base hcm F) D).foot (ne_of_lt aA))
 exact zh (k:=7) sT pT rfl (cb 7 dc) cQ dR
 obtain⟨y,K,eM⟩:=ca
 refine obl rfl ?_
 have aB:k<cm.length:=bo
 obtain⟨bn,cv⟩:=(RdS.base (RdS.base hcm F) D).cmd aB
 rw[←zB default aB]at bn cv
 have cR:=eM.cells bn ((RdS.base (RdS.base hcm F) D).foot (ne_of_lt aB))
 exact zh (k:=7) sT pT rfl (cb 7 dc) cR dR
 intro gt vals w767 eN cc P
 have bp:gt∈[0,2]:=eN
 simp only[yt]at bp
 rcases bp with rfl|rfl
 have cd:Sep _ _ _ _:=cc
 refine obl rfl ?_
 have aC:k<cm.length:=bo
 obtain⟨bq,aj⟩:=(RdS.base (RdS.base hcm F) D).cmd aC
 rw[←zB default aC]at bq aj
 have hcw780:=cd.cells bq ((RdS.base (RdS.base hcm F) D).foot (ne_of_lt aC))
 refine(zH (f:=12) (vals:=[.agg (d.cells dd0 dd1).toArray,Ix M 0,Ix N 0,Iw m,Iv start,.agg ((cm.getD k default).cells).toArray]) (cap:=[]) rfl (yE ⟨(P 0 dc),(P 1 dc),(P 2 dc),(P 3 dc),(P 4 dc),(P 8 dc),trivial⟩) pY (KW (d:=d) (sq:=M) (n:=(1+j)) (L:=g) (vb:=N) (V:=(zD d g)) (o:=((m:Nat):Int)) (start:=start) (c:=(cm.getD k default)) (RdS.base (RdS.base hdd0 F) D) (RdS.base (RdS.base hdd1 F) D) od (HP.base ay D) az om om aj cd (aa.1) (⟨_,rfl⟩) (om) (U) (om) (om)) ?_)
 rintro _ w782 ⟨q,rfl,ce⟩
 have eO:=ce.r0
 have hr784s:_*8≤_:=eO.2
 exact fun A E B=>⟨(exiA q (zx E ce)),trivial⟩
 obtain⟨y,K,cf⟩:=cc
 refine obl rfl ?_
 have aD:k<cm.length:=bo
 obtain⟨br,ak⟩:=(RdS.base (RdS.base hcm F) D).cmd aD
 rw[←zB default aD]at br ak
 have hcw794:=cf.cells br ((RdS.base (RdS.base hcm F) D).foot (ne_of_lt aD))
 refine(zH (f:=12) (vals:=[.agg (d.cells dd0 dd1).toArray,Ix M 0,Ix N 0,Iw m,Iv start,.agg ((cm.getD k default).cells).toArray]) (cap:=[]) rfl (yE ⟨(P 0 dc),(P 1 dc),(P 2 dc),(P 3 dc),(P 4 dc),(P 8 dc),trivial⟩) pY (KW (d:=d) (sq:=M) (n:=(1+j)) (L:=g) (vb:=N) (V:=(zD d g)) (o:=((m:Nat):Int)) (start:=start) (c:=(cm.getD k default)) (RdS.base (RdS.base hdd0 F) D) (RdS.base (RdS.base hdd1 F) D) od (HP.base ay D) az om om ak cf (aa.1) (⟨_,rfl⟩) (om) (U) (om) (om)) ?_)
 rintro _ w796 ⟨q,rfl,cg⟩
 have eP:=cg.r0
 have hr798s:_*8≤_:=eP.2
 exact fun A E B=>⟨(exiA q (exiA y (zx E (zx ((B 14 dc).trans K) (cg.mv1))))),trivial⟩
 intro gu vals w801 eQ ch hA802
 have bs:gu∈[1,3]:=eQ
 simp only[yt]at bs
 rcases bs with rfl|rfl
 obtain⟨q,t,hS805⟩:=ch
 refine obl rfl (yi (v:=.tuple #[.agg ((exR d (1+j) g (zD d g) ((m:Nat):Int) start (cm.getD k default)).1.cells q).toArray,.bool ((exR d (1+j) g (zD d g) ((m:Nat):Int) start (cm.getD k default)).2.1),Iv ((exR d (1+j) g (zD d g) ((m:Nat):Int) start (cm.getD k default)).2.2)]) t (fun A E B=>⟨rfl,?_⟩))
 intro ag C
 rw[B 9 (by decide)]at C;cases t.symm.trans C
 exact E
 obtain⟨q,y,t,K,hS806⟩:=ch
 refine obl rfl (yi (v:=.tuple #[.agg ((exR d (1+j) g (zD d g) ((m:Nat):Int) start (cm.getD k default)).1.cells q).toArray,.bool ((exR d (1+j) g (zD d g) ((m:Nat):Int) start (cm.getD k default)).2.1),Iv ((exR d (1+j) g (zD d g) ((m:Nat):Int) start (cm.getD k default)).2.2)]) t (fun A E B=>⟨rfl,?_⟩))
 intro ag C
 rw[B 9 (by decide)]at C;cases t.symm.trans C
 exact E
 intro gv vals w808 eR ci cj
 have bt:gv∈[1,3]:=eR
 simp only[yt]at bt
 rcases bt with rfl|rfl
 obtain⟨q,t,hS812⟩:=ci
 let gS:=((exR d (1+j) g (zD d g) ((m:Nat):Int) start (cm.getD k default)).1.cells q)
 have gw:vals 10=(.tuple #[.agg gS.toArray,.bool ((exR d (1+j) g (zD d g) ((m:Nat):Int) start (cm.getD k default)).2.1),Iv ((exR d (1+j) g (zD d g) ((m:Nat):Int) start (cm.getD k default)).2.2)]:Value):=cj 10 dc q t
 refine obl rfl (zm (vs:=[.agg gS.toArray,.bool ((exR d (1+j) g (zD d g) ((m:Nat):Int) start (cm.getD k default)).2.1),Iv ((exR d (1+j) g (zD d g) ((m:Nat):Int) start (cm.getD k default)).2.2)]) (i:=0) (v:=.agg gS.toArray) gw rfl (fun A E B=>⟨rfl,?_⟩))
 intro ag C
 rw[B 9 (by decide)]at C;cases t.symm.trans C
 exact E
 obtain⟨q,y,t,K,hS814⟩:=ci
 let gT:=((exR d (1+j) g (zD d g) ((m:Nat):Int) start (cm.getD k default)).1.cells q)
 have gx:vals 10=(.tuple #[.agg gT.toArray,.bool ((exR d (1+j) g (zD d g) ((m:Nat):Int) start (cm.getD k default)).2.1),Iv ((exR d (1+j) g (zD d g) ((m:Nat):Int) start (cm.getD k default)).2.2)]:Value):=cj 10 dc q t
 refine obl rfl (zm (vs:=[.agg gT.toArray,.bool ((exR d (1+j) g (zD d g) ((m:Nat):Int) start (cm.getD k default)).2.1),Iv ((exR d (1+j) g (zD d g) ((m:Nat):Int) start (cm.getD k default)).2.2)]) (i:=0) (v:=.agg gT.toArray) gx rfl (fun A E B=>⟨rfl,?_⟩))
 intro ag C
 rw[B 9 (by decide)]at C;cases t.symm.trans C
 exact E
 intro gy vals w817 eS aE aF
 have bu:gy∈[1,3,7]:=eS
 simp only[yt]at bu
 rcases bu with rfl|rfl|rfl
 obtain⟨q,t,hS821⟩:=aE
 let hb:=((exR d (1+j) g (zD d g) ((m:Nat):Int) start (cm.getD k default)).1.cells q)
 have gz:vals 10=(.tuple #[.agg hb.toArray,.bool ((exR d (1+j) g (zD d g) ((m:Nat):Int) start (cm.getD k default)).2.1),Iv ((exR d (1+j) g (zD d g) ((m:Nat):Int) start (cm.getD k default)).2.2)]:Value):=aF 10 dc q t
 exact obl rfl (zm (vs:=[.agg hb.toArray,.bool ((exR d (1+j) g (zD d g) ((m:Nat):Int) start (cm.getD k default)).2.1),Iv ((exR d (1+j) g (zD d g) ((m:Nat):Int) start (cm.getD k default)).2.2)]) (i:=1) (v:=.bool ((exR d (1+j) g (zD d g) ((m:Nat):Int) start (cm.getD k default)).2.1)) gz rfl dR)
 obtain⟨q,y,t,K,hS823⟩:=aE
 let hc:=((exR d (1+j) g (zD d g) ((m:Nat):Int) start (cm.getD k default)).1.cells q)
 have gA:vals 10=(.tuple #[.agg hc.toArray,.bool ((exR d (1+j) g (zD d g) ((m:Nat):Int) start (cm.getD k default)).2.1),Iv ((exR d (1+j) g (zD d g) ((m:Nat):Int) start (cm.getD k default)).2.2)]:Value):=aF 10 dc q t
 exact obl rfl (zm (vs:=[.agg hc.toArray,.bool ((exR d (1+j) g (zD d g) ((m:Nat):Int) start (cm.getD k default)).2.1),Iv ((exR d (1+j) g (zD d g) ((m:Nat):Int) start (cm.getD k default)).2.2)]) (i:=1) (v:=.bool ((exR d (1+j) g (zD d g) ((m:Nat):Int) start (cm.getD k default)).2.1)) gA rfl dR)
 obtain⟨q,y,t,K,hS825⟩:=aE
 let hd:=((exR d (1+j) g (zD d g) ((m:Nat):Int) start (cm.getD k default)).1.cells q)
 have gB:vals 10=(.tuple #[.agg hd.toArray,.bool ((exR d (1+j) g (zD d g) ((m:Nat):Int) start (cm.getD k default)).2.1),Iv ((exR d (1+j) g (zD d g) ((m:Nat):Int) start (cm.getD k default)).2.2)]:Value):=aF 10 dc q t
 exact obl rfl (zm (vs:=[.agg hd.toArray,.bool ((exR d (1+j) g (zD d g) ((m:Nat):Int) start (cm.getD k default)).2.1),Iv ((exR d (1+j) g (zD d g) ((m:Nat):Int) start (cm.getD k default)).2.2)]) (i:=1) (v:=.bool ((exR d (1+j) g (zD d g) ((m:Nat):Int) start (cm.getD k default)).2.1)) gB rfl dR)
 intro gC vals w828 eT aG aH
 have bv:gC∈[1,3,7]:=eT
 simp only[yt]at bv
 rcases bv with rfl|rfl|rfl
 obtain⟨q,t,hS832⟩:=aG
 let he:=((exR d (1+j) g (zD d g) ((m:Nat):Int) start (cm.getD k default)).1.cells q)
 have gD:vals 10=(.tuple #[.agg he.toArray,.bool ((exR d (1+j) g (zD d g) ((m:Nat):Int) start (cm.getD k default)).2.1),Iv ((exR d (1+j) g (zD d g) ((m:Nat):Int) start (cm.getD k default)).2.2)]:Value):=aH 10 dc q t
 exact obl rfl (zm (vs:=[.agg he.toArray,.bool ((exR d (1+j) g (zD d g) ((m:Nat):Int) start (cm.getD k default)).2.1),Iv ((exR d (1+j) g (zD d g) ((m:Nat):Int) start (cm.getD k default)).2.2)]) (i:=2) (v:=Iv ((exR d (1+j) g (zD d g) ((m:Nat):Int) start (cm.getD k default)).2.2)) gD rfl dR)
 obtain⟨q,y,t,K,hS834⟩:=aG
 let hf:=((exR d (1+j) g (zD d g) ((m:Nat):Int) start (cm.getD k default)).1.cells q)
 have gE:vals 10=(.tuple #[.agg hf.toArray,.bool ((exR d (1+j) g (zD d g) ((m:Nat):Int) start (cm.getD k default)).2.1),Iv ((exR d (1+j) g (zD d g) ((m:Nat):Int) start (cm.getD k default)).2.2)]:Value):=aH 10 dc q t
 exact obl rfl (zm (vs:=[.agg hf.toArray,.bool ((exR d (1+j) g (zD d g) ((m:Nat):Int) start (cm.getD k default)).2.1),Iv ((exR d (1+j) g (zD d g) ((m:Nat):Int) start (cm.getD k default)).2.2)]) (i:=2) (v:=Iv ((exR d (1+j) g (zD d g) ((m:Nat):Int) start (cm.getD k default)).2.2)) gE rfl dR)
 obtain⟨q,y,t,K,hS836⟩:=aG
 let hg:=((exR d (1+j) g (zD d g) ((m:Nat):Int) start (cm.getD k default)).1.cells q)
 have gF:vals 10=(.tuple #[.agg hg.toArray,.bool ((exR d (1+j) g (zD d g) ((m:Nat):Int) start (cm.getD k default)).2.1),Iv ((exR d (1+j) g (zD d g) ((m:Nat):Int) start (cm.getD k default)).2.2)]:Value):=aH 10 dc q t
 exact obl rfl (zm (vs:=[.agg hg.toArray,.bool ((exR d (1+j) g (zD d g) ((m:Nat):Int) start (cm.getD k default)).2.1),Iv ((exR d (1+j) g (zD d g) ((m:Nat):Int) start (cm.getD k default)).2.2)]) (i:=2) (v:=Iv ((exR d (1+j) g (zD d g) ((m:Nat):Int) start (cm.getD k default)).2.2)) gF rfl dR)
 intro gG vals w839 eU ck hA840
 have bw:gG∈[0,1]:=eU
 simp only[yt]at bw
 rcases bw with rfl|rfl
 have eV:Sep _ _ _ _:=ck
 refine obl rfl ((zq oT ?_))
 intro w846 y eW
 exact fun A E B=>⟨(exiA y (zx E (eV.new eW))),trivial⟩
 obtain⟨q,t,eX⟩:=ck
 refine obl rfl ((zq oT ?_))
 intro w851 y eY
 exact fun A E B=>⟨(exiA q (exiA y (zx ((B 9 dc).trans t) (zx E (eX.new eY))))),trivial⟩
 intro gH vals w854 eZ fa fb
 have bx:gH∈[3]:=eZ
 simp only[yt]at bx
 subst bx
 obtain⟨q,y,t,K,aI⟩:=fa
 let gU:=((exR d (1+j) g (zD d g) ((m:Nat):Int) start (cm.getD k default)).1.cells q)
 refine obl rfl ?_
 have gI:vals 11=(.agg gU.toArray:Value):=fb 11 dc q t
 have cl:=aI.r1
 have hr862s:_*8≤_:=cl.2
 refine(zp (v:=.agg gU.toArray) (c':=gU.toArray) kT K gI (aI.b0) (zX ⟨rfl,rfl,rfl,cl.1.one,rfl,rfl,rfl,rfl,rfl,rfl,trivial⟩) yqc rfl ?_)
 intro w860 fc
 exact fun A E B=>⟨(exiA q (exiA y (zx ((B 9 dc).trans t) (zx ((B 14 dc).trans K) (aI.pt0 fc))))),trivial⟩
 intro vals w876 fd cn
 obtain⟨q,y,t,K,aJ⟩:=fd
 have gJ:=cn 16 dc
 have gK:=cn 17 dc
 refine zT (kv:=[(3,Iw m),(4,Iv start),(5,vcm),(6,Ix b2 0),(13,Ix H 0),(14,Ix I 0),(15,Ix M 0),(16,Ix N 0),(17,Iw k),(57,Iw k),(58,vcm),(59,Iw cm.length),(60,.bool (decide (((k:Nat):Int)<((cm.length:Nat):Int)))),(61,.bool (decide (((k:Nat):Int)<((cm.length:Nat):Int)))),(64,.bool true),(18,Ix u 0),(19,.bool ((exR d (1+j) g (zD d g) ((m:Nat):Int) start (cm.getD k default)).2.1)),(20,Iv ((exR d (1+j) g (zD d g) ((m:Nat):Int) start (cm.getD k default)).2.2)),(21,Ix y 0),(22,.bool ((exR d (1+j) g (zD d g) ((m:Nat):Int) start (cm.getD k default)).2.1)),(23,Iv ((exR d (1+j) g (zD d g) ((m:Nat):Int) start (cm.getD k default)).2.2))]) ⟨rfl,rfl,rfl,rfl,rfl,rfl,rfl,rfl,rfl,rfl,rfl,rfl,rfl,rfl,rfl,rfl,rfl,rfl,(by exact K),(by exact gJ),(by exact gK),trivial⟩ (fun ρw876=>?_)
 refine zb (za (za (zA kr (st (mV (.bool ((exR d (1+j) g (zD d g) ((m:Nat):Int) start (cm.getD k default)).2.1)) (st (mV (.bool ((exR d (1+j) g (zD d g) ((m:Nat):Int) start (cm.getD k default)).2.1)) (st (KN (a:=(exR d (1+j) g (zD d g) ((m:Nat):Int) start (cm.getD k default)).2.1) (b:=(exR d (1+j) g (zD d g) ((m:Nat):Int) start (cm.getD k default)).2.1) Tryz.underlying4 rfl rfl ?_)))))))))
 have cS:(!(((exR d (1+j) g (zD d g) ((m:Nat):Int) start (cm.getD k default)).2.1)== ((exR d (1+j) g (zD d g) ((m:Nat):Int) start (cm.getD k default)).2.1)))=false:=(by simp)
 rw[cS]
 refine st (mV (.bool false) (sty rfl rfl (mV (Iv ((exR d (1+j) g (zD d g) ((m:Nat):Int) start (cm.getD k default)).2.2)) (sty rfl rfl (mV (Iv ((exR d (1+j) g (zD d g) ((m:Nat):Int) start (cm.getD k default)).2.2)) (sty rfl rfl (yn (k:=.i64) (a:=(exR d (1+j) g (zD d g) ((m:Nat):Int) start (cm.getD k default)).2.2) (b:=(exR d (1+j) g (zD d g) ((m:Nat):Int) start (cm.getD k default)).2.2) rfl rfl ?_)))))))
 have cT:(!decide (((exR d (1+j) g (zD d g) ((m:Nat):Int) start (cm.getD k default)).2.2)=((exR d (1+j) g (zD d g) ((m:Nat):Int) start (cm.getD k default)).2.2)))=false:=(by simp)
 rw[cT]
 refine st (yw (v:=.bool false) rfl rfl (st (mV (.bool false) (sty rfl rfl (zh (k:=10) lT kT rfl rfl (CellsAt.all (aJ.b2)) (sty rfl rfl (zh (k:=10) lT kT rfl rfl (CellsAt.all (aJ.b0)) ?_)))))))
 obtain⟨G885,fe,co,ff,fg⟩:=(aJ.mv5).lend
 have cp:=DepO.rd fe
 have hsm892:((exR d (1+j) g (zD d g) ((m:Nat):Int) start (cm.getD k default)).1.deps).length*8≤140737488355328:=cp.small
 obtain⟨G894,fh,aK,cq,fi⟩:=(ff.mv1).lend
 have bz:=RowE.rd fh
 have hrd900s:_*8≤_:=bz.small
 have aL:k<cm.length:=bo
 obtain⟨bA,Z⟩:=(RdS.base (RdS.base (RdS.base (RdS.base hcm F) D) co) aK).cmd aL
 rw[←zB default aL]at bA Z
 have hcw903:=cq.cells bA ((RdS.base (RdS.base (RdS.base (RdS.base hcm F) D) co) aK).foot (ne_of_lt aL))
 refine sty rfl rfl (cL wR (Zx (a:=(exR d (1+j) g (zD d g) ((m:Nat):Int) start (cm.getD k default)).1) (b:=(exR d (1+j) g (zD d g) ((m:Nat):Int) start (cm.getD k default)).1) (RdS.base cp aK) (Ki Z om hstart bC om) bz (Ki Z om hstart bC om) cq) ?_)
 rintro _ w904 ⟨rfl,fj⟩
 have fk:=fi _ _ fj
 have fl:=fg _ _ fk
 have cU:(decide (((exR d (1+j) g (zD d g) ((m:Nat):Int) start (cm.getD k default)).1)=((exR d (1+j) g (zD d g) ((m:Nat):Int) start (cm.getD k default)).1)))=true:=(decide_eq_true rfl)
 rw[cU]
 refine sty rfl rfl (yB (a:=true) rfl (st (yw (v:=.bool false) rfl rfl (zb (ze rfl (zl ?_))))))
 have fm:=ey _ _ fl
 have fn:=eu _ _ fm
 obtain⟨f912,fo,cr⟩:=(fn.mv2).depoML
 refine R0 fun _=>st (yQ rfl (st (lD p Tryz.isAgg42 rfl (zd (cr.b5) rfl) (st (cL Tryz.call14 (Uw fo cr) ?_)))))
 rintro _ w915 ⟨rfl,fp⟩
 refine zb (R0 fun _=>st (mV (Iw k) ?_))
 have fq:InR ((k+1:Nat):Int):=bo
 refine st (zP (r:=((k+1:Nat):Int)) (k:=.i64) (a:=((k:Nat):Int)) (b:=1) rfl rfl (by rw[show(((k:Nat):Int)+1:Int)=((k+1:Nat):Int)from bo];exact zF fq) (st (aS (Iw (k+1)) (zb ?_))))
 exact⟨_,by omega,k+1,_,rfl,sSf,by omega,(fp.s10_ibcghj)⟩
 try simp only[zf]at bD
 refine zg rfl (za (R0 fun _=>st (cL mY (VO hKN ft) ?_)))
 rintro _ w919 ⟨rfl,fr⟩
 refine st (aS (.bool true) (zb (zk (zG nY (show _=(.bool true:Value)from rfl) ?_))))
 refine⟨rfl,(fr.s1_)⟩
theorem WB {w:World}{d:Dcl}{dd0 dd1:Value}(h0:RdS w (xA w) dd0 d.types)(h1:RdS w (xA w) dd1 d.projs)(od:d.Ok){n0:Int}(hn0:InR n0){vl:Value}{l:List Ev}(hl:RdS w (xA w) vl l){n1:Int}(hn1:InR n1){n2:Int}(hn2:InR n2){vc:Value}{cm:List Cmd}(hcm:RdS w (xA w) vc cm)(hK:RdS w (xA w) (.slice (some ⟨0,0,none⟩) 6 6) kindsL):Ret Tryz.prog 3 [.agg (d.cells dd0 dd1).toArray,.int .i64 n0,vl,.int .i64 n1,.int .i64 n2,vc] w (fun r w'=>r=.bool true∧Ext w w'):=
 Ret.mono (WA h0 h1 od hn0 hl hn1 hn2 hcm hK (Sep.start w)) (fun r w' h=>⟨h.1,h.2.fin⟩)
end
end Go.Proofs.YtbcdijeggfoabaaGreatDoor
