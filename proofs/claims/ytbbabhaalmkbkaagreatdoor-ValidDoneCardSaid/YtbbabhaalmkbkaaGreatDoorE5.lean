import Derived.Test.YtbbabhaalmkbkaaGreatDoorE4
import Derived.Test.YtbbabhaalmkbkaaGreatDoorE2
import Derived.Test.YtbbabhaalmkbkaaGreatDoorE1
import Derived.Lib.LaidTab
import Derived.LaidMore
import Derived.LaidLaws
import Derived.Stop.Joined
import Derived.Test.YtbbabhaalmkbkaaGreatDoorRows
import Derived.OpenShut
import Derived.MakeChecks
set_option linter.unusedSimpArgs false
set_option linter.unusedVariables false
set_option linter.unusedSectionVars false
set_option linter.deprecated false
open Go.Proofs.Tryz renaming isAgg3→kT,sizeOf110→lT,underlying41→mT,underlying22→nT,underlying28→oT,isAgg22→pT,sizeOf53→qT,results22→rT,underlying51→sT,isAgg110→tT,underlying39→uT,results51→vT,underlying115→wT,isAgg51→kR,underlying136→lR,underlying110→mR,zeroValue110→nR,underlying108→oR,call73→pR,underlying25→qR,isAgg25→rR,sizeOf25→sR,underlying23→tR,sizeOf115→uR,results8→vR,results42→wR,sizeOf3→kY,results72→lY,underlying3→mY,isAgg23→nY,isAgg53→oY,results88→pY,isAgg108→qY,underlying139→rY,underlying53→sY,underlying26→tY
namespace Go.Proofs.YtbbabhaalmkbkaaGreatDoor
section
set_option maxRecDepth 8000
open Go.Proofs Go.RowKit
theorem zae {G:Nat→Prop}{W w:World}{Rs:List HP}{d:Dcl}{dd0:Value}(hdd0:RdS W G dd0 d.types){dd1:Value}(hdd1:RdS W G dd1 d.projs)(od:d.Ok)(hS0:Sep G W Rs w):Ret Tryz.prog 22 [.agg (d.cells dd0 dd1).toArray] w (fun r w'=> ∃(e:Int),r=(.int .i64 (e):Value)∧(InR e)∧(e=0→DclOk d∧KA d)∧Sep G W Rs w'):=by
 have hdd0s:_*24≤_:=hdd0.small
 have hdd1s:_*40≤_:=hdd1.small
 refine zi (args:=[.agg (d.cells dd0 dd1).toArray]) Tryz.func22 rfl rfl ?_
 refine za (R0 fun _=>st (zN (v:=.agg (d.cells dd0 dd1).toArray) rfl ?_))
 intro w3 b2 df
 let dj:=Blk b2 (d.cells dd0 dd1).toArray 25
 have cQ:=hS0.new df
 refine st (aS (Iv 0) (zd (za (za (R0 fun _=>st (zf (k:=2) rR sR rfl rfl (CellsAt.all (cQ.b0)) (st (cL Tryz.call46 (zbG (d:=d) hdd0 hdd1 od cQ) ?_))))))))
 rintro _ w7 ⟨b5,rfl,dg,cR⟩
 refine zd ?_
 cases dh:b5
 have hfew:=dg dh
 refine zg rfl (zl (za (za (R0 fun _=>st (aS (Iv 0) (zd (zx (yq (fun mq σ S=> ∃(k:Nat) (ρ:Env),mq=d.types.length-k∧σ=yi ρ [(1,Ix b2 0),(3,Iw k)]∧(k≤d.types.length)∧(∀i,i<k→ ∀j,j<(d.types.getD i default).fields.length→VM (d.types.getD i default) ((d.types.getD i default).fields.getD j default))∧Sep G W ((Blk b2 (d.cells dd0 dd1).toArray 25)::Rs) S) ⟨0,_,rfl,sSf,Nat.zero_le _,(fun i h=>absurd h (Nat.not_lt_zero i)),cR⟩ ?_))))))))
 rintro m11 σ12 w10 ⟨k,ρl1,rfl,rfl,hkk,hm,aw⟩
 let aj:=zI W (sb dd0) (so dd0+k*1+0)
 refine za (za (R0 fun _=>st (mV (Iw k) (st (yG rfl (st (lD dd0 pT rfl (zb (aw.b0) rfl) (st (zR (n:=d.types.length) nT rfl hdd0.sl (st (zJ (k:=.i64) (a:=((k:Nat):Int)) (b:=((d.types.length:Nat):Int)) rfl rfl (zd ?_))))))))))))
 cases ak:decide (((k:Nat):Int)<((d.types.length:Nat):Int))
 have ak:=fD ak
 refine zg rfl (yr (yg (za (za (R0 fun _=>st (aS (Iv 0) (zd (zx (yq (fun mq σ S=> ∃(z:Nat) (ρ:Env),mq=d.projs.length-z∧σ=yi ρ [(1,Ix b2 0),(6,Iw z)]∧(z≤d.projs.length)∧(∀i,i<z→Qe (d.projs.getD i default))∧Sep G W ((Blk b2 (d.cells dd0 dd1).toArray 25)::Rs) S) ⟨0,_,rfl,sSf,Nat.zero_le _,(fun i h=>absurd h (Nat.not_lt_zero i)),aw⟩ ?_)))))))))
 rintro m16 σ17 w15 ⟨z,ρl2,rfl,rfl,hkz,hpz,ad⟩
 let di:=(d.projs.getD z default).cells
 refine za (za (R0 fun _=>st (mV (Iw z) (st (Xm rfl (st (lD dd1 nY rfl (zb (ad.b0) rfl) (st (zR (n:=d.projs.length) tR rfl hdd1.sl (st (zJ (k:=.i64) (a:=((z:Nat):Int)) (b:=((d.projs.length:Nat):Int)) rfl rfl (zd ?_))))))))))))
 cases al:decide (((z:Nat):Int)<((d.projs.length:Nat):Int))
 have al:=fD al
 refine zg rfl (yr (yg (za (R0 fun _=>st (aS (Iv 0) (zd (zj (zK rT (show _=(Iv 0:Value)from rfl) ?_))))))))
 refine⟨0,rfl,?_,?_,(ad.s1_)⟩
 first|decide|assumption
 intro h9
 exact⟨zbF hfew.1 (fun i hi=>hm i om),hfew.2,fun i hi=>hpz i om⟩
 have al:=tD al
 refine zh rfl (zl (za (zx (za (R0 fun _=>st (Xm rfl (st (lD dd1 nY rfl (zb (ad.b0) rfl) (st (mV (Iw z) ?_))))))))))
 have cT:z<d.projs.length:=bo
 refine st (zm (k:=5) (i:=z) tR uR rfl hdd1.sl rfl cT ?_)
 have bh:z<d.projs.length:=bo
 obtain⟨bx,ae⟩:=hdd1.prjD bh
 have bz:=ad.cells bx (hdd1.foot (ne_of_lt bh))
 refine st (zf (k:=5) Tryz.isAgg115 uR rfl rfl bz (st (zt Tryz.zeroValue115 ?_)))
 intro w27 u cU
 have bi:=ad.new cU
 refine stn (zq (v:=.agg di.toArray) (c':=di.toArray) uR rfl rfl (bi.b0) (ye ⟨rfl,rfl,rfl,rfl,rfl,trivial⟩) yqc rfl ?_)
 intro w29 cV
 have am:=bi.pt0 cV
 refine zd (za (R0 fun _=>st (zf (k:=2) rR sR rfl rfl (CellsAt.all (am.b1)) (st (Qj rfl (st (lD (Iv ((d.projs.getD z default).ptyp)) kT rfl (zb (am.b0) rfl) (st (zaq rfl (st (lD (Iv ((d.projs.getD z default).pfield)) kT rfl (zb (am.b0) rfl) (st (cL Tryz.call48 (zaC (d:=d) (ty:=(d.projs.getD z default).ptyp) (fi:=(d.projs.getD z default).pfield) hdd0 hdd1 od ae.ptyp ae.pfield am) ?_)))))))))))))
 rintro _ w39 ⟨o,p,q,s,x,rfl,hdx37,bj,cW⟩
 refine st (mV (.tuple #[.agg #[Iv o,Iv p,.bool q,s],.bool x]) (st (zk (vs:=[.agg #[Iv o,Iv p,.bool q,s],.bool x]) (i:=0) (v:=.agg #[Iv o,Iv p,.bool q,s]) rfl rfl (st (zk (vs:=[.agg #[Iv o,Iv p,.bool q,s],.bool x]) (i:=1) (v:=.bool x) rfl rfl (st (zt nR ?_)))))))
 intro w43 bk cX
 have bl:=cW.new cX
 refine stn (zq (v:=.agg #[Iv o,Iv p,.bool q,s]) (c':=#[Iv o,Iv p,.bool q,s]) lT rfl rfl (bl.b0) (ye ⟨rfl,rfl,rfl,(by assumption),trivial⟩) yqc rfl ?_)
 intro w45 cY
 have bm:=bl.pt0 cY
 refine st (aS (.bool x) (zd (za (za (R0 fun _=>st (mV (.bool x) (st (yF (a:=x) rfl (zd ?_)))))))))
 cases ax: !x
 try simp only[ze]at ax
 have hpt:=bj (by have h9:=ax;simpa using h9)
 refine zg rfl (zl (za (za ?_)))
 refine WD4 ((fun TT av=>WF [fun vals S=>Sep G W (av::TT) S,fun vals S=>(vals 12=(if(decide (((d.projs.getD z default).pgroup)=3))=true then(Iv ((yH (d.types.getD (((d.projs.getD z default).ptyp).toNat) default) ((d.projs.getD z default).pby))):Value)else undef))∧Sep G W (av::TT) S]) ((Blk u di.toArray 115)::dj::Rs) (Blk bk #[Iv o,Iv p,.bool q,s] 110)) (AF [Vl 0 (Ix u 2),Vl 1 (Iv ((d.projs.getD z default).pgroup)),Vl 2 (.bool (decide (((d.projs.getD z default).pgroup)=3))),Vl 3 (.bool (decide (((d.projs.getD z default).pgroup)=3))),Vl 4 (if(decide (((d.projs.getD z default).pgroup)=3))=true then Ix b2 0 else undef),Vl 5 (if(decide (((d.projs.getD z default).pgroup)=3))=true then dd0 else undef),Vl 6 (if(decide (((d.projs.getD z default).pgroup)=3))=true then Ix u 0 else undef),Vl 7 (if(decide (((d.projs.getD z default).pgroup)=3))=true then Iv ((d.projs.getD z default).ptyp)else undef),Vl 8 (if(decide (((d.projs.getD z default).pgroup)=3))=true then Ix (sb dd0) (so dd0+(((d.projs.getD z default).ptyp).toNat)*1)else undef),Vl 9 (if(decide (((d.projs.getD z default).pgroup)=3))=true then .agg ((d.types.getD (((d.projs.getD z default).ptyp).toNat) default).cells (zI W (sb dd0) (so dd0+(((d.projs.getD z default).ptyp).toNat)*1+0))).toArray else undef),Vl 10 (if(decide (((d.projs.getD z default).pgroup)=3))=true then Ix u 3 else undef),Vl 11 (if(decide (((d.projs.getD z default).pgroup)=3))=true then Iv ((d.projs.getD z default).pby)else undef),fun _=>True,Vl 13 (if(decide (((d.projs.getD z default).pgroup)=3))=true then .bool (!decide ((yH (d.types.getD (((d.projs.getD z default).ptyp).toNat) default) ((d.projs.getD z default).pby))=2))else undef),Vl 14 (.bool ((decide (((d.projs.getD z default).pgroup)=3))&&(!decide ((yH (d.types.getD (((d.projs.getD z default).ptyp).toNat) default) ((d.projs.getD z default).pby))=2)))),Vl 15 (.bool ((decide (((d.projs.getD z default).pgroup)=3))&&(!decide ((yH (d.types.getD (((d.projs.getD z default).ptyp).toNat) default) ((d.projs.getD z default).pby))=2)))),Vl 16 (if((decide (((d.projs.getD z default).pgroup)=3))&&(!decide ((yH (d.types.getD (((d.projs.getD z default).ptyp).toNat) default) ((d.projs.getD z default).pby))=2)))=false then Ix u 2 else undef),Vl 17 (if((decide (((d.projs.getD z default).pgroup)=3))&&(!decide ((yH (d.types.getD (((d.projs.getD z default).ptyp).toNat) default) ((d.projs.getD z default).pby))=2)))=false then Iv ((d.projs.getD z default).pgroup)else undef),Vl 18 (if((decide (((d.projs.getD z default).pgroup)=3))&&(!decide ((yH (d.types.getD (((d.projs.getD z default).ptyp).toNat) default) ((d.projs.getD z default).pby))=2)))=false then .bool (!decide (((d.projs.getD z default).pgroup)=3))else undef),Vl 19 (if((decide (((d.projs.getD z default).pgroup)=3))&&(!decide ((yH (d.types.getD (((d.projs.getD z default).ptyp).toNat) default) ((d.projs.getD z default).pby))=2)))=false then .bool (!decide (((d.projs.getD z default).pgroup)=3))else undef),Vl 20 (if(((decide (((d.projs.getD z default).pgroup)=3))&&(!decide ((yH (d.types.getD (((d.projs.getD z default).ptyp).toNat) default) ((d.projs.getD z default).pby))=2)))=false)∧(!decide (((d.projs.getD z default).pgroup)=3))=true then Ix u 3 else undef),Vl 21 (if(((decide (((d.projs.getD z default).pgroup)=3))&&(!decide ((yH (d.types.getD (((d.projs.getD z default).ptyp).toNat) default) ((d.projs.getD z default).pby))=2)))=false)∧(!decide (((d.projs.getD z default).pgroup)=3))=true then Iv ((d.projs.getD z default).pby)else undef),Vl 22 (if(((decide (((d.projs.getD z default).pgroup)=3))&&(!decide ((yH (d.types.getD (((d.projs.getD z default).ptyp).toNat) default) ((d.projs.getD z default).pby))=2)))=false)∧(!decide (((d.projs.getD z default).pgroup)=3))=true then .bool (!decide (((d.projs.getD z default).pby)=0))else undef),Vl 23 (if((decide (((d.projs.getD z default).pgroup)=3))&&(!decide ((yH (d.types.getD (((d.projs.getD z default).ptyp).toNat) default) ((d.projs.getD z default).pby))=2)))=false then .bool ((!decide (((d.projs.getD z default).pgroup)=3))&&(!decide (((d.projs.getD z default).pby)=0)))else undef),Vl 24 (.bool (((decide (((d.projs.getD z default).pgroup)=3))&&(!decide ((yH (d.types.getD (((d.projs.getD z default).ptyp).toNat) default) ((d.projs.getD z default).pby))=2)))||((!decide (((d.projs.getD z default).pgroup)=3))&&(!decide (((d.projs.getD z default).pby)=0)))))]) [[],[0],[0,1],[0,1,2],(rg 4),(rg 5),(rg 4),[0,1,2,3,6],(rg 8),(rg 9),(rg 4),[0,1,2,3,10],(rg 12),(rg 13),(rg 14),(rg 15),(rg 16),(rg 17),(rg 18),(rg 19),(rg 20),(rg 21),(rg 22),(rg 23),(rg 24)] [12] [(0,0),(0,0),(0,0),(0,0),(0,0),(0,0),(0,0),(0,0),(0,0),(0,0),(0,0),(0,0),(0,0),(1,1),(1,1),(1,1),(1,1),(1,1),(1,1),(1,1),(1,1),(1,1),(1,1),(1,1),(1,1)] bm ⟨fun _ _ _ _ _ _ _=>obl rfl (Xe rfl dR),ob1 0 fun _ _ (bA:Sep _ _ _ _) bB=>obl rfl (lD (Iv ((d.projs.getD z default).pgroup)) kT (bB 0 dc) (zb (bA.b1) rfl) dR),ob1 0 fun _ _ _ bC=>obl rfl (yc (k:=.i64) (a:=(d.projs.getD z default).pgroup) (b:=3) (bC 1 dc) rfl dR),fun _ _ _ _ _ _ bD=>obl rfl (zV (v:=.bool (decide (((d.projs.getD z default).pgroup)=3))) (bD 2 dc) dR),?_,?_,?_,?_,?_,?_,?_,?_,?_,?_,fun _ _ _ _ _ _ aA=>obl rfl (zC (b:=decide (((d.projs.getD z default).pgroup)=3)) (b':= !decide ((yH (d.types.getD (((d.projs.getD z default).ptyp).toNat) default) ((d.projs.getD z default).pby))=2)) (aA 3 dc) (fun hbp=>(Eq.trans (aA 13 dc) (if_pos hbp))) dR),fun _ _ _ _ _ _ bE=>obl rfl (zV (v:=.bool ((decide (((d.projs.getD z default).pgroup)=3))&&(!decide ((yH (d.types.getD (((d.projs.getD z default).ptyp).toNat) default) ((d.projs.getD z default).pby))=2)))) (bE 14 dc) dR),?_,?_,?_,?_,?_,?_,?_,?_,fun _ _ _ _ _ _ aB=>obl rfl (zp (b:=(decide (((d.projs.getD z default).pgroup)=3))&&(!decide ((yH (d.types.getD (((d.projs.getD z default).ptyp).toNat) default) ((d.projs.getD z default).pby))=2))) (b':=(!decide (((d.projs.getD z default).pgroup)=3))&&(!decide (((d.projs.getD z default).pby)=0))) (aB 15 dc) (fun hbp=>(Eq.trans (aB 23 dc) (if_pos hbp))) dR),trivial⟩ ?_
 refine fun _ _ _ _ _ _ bF=>(zX rfl rfl (bF 3 dc) (fun T=>?_) (fun T=>fun c g _=>⟨trivial,g.trans (if_neg T).symm⟩))
 have hl341:=tD T
 exact yG rfl (fun c g _=>⟨rfl,g.trans (if_pos T).symm⟩)
 refine ob1 0 fun _ _ (bG:Sep _ _ _ _) aC=>(zX rfl rfl (aC 3 dc) (fun I=>?_) (fun I=>fun c g _=>⟨trivial,g.trans (if_neg I).symm⟩))
 have hl352:=tD I
 exact lD dd0 pT (Eq.trans (aC 4 dc) (if_pos I)) (zb (bG.b2) rfl) (fun c g _=>⟨rfl,g.trans (if_pos I).symm⟩)
 refine fun _ _ _ _ _ _ bH=>(zX rfl rfl (bH 3 dc) (fun U=>?_) (fun U=>fun c g _=>⟨trivial,g.trans (if_neg U).symm⟩))
 have hl361:=tD U
 exact Qj rfl (fun c g _=>⟨rfl,g.trans (if_pos U).symm⟩)
 refine ob1 0 fun _ _ (bI:Sep _ _ _ _) aD=>(zX rfl rfl (aD 3 dc) (fun J=>?_) (fun J=>fun c g _=>⟨trivial,g.trans (if_neg J).symm⟩))
 have hl372:=tD J
 exact lD (Iv ((d.projs.getD z default).ptyp)) kT (Eq.trans (aD 6 dc) (if_pos J)) (zb (bI.b1) rfl) (fun c g _=>⟨rfl,g.trans (if_pos J).symm⟩)
 refine ob1 0 fun _ _ _ an=>(zX rfl rfl (an 3 dc) (fun C=>?_) (fun C=>fun c g _=>⟨trivial,g.trans (if_neg C).symm⟩))
 have hl384:=tD C
 have hi385:((d.projs.getD z default).ptyp).toNat<d.types.length:=bo
 exact zA (k:=1) (i:=(d.projs.getD z default).ptyp) nT qT (Eq.trans (an 5 dc) (if_pos C)) hdd0.sl (Eq.trans (an 7 dc) (if_pos C)) ⟨by omega,by omega⟩ (fun c g _=>⟨rfl,g.trans (if_pos C).symm⟩)
 refine ob1 0 fun _ _ (bJ:Sep _ _ _ _) aE=>(zX rfl rfl (aE 3 dc) (fun K=>?_) (fun K=>fun c g _=>⟨trivial,g.trans (if_neg K).symm⟩))
 have hl396:=tD K
 have aF:((d.projs.getD z default).ptyp).toNat<d.types.length:=bo
 obtain⟨bn,ay,hoke397⟩:=hdd0.typD aF
 have hsm399:((d.types.getD (((d.projs.getD z default).ptyp).toNat) default).fields).length*48≤140737488355328:=ay.small
 have bp:=bJ.cells bn (hdd0.foot (ne_of_lt aF))
 exact zf (k:=1) oY qT rfl (Eq.trans (aE 8 dc) (if_pos K)) bp (fun c g _=>⟨rfl,g.trans (if_pos K).symm⟩)
 refine fun _ _ _ _ _ _ bK=>(zX rfl rfl (bK 3 dc) (fun X=>?_) (fun X=>fun c g _=>⟨trivial,g.trans (if_neg X).symm⟩))
 have hl409:=tD X
 exact UZ rfl (fun c g _=>⟨rfl,g.trans (if_pos X).symm⟩)
 refine ob1 0 fun _ _ (bL:Sep _ _ _ _) aG=>(zX rfl rfl (aG 3 dc) (fun L=>?_) (fun L=>fun c g _=>⟨trivial,g.trans (if_neg L).symm⟩))
 have hl420:=tD L
 exact lD (Iv ((d.projs.getD z default).pby)) kT (Eq.trans (aG 10 dc) (if_pos L)) (zb (bL.b1) rfl) (fun c g _=>⟨rfl,g.trans (if_pos L).symm⟩)
 refine ob1 0 fun vals cZ (ao:Sep _ _ _ _) ap=>(zX rfl rfl (ap 3 dc) (fun D=>?_) (fun D c g aH=>?_))
 have hl177:=tD D
 have aI:((d.projs.getD z default).ptyp).toNat<d.types.length:=bo
 obtain⟨bq,af,be⟩:=hdd0.typD aI
 have hsm180:((d.types.getD (((d.projs.getD z default).ptyp).toNat) default).fields).length*48≤140737488355328:=af.small
 have hcw181:=ao.cells bq (hdd0.foot (ne_of_lt aI))
 refine(zG (f:=49) (vals:=[.agg ((d.types.getD (((d.projs.getD z default).ptyp).toNat) default).cells (zI W (sb dd0) (so dd0+(((d.projs.getD z default).ptyp).toNat)*1+0))).toArray,Iv ((d.projs.getD z default).pby)]) (cap:=[]) rfl (yK ⟨(Eq.trans (ap 9 dc) (if_pos D)),(Eq.trans (ap 11 dc) (if_pos D)),trivial⟩) Tryz.call49 (Jd (t:=(d.types.getD (((d.projs.getD z default).ptyp).toNat) default)) (n:=(d.projs.getD z default).pby) af be ae.pby ao) ?_)
 rintro _ w182 ⟨rfl,bM⟩
 exact fun c g aH=>⟨(zv (g.trans (if_pos D).symm) bM),trivial⟩
 refine⟨?_,trivial⟩
 show(c 12=(if(decide (((d.projs.getD z default).pgroup)=3))=true then(Iv ((yH (d.types.getD (((d.projs.getD z default).ptyp).toNat) default) ((d.projs.getD z default).pby))):Value)else undef))∧Sep G W ((Blk bk #[Iv o,Iv p,.bool q,s] 110)::(Blk u di.toArray 115)::dj::Rs) cZ
 exact⟨(g.trans (if_neg D).symm),ao⟩
 refine ob1 1 fun _ _ bN bO=>?_
 obtain⟨E,hS427⟩:=bN
 refine zX rfl rfl (bO 3 dc) (fun M=>?_) (fun M=>fun c g _=>⟨trivial,g.trans (if_neg M).symm⟩)
 have hl430:=tD M
 exact yh (k:=.i64) (a:=(yH (d.types.getD (((d.projs.getD z default).ptyp).toNat) default) ((d.projs.getD z default).pby))) (b:=2) (Eq.trans E (if_pos M)) rfl (fun c g _=>⟨rfl,g.trans (if_pos M).symm⟩)
 refine fun _ _ _ _ _ _ bP=>(zX rfl rfl (bP 15 dc) (fun Y=>?_) (fun Y=>fun c g _=>⟨trivial,g.trans (if_neg Y).symm⟩))
 have bQ:=Y
 try simp only[ze]at bQ
 exact Xe rfl (fun c g _=>⟨rfl,g.trans (if_pos Y).symm⟩)
 refine ob1 1 fun _ _ bR aJ=>?_
 obtain⟨E,bS⟩:=bR
 refine zX rfl rfl (aJ 15 dc) (fun N=>?_) (fun N=>fun c g _=>⟨trivial,g.trans (if_neg N).symm⟩)
 have bT:=N
 try simp only[ze]at bT
 exact lD (Iv ((d.projs.getD z default).pgroup)) kT (Eq.trans (aJ 16 dc) (if_pos N)) (zb (bS.b1) rfl) (fun c g _=>⟨rfl,g.trans (if_pos N).symm⟩)
 refine ob1 1 fun _ _ bU aK=>?_
 obtain⟨E,hS472⟩:=bU
 refine zX rfl rfl (aK 15 dc) (fun O=>?_) (fun O=>fun c g _=>⟨trivial,g.trans (if_neg O).symm⟩)
 have bV:=O
 try simp only[ze]at bV
 exact yh (k:=.i64) (a:=(d.projs.getD z default).pgroup) (b:=3) (Eq.trans (aK 17 dc) (if_pos O)) rfl (fun c g _=>⟨rfl,g.trans (if_pos O).symm⟩)
 refine fun _ _ _ _ _ _ aL=>(zX rfl rfl (aL 15 dc) (fun P=>?_) (fun P=>fun c g _=>⟨trivial,g.trans (if_neg P).symm⟩))
 have bW:=P
 try simp only[ze]at bW
 exact zV (v:=.bool (!decide (((d.projs.getD z default).pgroup)=3))) (Eq.trans (aL 18 dc) (if_pos P)) (fun c g _=>⟨rfl,g.trans (if_pos P).symm⟩)
 refine fun _ _ _ _ _ _ bX=>(Zn rfl rfl (bX 19 dc) (fun Q=>?_) (fun Q=>fun c g _=>⟨trivial,g.trans (if_neg Q).symm⟩))
 have bY:=Q.1
 try simp only[ze]at bY
 have hl496:=zy Q.2
 exact UZ rfl (fun c g _=>⟨rfl,g.trans (if_pos Q).symm⟩)
 refine ob1 1 fun _ _ bZ aM=>?_
 obtain⟨E,ca⟩:=bZ
 refine Zn rfl rfl (aM 19 dc) (fun y=>?_) (fun y=>fun c g _=>⟨trivial,g.trans (if_neg y).symm⟩)
 have cb:=y.1
 try simp only[ze]at cb
 have hl508:=zy y.2
 exact lD (Iv ((d.projs.getD z default).pby)) kT (Eq.trans (aM 20 dc) (if_pos ⟨y.1,y.2⟩)) (zb (ca.b1) rfl) (fun c g _=>⟨rfl,g.trans (if_pos y).symm⟩)
 refine ob1 1 fun _ _ cc aN=>?_
 obtain⟨E,hS515⟩:=cc
 refine Zn rfl rfl (aN 19 dc) (fun A=>?_) (fun A=>fun c g _=>⟨trivial,g.trans (if_neg A).symm⟩)
 have cd:=A.1
 try simp only[ze]at cd
 have hl520:=zy A.2
 exact yh (k:=.i64) (a:=(d.projs.getD z default).pby) (b:=0) (Eq.trans (aN 21 dc) (if_pos ⟨A.1,A.2⟩)) rfl (fun c g _=>⟨rfl,g.trans (if_pos A).symm⟩)
 refine fun _ _ _ _ _ _ aq=>(zX rfl rfl (aq 15 dc) (fun F=>?_) (fun F=>fun c g _=>⟨trivial,g.trans (if_neg F).symm⟩))
 have ce:=F
 try simp only[ze]at ce
 exact zC (b:= !decide (((d.projs.getD z default).pgroup)=3)) (b':= !decide (((d.projs.getD z default).pby)=0)) (Eq.trans (aq 19 dc) (if_pos F)) (fun hbp=>(Eq.trans (aq 22 dc) (if_pos ⟨F,hbp⟩))) (fun c g _=>⟨rfl,g.trans (if_pos F).symm⟩)
 intro vals da cf cg
 obtain⟨E,B⟩:=cf
 have db:=cg 24 dc
 refine zZ (kv:=[(1,Ix b2 0),(6,Iw z),(48,Iw z),(49,Ix b2 1),(50,dd1),(51,Iw d.projs.length),(52,.bool true),(55,Ix b2 1),(56,dd1),(57,Iw z),(58,Ix (sb dd1) (so dd1+z*5)),(59,.agg di.toArray),(7,Ix u 0),(61,.agg (d.cells dd0 dd1).toArray),(62,Ix u 0),(63,Iv ((d.projs.getD z default).ptyp)),(64,Ix u 1),(65,Iv ((d.projs.getD z default).pfield)),(66,.tuple #[.agg #[Iv o,Iv p,.bool q,s],.bool x]),(60,.tuple #[.agg #[Iv o,Iv p,.bool q,s],.bool x]),(67,.agg #[Iv o,Iv p,.bool q,s]),(68,.bool x),(8,Ix bk 0),(9,.bool x),(69,.bool x),(70,.bool false),(95,.bool (((decide (((d.projs.getD z default).pgroup)=3))&&(!decide ((yH (d.types.getD (((d.projs.getD z default).ptyp).toNat) default) ((d.projs.getD z default).pby))=2)))||((!decide (((d.projs.getD z default).pgroup)=3))&&(!decide (((d.projs.getD z default).pby)=0)))))]) ⟨rfl,rfl,rfl,rfl,rfl,rfl,rfl,rfl,rfl,rfl,rfl,rfl,rfl,rfl,rfl,rfl,rfl,rfl,rfl,rfl,rfl,rfl,rfl,rfl,rfl,rfl,(by exact db),trivial⟩ (fun ρw540=>?_)
 refine zd ?_
 cases ar:((decide (((d.projs.getD z default).pgroup)=3))&&(!decide ((yH (d.types.getD (((d.projs.getD z default).ptyp).toNat) default) ((d.projs.getD z default).pby))=2)))||((!decide (((d.projs.getD z default).pgroup)=3))&&(!decide (((d.projs.getD z default).pby)=0)))
 try simp only[ze]at ar
 refine zg rfl (zl (za (zz kr (st (Xe rfl (st (lD (Iv ((d.projs.getD z default).pgroup)) kT rfl (zb (B.b1) rfl) (st (zJ (k:=.i64) (a:=(d.projs.getD z default).pgroup) (b:=1) rfl rfl (st (mV (.bool (decide (((d.projs.getD z default).pgroup)<1))) (stc (V:=Ix u 2) rfl rfl (fun ch=>?_) ?_))))))))))))
 have hl547:=fD ch
 exact Xe rfl ⟨rfl,rfl⟩
 refine stc (V:=Iv ((d.projs.getD z default).pgroup)) rfl rfl (fun aO=>?_) ?_
 have hl549:=fD aO
 exact lD (Iv ((d.projs.getD z default).pgroup)) kT (if_pos aO) (zb (B.b1) rfl) ⟨rfl,rfl⟩
 refine stc (V:=.bool (decide (3<((d.projs.getD z default).pgroup)))) rfl rfl (fun aP=>?_) ?_
 have hl551:=fD aP
 exact yU (k:=.i64) (a:=(d.projs.getD z default).pgroup) (b:=3) (if_pos aP) rfl ⟨rfl,rfl⟩
 refine st (zp (b:=decide (((d.projs.getD z default).pgroup)<1)) (b':=decide (3<((d.projs.getD z default).pgroup))) rfl (fun hbp=>(if_pos hbp)) (st (mV (.bool ((decide (((d.projs.getD z default).pgroup)<1))||(decide (3<((d.projs.getD z default).pgroup))))) (stc (V:=Ix u 4) rfl rfl (fun ci=>?_) ?_))))
 have cj:=ci
 try simp only[ze]at cj
 exact UT rfl ⟨rfl,rfl⟩
 refine stc (V:=Iv ((d.projs.getD z default).pmake)) rfl rfl (fun aQ=>?_) ?_
 have ck:=aQ
 try simp only[ze]at ck
 exact lD (Iv ((d.projs.getD z default).pmake)) kT (if_pos aQ) (zb (B.b1) rfl) ⟨rfl,rfl⟩
 refine stc (V:=.bool (decide (((d.projs.getD z default).pmake)<1))) rfl rfl (fun aR=>?_) ?_
 have cl:=aR
 try simp only[ze]at cl
 exact zJ (k:=.i64) (a:=(d.projs.getD z default).pmake) (b:=1) (if_pos aR) rfl ⟨rfl,rfl⟩
 refine st (zp (b:=(decide (((d.projs.getD z default).pgroup)<1))||(decide (3<((d.projs.getD z default).pgroup)))) (b':=decide (((d.projs.getD z default).pmake)<1)) rfl (fun hbp=>(if_pos hbp)) (st (mV (.bool (((decide (((d.projs.getD z default).pgroup)<1))||(decide (3<((d.projs.getD z default).pgroup))))||(decide (((d.projs.getD z default).pmake)<1)))) (stc (V:=Ix u 4) rfl rfl (fun cm=>?_) ?_))))
 have cn:=cm
 try simp only[ze]at cn
 exact UT rfl ⟨rfl,rfl⟩
 refine stc (V:=Iv ((d.projs.getD z default).pmake)) rfl rfl (fun aT=>?_) ?_
 have co:=aT
 try simp only[ze]at co
 exact lD (Iv ((d.projs.getD z default).pmake)) kT (if_pos aT) (zb (B.b1) rfl) ⟨rfl,rfl⟩
 refine stc (V:=.bool (decide (5<((d.projs.getD z default).pmake)))) rfl rfl (fun aU=>?_) ?_
 have cp:=aU
 try simp only[ze]at cp
 exact yU (k:=.i64) (a:=(d.projs.getD z default).pmake) (b:=5) (if_pos aU) rfl ⟨rfl,rfl⟩
 refine st (zp (b:=((decide (((d.projs.getD z default).pgroup)<1))||(decide (3<((d.projs.getD z default).pgroup))))||(decide (((d.projs.getD z default).pmake)<1))) (b':=decide (5<((d.projs.getD z default).pmake))) rfl (fun hbp=>(if_pos hbp)) (zd ?_))
 cases au:(((decide (((d.projs.getD z default).pgroup)<1))||(decide (3<((d.projs.getD z default).pgroup))))||(decide (((d.projs.getD z default).pmake)<1)))||(decide (5<((d.projs.getD z default).pmake)))
 try simp only[ze]at au
 refine zg rfl (zl (R0 fun _=>st (mV (Iw z) ?_)))
 have cq:InR ((z+1:Nat):Int):=bo
 refine st (yb (r:=((z+1:Nat):Int)) (k:=.i64) (a:=((z:Nat):Int)) (b:=1) rfl rfl (by rw[show(((z:Nat):Int)+1:Int)=((z+1:Nat):Int)from bo];exact zM cq) (st (aS (Iw (z+1)) (zd ?_))))
 have cr:Sep G W (dj::Rs) da:=B.sel 3 [2] (Nat.le_add_left _ _) rfl rfl
 have dd:Qe (d.projs.getD z default):=by
  have h8:=ar
  have h9:=au
  unfold Qe
  by_cases hg:(d.projs.getD z default).pgroup=3
  ·have h7:=Qw (t:=d.types.getD (d.projs.getD z default).ptyp.toNat default) (n:=(d.projs.getD z default).pby) (by omega);omega
  ·omega
 exact⟨_,by omega,z+1,_,rfl,sSf,by omega,(yV hpz dd),cr⟩
 try simp only[ze]at au
 refine zh rfl (za (R0 fun _=>st (aS (Iv 2) (zd (zj (zK rT (show _=(Iv 2:Value)from rfl) ?_))))))
 refine⟨2,rfl,?_,?_,(B.s3_)⟩
 first|decide|assumption
 intro h9
 exfalso;omega
 try simp only[ze]at ar
 refine zh rfl (za (R0 fun _=>st (aS (Iv 8) (zd (zj (zK rT (show _=(Iv 8:Value)from rfl) ?_))))))
 refine⟨8,rfl,?_,?_,(B.s3_)⟩
 first|decide|assumption
 intro h9
 exfalso;omega
 try simp only[ze]at ax
 refine zh rfl (za (R0 fun _=>st (aS (Iv 8) (zd (zj (zK rT (show _=(Iv 8:Value)from rfl) ?_))))))
 refine⟨8,rfl,?_,?_,(bm.s3_)⟩
 first|decide|assumption
 intro h9
 exfalso;omega
 have ak:=tD ak
 refine zh rfl (zl (za (zx (za (R0 fun _=>st (aS (Iv 0) (zd (zx (yq (fun mq σ S=> ∃(j:Nat) (ρ:Env),mq=(d.types.getD k default).fields.length-j∧σ=yi ρ [(1,Ix b2 0),(3,Iw k),(4,Iw j)]∧(j≤(d.types.getD k default).fields.length)∧(∀i,i<j→VM (d.types.getD k default) ((d.types.getD k default).fields.getD i default))∧Sep G W ((Blk b2 (d.cells dd0 dd1).toArray 25)::Rs) S) ⟨0,_,rfl,sSf,Nat.zero_le _,(fun i h=>absurd h (Nat.not_lt_zero i)),aw⟩ ?_)))))))))
 rintro m571 σ572 w570 ⟨j,ρl3,rfl,rfl,hkj,cS,Z⟩
 refine za (za (R0 fun _=>st (mV (Iw j) (st (yG rfl (st (lD dd0 pT rfl (zb (Z.b0) rfl) (st (mV (Iw k) ?_)))))))))
 have cs:k<d.types.length:=bo
 refine st (zm (k:=1) (i:=k) nT qT rfl hdd0.sl rfl cs (st (xe rfl ?_)))
 have aa:k<d.types.length:=bo
 obtain⟨ag,m,bf⟩:=hdd0.typD aa
 have hsm577:((d.types.getD k default).fields).length*48≤140737488355328:=m.small
 have br:=Z.cells ag (hdd0.foot (ne_of_lt aa))
 refine st (lD aj kR rfl (br.get (j:=0) rfl) (st (zR (n:=((d.types.getD k default).fields).length) sT rfl m.sl (st (zJ (k:=.i64) (a:=((j:Nat):Int)) (b:=((((d.types.getD k default).fields).length:Nat):Int)) rfl rfl (zd ?_))))))
 cases ab:decide (((j:Nat):Int)<((((d.types.getD k default).fields).length:Nat):Int))
 have ab:=fD ab
 refine zg rfl (yr (yg (R0 fun _=>st (mV (Iw k) ?_))))
 have ct:InR ((k+1:Nat):Int):=bo
 refine st (yb (r:=((k+1:Nat):Int)) (k:=.i64) (a:=((k:Nat):Int)) (b:=1) rfl rfl (by rw[show(((k:Nat):Int)+1:Int)=((k+1:Nat):Int)from bo];exact zM ct) (st (aS (Iw (k+1)) (zd ?_))))
 exact⟨_,by omega,k+1,_,rfl,sSf,by omega,(yV hm (fun j9 h9=>cS j9 om)),Z⟩
 have ab:=tD ab
 refine zh rfl (zl (za (zx (za ?_))))
 refine WD4 ((fun av=>WF [fun vals S=>Sep G W (av::Rs) S,fun vals S=> ∃(l:Int),(vals 14=(Iv l:Value))∧(InR l)∧(l=0→VM (d.types.getD k default) (((d.types.getD k default).fields).getD j default))∧Sep G W (av::Rs) S]) dj) (AF [Vl 0 (Ix b2 0),Vl 1 (dd0),Vl 2 (Iw k),Vl 3 (Ix (sb dd0) (so dd0+k*1)),Vl 4 (.agg ((d.types.getD k default).cells aj).toArray),Vl 5 (Ix b2 0),Vl 6 (dd0),Vl 7 (Iw k),Vl 8 (Ix (sb dd0) (so dd0+k*1)),Vl 9 (Ix (sb dd0) (so dd0+k*1)),Vl 10 (aj),Vl 11 (Iw j),Vl 12 (Ix (sb aj) (so aj+j*4)),Vl 13 (.agg ((((d.types.getD k default).fields).getD j default).cells (zI W (sb aj) (so aj+j*4+3))).toArray),fun _=>True,fun vals=> ∀(l:Int),vals 14=(Iv l:Value)→vals 15=(Iv l:Value)]) [[],[0],[],[0,1,2],(rg 4),[],[5],[],[5,6,7],[5,6,7,8],[5,6,7,8,9],[],[5,6,7,8,9,10,11],[5,6,7,8,9,10,11,12],(rg 14),(rg 15)] [14] [(0,0),(0,0),(0,0),(0,0),(0,0),(0,0),(0,0),(0,0),(0,0),(0,0),(0,0),(0,0),(0,0),(0,0),(0,0),(1,1)] Z ⟨fun _ _ _ _ _ _ _=>obl rfl (yG rfl dR),ob1 0 fun _ _ (cu:Sep _ _ _ _) cv=>obl rfl (lD dd0 pT (cv 0 dc) (zb (cu.b0) rfl) dR),fun _ _ _ _ _ _ _=>obl rfl (mV (Iw k) dR),?_,?_,fun _ _ _ _ _ _ _=>obl rfl (yG rfl dR),ob1 0 fun _ _ (cw:Sep _ _ _ _) cx=>obl rfl (lD dd0 pT (cx 5 dc) (zb (cw.b0) rfl) dR),fun _ _ _ _ _ _ _=>obl rfl (mV (Iw k) dR),?_,fun _ _ _ _ _ _ cy=>obl rfl (xe (cy 8 dc) dR),?_,fun _ _ _ _ _ _ _=>obl rfl (mV (Iw j) dR),?_,?_,?_,?_,trivial⟩ ?_ (hlocA:=xb ⟨dA,dA,dA,dA,dA,dA,dA,dA,dA,dA,dA,dA,dA,dA,dT,fun vals c g h=>fun l aV=>(g 15 (.inl rfl)).trans (h l ((g 14 (.inr dc)).symm.trans aV)),trivial⟩)
 refine ob1 0 fun _ _ _ aW=>(obl rfl ?_)
 have cz:k<d.types.length:=bo
 exact zm (k:=1) (i:=k) nT qT (aW 1 dc) hdd0.sl (aW 2 dc) cz dR
 refine ob1 0 fun _ _ (cC:Sep _ _ _ _) cD=>(obl rfl ?_)
 have bs:=cC.cells ag (hdd0.foot (ne_of_lt aa))
 exact zf (k:=1) oY qT rfl (cD 3 dc) bs dR
 refine ob1 0 fun _ _ _ aX=>(obl rfl ?_)
 have cE:k<d.types.length:=bo
 exact zm (k:=1) (i:=k) nT qT (aX 6 dc) hdd0.sl (aX 7 dc) cE dR
 refine ob1 0 fun _ _ (cF:Sep _ _ _ _) cG=>(obl rfl ?_)
 have bt:=cF.cells ag (hdd0.foot (ne_of_lt aa))
 exact lD aj kR (cG 9 dc) (bt.get (j:=0) rfl) dR
 refine ob1 0 fun _ _ _ aY=>(obl rfl ?_)
 have cH:j<((d.types.getD k default).fields).length:=bo
 exact zm (k:=4) (i:=j) sT lT (aY 10 dc) m.sl (aY 11 dc) cH dR
 refine ob1 0 fun _ _ (cI:Sep _ _ _ _) cJ=>(obl rfl ?_)
 have aZ:j<((d.types.getD k default).fields).length:=bo
 obtain⟨bu,az,hoke833⟩:=m.fldD aZ
 have hsm835:((((d.types.getD k default).fields).getD j default).moves).length*32≤140737488355328:=az.small
 have bv:=cI.cells bu (m.foot (ne_of_lt aZ))
 exact zf (k:=4) tT lT rfl (cJ 12 dc) bv dR
 refine ob1 0 fun vals _ (ba:Sep _ _ _ _) bb=>(obl rfl ?_)
 have bc:j<((d.types.getD k default).fields).length:=bo
 obtain⟨bw,ah,bg⟩:=m.fldD bc
 have hsm707:((((d.types.getD k default).fields).getD j default).moves).length*32≤140737488355328:=ah.small
 have hcw708:=ba.cells bw (m.foot (ne_of_lt bc))
 refine(zG (f:=47) (vals:=[.agg ((d.types.getD k default).cells aj).toArray,.agg ((((d.types.getD k default).fields).getD j default).cells (zI W (sb aj) (so aj+j*4+3))).toArray]) (cap:=[]) rfl (yK ⟨(bb 4 dc),(bb 13 dc),trivial⟩) Tryz.call47 (D_one (t:=(d.types.getD k default)) (f:=(((d.types.getD k default).fields).getD j default)) m bf ah bg ba) ?_)
 rintro _ w712 ⟨l,rfl,ai,H,cK⟩
 exact fun c g aH=>⟨(exiA l (zv g (zv ai (zv H cK)))),trivial⟩
 refine ob1 1 fun _ _ cM _=>?_
 obtain⟨l,ac,ai,H,hS843⟩:=cM
 refine obl rfl (ya (v:=Iv l) ac (fun c g aH=>⟨rfl,?_⟩))
 intro e709q aV
 rw[aH 14 (by decide)]at aV;cases ac.symm.trans aV
 exact g
 intro vals w844 cN cO
 obtain⟨l,ac,ai,H,bd⟩:=cN
 have de:vals 15=(Iv l:Value):=cO 15 dc l ac
 refine zZ (kv:=[(1,Ix b2 0),(3,Iw k),(4,Iw j),(19,Iw j),(20,Ix b2 0),(21,dd0),(22,Iw k),(23,Ix (sb dd0) (so dd0+k*1)),(24,Ix (sb dd0) (so dd0+k*1)),(25,aj),(26,Iw (((d.types.getD k default).fields).length)),(27,.bool true),(5,Iv l)]) ⟨rfl,rfl,rfl,rfl,rfl,rfl,rfl,rfl,rfl,rfl,rfl,rfl,(by exact de),trivial⟩ (fun ρw844=>(zd (za (R0 fun _=>st (mV (Iv l) (st (yh (k:=.i64) (a:=l) (b:=0) rfl rfl (zd ?_))))))))
 cases R: !decide (l=0)
 have R:=zu R
 refine zg rfl (zl (R0 fun _=>st (mV (Iw j) ?_)))
 have cP:InR ((j+1:Nat):Int):=bo
 refine st (yb (r:=((j+1:Nat):Int)) (k:=.i64) (a:=((j:Nat):Int)) (b:=1) rfl rfl (by rw[show(((j:Nat):Int)+1:Int)=((j+1:Nat):Int)from bo];exact zM cP) (st (aS (Iw (j+1)) (zd ?_))))
 exact⟨_,by omega,j+1,_,rfl,sSf,by omega,(yV cS (H (by have h9:=R;omega))),bd⟩
 have R:=zy R
 refine zh rfl (za (R0 fun _=>st (mV (Iv l) (st (aS (Iv l) (zd (zj (zK rT (show _=(Iv l:Value)from rfl) ?_))))))))
 refine⟨l,rfl,?_,?_,(bd.s1_)⟩
 first|decide|assumption
 intro h9
 exfalso;omega
 refine zh rfl (za (R0 fun _=>st (aS (Iv 3) (zd (zj (zK rT (show _=(Iv 3:Value)from rfl) ?_))))))
 refine⟨3,rfl,?_,?_,(cR.s1_)⟩
 first|decide|assumption
 intro h9
 exfalso;omega
theorem KP {G:Nat→Prop}{W w:World}{Rs:List HP}{x:Int}(hx:InR x){n:Nat}(hn:1≤n∧n≤281474976710656)(hS0:Sep G W Rs w):Ret Tryz.prog 8 [.int .i64 (x),.int .i64 ((n:Nat):Int)] w (fun r w'=> ∃(q:Nat),r=(.int .i64 ((q:Nat):Int):Value)∧(q<n)∧Sep G W Rs w'):=by
 refine zi (args:=[Iv x,Iw n]) Tryz.func8 rfl rfl ?_
 refine za (R0 fun _=>st (aS (Iv 0) (zd (za (za (R0 fun _=>st (mV (Iw n) (st (zJ (k:=.i64) (a:=((n:Nat):Int)) (b:=1) rfl rfl (zd ?_))))))))))
 cases d:decide (((n:Nat):Int)<1)
 have d:=fD d
 refine zg rfl (zl (za (R0 fun _=>st (mV (Iv x) (st (mV (Iw n) ?_))))))
 have f:(0:Int)<((n:Nat):Int):=by omega
 have h:=Int.tmod_lt_of_pos x f;have i:=Int.lt_tmod_of_pos x f
 obtain⟨c,g⟩: ∃z,Int.tmod x ((n:Nat):Int)=z:=⟨_,rfl⟩;rw[g]at h i
 refine st (zby (r:=c) rfl rfl f g (st (aS (Iv c) (zd (za (za (R0 fun _=>st (mV (Iv c) (st (zJ (k:=.i64) (a:=c) (b:=0) rfl rfl (zd ?_)))))))))))
 cases e:decide (c<0)
 have e:=fD e
 refine zg rfl (zl (za (R0 fun _=>st (mV (Iv c) (st (aS (Iv c) (zd (zj (zK vR (show _=(Iv c:Value)from rfl) ?_)))))))))
 refine⟨(c).toNat,?_,?_,hS0⟩
 rw[Int.toNat_of_nonneg (by omega)]
 omega
 have e:=tD e
 refine zh rfl (R0 fun _=>st (mV (Iv c) (st (mV (Iw n) ?_))))
 have j:InR (c+((n:Nat):Int)):=by omega
 refine st (yb (r:=c+((n:Nat):Int)) (k:=.i64) (a:=c) (b:=((n:Nat):Int)) rfl rfl (zM j) (st (aS (Iv (c+((n:Nat):Int))) (zd (za (R0 fun _=>st (mV (Iv (c+((n:Nat):Int))) (st (aS (Iv (c+((n:Nat):Int))) (zd (zj (zK vR (show _=(Iv (c+((n:Nat):Int)):Value)from rfl) ?_))))))))))))
 refine⟨(c+((n:Nat):Int)).toNat,?_,?_,hS0⟩
 rw[Int.toNat_of_nonneg (by omega)]
 omega
 have d:=tD d
 refine zh rfl (za (R0 fun _=>st (aS (Iv 0) (zd (zj (zK vR (show _=(Iv 0:Value)from rfl) ?_))))))
 refine⟨0,?_,?_,hS0⟩
 exfalso;omega
 omega
theorem Vr {α:Type}{a b:List α}{d:α}(hl:a.length=b.length)(h: ∀i,i<a.length→a.getD i d=b.getD i d):a=b:=by
 refine List.ext_getElem hl (fun i h1 h2=>?_)
 have:=h i h1
 rwa [zF _ h1,zF _ h2]at this
theorem Xv {G:Nat→Prop}{W w:World}{Rs:List HP}{va:Value}{a:List Int}(ha:RdS W G va a){vb:Value}{b:List Int}(hb:RdS W G vb b)(hS0:Sep G W Rs w):Ret Tryz.prog 42 [va,vb] w (fun r w'=>r=(.bool (decide (a=b)):Value)∧Sep G W Rs w'):=by
 have has:_*8≤_:=ha.small
 have hbs:_*8≤_:=hb.small
 refine zi (args:=[va,vb]) Tryz.func42 rfl rfl ?_
 refine za (R0 fun _=>st (aS (.bool false) (zd (za (za (R0 fun _=>st (mV va (st (zR (n:=a.length) uT rfl ha.sl (st (mV vb (st (zR (n:=b.length) uT rfl hb.sl (st (yh (k:=.i64) (a:=((a.length:Nat):Int)) (b:=((b.length:Nat):Int)) rfl rfl (zd ?_))))))))))))))))
 cases d: !decide (((a.length:Nat):Int)=((b.length:Nat):Int))
 have d:=zu d
 refine zg rfl (zl (za (za (R0 fun _=>st (aS (Iv 0) (zd (zx (yq (fun mq σ I=> ∃(k:Nat) (ρ:Env),mq=a.length-k∧σ=yi ρ [(0,va),(1,vb),(5,Iw k)]∧(k≤a.length)∧(∀i,i<k→a.getD i 0=b.getD i 0)∧Sep G W Rs I) ⟨0,_,rfl,sSf,Nat.zero_le _,(fun i h=>absurd h (Nat.not_lt_zero i)),hS0⟩ ?_))))))))
 rintro m3 σ4 w2 ⟨k,ρl1,rfl,rfl,hkk,hm,H⟩
 refine za (za (R0 fun _=>st (mV (Iw k) (st (mV va (st (zR (n:=a.length) uT rfl ha.sl (st (zJ (k:=.i64) (a:=((k:Nat):Int)) (b:=((a.length:Nat):Int)) rfl rfl (zd ?_))))))))))
 cases f:decide (((k:Nat):Int)<((a.length:Nat):Int))
 have f:=fD f
 refine zg rfl (yr (yg (za (R0 fun _=>st (aS (.bool true) (zd (zj (zK wR (show _=(.bool true:Value)from rfl) ?_))))))))
 refine⟨?_,H⟩
 rw[decide_eq_true (Vr (by omega) (fun i hi=>hm i (by omega)))]
 have f:=tD f
 refine zh rfl (zl (za (zx (za (WD4 (WF [fun vals I=>Sep G W Rs I]) (AF [Vl 0 (va),Vl 1 (Iw k),Vl 2 (Ix (sb va) (so va+k*1)),Vl 3 (Iv ((a.getD k 0))),Vl 4 (vb),Vl 5 (Iw k),Vl 6 (Ix (sb vb) (so vb+k*1)),Vl 7 (Iv ((b.getD k 0))),Vl 8 (.bool (!decide ((a.getD k 0)=(b.getD k 0))))]) [[],[],[0,1],[0,1,2],[],[],[4,5],[4,5,6],(rg 8)] [] [(0,0),(0,0),(0,0),(0,0),(0,0),(0,0),(0,0),(0,0),(0,0)] H ⟨fun _ _ _ _ _ _ _=>obl rfl (mV va dR),fun _ _ _ _ _ _ _=>obl rfl (mV (Iw k) dR),?_,?_,fun _ _ _ _ _ _ _=>obl rfl (mV vb dR),fun _ _ _ _ _ _ _=>obl rfl (mV (Iw k) dR),?_,?_,ob1 0 fun _ _ _ g=>obl rfl (yh (k:=.i64) (a:=(a.getD k 0)) (b:=(b.getD k 0)) (g 3 dc) (g 7 dc) dR),trivial⟩ ?_)))))
 refine ob1 0 fun _ _ _ q=>(obl rfl ?_)
 have x:k<a.length:=bo
 exact zm (k:=1) (i:=k) uT kY (q 0 dc) ha.sl (q 1 dc) x dR
 refine ob1 0 fun _ _ (y:Sep _ _ _ _) z=>(obl rfl ?_)
 have l:k<a.length:=bo
 obtain⟨s,hxe112⟩:=ha.intD l
 have t:=y.cells s (ha.foot (ne_of_lt l))
 exact lD (Iv ((a.getD k 0))) kT (z 2 dc) (t.get (j:=0) rfl) dR
 refine ob1 0 fun _ _ _ m=>(obl rfl ?_)
 have A:k<b.length:=bo
 exact zm (k:=1) (i:=k) uT kY (m 4 dc) hb.sl (m 5 dc) A dR
 refine ob1 0 fun _ _ (B:Sep _ _ _ _) C=>(obl rfl ?_)
 have o:k<b.length:=bo
 obtain⟨u,hxe145⟩:=hb.intD o
 have v:=B.cells u (hb.foot (ne_of_lt o))
 exact lD (Iv ((b.getD k 0))) kT (C 6 dc) (v.get (j:=0) rfl) dR
 intro vals w157 D E
 have p:Sep _ _ _ _:=D
 have J:=E 8 dc
 refine zZ (kv:=[(0,va),(1,vb),(5,Iw k),(11,Iw k),(12,va),(13,Iw a.length),(14,.bool true),(25,.bool (!decide ((a.getD k 0)=(b.getD k 0))))]) ⟨rfl,rfl,rfl,rfl,rfl,rfl,rfl,(by exact J),trivial⟩ (fun ρw157=>(zd ?_))
 cases c: !decide ((a.getD k 0)=(b.getD k 0))
 have c:=zu c
 refine zg rfl (zl (R0 fun _=>st (mV (Iw k) ?_)))
 have F:InR ((k+1:Nat):Int):=bo
 refine st (yb (r:=((k+1:Nat):Int)) (k:=.i64) (a:=((k:Nat):Int)) (b:=1) rfl rfl (by rw[show(((k:Nat):Int)+1:Int)=((k+1:Nat):Int)from bo];exact zM F) (st (aS (Iw (k+1)) (zd ?_))))
 exact⟨_,by omega,k+1,_,rfl,sSf,by omega,(yV hm om),p⟩
 have c:=zy c
 refine zh rfl (za (R0 fun _=>st (aS (.bool false) (zd (zj (zK wR (show _=(.bool false:Value)from rfl) ?_))))))
 refine⟨?_,p⟩
 rw[decide_eq_false (fun e=>by subst e;omega)]
 have d:=zy d
 refine zh rfl (za (R0 fun _=>st (aS (.bool false) (zd (zj (zK wR (show _=(.bool false:Value)from rfl) ?_))))))
 refine⟨?_,hS0⟩
 rw[decide_eq_false (fun e=>by subst e;omega)]
end
section
open Go.RowKit
section
variable {G:Nat→Prop}{W w:World}{As:List HP}{T Ti:TypeId}{v:Value}{sh:List CelS}{l:List Cel}
theorem CelW.rowP {f:Nat→Prop}(h:(CelW v T Ti l).p w f):(RowE (α:=Cel) own T v l).p w f:=by
 obtain⟨sh,⟨hlen,hn⟩,hA⟩:=h
 obtain⟨fs,q1,q2⟩:=hA
 obtain⟨⟨css,hE,hown,hrow,hsm⟩,hf0⟩:=q1 0 _ rfl
 obtain⟨hSt,hf1⟩:=q1 1 _ rfl
 have q2':=q2 0 1 (by simp) (by simp) (by simp)
 have hcl:=hE.length
 refine⟨css,EP.of_at (by omega) (fun i h1 h2=>?_),by rw[←hlen];exact hown,fun b hb=>(hf0 b (hrow b hb)).1,by rw[←hlen];exact hsm⟩
 have hs:i<sh.length:=by omega
 obtain⟨hcs,hin,hone⟩:css[i]=sh[i].cells∧InR sh[i].n∧sh[i].v.oneCell'=true:=(EP.at2 hE i h1 hs).imp id (fun h=>⟨h.n,h.one⟩)
 have hr:(RowE (α:=Int) own Ti (sh.getD i default).v (l.getD i default).set).p w (fs 1):=Star.at_ hSt (SetRows.get hs h2)
 have hsoft:=RowE.soft hr
 have hni:=hn i h2
 rw[zF _ hs,zF _ h2]at hsoft hni
 refine⟨sh[i].v,?_,hsoft.mono (fun b hb hlt=>⟨rfl,⟨(hf1 b hb.1).1,fun e=>q2' b (hrow b e) hb.1⟩,hb.2⟩),⟨by rw[←hni];exact hin⟩⟩
 rw[hcs]
 show[Value.int .i64 sh[i].n,sh[i].v]=_
 rw[hni];rfl
theorem CelW.rd {f:Nat→Prop}(h:(CelW v T Ti l).p w f):RdS w f v l:=RowE.rd (CelW.rowP h)
end
end
section
set_option maxRecDepth 8000
open Go.Proofs Go.RowKit
end
section
set_option maxRecDepth 8000
set_option maxHeartbeats 4000000
open Go.Proofs Go.RowKit
theorem UR {t:Typ}:Right t (List.replicate t.fields.length ⟨0,[]⟩):=by
 have key: ∀i,i<(List.replicate t.fields.length (⟨0,[]⟩:Cel)).length→(List.replicate t.fields.length (⟨0,[]⟩:Cel)).getD i default=⟨0,[]⟩:=by
  intro i hi
  rw[zF _ hi,List.getElem_replicate]
 refine⟨by simp,fun i hi _=>?_,fun i hi _=>?_,fun i hi _=>?_,fun i hi=>?_,fun i hi=>?_⟩<;>rw[key i hi]
 ·exact Int.le_refl _
 ·simp
 ·exact List.Pairwise.nil
theorem Jh {G:Nat→Prop}{W w:World}{Rs:List HP}{t:Typ}{dt0:Value}(hdt0:RdS W G dt0 t.fields)(ot:t.Ok)(hS0:Sep G W Rs w):Ret Tryz.prog 13 [.agg (t.cells dt0).toArray] w (fun r w'=> ∃(v:Value),r=(v:Value)∧Sep G W ((RowE (α:=Cel) own 99 v (List.replicate t.fields.length (⟨0,[]⟩:Cel)))::Rs) w'):=by
 have hdt0s:_*48≤_:=hdt0.small
 refine zi (args:=[.agg (t.cells dt0).toArray]) Tryz.func13 rfl rfl ?_
 refine za (R0 fun _=>st (zN (v:=.agg (t.cells dt0).toArray) rfl ?_))
 intro w3 b2 e
 have c:=hS0.new e
 refine st (aS (Iz) (zd (za (R0 fun _=>st (xe rfl (st (lD dt0 kR rfl (zb (c.b0) rfl) (st (zR (n:=t.fields.length) sT rfl hdt0.sl (st (YB (α:=Cel) (T:=99) (bytes:=32) (n:=t.fields.length) (x1:=(⟨0,[]⟩:Cel)) Tryz.underlying45 ⟨_,_,rfl,rfl,rfl,rfl,rfl,fun _ _=>⟨_,rfl,RdS.nil _ _,⟨by decide⟩⟩⟩ rfl rfl rfl (by show t.fields.length*32≤140737488355328;omega) ?_)))))))))))
 intro f b g he7 hl8 h
 let i:=Iy b t.fields.length t.fields.length
 have a:Sep G W ((RowE (α:=Cel) own 99 i (List.replicate t.fields.length (⟨0,[]⟩:Cel)))::(Blk b2 (t.cells dt0).toArray 53)::Rs) f:=c.made g h
 have d:=a.r0
 have hr12s:_*32≤_:=d.2
 refine st (aS i (zd (zj (zK Tryz.results13 (show _=(i:Value)from rfl) ?_))))
 refine⟨i,rfl,(a.s2_a)⟩
instance (t:Typ) (c:List Cel) (f op arg:Int):Decidable (XQ t c f op arg):=by unfold XQ Asc;infer_instance
end
section
open Go.ChangeShapes Go.WideShapes Go.ChangeAt Go.RowKit
theorem zaR {P:Program}{W:World}{name:String}{zs:List Int}{g:Nat}(hg:P.globalNamed name=some g)(h:Lib.TabIs P W name .i64 zs)(hz: ∀z∈zs,InR z)(hs:zs.length*8≤140737488355328):
 RdS W (xn W) (.slice (some ⟨g,0,none⟩) zs.length zs.length) zs:=by
 have hc: ∀i,W.cell? ⟨g,i,none⟩=(zs.map fun z=>Value.int .i64 z)[i]? :=fun i=>by
  rw[World.var?_cell hg h i];simp
 refine⟨⟨_,_,rfl,Nat.le_refl _,fun _=>⟨_,_,rfl⟩⟩,fun hne=>?_,hs,fun i hi=>?_⟩
 ·have h0:0<zs.length:=List.length_pos_iff.2 hne
  have h1:=hc 0
  rw[List.getElem?_eq_getElem (by simpa using h0)]at h1
  exact Zq h1
 ·refine⟨[.int .i64 zs[i]],fun j hj=>?_,⟨rfl,hz _ (List.getElem_mem hi)⟩⟩
  obtain rfl:j=0:=by simp at hj;omega
  have h1:=hc i
  rw[List.getElem?_eq_getElem (by simpa using hi)]at h1
  have e:(so (.slice (some ⟨g,0,none⟩) zs.length zs.length)+i*Rep.k Int+0)=i:=by
   show 0+i*1+0=i
   omega
  show W.cell? ⟨g,so (.slice (some ⟨g,0,none⟩) zs.length zs.length)+i*Rep.k Int+0,none⟩=_
  rw[e,h1]
  simp
theorem XY {P:Program}{d:Option Tmp}{ty:TypeId}{pos:String}{af:Array Edge}{g:Option (Nat×Bool)}{σ:Env}{w:World}{K:Value→World→Prop}{t e:TypeId}{k n b o off:Nat}{i:Int}{x y:Operand}{ki:IntKind}(hU:P.underlying t=some (.array n e))(hS: ∀w,(sizeOf e).run P w=.ok k w)(hx:ev σ x=.pointer (some ⟨b,o,none⟩))(hy:ev σ y=.int ki i)
 (hi:0≤i∧i<n) (ho:i.toNat*k=off) (h:K (.pointer (some ⟨b,o+off,none⟩)) w):opV P ⟨d,.indexAddr t x y,ty,pos,af,g⟩ σ w K:=by
 obtain⟨m,rfl⟩:=Int.eq_ofNat_of_zero_le hi.1
 exact XU (i:=m) hU hS hx hy (by omega) (by simpa using ho) h
theorem YX {H:Type}{enc:TypeId×Value→H}{C:Checked}{os:Os}{f:FuncId}{fn:Func}{s:ChangeSpec}{tb:TypeId}{laid:List (String×DataW Unit)}
 (own:ownKnob C.prog.godebug=none) (started:os.Started) (noInit:C.prog.inits.idxOf? f=none) (hfn:C.prog.funcs[f]? =some fn)
 (hl:laidOutB C.prog=true) (hrt:fn.resultTypes=#[tb]) (htb:C.prog.underlying tb=some .bool) (hsv:s.vars=[])
 (hsf: ∀ds:List (DataW H),ds.length=fn.params.size→s.fn H ds={results:=[.lit (.bool true)],args:=ds})
 (hps: ∀t∈fn.params.toList,C.prog.readableRec t=true∧t<C.prog.types.size)
 (witness: ∃(w:World) (tape:Tape) (i:Input),w.os=os∧(w.forCall tape i).Shaped C.prog∧i.vars=[]∧Input.okWide C.prog (w.forCall tape i) .any w.heap.size f i∧
  ((s.pre enc C.prog fn [] false (w.forCall tape i).memory i.args∧laidMetH C.prog laid (w.forCall tape i).memory)∧sizedMet enc C.prog fn (OpenSpec.ofChange s) false (w.forCall tape i).memory i.args)∧({}:Assume).holds C.prog (lone (Frame.enter C.prog f i.args .normal) [] (w.forCall tape i)))
 (contract: ∀(W:World) (base:Nat) (args:Array Value) (ds:List (DataW H)) (ps:List MemPlace),
  (∀(j:Nat) t v,fn.params[j]? =some t→args[j]? =some v→Value.okWide C.prog W .any base t v)→
  DataW.TrodAll enc C.prog W 0 (fun _=>true) true fn.params.toList args.toList ds ps→
  (∀(j:Nat) t d,fn.params.toList[j]? =some t→ds[j]? =some d→ZB C.prog t d)→laidMetH C.prog laid W→
  Ret C.prog f args.toList W (fun r w'=>r=.bool true∧Ext W w')):
 ReturnsInHanded {} C os f .any (fun w args=>(s.pre enc C.prog fn [] false w args∧laidMetH C.prog laid w)∧sizedMet enc C.prog fn (OpenSpec.ofChange s) false w args) (s.post enc C.prog fn false true false false):=by
 refine returnsInHanded_of_change_and (C:=C) (X:=fun w _=>laidMetH C.prog laid w) (fun _ _ _ hh h=>h.of_heap hh) own started noInit hfn witness ?_
 intro W base args ds gs before hval hW _ hsz hL _
 have hW':=hW
 obtain⟨p,q,hA,hV,rfl,hfz,hnd⟩:=hW
 have hlt:=hW'.lt
 rw[hsv]at hV
 obtain⟨rfl,rfl⟩:=trodVars_none hV
 simp only[List.append_nil]at hW' hlt
 have hlen:ds.length=fn.params.size:=by
  have: ∀{ts:List TypeId} {vs:List Value} {ds:List (DataW H)} {ps:List MemPlace},DataW.TrodAll enc C.prog W 0 (fun _=>true) true ts vs ds ps→ds.length=ts.length:=by
   intro ts
   induction ts with
   |nil=>intro vs ds ps h;obtain⟨_,rfl,_⟩:=trodAll_nil h;rfl
   |cons t ts ih=>intro vs ds ps h;obtain⟨_,_,_,ds1,_,_,_,rfl,_,_,h2⟩:=trodAll_cons h;simp[ih h2]
  simpa using this hA
 have hc:=contract W base args ds p hval hA (fun j t d ht hd n hn=>by
  have:=List.all_eq_true.1 hsz n (by
   rw[List.append_nil]
   refine DataW.weights_mem_each (j:=j) (t:=t) ?_ hd n hn
   rw[List.getElem?_append_left (by exact(List.getElem?_eq_some_iff.1 ht).1)]
   exact ht)
  simpa using this) hL
 have hc':Calls C.prog f args W fun e w'=> ∃v,e=.returned v∧v=.bool true∧Ext W w':=by
  have:args.toList.toArray=args:=by simp
  rw[←this];exact hc
 refine hc'.mono fun e W' ⟨v,he,hv,hx⟩=>⟨v,he,?_⟩
 subst hv
 have hb:=hx.below
 refine⟨ds,[],p,[],p,[],hW',?_,?_,?_,hb.frame _,fun h=>by cases h⟩
 ·rw[List.append_nil,hsf ds hlen,hrt]
  exact trodAll_mk1 (shut_bool htb _)
 ·rw[List.append_nil,hsf ds hlen]
  exact Yc hl hb hps hA (fun x hx=>hlt x hx)
 ·rw[List.append_nil,hsf ds hlen,hsv]
  rfl
end
section
set_option maxRecDepth 8000
set_option maxHeartbeats 4000000
open Go.Proofs Go.RowKit
def kindsL:List Int:=[0,1,2,3,3,4]
theorem UE:kindsL.length=6:=rfl
def yJ (d:Dcl)(ty f:Int):Bool:=(decide (0≤ty)&&decide (ty≤((d.types.length:Nat):Int)-1))&&(decide (0≤f)&&decide (f≤(((d.types.getD ty.toNat default).fields.length:Nat):Int)-1))
def yn (d:Dcl)(ty f:Int):Fld:=if yJ d ty f=true then(d.types.getD ty.toNat default).fields.getD f.toNat default else⟨0,0,false,[]⟩
def xc (d:Dcl)(ty f op arg:Int):Int:=
 if(!yJ d ty f)=true then 8 else if(!(decide (1≤op)&&decide (op≤5))|| !decide (kindsL.getD op.toNat 0=(yn d ty f).kind))=true then 2
 else if(decide (op=1)&&decide (arg=0))=true then 1 else if(decide (op=5)&& !(decide (0≤arg)&&decide (arg≤(((yn d ty f).moves.length:Nat):Int)-1)))=true then 1 else 0
theorem Yx {d:Dcl}{ty f op arg:Int}(h:xc d ty f op arg=0):0≤ty∧ty<d.types.length∧Fits (d.types.getD ty.toNat default) f op arg:=by
 unfold xc at h
 split at h
 ·cases h
 rename_i h1
 split at h
 ·cases h
 rename_i h2
 split at h
 ·cases h
 rename_i h3
 split at h
 ·cases h
 rename_i h4
 have hB:yJ d ty f=true:=by simpa using h1
 have hz:yn d ty f=(d.types.getD ty.toNat default).fields.getD f.toNat default:=by unfold yn;rw[hB];rfl
 rw[hz]at h2 h4
 unfold yJ at hB
 simp only[Bool.and_eq_true,decide_eq_true_eq]at hB
 simp only[Bool.or_eq_true,Bool.not_eq_true',Bool.and_eq_false_iff,Bool.and_eq_true,decide_eq_true_eq,decide_eq_false_iff_not,not_or,Decidable.not_not,not_and]at h2 h3 h4
 refine⟨hB.1.1,by omega,⟨hB.2.1,by omega,?_⟩⟩
 have h5:op=1∨op=2∨op=3∨op=4∨op=5:=by omega
 have h6:=h2.2
 unfold xh
 rcases h5 with rfl|rfl|rfl|rfl|rfl
 ·exact .inl ⟨rfl,h6.symm⟩
 ·exact .inr (.inl ⟨rfl,h6.symm⟩)
 ·exact .inr (.inr (.inl ⟨.inl rfl,h6.symm⟩))
 ·exact .inr (.inr (.inl ⟨.inr rfl,h6.symm⟩))
 ·have:=h4 rfl
  exact .inr (.inr (.inr ⟨rfl,h6.symm,by omega,by omega⟩))
instance:Flat Mv:=⟨fun h=>h⟩
theorem Yt {G:Nat→Prop}{W w:World}{Rs:List HP}{x:Int}(hx:InR x){lo:Int}(hlo:InR lo){hi:Int}(hhi:InR hi)(hS0:Sep G W Rs w):Ret Tryz.prog 73 [.int .i64 (x),.int .i64 (lo),.int .i64 (hi)] w (fun r w'=>r=(.bool ((decide (lo≤x)&&decide (x≤hi))):Value)∧Sep G W Rs w'):=by
 refine zi (args:=[Iv x,Iv lo,Iv hi]) Tryz.func73 rfl rfl ?_
 refine za (R0 fun _=>st (aS (.bool false) (zd (za (zz kr (st (mV (Iv x) (st (mV (Iv lo) (st (xv (k:=.i64) (a:=x) (b:=lo) rfl rfl (st (mV (.bool (decide (lo≤x))) (stc (V:=Iv x) rfl rfl (fun d=>?_) ?_))))))))))))))
 have hl2:=tD d
 exact mV (Iv x) ⟨rfl,rfl⟩
 refine stc (V:=Iv hi) rfl rfl (fun e=>?_) ?_
 have hl4:=tD e
 exact mV (Iv hi) ⟨rfl,rfl⟩
 refine stc (V:=.bool (decide (x≤hi))) rfl rfl (fun c=>?_) ?_
 have hl6:=tD c
 exact Ju (k:=.i64) (a:=x) (b:=hi) (if_pos c) (if_pos c) ⟨rfl,rfl⟩
 refine st (zC (b:=decide (lo≤x)) (b':=decide (x≤hi)) rfl (fun hbp=>(if_pos hbp)) (st (aS (.bool ((decide (lo≤x))&&(decide (x≤hi)))) (zd (zj (zK Tryz.results73 (show _=(.bool ((decide (lo≤x))&&(decide (x≤hi))):Value)from rfl) ?_))))))
 refine⟨rfl,hS0⟩
theorem Ww {G:Nat→Prop}{W w:World}{Rs:List HP}{vl:Value}{l:List Mv}(hl:RdS W G vl l)(hS0:Sep G W Rs w):Ret Tryz.prog 88 [vl] w (fun r w'=> ∃(v:Value),r=(v:Value)∧Sep G W ((RowE (α:=Mv) own 136 v l)::Rs) w'):=by
 have hls:_*32≤_:=hl.small
 refine zi (args:=[vl]) Tryz.func88 rfl rfl ?_
 refine za (R0 fun _=>st (aS (Iz) (zd (za (za (R0 fun _=>st (mV vl (st (Zm (v:=vl) oR rfl hl.sl (zd ?_))))))))))
 cases i:Zd vl
 refine zg rfl (zl (za (R0 fun _=>st (zY (k:=4) (parts':=[]) (c:=#[]) oR Tryz.sizeOf136 Tryz.zeroValue136 dc rfl kr ?_))))
 intro o p j
 refine st (mV vl ?_)
 have d:Sep G W ((RowE (α:=Mv) own 136 (Iy p 0 0) ([]:List Mv))::Rs) o:=Sep.blkRow (src:=own) (l:=([]:List Mv)) (css:=[]) (hS0.new j) rfl trivial yqa
 have e:=d.r0
 have hr10s:_*32≤_:=e.2
 refine st (xY (src:=own) (bytes:=32) d zaY rfl rfl hl yqb rfl (hq':=fun _ _ h _ _=>Xn h) ?_)
 intro b q a
 have a:Sep G W ((RowE (α:=Mv) own 136 b l)::Rs) q:=a
 have f:=a.r0
 have hr11s:_*32≤_:=f.2
 refine st (aS b (zd (zj (zK pY (show _=(b:Value)from rfl) ?_))))
 refine⟨b,rfl,a⟩
 have m:=Yp hl.sl i
 refine zh rfl (za (R0 fun _=>st (aS (Iz) (zd (zj (zK pY (show _=((Iz):Value)from rfl) ?_))))))
 have g:Sep G W ((RowE (α:=Mv) own 136 (Iz) ([]:List Mv))::Rs) w:=hS0.rowNil own 136
 have n:l=[]:=List.length_eq_zero_iff.1 m
 subst n
 refine⟨(Iz),rfl,g⟩
theorem zaO {G:Nat→Prop}{W w:World}{Rs:List HP}{d:Dcl}{dd0:Value}(hdd0:RdS W G dd0 d.types){dd1:Value}(hdd1:RdS W G dd1 d.projs)(od:d.Ok){ty:Int}(hty:InR ty){f:Int}(hf:InR f)(hS0:Sep G W Rs w):Ret Tryz.prog 72 [.agg (d.cells dd0 dd1).toArray,.int .i64 (ty),.int .i64 (f)] w (fun r w'=> ∃(v:Value),r=(.tuple #[.agg ((yn d ty f).cells v).toArray,.bool ((yJ d ty f))]:Value)∧((yn d ty f).Ok)∧Sep G W ((RowE (α:=Mv) own 136 v ((yn d ty f).moves))::Rs) w'):=by
 let ag:=zI W (sb dd0) (so dd0+ty.toNat*1+0)
 let aE:=zI W (sb ag) (so ag+f.toNat*4+3)
 have hdd0s:_*24≤_:=hdd0.small
 have hdd1s:_*40≤_:=hdd1.small
 refine zi (args:=[.agg (d.cells dd0 dd1).toArray,Iv ty,Iv f]) Tryz.func72 rfl rfl ?_
 refine za (R0 fun _=>st (zN (v:=.agg (d.cells dd0 dd1).toArray) rfl ?_))
 intro w3 b2 aI
 refine st (zt nR ?_)
 intro w7 b6 aJ
 have ae:=(hS0.new aI).new aJ
 refine st (aS (.bool false) (zd (za (za (zz kr (st (mV (Iv ty) (st (yG rfl (st (lD dd0 pT rfl (zb (ae.b1) rfl) (st (zR (n:=d.types.length) nT rfl hdd0.sl ?_)))))))))))))
 have af:InR (((d.types.length:Nat):Int)-1):=by omega
 refine st (YH (r:=((d.types.length:Nat):Int)-1) (k:=.i64) (a:=((d.types.length:Nat):Int)) (b:=1) rfl rfl (zM af) (st (cL pR (Yt (x:=ty) (lo:=0) (hi:=((d.types.length:Nat):Int)-1) hty dc af ae) ?_)))
 rintro _ w10 ⟨rfl,e⟩
 refine st (yF (a:=(decide (0≤ty)&&decide (ty≤(((d.types.length:Nat):Int)-1)))) rfl (st (mV (.bool (!(decide (0≤ty)&&decide (ty≤(((d.types.length:Nat):Int)-1))))) (stc (V:=Iv f) rfl rfl (fun ah=>?_) ?_))))
 have ai:=ah
 try simp only[ze]at ai
 exact mV (Iv f) ⟨rfl,rfl⟩
 refine stc (V:=Ix b2 0) rfl rfl (fun aj=>?_) ?_
 have ak:=aj
 try simp only[ze]at ak
 exact yG rfl ⟨rfl,rfl⟩
 refine stc (V:=dd0) rfl rfl (fun F=>?_) ?_
 have al:=F
 try simp only[ze]at al
 exact lD dd0 pT (if_pos F) (zb (e.b1) rfl) ⟨rfl,rfl⟩
 refine stc (V:=Iv ty) rfl rfl (fun am=>?_) ?_
 have an:=am
 try simp only[ze]at an
 exact mV (Iv ty) ⟨rfl,rfl⟩
 refine stc (V:=Ix (sb dd0) (so dd0+ty.toNat*1)) rfl rfl (fun t=>?_) ?_
 have ao:=t
 try simp only[ze]at ao
 have hi22:ty.toNat<d.types.length:=bo
 exact zA (k:=1) (i:=ty) nT qT (if_pos t) hdd0.sl (if_pos t) ⟨by omega,by omega⟩ ⟨rfl,rfl⟩
 refine stc (V:=Ix (sb dd0) (so dd0+ty.toNat*1)) rfl rfl (fun H=>?_) ?_
 have ap:=H
 try simp only[ze]at ap
 exact xe (if_pos H) ⟨rfl,rfl⟩
 refine stc (V:=ag) rfl rfl (fun I=>?_) ?_
 have aq:=I
 try simp only[ze]at aq
 have J:ty.toNat<d.types.length:=bo
 obtain⟨X,D,hoke27⟩:=hdd0.typD J
 have hsm29:((d.types.getD ty.toNat default).fields).length*48≤140737488355328:=D.small
 have Y:=e.cells X (hdd0.foot (ne_of_lt J))
 exact lD ag kR (if_pos I) (Y.get (j:=0) rfl) ⟨rfl,rfl⟩
 refine stc (V:=Iw (((d.types.getD ty.toNat default).fields).length)) rfl rfl (fun K=>?_) ?_
 have ar:=K
 try simp only[ze]at ar
 have L:ty.toNat<d.types.length:=bo
 obtain⟨Z,o,hoke33⟩:=hdd0.typD L
 have hsm35:((d.types.getD ty.toNat default).fields).length*48≤140737488355328:=o.small
 have hcw36:=e.cells Z (hdd0.foot (ne_of_lt L))
 exact zR (n:=((d.types.getD ty.toNat default).fields).length) sT (if_pos K) o.sl ⟨rfl,rfl⟩
 refine stc (V:=Iv (((((d.types.getD ty.toNat default).fields).length:Nat):Int)-1)) rfl rfl (fun M=>?_) ?_
 have au:=M
 try simp only[ze]at au
 have N:ty.toNat<d.types.length:=bo
 obtain⟨aa,E,hoke39⟩:=hdd0.typD N
 have hsm41:((d.types.getD ty.toNat default).fields).length*48≤140737488355328:=E.small
 have hcw42:=e.cells aa (hdd0.foot (ne_of_lt N))
 have av:InR (((((d.types.getD ty.toNat default).fields).length:Nat):Int)-1):=by omega
 exact YH (r:=((((d.types.getD ty.toNat default).fields).length:Nat):Int)-1) (k:=.i64) (a:=((((d.types.getD ty.toNat default).fields).length:Nat):Int)) (b:=1) (if_pos M) rfl (zM av) ⟨rfl,rfl⟩
 cases u: !(decide (0≤ty)&&decide (ty≤(((d.types.length:Nat):Int)-1)))
 have hg44r:=u
 try simp only[ze]at u
 have y:ty.toNat<d.types.length:=bo
 obtain⟨C,g,hoke45⟩:=hdd0.typD y
 have hsm47:((d.types.getD ty.toNat default).fields).length*48≤140737488355328:=g.small
 have hcw48:=e.cells C (hdd0.foot (ne_of_lt y))
 refine sty rfl rfl (cL pR (Yt (x:=f) (lo:=0) (hi:=((((d.types.getD ty.toNat default).fields).length:Nat):Int)-1) hf dc om e) ?_)
 rintro _ w49 ⟨rfl,h⟩
 refine sty rfl rfl (yF (a:=(decide (0≤f)&&decide (f≤(((((d.types.getD ty.toNat default).fields).length:Nat):Int)-1)))) rfl (st (zU (v:=.bool (!(decide (0≤f)&&decide (f≤(((((d.types.getD ty.toNat default).fields).length:Nat):Int)-1))))) rfl rfl (zd ?_))))
 cases O: !(decide (0≤f)&&decide (f≤(((((d.types.getD ty.toNat default).fields).length:Nat):Int)-1)))
 try simp only[ze]at O
 refine zg rfl (zl (za (R0 fun _=>st (yG rfl (st (lD dd0 pT rfl (zb (h.b1) rfl) (st (mV (Iv ty) ?_))))))))
 have hi52:ty.toNat<d.types.length:=bo
 refine st (zA (k:=1) (i:=ty) nT qT rfl hdd0.sl rfl ⟨by omega,by omega⟩ (st (xe rfl ?_)))
 have ab:=h.cells C (hdd0.foot (ne_of_lt y))
 refine st (lD ag kR rfl (ab.get (j:=0) rfl) (st (mV (Iv f) ?_)))
 have hi55:f.toNat<((d.types.getD ty.toNat default).fields).length:=bo
 refine st (zA (k:=4) (i:=f) sT lT rfl g.sl rfl ⟨by omega,by omega⟩ ?_)
 have P:f.toNat<((d.types.getD ty.toNat default).fields).length:=bo
 obtain⟨ac,m,p⟩:=g.fldD P
 have hsm58:((((d.types.getD ty.toNat default).fields).getD f.toNat default).moves).length*32≤140737488355328:=m.small
 have ad:=h.cells ac (g.foot (ne_of_lt P))
 refine st (zf (k:=4) tT lT rfl rfl ad (st (zt nR ?_)))
 intro w62 b61 aw
 have Q:=h.new aw
 refine stn (zq (v:=.agg ((((d.types.getD ty.toNat default).fields).getD f.toNat default).cells aE).toArray) (c':=((((d.types.getD ty.toNat default).fields).getD f.toNat default).cells aE).toArray) lT rfl rfl (Q.b0) (ye ⟨rfl,rfl,rfl,m.sl.one,trivial⟩) yqc rfl ?_)
 intro w64 ax
 have R:=Q.pt0 ax
 refine zd (za (R0 fun _=>st (yL rfl (st (lD aE qY rfl (zb (R.b0) rfl) (st (cL Tryz.call88 (Ww (l:=(((d.types.getD ty.toNat default).fields).getD f.toNat default).moves) (vl:=aE) m R) ?_)))))))
 rintro q w68 ⟨_,rfl,z⟩
 have A:=z.r0
 have hr70s:_*32≤_:=A.2
 refine st (yL rfl (stn (yz (v:=q) (c:=[Iv ((((d.types.getD ty.toNat default).fields).getD f.toNat default).kind),Iv ((((d.types.getD ty.toNat default).fields).getD f.toNat default).policy),.bool ((((d.types.getD ty.toNat default).fields).getD f.toNat default).floor),aE]) (c':=[Iv ((((d.types.getD ty.toNat default).fields).getD f.toNat default).kind),Iv ((((d.types.getD ty.toNat default).fields).getD f.toNat default).policy),.bool ((((d.types.getD ty.toNat default).fields).getD f.toNat default).floor),q]) Tryz.sizeOf108 rfl rfl (z.b1) A.1.one rfl rfl ?_)))
 intro w71 ay
 have az:Fld.Ok (((d.types.getD ty.toNat default).fields).getD f.toNat default):=⟨(show InR ((((d.types.getD ty.toNat default).fields).getD f.toNat default).kind)from p.kind),(show InR ((((d.types.getD ty.toNat default).fields).getD f.toNat default).policy)from p.policy)⟩
 have B:=z.pt1 ay
 refine zd (za (R0 fun _=>st (zf (k:=4) tT lT rfl rfl (CellsAt.all (B.b1)) (stn (zq (v:=.agg ((((d.types.getD ty.toNat default).fields).getD f.toNat default).cells q).toArray) (c':=((((d.types.getD ty.toNat default).fields).getD f.toNat default).cells q).toArray) lT rfl rfl (B.b2) (ye ⟨rfl,rfl,rfl,A.1.one,trivial⟩) yqc rfl ?_)))))
 intro w75 aA
 have S:=B.pt2 aA
 refine st (aS (.bool true) (zd (zj (ZJ (b:=b6) lY tT lT rfl rfl (CellsAt.all (S.b2)) (show _=(.bool true:Value)from rfl) ?_))))
 have s:yJ d ty f=true:=by unfold yJ;simp only[Bool.and_eq_true,decide_eq_true_eq];omega
 have hz:yn d ty f=(((d.types.getD ty.toNat default).fields).getD f.toNat default):=by unfold yn;rw[s];rfl
 rw[hz,s]
 refine⟨q,rfl,?_,(S.s4_a)⟩
 exact az
 try simp only[ze]at O
 refine zh rfl (za (R0 fun _=>?_))
 have aB:Fld.Ok (⟨0,0,false,[]⟩:Fld):=⟨(show InR (0)from dc),(show InR (0)from dc)⟩
 refine st (zP (parts':=[]) (v:=.agg ((⟨0,0,false,[]⟩:Fld).cells (Iz)).toArray) rfl (by simp+zetaDelta [Instr.build,Instr.fill,Ev.cells,go_sem,Mv.cells,Fld.cells,Typ.cells,Prj.cells,Dcl.cells,Cel.cells,AskR.cells]) (stn (zq (v:=.agg ((⟨0,0,false,[]⟩:Fld).cells (Iz)).toArray) (c':=((⟨0,0,false,[]⟩:Fld).cells (Iz)).toArray) lT rfl rfl (h.b0) (ye ⟨rfl,rfl,rfl,rfl,trivial⟩) yqc rfl ?_)))
 intro w80 aC
 have T:=h.pt0 aC
 refine st (aS (.bool false) (zd (zj (ZJ (b:=b6) lY tT lT rfl rfl (CellsAt.all (T.b0)) (show _=(.bool false:Value)from rfl) ?_))))
 have aD:Sep _ _ ((RowE (α:=Mv) own 136 (Iz) ([]:List Mv))::_) _:=T.rowNil own 136
 have s:yJ d ty f=false:=by unfold yJ;rw[Bool.eq_false_iff];intro h9;simp only[Bool.and_eq_true,decide_eq_true_eq]at h9;omega
 have hz:yn d ty f=(⟨0,0,false,[]⟩:Fld):=by unfold yn;rw[s];rfl
 rw[hz,s]
 refine⟨(Iz),rfl,?_,(aD.s3_a)⟩
 exact aB
 try simp only[ze]at u
 refine stx rfl rfl (stx rfl rfl (st (yj (v:=.bool true) rfl rfl (zd (zh rfl (za (R0 fun _=>?_)))))))
 have aF:Fld.Ok (⟨0,0,false,[]⟩:Fld):=⟨(show InR (0)from dc),(show InR (0)from dc)⟩
 refine st (zP (parts':=[]) (v:=.agg ((⟨0,0,false,[]⟩:Fld).cells (Iz)).toArray) rfl (by simp+zetaDelta [Instr.build,Instr.fill,Ev.cells,go_sem,Mv.cells,Fld.cells,Typ.cells,Prj.cells,Dcl.cells,Cel.cells,AskR.cells]) (stn (zq (v:=.agg ((⟨0,0,false,[]⟩:Fld).cells (Iz)).toArray) (c':=((⟨0,0,false,[]⟩:Fld).cells (Iz)).toArray) lT rfl rfl (e.b0) (ye ⟨rfl,rfl,rfl,rfl,trivial⟩) yqc rfl ?_)))
 intro w86 aG
 have U:=e.pt0 aG
 refine st (aS (.bool false) (zd (zj (ZJ (b:=b6) lY tT lT rfl rfl (CellsAt.all (U.b0)) (show _=(.bool false:Value)from rfl) ?_))))
 have aH:Sep _ _ ((RowE (α:=Mv) own 136 (Iz) ([]:List Mv))::_) _:=U.rowNil own 136
 have s:yJ d ty f=false:=by unfold yJ;rw[Bool.eq_false_iff];intro h9;simp only[Bool.and_eq_true,decide_eq_true_eq]at h9;omega
 have hz:yn d ty f=(⟨0,0,false,[]⟩:Fld):=by unfold yn;rw[s];rfl
 rw[hz,s]
 refine⟨(Iz),rfl,?_,(aH.s3_a)⟩
 exact aF
theorem JW {G:Nat→Prop}{W w:World}{Rs:List HP}{d:Dcl}{dd0:Value}(hdd0:RdS W G dd0 d.types){dd1:Value}(hdd1:RdS W G dd1 d.projs)(od:d.Ok){ty:Int}(hty:InR ty){f:Int}(hf:InR f){op:Int}(hop:InR op){arg:Int}(harg:InR arg)(hKN:RdS W G (.slice (some ⟨0,0,none⟩) 6 6) kindsL)(hS0:Sep G W Rs w):Ret Tryz.prog 51 [.agg (d.cells dd0 dd1).toArray,.int .i64 (ty),.int .i64 (f),.int .i64 (op),.int .i64 (arg)] w (fun r w'=>r=(.int .i64 (xc d ty f op arg):Value)∧Sep G W Rs w'):=by
 have hdd0s:_*24≤_:=hdd0.small
 have hdd1s:_*40≤_:=hdd1.small
 have hKNs:_*8≤_:=hKN.small
 refine zi (args:=[.agg (d.cells dd0 dd1).toArray,Iv ty,Iv f,Iv op,Iv arg]) Tryz.func51 rfl rfl ?_
 refine za (R0 fun _=>st (zN (v:=.agg (d.cells dd0 dd1).toArray) rfl ?_))
 intro w3 b2 aL
 have aB:=hS0.new aL
 refine st (aS (Iv 0) (zd (za (R0 fun _=>st (zf (k:=2) rR sR rfl rfl (CellsAt.all (aB.b0)) (st (mV (Iv ty) (st (mV (Iv f) (st (cL Tryz.call72 (zaO (d:=d) (ty:=ty) (f:=f) hdd0 hdd1 od hty hf aB) ?_)))))))))))
 rintro _ w7 ⟨z,rfl,hfok6,aC⟩
 let aG:=(yn d ty f).cells z
 have X:=aC.r0
 have hr9s:_*32≤_:=X.2
 refine st (mV (.tuple #[.agg aG.toArray,.bool ((yJ d ty f))]) (st (zk (vs:=[.agg aG.toArray,.bool ((yJ d ty f))]) (i:=0) (v:=.agg aG.toArray) rfl rfl (st (zk (vs:=[.agg aG.toArray,.bool ((yJ d ty f))]) (i:=1) (v:=.bool ((yJ d ty f))) rfl rfl (st (zt nR ?_)))))))
 intro w12 K aE
 have Y:=aC.new aE
 refine stn (zq (v:=.agg aG.toArray) (c':=aG.toArray) lT rfl rfl (Y.b0) (ye ⟨rfl,rfl,rfl,X.1.one,trivial⟩) yqc rfl ?_)
 intro w14 aF
 have Z:=Y.pt0 aF
 refine st (aS (.bool ((yJ d ty f))) (zd (za (zx (za (R0 fun _=>st (mV (.bool ((yJ d ty f))) (st (yF (a:=(yJ d ty f)) rfl (st (aS (.bool (!(yJ d ty f))) (zd ?_))))))))))))
 cases I: !(yJ d ty f)
 have h:=I
 try simp only[ze]at I
 refine zg rfl (za ?_)
 refine WD4 ((fun TT aD=>WF [fun vals wq=>Sep G W (aD::TT) wq,fun vals wq=>(vals 1=(.bool ((decide (1≤op)&&decide (op≤5))):Value))∧Sep G W (aD::TT) wq]) ((RowE (α:=Mv) own 136 z ((yn d ty f).moves))::(Blk b2 (d.cells dd0 dd1).toArray 25)::Rs) (Blk K aG.toArray 110)) (AF [Vl 0 (Iv op),fun _=>True,Vl 2 (.bool (!(decide (1≤op)&&decide (op≤5)))),Vl 3 (.bool (!(decide (1≤op)&&decide (op≤5)))),Vl 4 (if(!(decide (1≤op)&&decide (op≤5)))=false then Iv op else undef),Vl 5 (if(!(decide (1≤op)&&decide (op≤5)))=false then Ix (sb (Iy 0 6 6)) (so (Iy 0 6 6)+op.toNat*1)else undef),Vl 6 (if(!(decide (1≤op)&&decide (op≤5)))=false then Iv ((kindsL.getD op.toNat 0))else undef),Vl 7 (if(!(decide (1≤op)&&decide (op≤5)))=false then Ix K 0 else undef),Vl 8 (if(!(decide (1≤op)&&decide (op≤5)))=false then Iv ((yn d ty f).kind)else undef),Vl 9 (if(!(decide (1≤op)&&decide (op≤5)))=false then .bool (!decide ((kindsL.getD op.toNat 0)=((yn d ty f).kind)))else undef),Vl 10 (.bool ((!(decide (1≤op)&&decide (op≤5)))||(!decide ((kindsL.getD op.toNat 0)=((yn d ty f).kind))))),Vl 11 (.bool ((!(decide (1≤op)&&decide (op≤5)))||(!decide ((kindsL.getD op.toNat 0)=((yn d ty f).kind)))))]) [[],[0],[0,1],[0,1,2],(rg 4),(rg 5),(rg 6),(rg 4),[0,1,2,3,7],(rg 9),(rg 10),(rg 11)] [1] [(0,0),(0,0),(1,1),(1,1),(1,1),(1,1),(1,1),(1,1),(1,1),(1,1),(1,1),(1,1)] Z ⟨fun _ _ _ _ _ _ _=>obl rfl (mV (Iv op) dR),?_,?_,fun _ _ _ _ _ _ ac=>obl rfl (zV (v:=.bool (!(decide (1≤op)&&decide (op≤5)))) (ac 2 dc) dR),?_,?_,?_,?_,?_,?_,fun _ _ _ _ _ _ L=>obl rfl (zp (b:= !(decide (1≤op)&&decide (op≤5))) (b':= !decide ((kindsL.getD op.toNat 0)=((yn d ty f).kind))) (L 3 dc) (fun hbp=>(Eq.trans (L 9 dc) (if_pos hbp))) dR),fun _ _ _ _ _ _ ad=>obl rfl (ya (v:=.bool ((!(decide (1≤op)&&decide (op≤5)))||(!decide ((kindsL.getD op.toNat 0)=((yn d ty f).kind))))) (ad 10 dc) dR),trivial⟩ ?_
 refine ob1 0 fun vals _ (aH:Sep _ _ _ _) aI=>(obl rfl ((zG (f:=73) (vals:=[Iv op,Iv 1,Iv 5]) (cap:=[]) rfl (yK ⟨(aI 0 dc),rfl,rfl,trivial⟩) pR (Yt (x:=op) (lo:=1) (hi:=5) om dc dc aH) ?_)))
 rintro _ w32 ⟨rfl,aJ⟩
 exact fun c e hv'=>⟨(zv e aJ),trivial⟩
 refine ob1 1 fun _ _ ae _=>?_
 obtain⟨A,hS142⟩:=ae
 exact obl rfl (yF (a:=(decide (1≤op)&&decide (op≤5))) A dR)
 refine fun _ _ _ _ _ _ af=>(zX rfl rfl (af 3 dc) (fun B=>?_) (fun B=>fun c e _=>⟨trivial,e.trans (if_neg B).symm⟩))
 have ag:=B
 try simp only[ze]at ag
 exact mV (Iv op) (fun c e _=>⟨rfl,e.trans (if_pos B).symm⟩)
 refine ob1 1 fun _ _ ah M=>?_
 obtain⟨A,hS165⟩:=ah
 refine zX rfl rfl (M 3 dc) (fun q=>?_) (fun q=>fun c e _=>⟨trivial,e.trans (if_neg q).symm⟩)
 have ai:=q
 try simp only[ze]at ai
 exact XY (b:=sb (Iy 0 6 6)) (o:=so (Iy 0 6 6)) (k:=1) (n:=6) (i:=op) (off:=op.toNat*1) rY kY rfl (Eq.trans (M 4 dc) (if_pos q)) om rfl (fun c e _=>⟨rfl,e.trans (if_pos q).symm⟩)
 refine ob1 1 fun _ _ aj N=>?_
 obtain⟨A,ak⟩:=aj
 refine zX rfl rfl (N 3 dc) (fun s=>?_) (fun s=>fun c e _=>⟨trivial,e.trans (if_neg s).symm⟩)
 have al:=s
 try simp only[ze]at al
 have O:op.toNat<kindsL.length:=(by first|omega|(rw[UE];omega))
 obtain⟨aa,hxe181⟩:=hKN.intD O
 have ab:=ak.cells aa (hKN.foot (ne_of_lt O))
 exact lD (Iv ((kindsL.getD op.toNat 0))) kT (Eq.trans (N 5 dc) (if_pos s)) (ab.get (j:=0) rfl) (fun c e _=>⟨rfl,e.trans (if_pos s).symm⟩)
 refine fun _ _ _ _ _ _ am=>(zX rfl rfl (am 3 dc) (fun C=>?_) (fun C=>fun c e _=>⟨trivial,e.trans (if_neg C).symm⟩))
 have an:=C
 try simp only[ze]at an
 exact xF rfl (fun c e _=>⟨rfl,e.trans (if_pos C).symm⟩)
 refine ob1 1 fun _ _ ao P=>?_
 obtain⟨A,ap⟩:=ao
 refine zX rfl rfl (P 3 dc) (fun t=>?_) (fun t=>fun c e _=>⟨trivial,e.trans (if_neg t).symm⟩)
 have aq:=t
 try simp only[ze]at aq
 exact lD (Iv ((yn d ty f).kind)) kT (Eq.trans (P 7 dc) (if_pos t)) (zb (ap.b0) rfl) (fun c e _=>⟨rfl,e.trans (if_pos t).symm⟩)
 refine ob1 1 fun _ _ ar J=>?_
 obtain⟨A,hS210⟩:=ar
 refine zX rfl rfl (J 3 dc) (fun m=>?_) (fun m=>fun c e _=>⟨trivial,e.trans (if_neg m).symm⟩)
 have au:=m
 try simp only[ze]at au
 exact yh (k:=.i64) (a:=(kindsL.getD op.toNat 0)) (b:=(yn d ty f).kind) (Eq.trans (J 6 dc) (if_pos m)) (Eq.trans (J 8 dc) (if_pos m)) (fun c e _=>⟨rfl,e.trans (if_pos m).symm⟩)
 intro vals w231 av aw
 obtain⟨A,u⟩:=av
 have aK:=aw 11 dc
 refine zZ (kv:=[(0,.agg (d.cells dd0 dd1).toArray),(1,Iv ty),(2,Iv f),(3,Iv op),(4,Iv arg),(5,Ix b2 0),(10,Iv 0),(14,.agg (d.cells dd0 dd1).toArray),(15,Iv ty),(16,Iv f),(17,.tuple #[.agg ((yn d ty f).cells z).toArray,.bool ((yJ d ty f))]),(13,.tuple #[.agg ((yn d ty f).cells z).toArray,.bool ((yJ d ty f))]),(18,.agg ((yn d ty f).cells z).toArray),(19,.bool ((yJ d ty f))),(11,Ix K 0),(12,.bool ((yJ d ty f))),(21,.bool ((yJ d ty f))),(22,.bool false),(20,.bool false),(23,.bool ((!(decide (1≤op)&&decide (op≤5)))||(!decide ((kindsL.getD op.toNat 0)=((yn d ty f).kind)))))]) ⟨rfl,rfl,rfl,rfl,rfl,rfl,rfl,rfl,rfl,rfl,rfl,rfl,rfl,rfl,rfl,rfl,rfl,rfl,rfl,(by exact aK),trivial⟩ (fun ρw231=>(zd ?_))
 cases D:(!(decide (1≤op)&&decide (op≤5)))||(!decide ((kindsL.getD op.toNat 0)=((yn d ty f).kind)))
 have g:=D
 try simp only[ze]at D
 refine zg rfl (za (za (zz kr (st (mV (Iv op) (st (yc (k:=.i64) (a:=op) (b:=1) rfl rfl (st (mV (.bool (decide (op=1))) (stc (V:=Iv arg) rfl rfl (fun ax=>?_) ?_))))))))))
 have hl238:=tD ax
 exact mV (Iv arg) ⟨rfl,rfl⟩
 refine stc (V:=.bool (decide (arg=0))) rfl rfl (fun Q=>?_) ?_
 have hl240:=tD Q
 exact yc (k:=.i64) (a:=arg) (b:=0) (if_pos Q) rfl ⟨rfl,rfl⟩
 refine st (zC (b:=decide (op=1)) (b':=decide (arg=0)) rfl (fun hbp=>(if_pos hbp)) (st (aS (.bool ((decide (op=1))&&(decide (arg=0)))) (zd ?_))))
 cases E:(decide (op=1))&&(decide (arg=0))
 have l:=E
 try simp only[ze]at E
 refine zg rfl (zz kr (st (mV (Iv op) (st (yc (k:=.i64) (a:=op) (b:=5) rfl rfl (st (mV (.bool (decide (op=5))) (stc (V:=Iv arg) rfl rfl (fun ay=>?_) ?_))))))))
 have hl243:=tD ay
 exact mV (Iv arg) ⟨rfl,rfl⟩
 refine stc (V:=Ix K 3) rfl rfl (fun az=>?_) ?_
 have hl245:=tD az
 exact yL rfl ⟨rfl,rfl⟩
 refine stc (V:=z) rfl rfl (fun R=>?_) ?_
 have hl247:=tD R
 exact lD z qY (if_pos R) (zb (u.b0) rfl) ⟨rfl,rfl⟩
 refine stc (V:=Iw (((yn d ty f).moves).length)) rfl rfl (fun S=>?_) ?_
 have hl249:=tD S
 exact zR (n:=((yn d ty f).moves).length) oR (if_pos S) X.1 ⟨rfl,rfl⟩
 refine stc (V:=Iv (((((yn d ty f).moves).length:Nat):Int)-1)) rfl rfl (fun T=>?_) ?_
 have hl251:=tD T
 have aA:InR (((((yn d ty f).moves).length:Nat):Int)-1):=by omega
 exact YH (r:=((((yn d ty f).moves).length:Nat):Int)-1) (k:=.i64) (a:=((((yn d ty f).moves).length:Nat):Int)) (b:=1) (if_pos T) rfl (zM aA) ⟨rfl,rfl⟩
 cases p:decide (op=5)
 have y:=p
 have p:=fD p
 refine stx rfl rfl (stx rfl rfl (st (zU (v:=.bool false) rfl rfl (st (aS (.bool false) (zd (zg rfl (zl (za (R0 fun _=>st (aS (Iv 0) (zd (zj (zK vT (show _=(Iv 0:Value)from rfl) ?_))))))))))))))
 refine⟨?_,(u.s3_)⟩
 unfold xc
 simp only[h,g,l,y,Bool.not_false,Bool.not_true,Bool.true_and,Bool.false_and,Bool.or_true,if_true,if_false,Bool.false_eq_true,↓reduceIte]
 have y:=p
 have p:=tD p
 refine sty rfl rfl (cL pR (Yt (x:=arg) (lo:=0) (hi:=((((yn d ty f).moves).length:Nat):Int)-1) harg dc om u) ?_)
 rintro _ w255 ⟨rfl,U⟩
 refine sty rfl rfl (yF (a:=(decide (0≤arg)&&decide (arg≤(((((yn d ty f).moves).length:Nat):Int)-1)))) rfl (st (yj (v:=.bool (!(decide (0≤arg)&&decide (arg≤(((((yn d ty f).moves).length:Nat):Int)-1))))) rfl rfl (st (aS (.bool (!(decide (0≤arg)&&decide (arg≤(((((yn d ty f).moves).length:Nat):Int)-1))))) (zd ?_))))))
 cases F: !(decide (0≤arg)&&decide (arg≤(((((yn d ty f).moves).length:Nat):Int)-1)))
 have H:=F
 try simp only[ze]at F
 refine zg rfl (zl (za (R0 fun _=>st (aS (Iv 0) (zd (zj (zK vT (show _=(Iv 0:Value)from rfl) ?_)))))))
 refine⟨?_,(U.s3_)⟩
 unfold xc
 simp only[h,g,l,y,H,Bool.not_false,Bool.not_true,Bool.true_and,Bool.false_and,Bool.or_true,if_true,if_false,Bool.false_eq_true,↓reduceIte]
 have H:=F
 try simp only[ze]at F
 refine zh rfl (za (R0 fun _=>st (aS (Iv 1) (zd (zj (zK vT (show _=(Iv 1:Value)from rfl) ?_))))))
 refine⟨?_,(U.s3_)⟩
 unfold xc
 simp only[h,g,l,y,H,Bool.not_false,Bool.not_true,Bool.true_and,Bool.false_and,Bool.or_true,if_true,if_false,Bool.false_eq_true,↓reduceIte]
 have l:=E
 try simp only[ze]at E
 refine zh rfl (zl (zh rfl (za (R0 fun _=>st (aS (Iv 1) (zd (zj (zK vT (show _=(Iv 1:Value)from rfl) ?_))))))))
 refine⟨?_,(u.s3_)⟩
 unfold xc
 simp only[h,g,l,Bool.not_false,Bool.not_true,Bool.true_and,Bool.false_and,Bool.or_true,if_true,if_false,Bool.false_eq_true,↓reduceIte]
 have g:=D
 try simp only[ze]at D
 refine zh rfl (za (R0 fun _=>st (aS (Iv 2) (zd (zj (zK vT (show _=(Iv 2:Value)from rfl) ?_))))))
 refine⟨?_,(u.s3_)⟩
 unfold xc
 simp only[h,g,Bool.not_false,Bool.not_true,Bool.true_and,Bool.false_and,Bool.or_true,if_true,if_false,Bool.false_eq_true,↓reduceIte]
 have h:=I
 try simp only[ze]at I
 refine zh rfl (za (R0 fun _=>st (aS (Iv 8) (zd (zj (zK vT (show _=(Iv 8:Value)from rfl) ?_))))))
 refine⟨?_,(Z.s3_)⟩
 unfold xc
 simp only[h,Bool.not_false,Bool.not_true,Bool.true_and,Bool.false_and,Bool.or_true,if_true,if_false,Bool.false_eq_true,↓reduceIte]
end
section
set_option maxRecDepth 100000
open Go.ChangeShapes Go.WideShapes Go.ChangeAt Go.RowKit
theorem opI:yZ Tryz.prog 3 Int:=QK mY
theorem opB:yZ Tryz.prog 4 Bool:=UJ Tryz.underlying4
theorem opId:yZ Tryz.prog 38 (Int×Int):=Uq Tryz.underlying38 (by kernel_rfl) rfl rfl rfl rfl (by kernel_rfl) (by kernel_rfl) opI opI
theorem zaW {α:Type}{l:List α}(h:l.length=4): ∃a0 a1 a2 a3,l=[a0,a1,a2,a3]:=by
 match l,h with
 |[a0,a1,a2,a3],_=>exact⟨a0,a1,a2,a3,rfl⟩
theorem op_Mv:yZ Tryz.prog 136 Mv:=by
 intro H enc w fuel cs x h hx
 obtain⟨_,_,_,_,hl,_⟩:=DataW.trod_struct lR h
 obtain⟨c0,c1,c2,c3,rfl⟩:=zaW (hl.trans (by kernel_rfl))
 obtain⟨m0,e0,r0⟩:=zH (α:=Int) (i:=0) lR h hx rfl (by kernel_rfl) opI
 obtain rfl:c0=.int .i64 m0:=List.cons.inj e0 |>.1
 obtain⟨m1,e1,r1⟩:=zH (α:=Int) (i:=1) lR h hx rfl (by kernel_rfl) opI
 obtain rfl:c1=.int .i64 m1:=List.cons.inj e1 |>.1
 obtain⟨m2,e2,r2⟩:=zH (α:=Int) (i:=2) lR h hx rfl (by kernel_rfl) opI
 obtain rfl:c2=.int .i64 m2:=List.cons.inj e2 |>.1
 obtain⟨m3,e3,r3⟩:=zH (α:=Int) (i:=3) lR h hx rfl (by kernel_rfl) opI
 obtain rfl:c3=.int .i64 m3:=List.cons.inj e3 |>.1
 exact⟨⟨m0,m1,m2,m3⟩,rfl,⟨r0,r1,r2,r3⟩⟩
theorem zbm:yZ Tryz.prog 108 (List Mv):=xB oR op_Mv (by kernel_rfl) (by kernel_rfl)
theorem zbw:yZ Tryz.prog 110 Fld:=by
 intro H enc w fuel cs x h hx
 obtain⟨_,_,_,_,hl,_⟩:=DataW.trod_struct mR h
 obtain⟨c0,c1,c2,c3,rfl⟩:=zaW (hl.trans (by kernel_rfl))
 obtain⟨m0,e0,r0⟩:=zH (α:=Int) (i:=0) mR h hx rfl (by kernel_rfl) opI
 obtain rfl:c0=.int .i64 m0:=List.cons.inj e0 |>.1
 obtain⟨m1,e1,r1⟩:=zH (α:=Int) (i:=1) mR h hx rfl (by kernel_rfl) opI
 obtain rfl:c1=.int .i64 m1:=List.cons.inj e1 |>.1
 obtain⟨m2,e2⟩:=zH (α:=Bool) (i:=2) mR h hx rfl (by kernel_rfl) opB
 obtain rfl:c2=.bool m2:=List.cons.inj e2 |>.1
 obtain⟨l3,v3,e3,r3⟩:=zH (α:=List Mv) (i:=3) mR h hx rfl (by kernel_rfl) zbm
 obtain rfl:c3=v3:=List.cons.inj e3 |>.1
 exact⟨⟨m0,m1,m2,l3⟩,c3,rfl,r3,⟨r0,r1⟩⟩
theorem zax:yZ Tryz.prog 51 (List Fld):=xB sT zbw (by kernel_rfl) (by kernel_rfl)
theorem lst_1 {α:Type}{l:List α}(h:l.length=1): ∃a0,l=[a0]:=by
 match l,h with
 |[a0],_=>exact⟨a0,rfl⟩
theorem zbk:yZ Tryz.prog 53 Typ:=by
 intro H enc w fuel cs x h hx
 obtain⟨_,_,_,_,hl,_⟩:=DataW.trod_struct sY h
 obtain⟨c0,rfl⟩:=lst_1 (hl.trans (by kernel_rfl))
 obtain⟨l0,v0,e0,r0⟩:=zH (α:=List Fld) (i:=0) sY h hx rfl (by kernel_rfl) zax
 obtain rfl:c0=v0:=List.cons.inj e0 |>.1
 exact⟨⟨l0⟩,c0,rfl,r0,⟨⟩⟩
theorem lst_5 {α:Type}{l:List α}(h:l.length=5): ∃a0 a1 a2 a3 a4,l=[a0,a1,a2,a3,a4]:=by
 match l,h with
 |[a0,a1,a2,a3,a4],_=>exact⟨a0,a1,a2,a3,a4,rfl⟩
theorem zbz:yZ Tryz.prog 115 Prj:=by
 intro H enc w fuel cs x h hx
 obtain⟨_,_,_,_,hl,_⟩:=DataW.trod_struct wT h
 obtain⟨c0,c1,c2,c3,c4,rfl⟩:=lst_5 (hl.trans (by kernel_rfl))
 obtain⟨m0,e0,r0⟩:=zH (α:=Int) (i:=0) wT h hx rfl (by kernel_rfl) opI
 obtain rfl:c0=.int .i64 m0:=List.cons.inj e0 |>.1
 obtain⟨m1,e1,r1⟩:=zH (α:=Int) (i:=1) wT h hx rfl (by kernel_rfl) opI
 obtain rfl:c1=.int .i64 m1:=List.cons.inj e1 |>.1
 obtain⟨m2,e2,r2⟩:=zH (α:=Int) (i:=2) wT h hx rfl (by kernel_rfl) opI
 obtain rfl:c2=.int .i64 m2:=List.cons.inj e2 |>.1
 obtain⟨m3,e3,r3⟩:=zH (α:=Int) (i:=3) wT h hx rfl (by kernel_rfl) opI
 obtain rfl:c3=.int .i64 m3:=List.cons.inj e3 |>.1
 obtain⟨m4,e4,r4⟩:=zH (α:=Int) (i:=4) wT h hx rfl (by kernel_rfl) opI
 obtain rfl:c4=.int .i64 m4:=List.cons.inj e4 |>.1
 exact⟨⟨m0,m1,m2,m3,m4⟩,rfl,⟨r0,r1,r2,r3,r4⟩⟩
theorem zaB:yZ Tryz.prog 22 (List Typ):=xB nT zbk (by kernel_rfl) (by kernel_rfl)
theorem zaF:yZ Tryz.prog 23 (List Prj):=xB tR zbz (by kernel_rfl) (by kernel_rfl)
theorem lst_2 {α:Type}{l:List α}(h:l.length=2): ∃a0 a1,l=[a0,a1]:=by
 match l,h with
 |[a0,a1],_=>exact⟨a0,a1,rfl⟩
theorem zbf:yZ Tryz.prog 25 Dcl:=by
 intro H enc w fuel cs x h hx
 obtain⟨_,_,_,_,hl,_⟩:=DataW.trod_struct qR h
 obtain⟨c0,c1,rfl⟩:=lst_2 (hl.trans (by kernel_rfl))
 obtain⟨l0,v0,e0,r0⟩:=zH (α:=List Typ) (i:=0) qR h hx rfl (by kernel_rfl) zaB
 obtain rfl:c0=v0:=List.cons.inj e0 |>.1
 obtain⟨l1,v1,e1,r1⟩:=zH (α:=List Prj) (i:=1) qR h hx rfl (by kernel_rfl) zaF
 obtain rfl:c1=v1:=List.cons.inj e1 |>.1
 exact⟨⟨l0,l1⟩,c0,c1,rfl,r0,r1,⟨⟩⟩
theorem zaS:yZ Tryz.prog 39 (List Int):=xB uT opI (by kernel_rfl) (by kernel_rfl)
theorem zbt {α:Type}{l:List α}(h:l.length=10): ∃a0 a1 a2 a3 a4 a5 a6 a7 a8 a9,l=[a0,a1,a2,a3,a4,a5,a6,a7,a8,a9]:=by
 match l,h with
 |[a0,a1,a2,a3,a4,a5,a6,a7,a8,a9],_=>exact⟨a0,a1,a2,a3,a4,a5,a6,a7,a8,a9,rfl⟩
theorem op_Ev:yZ Tryz.prog 41 Ev:=by
 intro H enc w fuel cs x h hx
 obtain⟨_,_,_,_,hl,_⟩:=DataW.trod_struct mT h
 obtain⟨c0,c1,c2,c3,c4,c5,c6,c7,c8,c9,rfl⟩:=zbt (hl.trans (by kernel_rfl))
 obtain⟨⟨m0,m1⟩,e0,r0,r1⟩:=zH (α:=Int×Int) (i:=0) mT h hx rfl (by kernel_rfl) opId
 obtain rfl:c0=.int .i64 m0:=List.cons.inj e0 |>.1
 obtain rfl:c1=.int .i64 m1:=List.cons.inj (List.cons.inj e0 |>.2) |>.1
 obtain⟨m2,e2,r2⟩:=zH (α:=Int) (i:=1) mT h hx rfl (by kernel_rfl) opI
 obtain rfl:c2=.int .i64 m2:=List.cons.inj e2 |>.1
 obtain⟨l3,v3,e3,r3⟩:=zH (α:=List Int) (i:=2) mT h hx rfl (by kernel_rfl) zaS
 obtain rfl:c3=v3:=List.cons.inj e3 |>.1
 obtain⟨m4,e4,r4⟩:=zH (α:=Int) (i:=3) mT h hx rfl (by kernel_rfl) opI
 obtain rfl:c4=.int .i64 m4:=List.cons.inj e4 |>.1
 obtain⟨m5,e5,r5⟩:=zH (α:=Int) (i:=4) mT h hx rfl (by kernel_rfl) opI
 obtain rfl:c5=.int .i64 m5:=List.cons.inj e5 |>.1
 obtain⟨m6,e6,r6⟩:=zH (α:=Int) (i:=5) mT h hx rfl (by kernel_rfl) opI
 obtain rfl:c6=.int .i64 m6:=List.cons.inj e6 |>.1
 obtain⟨m7,e7,r7⟩:=zH (α:=Int) (i:=6) mT h hx rfl (by kernel_rfl) opI
 obtain rfl:c7=.int .i64 m7:=List.cons.inj e7 |>.1
 obtain⟨m8,e8,r8⟩:=zH (α:=Int) (i:=7) mT h hx rfl (by kernel_rfl) opI
 obtain rfl:c8=.int .i64 m8:=List.cons.inj e8 |>.1
 obtain⟨m9,e9,r9⟩:=zH (α:=Int) (i:=8) mT h hx rfl (by kernel_rfl) opI
 obtain rfl:c9=.int .i64 m9:=List.cons.inj e9 |>.1
 exact⟨⟨m0,m1,m2,l3,m4,m5,m6,m7,m8,m9⟩,c3,rfl,r3,⟨r0,r1,r2,r4,r5,r6,r7,r8,r9⟩⟩
theorem lst_7 {α:Type}{l:List α}(h:l.length=7): ∃a0 a1 a2 a3 a4 a5 a6,l=[a0,a1,a2,a3,a4,a5,a6]:=by
 match l,h with
 |[a0,a1,a2,a3,a4,a5,a6],_=>exact⟨a0,a1,a2,a3,a4,a5,a6,rfl⟩
theorem zbN:yZ Tryz.prog 28 Cmd:=by
 intro H enc w fuel cs x h hx
 obtain⟨_,_,_,_,hl,_⟩:=DataW.trod_struct oT h
 obtain⟨c0,c1,c2,c3,c4,c5,c6,rfl⟩:=lst_7 (hl.trans (by kernel_rfl))
 obtain⟨m0,e0,r0⟩:=zH (α:=Int) (i:=0) oT h hx rfl (by kernel_rfl) opI
 obtain rfl:c0=.int .i64 m0:=List.cons.inj e0 |>.1
 obtain⟨m1,e1,r1⟩:=zH (α:=Int) (i:=1) oT h hx rfl (by kernel_rfl) opI
 obtain rfl:c1=.int .i64 m1:=List.cons.inj e1 |>.1
 obtain⟨m2,e2,r2⟩:=zH (α:=Int) (i:=2) oT h hx rfl (by kernel_rfl) opI
 obtain rfl:c2=.int .i64 m2:=List.cons.inj e2 |>.1
 obtain⟨m3,e3,r3⟩:=zH (α:=Int) (i:=3) oT h hx rfl (by kernel_rfl) opI
 obtain rfl:c3=.int .i64 m3:=List.cons.inj e3 |>.1
 obtain⟨m4,e4,r4⟩:=zH (α:=Int) (i:=4) oT h hx rfl (by kernel_rfl) opI
 obtain rfl:c4=.int .i64 m4:=List.cons.inj e4 |>.1
 obtain⟨m5,e5,r5⟩:=zH (α:=Int) (i:=5) oT h hx rfl (by kernel_rfl) opI
 obtain rfl:c5=.int .i64 m5:=List.cons.inj e5 |>.1
 obtain⟨m6,e6,r6⟩:=zH (α:=Int) (i:=6) oT h hx rfl (by kernel_rfl) opI
 obtain rfl:c6=.int .i64 m6:=List.cons.inj e6 |>.1
 exact⟨⟨m0,m1,m2,m3,m4,m5,m6⟩,rfl,⟨r0,r1,r2,r3,r4,r5,r6⟩⟩
theorem WT {H:Type}{enc:TypeId×Value→H}{W:World}{base:Nat}{v:Value}{d:DataW H}{ps:List MemPlace}(hval:Value.okWide Tryz.prog W .any base 25 v)(h:DataW.Trod enc Tryz.prog W 0 (fun _=>true) true 25 v d ps)(hx:ZB Tryz.prog 25 d): ∃(p:Dcl) (d1:Value) (d2:Value),v=.agg (p.cells d1 d2).toArray∧RdS W (xn W) d1 p.types∧RdS W (xn W) d2 p.projs∧p.Ok:=by
 obtain⟨cs,rfl,_⟩:=okWide_struct qR hval
 obtain⟨fuel,hf⟩:=h
 obtain⟨e,d1,d2,he,hd1,hd2,ho⟩:=zbf H enc W fuel _ _ hf hx
 refine⟨e,d1,d2,?_,hd1,hd2,ho⟩
 have:cs.toList=e.cells d1 d2:=he
 rw[←this]
theorem XC {H:Type}{enc:TypeId×Value→H}{W:World}{base:Nat}{v:Value}{d:DataW H}{ps:List MemPlace}(hval:Value.okWide Tryz.prog W .any base 3 v)(h:DataW.Trod enc Tryz.prog W 0 (fun _=>true) true 3 v d ps)(hx:ZB Tryz.prog 3 d): ∃n:Int,v=.int .i64 n∧InR n:=by
 obtain⟨n,rfl⟩:=okWide_int mY hval
 obtain⟨fuel,hf⟩:=h
 obtain⟨m,he,hr⟩:=opI H enc W fuel _ _ hf hx
 obtain rfl:n=m:=by
  have:=List.cons.inj he |>.1
  cases this;rfl
 exact⟨n,rfl,hr⟩
theorem zbx:yZ Tryz.prog 26 (List Ev):=xB tY op_Ev (by kernel_rfl) (by kernel_rfl)
theorem Ut {H:Type}{enc:TypeId×Value→H}{W:World}{base:Nat}{v:Value}{d:DataW H}{ps:List MemPlace}(hval:Value.okWide Tryz.prog W .any base 26 v)(h:DataW.Trod enc Tryz.prog W 0 (fun _=>true) true 26 v d ps)(hx:ZB Tryz.prog 26 d): ∃l:List Ev,RdS W (xn W) v l:=by
 obtain⟨a,len,cap,rfl⟩:=okWide_slice tY hval
 obtain⟨fuel,hf⟩:=h
 obtain⟨l,v,he,hr⟩:=zbx H enc W fuel _ _ hf hx
 obtain rfl:=List.cons.inj he |>.1
 exact⟨l,hr⟩
theorem WU {H:Type}{enc:TypeId×Value→H}{W:World}{base:Nat}{v:Value}{d:DataW H}{ps:List MemPlace}(hval:Value.okWide Tryz.prog W .any base 28 v)(h:DataW.Trod enc Tryz.prog W 0 (fun _=>true) true 28 v d ps)(hx:ZB Tryz.prog 28 d): ∃(p:Cmd),v=.agg (p.cells).toArray∧p.Ok:=by
 obtain⟨cs,rfl,_⟩:=okWide_struct oT hval
 obtain⟨fuel,hf⟩:=h
 obtain⟨e,he,ho⟩:=zbN H enc W fuel _ _ hf hx
 refine⟨e,?_,ho⟩
 have:cs.toList=e.cells:=he
 rw[←this]
theorem Tryz.own:ownKnob Tryz.prog.godebug=none:=by kernel_rfl
theorem Tryz.laidOut:laidOutB Tryz.prog=true:=by kernel_rfl
theorem Kg:Tryz.prog.globalNamed "quayside/schema.kinds" =some 0:=by kernel_rfl
theorem zbD:(Tryz.prog.globals[0]?).map (·.type)=some 139:=by kernel_rfl
theorem QO {W:World}(h:laidMetH Tryz.prog [("quayside/schema.kinds",Rows.laid_quayside_schema_kinds)] W):RdS W (xn W) (.slice (some ⟨0,0,none⟩) 6 6) kindsL:=by
 rw[MakeChecks.laidMetH_plain _ _ _ (by kernel_rfl)]at h
 exact zaR Kg (Lib.tabIs_of_head (k:=.i64) (zs:=kindsL) Kg zbD rY mY (by kernel_rfl) (by kernel_rfl) h) (by decide) (by decide)
theorem KI (os:Os)(args:Array Value):laidMetH Tryz.prog [("quayside/schema.kinds",Rows.laid_quayside_schema_kinds)] ((World.doorLaid Tryz.prog 14 os).forCall (fun _ _=>0) ⟨#[],args,[]⟩).memory:=
 laidMetH_of_parts3 (fuel:=8) (laidMet_of_run' 8 (by kernel_rfl) (by kernel_rfl)) (by kernel_rfl) (by kernel_rfl)
end
section
set_option maxRecDepth 8000
set_option maxHeartbeats 4000000
open Go.Proofs Go.RowKit
theorem zai {t:Typ}{c:List Cel}{f op arg:Int}(h:yX t c f op arg=0):xL (xh t f) c (yo c f) op arg=true:=by
 unfold yX at h
 split at h
 ·assumption
 ·cases h
end
section
open Go.RowKit Go.MapKept
structure KLaw (P:Program) (kt:TypeId) {κ:Type} [DecidableEq κ] (enc:κ→Value):Prop where
 inj: ∀{a b:κ},enc a=enc b→a=b
 desc: ∃d,P.underlying kt=some d∧ ∀a b,Instr.sameNow d (enc a) (enc b)=none
 check: ∀(w:World) (e:Bool) (k:κ),(Instr.checkKey e 10000 kt (enc k)).run P w=.ok () w
 eql: ∀(w:World) (a b:κ),(Op.equal kt (enc a) (enc b)).run P w=.ok (decide (a=b)) w
 stays: ∀k,Instr.sameBits 10000 (enc k) (enc k)=true
def yw {κ β:Type}[DecidableEq κ](L:List (κ×β))(k:κ):Option β:=(L.find? fun p=>decide (p.1=k)).map (·.2)
def WO {κ β:Type}[DecidableEq κ](L:List (κ×β))(k:κ)(x:β):List (κ×β):=match L.findIdx? fun p=>decide (p.1=k)with
 |some j=>L.set j (k,x)
 |none=>L++[(k,x)]
def VW {κ β:Type}[DecidableEq κ](L:List (κ×β))(k:κ)(z:β):List (κ×β):=match L.findIdx? fun p=>decide (p.1=k)with
 |some _=>L
 |none=>L++[(k,z)]
section
variable {P:Program}{kt:TypeId}{κ:Type}[DecidableEq κ]{enc:κ→Value}
theorem KLaw.ask (K:KLaw P kt enc)(k:κ)(w:World): ∀(es:List MapEntry) (i:Nat),(∀e∈es,∃q,e.key=enc q)→
 ((Instr.findAsking kt (enc k) es i).run P w=.ok none w∧ ∀e∈es,e.key≠enc k)∨ ∃j e,(Instr.findAsking kt (enc k) es i).run P w=.ok (some (i+j,e.val)) w∧es[j]? =some e∧e.key=enc k
 |[],i,_=>.inl ⟨rfl,by simp⟩
 |e::es,i,h=>by
  obtain⟨q,hq⟩:=h e (.head _)
  by_cases hk:k=q
  ·subst hk
   refine .inr ⟨0,e,?_,rfl,hq⟩
   simp[Instr.findAsking,hq,K.eql,go_sem]
  ·rcases KLaw.ask K k w es (i+1) (fun x hx=>h x (.tail _ hx))with⟨h1,h2⟩|⟨j,e',h1,h2,h3⟩
   ·refine .inl ⟨?_,fun x hx=>?_⟩
    ·simp[Instr.findAsking,hq,K.eql,hk,h1,go_sem]
    ·rcases List.mem_cons.1 hx with rfl|hx
     ·rw[hq];exact fun e=>hk (K.inj e).symm
     ·exact h2 x hx
   ·refine .inr ⟨j+1,e',?_,by simpa using h2,h3⟩
    have e9:i+1+j=i+(j+1):=by omega
    rw[e9]at h1
    simp[Instr.findAsking,hq,K.eql,hk,h1,go_sem]
theorem KLaw.find (K:KLaw P kt enc)(k:κ)(w:World)(es:List MapEntry)(h: ∀e∈es,∃q,e.key=enc q):
 ((Instr.findKey kt (enc k) es).run P w=.ok none w∧ ∀e∈es,e.key≠enc k)∨ ∃j e,(Instr.findKey kt (enc k) es).run P w=.ok (some (j,e.val)) w∧es[j]? =some e∧e.key=enc k:=by
 obtain⟨d,hd,hs⟩:=K.desc
 match es,h with
 |[],h=>exact .inl ⟨by simp[Instr.findKey,run_underlying hd,Instr.findNow,go_sem],by simp⟩
 |e::es,h=>
  obtain⟨q,hq⟩:=h e (.head _)
  have hn:Instr.findNow d (enc k) (e::es) 0=none:=by simp[Instr.findNow,hq,hs]
  have hr: ∀r,(Instr.findAsking kt (enc k) (e::es) 0).run P w=.ok r w→(Instr.findKey kt (enc k) (e::es)).run P w=.ok r w:=by
   intro r hr
   simp[Instr.findKey,run_underlying hd,hn,go_sem]
   exact hr
  rcases K.ask k w (e::es) 0 h with⟨h1,h2⟩|⟨j,e',h1,h2,h3⟩
  ·exact .inl ⟨hr _ h1,h2⟩
  ·exact .inr ⟨j,e',hr _ (by rw[h1,Nat.zero_add]),h2,h3⟩
theorem KLaw.keeps (K:KLaw P kt enc)(k:κ)(w:World):(Instr.keyThatStays (enc k) (enc k)).run P w=.ok (enc k) w:=by
 simp[Instr.keyThatStays,K.stays]
def EntsV (enc:κ→Value)(es:List MapEntry)(L:List (κ×Value)):Prop:=es.map (fun e=>(e.key,e.val))=L.map (fun p=>(enc p.1,p.2))
theorem EntsV.len {es:List MapEntry}{L:List (κ×Value)}(h:EntsV enc es L):es.length=L.length:=by have:=congrArg List.length h;simpa using this
theorem EntsV.at_ {es:List MapEntry}{L:List (κ×Value)}(h:EntsV enc es L){j:Nat}{e:MapEntry}(he:es[j]? =some e): ∃p,L[j]? =some p∧e.key=enc p.1∧e.val=p.2:=by
 have h1:(es.map (fun e=>(e.key,e.val)))[j]? =(L.map (fun p=>(enc p.1,p.2)))[j]? :=by rw[show es.map _=L.map _ from h]
 rw[List.getElem?_map,List.getElem?_map,he]at h1
 cases hp:L[j]? with
 |none=>rw[hp]at h1;cases h1
 |some p=>rw[hp]at h1;simp only[Option.map_some,Option.some.injEq,Prod.mk.injEq]at h1;exact⟨p,rfl,h1.1,h1.2⟩
theorem EntsV.keys {es:List MapEntry}{L:List (κ×Value)}(h:EntsV enc es L): ∀e∈es,∃q,e.key=enc q:=by
 intro e he
 obtain⟨j,hj,rfl⟩:=List.getElem_of_mem he
 obtain⟨p,_,h1,_⟩:=h.at_ (List.getElem?_eq_getElem hj)
 exact⟨p.1,h1⟩
theorem EntsV.nodup {es:List MapEntry}{L:List (κ×Value)}(h:EntsV enc es L)(hp:(es.map (·.key)).Nodup):(L.map (·.1)).Nodup:=by
 have h1:(es.map (·.key))=(L.map (·.1)).map enc:=by
  have:=congrArg (List.map Prod.fst) h
  simpa[Function.comp_def]using this
 have h2:((L.map (·.1)).map enc).Nodup:=by rw[←h1];exact hp
 exact(List.pairwise_map.1 h2).imp (fun hne e=>hne (by rw[e]))
theorem EntsV.none {es:List MapEntry}{L:List (κ×Value)}(h:EntsV enc es L){k:κ}(hk: ∀e∈es,e.key≠enc k):(L.findIdx? fun p=>decide (p.1=k))=none∧yw L k=none:=by
 have key: ∀p∈L,¬p.1=k:=by
  intro p hp e
  obtain⟨j,hj,rfl⟩:=List.getElem_of_mem hp
  have hje:j<es.length:=by rw[h.len];exact hj
  obtain⟨q,h1,h2,_⟩:=h.at_ (List.getElem?_eq_getElem hje)
  rw[List.getElem?_eq_getElem hj]at h1
  cases h1
  exact hk _ (List.getElem_mem hje) (by rw[h2,e])
 refine⟨by rw[List.findIdx?_eq_none_iff];intro p hp;simpa using key p hp,?_⟩
 unfold yw
 rw[Option.map_eq_none_iff,List.find?_eq_none]
 intro p hp
 simpa using key p hp
theorem EntsV.some {es:List MapEntry}{L:List (κ×Value)}(h:EntsV enc es L)(hi: ∀{a b:κ},enc a=enc b→a=b)(hp:(es.map (·.key)).Nodup){k:κ}{j:Nat}{e:MapEntry}(he:es[j]? =some e)(hk:e.key=enc k):
 j<L.length∧(L.findIdx? fun p=>decide (p.1=k))=some j∧yw L k=some e.val:=by
 obtain⟨p,h1,h2,h3⟩:=h.at_ he
 have hjl:=(List.getElem?_eq_some_iff.1 h1).1
 have hpe:L[j]=p:=(List.getElem?_eq_some_iff.1 h1).2
 have hpk:p.1=k:=hi (by rw[←h2,hk])
 have hn:=h.nodup hp
 have first: ∀i (hij:i<j),¬(L[i]'(by omega)).1=k:=fun i hij=>by
  have:=List.pairwise_iff_getElem.1 (List.pairwise_map.1 hn) i j (by omega) hjl hij
  intro e;exact this (by rw[e,hpe,hpk])
 refine⟨hjl,?_,?_⟩
 ·rw[List.findIdx?_eq_some_iff_getElem]
  exact⟨hjl,by simp[hpe,hpk],fun i hi=>by simpa using first i hi⟩
 ·unfold yw
  have:(L.find? fun p=>decide (p.1=k))=Option.some p:=by
   rw[List.find?_eq_some_iff_getElem]
   exact⟨by simp[hpk],j,hjl,hpe,fun i hi=>by simpa using first i hi⟩
  rw[this,Option.map_some,h3]
def IsMap (enc:κ→Value)(w:World)(m:Nat)(L:List (κ×Value)):Prop:= ∃es clock,w.heap[m]? =some (.map es clock)∧Stamped es clock∧EntsV enc es.toList L∧clock=es.size
def IsMapE (enc:κ→Value)(w:World)(m:Nat)(L:List (κ×Value))(j:Nat)(s:Int):Prop:= ∃es clock,w.heap[m]? =some (.map es clock)∧Stamped es clock∧EntsV enc es.toList L∧clock=es.size∧ ∃e,es[j]? =some e∧(e.born:Int)=s
theorem IsMapE.is {w:World}{m j:Nat}{s:Int}{L:List (κ×Value)}(h:IsMapE enc w m L j s):IsMap enc w m L:=by obtain⟨es,c,h1,h2,h3,h4,_⟩:=h;exact⟨es,c,h1,h2,h3,h4⟩
theorem IsMap.lt {w:World}{m:Nat}{L:List (κ×Value)}(h:IsMap enc w m L):m<w.heap.size:=by obtain⟨es,c,hb,_⟩:=h;exact yS hb
theorem IsMap.nodup {w:World}{m:Nat}{L:List (κ×Value)}(h:IsMap enc w m L):(L.map (·.1)).Nodup:=by
 obtain⟨es,c,hb,hs,he,_⟩:=h
 exact he.nodup hs.2.2
end
section
variable {P:Program}{d:Option Tmp}{ty:TypeId}{pos:String}{af:Array Edge}{gd:Option (Nat×Bool)}{σ:Env}{w:World}{K:Value→World→Prop}{κ:Type}[DecidableEq κ]{enc:κ→Value}{G:Nat→Prop}{W:World}{As:List HP}{m:Nat}{L:List (κ×Value)}
theorem ZP {m:Nat}{es es':Array MapEntry}{c c':Nat}(hb:w.heap[m]? =some (.map es c)):Chg (fun i=>i=m) w {w with heap:=w.heap.setIfInBounds m (.map es' c')}:=by
 refine⟨rfl,rfl,rfl,by simp,fun i hi hne=>(heap_set hb).2 i hne,?_,Nat.le_refl _⟩
 rintro i ⟨c,T,hc⟩
 have hne:i≠m:=fun e=>by subst e;rw[hb]at hc;cases hc
 exact⟨c,T,by rw[(heap_set hb).2 i hne];exact hc⟩
theorem XI {es:Array MapEntry}(h:EntsV enc es.toList L)(k:κ)(v:Value)(n:Nat):EntsV enc (es.push {key:=enc k,val:=v,born:=n}).toList (L++[(k,v)]):=by
 unfold EntsV at*
 rw[Array.toList_push,List.map_append,List.map_append,h]
 rfl
theorem YM {es:Array MapEntry}(h:EntsV enc es.toList L){k:κ}{v:Value}{j:Nat}{e:MapEntry}(he:es.toList[j]? =some e)(f:MapEntry→MapEntry)(hk:(f e).key=enc k)(hv:(f e).val=v):EntsV enc (es.modify j f).toList (L.set j (k,v)):=by
 unfold EntsV at*
 rw[Array.toList_modify,List.modify_eq_set,he]
 simp only[Option.map_some,Option.getD_some,List.map_set,h,hk,hv]
theorem Uu {t kt et:TypeId}{x y:Operand}{k:κ}{z:Value}(hK:KLaw P kt enc)(hU:P.underlying t=some (.map kt et))(hZ: ∀w,(zeroValue et).run P w=.ok z w)
 (hx:ev σ x=.map (some m)) (hy:ev σ y=enc k) (hm:IsMap enc w m L) (h:K ((yw L k).getD z) w):opV P ⟨d,.lookup t x y false,ty,pos,af,gd⟩ σ w K:=by
 obtain⟨es,clock,hb,hs,he,_⟩:=hm
 rcases hK.find k w es.toList he.keys with⟨h1,h2⟩|⟨j,e,h1,h2,h3⟩
 ·rw[(he.none h2).2]at h
  refine zW (v:=z) (w':=w) ?_ h
  simp[execOp,hx,hy,Instr.lookup,run_underlying hU,MapKept.run_getObj_map hb,hK.check,h1,hZ,go_sem]
 ·rw[(he.some hK.inj hs.2.2 h2 h3).2.2]at h
  refine zW (v:=e.val) (w':=w) ?_ h
  simp[execOp,hx,hy,Instr.lookup,run_underlying hU,MapKept.run_getObj_map hb,hK.check,h1,go_sem]
theorem YS {t kt et:TypeId}{x y:Operand}{k:κ}{z:Value}(hK:KLaw P kt enc)(hU:P.underlying t=some (.map kt et))(hZ: ∀w,(zeroValue et).run P w=.ok z w)
 (hx:ev σ x=.map (some m)) (hy:ev σ y=enc k) (hm:IsMap enc w m L) (h:K (.tuple #[(yw L k).getD z,.bool (yw L k).isSome]) w):opV P ⟨d,.lookup t x y true,ty,pos,af,gd⟩ σ w K:=by
 obtain⟨es,clock,hb,hs,he,_⟩:=hm
 rcases hK.find k w es.toList he.keys with⟨h1,h2⟩|⟨j,e,h1,h2,h3⟩
 ·rw[(he.none h2).2]at h
  refine zW (v:=.tuple #[z,.bool false]) (w':=w) ?_ h
  simp[execOp,hx,hy,Instr.lookup,run_underlying hU,MapKept.run_getObj_map hb,hK.check,h1,hZ,go_sem]
 ·rw[(he.some hK.inj hs.2.2 h2 h3).2.2]at h
  refine zW (v:=.tuple #[e.val,.bool true]) (w':=w) ?_ h
  simp[execOp,hx,hy,Instr.lookup,run_underlying hU,MapKept.run_getObj_map hb,hK.check,h1,go_sem]
theorem XX {t kt et:TypeId}{x y z:Operand}{k:κ}{v:Value}(hK:KLaw P kt enc)(hU:P.underlying t=some (.map kt et))(hx:ev σ x=.map (some m))(hy:ev σ y=enc k)(hz:ev σ z=v)(hm:IsMap enc w m L)
 (h: ∀w1,IsMap enc w1 m (WO L k v)→Chg (fun i=>i=m) w w1→K undef w1):opV P ⟨d,.mapUpdate t x y z,ty,pos,af,gd⟩ σ w K:=by
 obtain⟨es,clock,hb,hs,he,hcl⟩:=hm
 rcases hK.find k w es.toList he.keys with⟨h1,h2⟩|⟨j,e,h1,h2,h3⟩
 ·refine ZZ (w':={w with heap:=w.heap.setIfInBounds m (.map (es.push {key:=enc k,val:=v,born:=clock}) (clock+1))}) ?_ (h _ ?_ (ZP hb))
  ·simp[execOp,hx,hy,hz,Instr.mapUpdate,run_underlying hU,MapKept.run_getObj_map hb,hK.check,h1,MapKept.run_setObj_map _ hb,go_sem]
  ·unfold WO
   rw[(he.none h2).1]
   exact⟨_,_,(heap_set hb).1,stamped_push hs h2,XI he k v clock,by simp[hcl]⟩
 ·have hja:es[j]? =some e:=by simpa using h2
  obtain⟨hjl,hfi,_⟩:=he.some hK.inj hs.2.2 h2 h3
  refine ZZ (w':={w with heap:=w.heap.setIfInBounds m (.map (es.modify j fun e=>{e with key:=enc k,val:=v}) clock)}) ?_ (h _ ?_ (ZP hb))
  ·simp[execOp,hx,hy,hz,Instr.mapUpdate,run_underlying hU,MapKept.run_getObj_map hb,hK.check,h1,hja,h3,hK.keeps,MapKept.run_setObj_map _ hb,go_sem]
  ·unfold WO
   rw[hfi]
   exact⟨_,_,(heap_set hb).1,stamped_modify hs _ _ (fun _ _=>rfl) (fun e' _ he'=>by rw[hja]at he';cases he';exact h3.symm),YM he h2 _ rfl rfl,by simp[hcl]⟩
theorem WX {t kt et:TypeId}{x y:Operand}{k:κ}{z:Value}(hK:KLaw P kt enc)(hU:P.underlying t=some (.map kt et))(hZ: ∀w,(zeroValue et).run P w=.ok z w)(hx:ev σ x=.map (some m))(hy:ev σ y=enc k)(hm:IsMap enc w m L)
 (h: ∀w1 j s,IsMapE enc w1 m (VW L k z) j s→(∀v,(VW L k z).set j (k,v)=WO L k v)→(∃p,(VW L k z)[j]? =some p∧p.1=k)→Chg (fun i=>i=m) w w1→K (.tuple #[(yw L k).getD z,.int .i64 s]) w1):opV P ⟨d,.mapEntry t x y,ty,pos,af,gd⟩ σ w K:=by
 obtain⟨es,clock,hb,hs,he,hcl⟩:=hm
 rcases hK.find k w es.toList he.keys with⟨h1,h2⟩|⟨j,e,h1,h2,h3⟩
 ·have h0:=h {w with heap:=w.heap.setIfInBounds m (.map (es.push {key:=enc k,val:=z,born:=clock}) (clock+1))} es.size (clock:Int)
  unfold VW WO at h0
  rw[(he.none h2).1,(he.none h2).2]at h0
  refine zW (v:=.tuple #[z,.int .i64 (clock:Int)]) (w':={w with heap:=w.heap.setIfInBounds m (.map (es.push {key:=enc k,val:=z,born:=clock}) (clock+1))}) ?_ (h0 ⟨_,_,(heap_set hb).1,stamped_push hs h2,XI he k z clock,by simp[hcl],{key:=enc k,val:=z,born:=clock},by simp,rfl⟩ ?_ ?_ (ZP hb))
  ·simp[execOp,hx,hy,Instr.mapEntry,run_underlying hU,MapKept.run_getObj_map hb,hK.check,h1,hZ,MapKept.run_setObj_map _ hb,goInt,go_sem]
  ·intro v
   have hl:es.size=L.length:=by have:=he.len;simpa using this
   simp only[hl]
   rw[List.set_append_right _ _ (Nat.le_refl _),Nat.sub_self];rfl
  ·have hl:es.size=L.length:=by have:=he.len;simpa using this
   exact⟨(k,z),by rw[hl];simp,rfl⟩
 ·have hja:es[j]? =some e:=by simpa using h2
  obtain⟨hjl,hfi,hlk⟩:=he.some hK.inj hs.2.2 h2 h3
  have h0:=h {w with heap:=w.heap.setIfInBounds m (.map (es.modify j fun e=>{e with key:=enc k}) clock)} j (e.born:Int)
  unfold VW WO at h0
  rw[hfi,hlk]at h0
  have hes:EntsV enc (es.modify j fun e=>{e with key:=enc k}).toList L:=by
   have h9:=YM he (k:=k) (v:=e.val) h2 (fun e=>{e with key:=enc k}) rfl rfl
   obtain⟨p,q1,q2,q3⟩:=he.at_ h2
   have:L.set j (k,e.val)=L:=by
    obtain⟨hj9,q4⟩:=List.getElem?_eq_some_iff.1 q1
    have hpk:p.1=k:=hK.inj (by rw[←q2,h3])
    rw[q3,show(k,p.2)=L[j] by rw[q4,←hpk]]
    exact List.set_getElem_self hj9
   rwa [this]at h9
  refine zW (v:=.tuple #[e.val,.int .i64 (e.born:Int)]) (w':={w with heap:=w.heap.setIfInBounds m (.map (es.modify j fun e=>{e with key:=enc k}) clock)}) ?_ (h0 ⟨_,_,(heap_set hb).1,stamped_modify hs _ _ (fun _ _=>rfl) (fun e' _ he'=>by rw[hja]at he';cases he';exact h3.symm),hes,by simp[hcl],{e with key:=enc k},by simp[Array.getElem?_modify,hja],rfl⟩ (fun v=>rfl) ((he.at_ h2).elim fun p hp=>⟨p,hp.1,hK.inj (by rw[←hp.2.1,h3])⟩) (ZP hb))
  simp[execOp,hx,hy,Instr.mapEntry,run_underlying hU,MapKept.run_getObj_map hb,hK.check,h1,hja,h3,hK.keeps,MapKept.run_setObj_map _ hb,goInt,go_sem]
theorem Xy {t:TypeId}{x y z:Operand}{j:Nat}{s:Int}{v:Value}{p:κ×Value}(hx:ev σ x=.map (some m))(hy:ev σ y=.int .i64 s)(hz:ev σ z=v)(hm:IsMapE enc w m L j s)(hp:L[j]? =some p)
 (h: ∀w1,IsMap enc w1 m (L.set j (p.1,v))→Chg (fun i=>i=m) w w1→K undef w1):opV P ⟨d,.entryStore t x y z,ty,pos,af,gd⟩ σ w K:=by
 obtain⟨es,clock,hb,hs,he,hcl,e,hja,hbn⟩:=hm
 have h2:es.toList[j]? =some e:=by simpa using hja
 have hjs:j<es.size:=(Array.getElem?_eq_some_iff.1 hja).1
 have hej:es[j]=e:=(Array.getElem?_eq_some_iff.1 hja).2
 have hfi:es.findIdx? (fun e=>(e.born:Int)== s)=some j:=by
  rw[Array.findIdx?_eq_some_iff_getElem]
  refine⟨hjs,by simp[hej,hbn],fun i hi=>?_⟩
  have:=List.pairwise_iff_getElem.1 (List.pairwise_map.1 hs.2.1) i j (by simp;omega) (by simpa using hjs) hi
  simp only[Array.getElem_toList]at this
  rw[hej]at this
  have h9: ¬((es[i].born:Int)=s):=fun e9=>this (by omega)
  simpa using h9
 obtain⟨q,q1,q2,q3⟩:=he.at_ h2
 rw[hp]at q1
 cases q1
 refine ZZ (w':={w with heap:=w.heap.setIfInBounds m (.map (es.modify j fun e=>{e with val:=v}) clock)}) ?_ (h _ ?_ (ZP hb))
 ·simp[execOp,hx,hy,hz,Instr.entryStore,MapKept.run_getObj_map hb,asInt,hfi,MapKept.run_setObj_map _ hb,go_sem]
 ·exact⟨_,_,(heap_set hb).1,stamped_modify hs _ _ (fun _ _=>rfl) (fun e' _ he'=>rfl),YM he h2 _ q2 rfl,by simp[hcl]⟩
end
end
section
open Go.RowKit Go.MapKept
section
variable {κ β:Type}[DecidableEq κ]
theorem Yv {L:List (κ×β)}{k q:κ}{v:β}:yw (L++[(k,v)]) q=(yw L q).or (if k=q then some v else none):=by
 unfold yw
 rw[List.find?_append]
 cases h:L.find? fun p=>decide (p.1=q)with
 |some p=>simp
 |none=>by_cases e:k=q<;>simp[List.find?,e]
theorem Wa {L:List (κ×β)}{k:κ}(h:(L.findIdx? fun p=>decide (p.1=k))=none):yw L k=none:=by
 rw[List.findIdx?_eq_none_iff]at h
 unfold yw
 rw[Option.map_eq_none_iff,List.find?_eq_none]
 intro p hp
 simp[h p hp]
theorem QL {L:List (κ×β)}{k q:κ}{v:β}{j:Nat}{p:κ×β}(hj:L[j]? =some p)(hp:p.1=k)(hf: ∀i,i<j→ ∀r,L[i]? =some r→r.1≠k):yw (L.set j (k,v)) q=if k=q then some v else yw L q:=by
 induction L generalizing j with
 |nil=>simp at hj
 |cons a L ih=>
  cases j with
  |zero=>
   simp only[List.getElem?_cons_zero,Option.some.injEq]at hj
   subst hj
   unfold yw
   by_cases e:k=q
   ·subst e;simp
   ·simp[e,hp]
  |succ j=>
   have h1:=ih (j:=j) (by simpa using hj) (fun i hi r hr=>hf (i+1) (by omega) r (by simpa using hr))
   have h0:=hf 0 (by omega) a rfl
   unfold yw at h1⊢
   rw[List.set_cons_succ,List.find?_cons,List.find?_cons]
   by_cases e:a.1=q
   ·have: ¬k=q:=fun e2=>h0 (by rw[e,e2])
    simp[e,this]
   ·simp only[e,decide_false]
    exact h1
theorem XW {L:List (κ×β)}{k:κ}{j:Nat}(h:(L.findIdx? fun p=>decide (p.1=k))=some j):(∃p,L[j]? =some p∧p.1=k)∧ ∀i,i<j→ ∀r,L[i]? =some r→r.1≠k:=by
 rw[List.findIdx?_eq_some_iff_getElem]at h
 obtain⟨hj,h1,h2⟩:=h
 refine⟨⟨L[j],List.getElem?_eq_getElem hj,by simpa using h1⟩,fun i hi r hr=>?_⟩
 have:=h2 i hi
 obtain⟨hil,e⟩:=List.getElem?_eq_some_iff.1 hr
 rw[←e];simpa using this
theorem XL (L:List (κ×β))(k q:κ)(v:β):yw (WO L k v) q=if k=q then some v else yw L q:=by
 unfold WO
 split
 ·rename_i j hj
  obtain⟨⟨p,h1,h2⟩,h3⟩:=XW hj
  exact QL h1 h2 h3
 ·rename_i hj
  rw[Yv]
  by_cases e:k=q
  ·subst e;rw[Wa hj];simp
  ·simp[e]
theorem Yg (L:List (κ×β))(k q:κ)(z:β)(h: ¬k=q):yw (VW L k z) q=yw L q:=by
 unfold VW
 split
 ·rfl
 ·rw[Yv];simp[h]
end
def ZD {κ α:Type}[DecidableEq κ](X:κ→Option α)(k:κ)(x:α):κ→Option α:=fun q=>if k=q then some x else X q
section
variable {κ α:Type}[DecidableEq κ]
def ValAt (E:Value→α→HP)(w:World)(F:Nat→Prop):Option Value→Option α→Prop
 |some v,some x=>(E v x).p w F
 |none,none=>True
 |_,_=>False
theorem ValAt.loc {E:Value→α→HP}{w w':World}{F F':Nat→Prop}: ∀{v:Option Value} {x:Option α},ValAt E w F v x→(∀b,F b→b<w.heap.size→w'.heap[b]? =w.heap[b]? ∧F' b)→ValAt E w' F' v x
 |some v,some x,h,hf=>(E v x).loc h hf
 |none,none,_,_=>trivial
 |some _,none,h,_=>h.elim
 |none,some _,h,_=>h.elim
theorem ValAt.isSome {E:Value→α→HP}{w:World}{F:Nat→Prop}: ∀{v:Option Value} {x:Option α},ValAt E w F v x→v.isSome=x.isSome
 |some _,some _,_=>rfl
 |none,none,_=>rfl
 |some _,none,h=>h.elim
 |none,some _,h=>h.elim
structure Spread (w:World) (m:Nat) (f:Nat→Prop) (g:κ→Nat→Prop):Prop where
 sub: ∀k b,g k b→f b∧b<w.heap.size∧b≠m
 apart: ∀k k',k≠k'→ ∀b,g k b→ ¬g k' b
theorem Spread.loc {w w':World}{m:Nat}{f f':Nat→Prop}{g:κ→Nat→Prop}(h:Spread w m f g)(hf: ∀b,f b→b<w.heap.size→w'.heap[b]? =w.heap[b]? ∧f' b):Spread w' m f' g:=
 ⟨fun k b hb=>⟨(hf b (h.sub k b hb).1 (h.sub k b hb).2.1).2,by
  obtain⟨h1,h2,_⟩:=h.sub k b hb
  have:=(hf b h1 h2).1
  rw[Array.getElem?_eq_getElem h2]at this
  exact(Array.getElem?_eq_some_iff.1 this).1,(h.sub k b hb).2.2⟩,h.apart⟩
theorem Spread.loc2 {w w':World}{m:Nat}{f:Nat→Prop}{g:κ→Nat→Prop}(h:Spread w m f g)(hz:w.heap.size≤w'.heap.size):Spread w' m f g:=⟨fun k b hb=>⟨(h.sub k b hb).1,Nat.lt_of_lt_of_le (h.sub k b hb).2.1 hz,(h.sub k b hb).2.2⟩,h.apart⟩
def MapO (enc:κ→Value)(E:Value→α→HP)(m:Nat)(X:κ→Option α):HP:=⟨fun w f=> ∃(R:List (κ×Value)) (g:κ→Nat→Prop),f m∧IsMap enc w m R∧(∀k,ValAt E w (g k) (yw R k) (X k))∧Spread w m f g,fun{w w' f f'} h hf=>by
 obtain⟨R,g,hm,⟨es,c,hb,r⟩,hv,hs⟩:=h
 exact⟨R,g,(hf m hm (yS hb)).2,⟨es,c,((hf m hm (yS hb)).1).trans hb,r⟩,fun k=>(hv k).loc (fun b hg hlt=>⟨(hf b (hs.sub k b hg).1 hlt).1,hg⟩),hs.loc hf⟩⟩
def xX (enc:κ→Value)(E:Value→α→HP)(z:Value)(m:Nat)(X:κ→Option α)(k:κ)(v:Value):HP:=⟨fun w f=> ∃(R:List (κ×Value)) (g:κ→Nat→Prop),f m∧IsMap enc w m R∧(yw R k).getD z=v∧(yw R k).isSome=(X k).isSome∧(∀q,q≠k→ValAt E w (g q) (yw R q) (X q))∧Spread w m f g,fun{w w' f f'} h hf=>by
 obtain⟨R,g,hm,⟨es,c,hb,r⟩,h1,h2,hv,hs⟩:=h
 exact⟨R,g,(hf m hm (yS hb)).2,⟨es,c,((hf m hm (yS hb)).1).trans hb,r⟩,h1,h2,fun q hq=>(hv q hq).loc (fun b hg hlt=>⟨(hf b (hs.sub q b hg).1 hlt).1,hg⟩),hs.loc hf⟩⟩
def Wi (enc:κ→Value)(E:Value→α→HP)(m:Nat)(X:κ→Option α)(k:κ)(s:Int):HP:=⟨fun w f=> ∃(R:List (κ×Value)) (g:κ→Nat→Prop) (j:Nat),f m∧IsMapE enc w m R j s∧(∀v q,yw (R.set j (k,v)) q=if k=q then some v else yw R q)∧(∃p,R[j]? =some p∧p.1=k)∧(∀q,q≠k→ValAt E w (g q) (yw R q) (X q))∧Spread w m f g,fun{w w' f f'} h hf=>by
 obtain⟨R,g,j,hm,⟨es,c,hb,r⟩,h1,h2,hv,hs⟩:=h
 exact⟨R,g,j,(hf m hm (yS hb)).2,⟨es,c,((hf m hm (yS hb)).1).trans hb,r⟩,h1,h2,fun q hq=>(hv q hq).loc (fun b hg hlt=>⟨(hf b (hs.sub q b hg).1 hlt).1,hg⟩),hs.loc hf⟩⟩
def YJ (E:Value→α→HP)(v:Value):Option α→HP
 |some x=>E v x
 |none=>Emp
end
section
variable {κ α:Type}[DecidableEq κ]{enc:κ→Value}{E:Value→α→HP}{z:Value}{m:Nat}{X:κ→Option α}{k:κ}{v:Value}{G:Nat→Prop}{W w:World}{As:List HP}
theorem Sep.mapoNew {w':World}(h:Sep G W As w)(hn:New w w' w.heap.size (.map #[] 0)):Sep G W (MapO enc E w.heap.size (fun _:κ=>(none:Option α))::As) w':=
 h.push hn.ext (f:=fun i=>i=w.heap.size) ⟨[],fun _ _=>False,rfl,⟨#[],0,hn.at_,stamped_empty 0,rfl,rfl⟩,fun _=>trivial,⟨fun _ _ h=>h.elim,fun _ _ _ _ h=>h.elim⟩⟩ (fun i hi=>by omega)
theorem Sep.mapoTake (h:Sep G W (MapO enc E m X::As) w)(z:Value)(k:κ): ∃v,(X k=none→v=z)∧Sep G W (xX enc E z m X k v::YJ E v (X k)::As) w:=by
 obtain⟨fs,q1,q2⟩:=h.parts
 obtain⟨⟨R,g,hm,hM,hv,hs⟩,hl⟩:=q1 0 _ rfl
 refine⟨(yw R k).getD z,fun hx=>?_,?_⟩
 ·have:=(hv k).isSome
  rw[hx]at this
  cases hR:yw R k with
  |none=>rfl
  |some u=>rw[hR]at this;cases this
 ·have h1:Sep G W (Star [xX enc E z m X k ((yw R k).getD z),YJ E ((yw R k).getD z) (X k)]::As) w:=by
   refine⟨h.kept,fs,fun i C hC=>?_,fun i j hi hj=>q2 i j (by simpa using hi) (by simpa using hj)⟩
   cases i with
   |succ i=>exact q1 (i+1) C (by simpa using hC)
   |zero=>
    simp only[List.getElem?_cons_zero,Option.some.injEq]at hC
    subst hC
    refine⟨⟨fun i b=>if i=0 then fs 0 b∧ ¬g k b∧b<w.heap.size else g k b,fun i C hC=>?_,fun i j hi hj hne b hb=>?_⟩,hl⟩
    ·match i,hC with
     |0,hC=>
      simp only[List.getElem?_cons_zero,Option.some.injEq]at hC
      subst hC
      refine⟨⟨R,fun q b=>if q=k then False else g q b,⟨hm,fun hg=>(hs.sub k m hg).2.2 rfl,hM.lt⟩,hM,rfl,(hv k).isSome,fun q hq=>?_,⟨fun q b hb=>?_,fun q q' hne b hb hb'=>?_⟩⟩,fun b hb=>⟨hb.1,hb.2.2⟩⟩
      ·simp only[if_neg hq];exact hv q
      ·by_cases e:q=k
       ·rw[if_pos e]at hb;exact hb.elim
       ·rw[if_neg e]at hb
        have:=hs.sub q b hb
        exact⟨⟨this.1,fun h9=>hs.apart q k e b hb h9,this.2.1⟩,this.2.1,this.2.2⟩
      ·by_cases e:q=k
       ·rw[if_pos e]at hb;exact hb.elim
       ·by_cases e':q'=k
        ·rw[if_pos e']at hb';exact hb'.elim
        ·rw[if_neg e]at hb;rw[if_neg e']at hb';exact hs.apart q q' hne b hb hb'
     |1,hC=>
      simp only[List.getElem?_cons_succ,List.getElem?_cons_zero,Option.some.injEq]at hC
      subst hC
      refine⟨?_,fun b hb=>⟨(hs.sub k b hb).1,(hs.sub k b hb).2.1⟩⟩
      have:=hv k
      cases hR:yw R k with
      |none=>
       rw[hR]at this
       cases hX:X k with
       |none=>exact trivial
       |some x=>rw[hX]at this;exact this.elim
      |some u=>
       rw[hR]at this
       cases hX:X k with
       |none=>rw[hX]at this;exact this.elim
       |some x=>rw[hX]at this;exact this
     |i+2,hC=>simp at hC
    ·simp only[List.length_cons,List.length_nil]at hi hj
     match i,j,hb with
     |0,0,_=>exact absurd rfl hne
     |0,1,hb=>exact hb.2.1
     |1,0,hb=>exact fun h9=>h9.2.1 hb
     |1,1,_=>exact absurd rfl hne
     |i+2,_,_=>omega
     |0,j+2,_=>omega
     |1,j+2,_=>omega
  exact h1.openStar
theorem Yj {f:Nat→Prop}{g:κ→Nat→Prop}{f0 f1:Nat→Prop}{w1:World}(hs:Spread w m f0 g)(h0: ∀b,f0 b→f b∧b<w.heap.size)(h1: ∀b,f1 b→f b∧b<w.heap.size)(hd: ∀b,f0 b→ ¬f1 b)(hm:f0 m)(hz:w.heap.size≤w1.heap.size):Spread w1 m f (fun q b=>if q=k then f1 b else g q b):=by
 refine⟨fun q b hb=>?_,fun q q' hne b hb hb'=>?_⟩
 ·by_cases e:q=k
  ·simp only[if_pos e]at hb
   exact⟨(h1 b hb).1,Nat.lt_of_lt_of_le (h1 b hb).2 hz,fun e2=>hd m hm (e2▸hb)⟩
  ·simp only[if_neg e]at hb
   have:=hs.sub q b hb
   exact⟨(h0 b this.1).1,Nat.lt_of_lt_of_le this.2.1 hz,this.2.2⟩
 ·by_cases e:q=k
  ·simp only[if_pos e]at hb
   have e': ¬q'=k:=fun e2=>hne (e.trans e2.symm)
   simp only[if_neg e']at hb'
   exact hd b (hs.sub q' b hb').1 hb
  ·simp only[if_neg e]at hb
   by_cases e':q'=k
   ·simp only[if_pos e']at hb'
    exact hd b (hs.sub q b hb).1 hb'
   ·simp only[if_neg e']at hb'
    exact hs.apart q q' hne b hb hb'
theorem Sep.mapoPut (h:Sep G W (xX enc E z m X k v::YJ E v (X k)::As) w):Sep G W (MapO enc E m X::As) w:=by
 have hst:=h.closeStar (Bs:=[xX enc E z m X k v,YJ E v (X k)])
 refine hst.impl (i:=0) rfl (fun f hA=>?_)
 obtain⟨gs,r1,r2⟩:=hA
 obtain⟨⟨R,g,hm,hM,hz,hi,hv,hs⟩,hf0⟩:=r1 0 _ rfl
 obtain⟨hN,hf1⟩:=r1 1 _ rfl
 have r2':=r2 0 1 (by simp) (by simp) (by simp)
 refine⟨R,fun q b=>if q=k then gs 1 b else g q b,(hf0 m hm).1,hM,fun q=>?_,Yj hs hf0 hf1 r2' hm (Nat.le_refl _)⟩
 by_cases e:q=k
 ·subst e
  simp only[if_true]
  cases hR:yw R q with
  |none=>
   rw[hR]at hi
   cases hX:X q with
   |none=>exact trivial
   |some x=>rw[hX]at hi;cases hi
  |some u=>
   rw[hR]at hi hz
   cases hX:X q with
   |none=>rw[hX]at hi;cases hi
   |some x=>rw[hX]at hN;simp only[Option.getD_some]at hz;subst hz;exact hN
 ·simp only[if_neg e]
  exact hv q e
theorem Sep.mapo1 (h:Sep G W As w){i:Nat}(hi:As[i]? =some (xX enc E z m X k v)): ∃R,IsMap enc w m R∧(yw R k).getD z=v∧(yw R k).isSome=(X k).isSome:=by
 obtain⟨f,⟨R,g,hm,hM,hz,hi,_⟩,_⟩:=h.get hi;exact⟨R,hM,hz,hi⟩
end
section
variable {P:Program}{d:Option Tmp}{ty:TypeId}{pos:String}{af:Array Edge}{gd:Option (Nat×Bool)}{σ:Env}{w:World}{K:Value→World→Prop}{κ α:Type}[DecidableEq κ]{enc:κ→Value}{E:Value→α→HP}{z:Value}{m:Nat}{X:κ→Option α}{k:κ}{v:Value}{G:Nat→Prop}{W:World}{As:List HP}
theorem Up {t kt et:TypeId}{x y:Operand}{i:Nat}(h:Sep G W As w)(hi:As[i]? =some (xX enc E z m X k v))(hK:KLaw P kt enc)(hU:P.underlying t=some (.map kt et))(hZ: ∀w,(zeroValue et).run P w=.ok z w)
 (hx:ev σ x=.map (some m)) (hy:ev σ y=enc k) (hk:K v w):opV P ⟨d,.lookup t x y false,ty,pos,af,gd⟩ σ w K:=by
 obtain⟨R,hM,e,_⟩:=h.mapo1 hi
 exact Uu hK hU hZ hx hy hM (by rw[e];exact hk)
theorem ZH {t kt et:TypeId}{x y:Operand}{i:Nat}(h:Sep G W As w)(hi:As[i]? =some (xX enc E z m X k v))(hK:KLaw P kt enc)(hU:P.underlying t=some (.map kt et))(hZ: ∀w,(zeroValue et).run P w=.ok z w)
 (hx:ev σ x=.map (some m)) (hy:ev σ y=enc k) (hk:K (.tuple #[v,.bool (X k).isSome]) w):opV P ⟨d,.lookup t x y true,ty,pos,af,gd⟩ σ w K:=by
 obtain⟨R,hM,e,e2⟩:=h.mapo1 hi
 exact YS hK hU hZ hx hy hM (by rw[e,e2];exact hk)
theorem Yd {t kt et:TypeId}{x y u:Operand}{v':Value}{x':α}(h:Sep G W (xX enc E z m X k v::E v' x'::As) w)(hK:KLaw P kt enc)(hU:P.underlying t=some (.map kt et))(hx:ev σ x=.map (some m))(hy:ev σ y=enc k)(hu:ev σ u=v')
 (hk: ∀w1,Sep G W (MapO enc E m (ZD X k x')::As) w1→K undef w1):opV P ⟨d,.mapUpdate t x y u,ty,pos,af,gd⟩ σ w K:=by
 have hst:=h.closeStar (Bs:=[xX enc E z m X k v,E v' x'])
 obtain⟨ff,q1,q2⟩:=hst.parts
 obtain⟨⟨gs,r1,r2⟩,hl⟩:=q1 0 _ rfl
 obtain⟨⟨R,g,hm,hM,hz,hi,hv,hs⟩,hf0⟩:=r1 0 _ rfl
 obtain⟨hN,hf1⟩:=r1 1 _ rfl
 have r2':=r2 0 1 (by simp) (by simp) (by simp)
 refine XX hK hU hx hy hu hM (fun w1 hM1 hc=>hk w1 ?_)
 have keep: ∀b,b≠m→b<w.heap.size→w1.heap[b]? =w.heap[b]? :=fun b hb hlt=>hc.block b hlt hb
 have key:(MapO enc E m (ZD X k x')).p w1 (ff 0):=by
  refine⟨WO R k v',fun q b=>if q=k then gs 1 b else g q b,(hf0 m hm).1,hM1,fun q=>?_,Yj hs hf0 hf1 r2' hm hc.size⟩
  rw[XL]
  unfold ZD
  by_cases e:q=k
  ·subst e
   simp only[if_true]
   exact(E v' x').loc hN (fun b hb hlt=>⟨keep b (fun e2=>r2' m hm (e2▸hb)) hlt,hb⟩)
  ·simp only[if_neg e,if_neg (Ne.symm e)]
   exact(hv q e).loc (fun b hb hlt=>⟨keep b (hs.sub q b hb).2.2 hlt,hb⟩)
 refine⟨hst.kept.chg hc (fun b hb=>by subst hb;exact(hl _ (hf0 _ hm).1).1),ff,fun i C hC=>?_,fun i j hi hj=>q2 i j (by simpa using hi) (by simpa using hj)⟩
 cases i with
 |zero=>
  simp only[List.getElem?_cons_zero,Option.some.injEq]at hC
  subst hC
  exact⟨key,fun b hb=>⟨(hl b hb).1,Nat.lt_of_lt_of_le (hl b hb).2 hc.size⟩⟩
 |succ i=>
  obtain⟨hp,hlp⟩:=q1 (i+1) C (by simpa using hC)
  have hne: ∀b,ff (i+1) b→b≠m:=fun b hb e2=>by
   subst e2
   exact q2 0 (i+1) (by simp) (by have:=(List.getElem?_eq_some_iff.1 hC).1;simpa using this) (by omega) _ (hf0 _ hm).1 hb
  exact⟨C.loc hp (fun b hb hlt=>⟨keep b (hne b hb) hlt,hb⟩),fun b hb=>⟨(hlp b hb).1,Nat.lt_of_lt_of_le (hlp b hb).2 hc.size⟩⟩
theorem WN {t kt et:TypeId}{x y:Operand}(h:Sep G W (xX enc E z m X k v::As) w)(hK:KLaw P kt enc)(hU:P.underlying t=some (.map kt et))(hZ: ∀w,(zeroValue et).run P w=.ok z w)(hx:ev σ x=.map (some m))(hy:ev σ y=enc k)
 (hk: ∀w1 s,Sep G W (Wi enc E m X k s::As) w1→K (.tuple #[v,.int .i64 s]) w1):opV P ⟨d,.mapEntry t x y,ty,pos,af,gd⟩ σ w K:=by
 obtain⟨ff,q1,q2⟩:=h.parts
 obtain⟨⟨R,g,hm,hM,hz,hi,hv,hs⟩,hl⟩:=q1 0 _ rfl
 refine WX hK hU hZ hx hy hM (fun w1 j s hM1 hset hp hc=>?_)
 rw[hz]
 refine hk w1 s ?_
 have keep: ∀b,b≠m→b<w.heap.size→w1.heap[b]? =w.heap[b]? :=fun b hb hlt=>hc.block b hlt hb
 have key:(Wi enc E m X k s).p w1 (ff 0):=by
  refine⟨VW R k z,g,j,hm,hM1,fun u q=>?_,hp,fun q hq=>?_,hs.loc2 hc.size⟩
  ·rw[hset u,XL]
   by_cases e:k=q
   ·rw[if_pos e,if_pos e]
   ·rw[if_neg e,if_neg e,Yg _ _ _ _ e]
  ·rw[Yg _ _ _ _ (Ne.symm hq)]
   exact(hv q hq).loc (fun b hb hlt=>⟨keep b (hs.sub q b hb).2.2 hlt,hb⟩)
 refine⟨h.kept.chg hc (fun b hb=>by subst hb;exact(hl _ hm).1),ff,fun i C hC=>?_,fun i j hi hj=>q2 i j (by simpa using hi) (by simpa using hj)⟩
 cases i with
 |zero=>
  simp only[List.getElem?_cons_zero,Option.some.injEq]at hC
  subst hC
  exact⟨key,fun b hb=>⟨(hl b hb).1,Nat.lt_of_lt_of_le (hl b hb).2 hc.size⟩⟩
 |succ i=>
  obtain⟨hp,hlp⟩:=q1 (i+1) C (by simpa using hC)
  have hne: ∀b,ff (i+1) b→b≠m:=fun b hb e2=>by
   subst e2
   exact q2 0 (i+1) (by simp) (by have:=(List.getElem?_eq_some_iff.1 hC).1;simpa using this) (by omega) _ hm hb
  exact⟨C.loc hp (fun b hb hlt=>⟨keep b (hne b hb) hlt,hb⟩),fun b hb=>⟨(hlp b hb).1,Nat.lt_of_lt_of_le (hlp b hb).2 hc.size⟩⟩
theorem Xk {t:TypeId}{x y u:Operand}{s:Int}{v':Value}{x':α}(h:Sep G W (Wi enc E m X k s::E v' x'::As) w)(hx:ev σ x=.map (some m))(hy:ev σ y=.int .i64 s)(hu:ev σ u=v')
 (hk: ∀w1,Sep G W (MapO enc E m (ZD X k x')::As) w1→K undef w1):opV P ⟨d,.entryStore t x y u,ty,pos,af,gd⟩ σ w K:=by
 have hst:=h.closeStar (Bs:=[Wi enc E m X k s,E v' x'])
 obtain⟨ff,q1,q2⟩:=hst.parts
 obtain⟨⟨gs,r1,r2⟩,hl⟩:=q1 0 _ rfl
 obtain⟨⟨R,g,j,hm,hM,hset,⟨p,hp,hpk⟩,hv,hs⟩,hf0⟩:=r1 0 _ rfl
 obtain⟨hN,hf1⟩:=r1 1 _ rfl
 have r2':=r2 0 1 (by simp) (by simp) (by simp)
 refine Xy hx hy hu hM hp (fun w1 hM1 hc=>hk w1 ?_)
 rw[hpk]at hM1
 have keep: ∀b,b≠m→b<w.heap.size→w1.heap[b]? =w.heap[b]? :=fun b hb hlt=>hc.block b hlt hb
 have key:(MapO enc E m (ZD X k x')).p w1 (ff 0):=by
  refine⟨R.set j (k,v'),fun q b=>if q=k then gs 1 b else g q b,(hf0 m hm).1,hM1,fun q=>?_,Yj hs hf0 hf1 r2' hm hc.size⟩
  rw[hset v' q]
  unfold ZD
  by_cases e:q=k
  ·subst e
   simp only[if_true]
   exact(E v' x').loc hN (fun b hb hlt=>⟨keep b (fun e2=>r2' m hm (e2▸hb)) hlt,hb⟩)
  ·simp only[if_neg e,if_neg (Ne.symm e)]
   exact(hv q e).loc (fun b hb hlt=>⟨keep b (hs.sub q b hb).2.2 hlt,hb⟩)
 refine⟨hst.kept.chg hc (fun b hb=>by subst hb;exact(hl _ (hf0 _ hm).1).1),ff,fun i C hC=>?_,fun i j hi hj=>q2 i j (by simpa using hi) (by simpa using hj)⟩
 cases i with
 |zero=>
  simp only[List.getElem?_cons_zero,Option.some.injEq]at hC
  subst hC
  exact⟨key,fun b hb=>⟨(hl b hb).1,Nat.lt_of_lt_of_le (hl b hb).2 hc.size⟩⟩
 |succ i=>
  obtain⟨hp,hlp⟩:=q1 (i+1) C (by simpa using hC)
  have hne: ∀b,ff (i+1) b→b≠m:=fun b hb e2=>by
   subst e2
   exact q2 0 (i+1) (by simp) (by have:=(List.getElem?_eq_some_iff.1 hC).1;simpa using this) (by omega) _ (hf0 _ hm).1 hb
  exact⟨C.loc hp (fun b hb hlt=>⟨keep b (hne b hb) hlt,hb⟩),fun b hb=>⟨(hlp b hb).1,Nat.lt_of_lt_of_le (hlp b hb).2 hc.size⟩⟩
end
end
section
theorem Xc {α:Type}{P:List α→Prop}(h0:P [])(h1: ∀l x,P l→P (l++[x]))(l:List α):P l:=by
 rw[←List.reverse_reverse l]
 induction l.reverse with
 |nil=>exact h0
 |cons x l ih=>rw[List.reverse_cons];exact h1 _ _ ih
def yt (v:List Int)(o:Int):Int:=if o<0∨(v.length:Int)≤o then 0 else max (v.getD o.toNat 0) 0
def YL (a b:Ev):Bool:=decide (a.seq≤yt b.deps a.origin)
def ZA (a b:Ev):Bool:= !decide (a.origin=b.origin∧a.seq=b.seq)&& !YL a b&& !YL b a
def WM (k oA aA oB aB:Int):Bool:=
 if k=2 then decide (oA=2)&&decide (oB=2)&& !decide (oA=oB∧aA=aB)
 else if k=4 then decide (oA=5)&&decide (oB=5)&& !decide (oA=oB∧aA=aB)
 else if k=3 then(decide (oA=3∧aA=aB)&&decide (oB=4∧aB=aA))||(decide (oA=4∧aA=aB)&&decide (oB=3∧aB=aA))
 else false
def xo (f:Fld)(x e:Ev):Bool:=(decide (f.policy=2)||(decide (f.policy=3)&&decide (e.arg<x.arg)))&&WM f.kind x.op x.arg e.op e.arg&&ZA x e
def onL (k:Int×Int)(x:Ent):Bool:= !x.void&&decide (x.ev.typ=k.1∧x.ev.agg=k.2)
def on3 (k:Int×Int×Int)(x:Ent):Bool:= !x.void&&decide (x.ev.typ=k.1∧x.ev.agg=k.2.1∧x.ev.field=k.2.2)
def xN (d:Dcl)(ty:Int):Typ:=d.types.getD ty.toNat default
def Kl (t:Typ):List Cel:=List.replicate t.fields.length (⟨0,[]⟩:Cel)
def zQ (d:Dcl)(k:Int×Int)(L:List Ent):List Cel:=L.foldl (fun c x=>if onL k x then doL (xN d k.1) c x.ev.field x.ev.op x.ev.arg else c) (Kl (xN d k.1))
def yd (k:Int×Int)(L:List Ent):Nat:=(L.filter (onL k)).length
def yf (k:Int×Int×Int)(L:List Ent):List Ev:=(L.filter (on3 k)).map (·.ev)
def yp (d:Dcl)(L:List Ent)(e:Ev):Bool×Int×Int:=
 if ¬xc d e.typ e.field e.op e.arg=0 then(true,0,0)
 else match (yf (e.typ,e.agg,e.field) L).find? (fun x=>xo ((xN d e.typ).fields.getD e.field.toNat default) x e)with
  |some x=>(true,x.origin,x.seq)
  |none=>if ¬yX (xN d e.typ) (zQ d (e.typ,e.agg) L) e.field e.op e.arg=0 then(true,0,0)else(false,0,0)
def yE (d:Dcl)(L:List Ent)(e:Ev):Ent:=⟨e,(yp d L e).1,(yp d L e).2.1,(yp d L e).2.2⟩
def zw (d:Dcl)(l:List Ev):List Ent:=l.foldl (fun L e=>L++[yE d L e]) []
def zn (d:Dcl)(L:List Ent):Int×Int→Option (Nat×List Cel):=fun k=>if yd k L=0 then none else some (yd k L,zQ d k L)
def yC (L:List Ent):Int×Int×Int→Option (List Ev):=fun k=>if(yf k L).isEmpty then none else some (yf k L)
def Inv (d:Dcl)(L:List Ent):Prop:= ∀ty ag:Int,0≤ty→ty<d.types.length→Right (xN d ty) (zQ d (ty,ag) L)
theorem xE (d:Dcl)(l:List Ev)(e:Ev):zw d (l++[e])=zw d l++[yE d (zw d l) e]:=by unfold zw;rw[List.foldl_append];rfl
theorem xI (d:Dcl)(k:Int×Int)(L:List Ent)(x:Ent):zQ d k (L++[x])=if onL k x then doL (xN d k.1) (zQ d k L) x.ev.field x.ev.op x.ev.arg else zQ d k L:=by unfold zQ;rw[List.foldl_append];rfl
theorem ZW (k:Int×Int)(L:List Ent)(x:Ent):yd k (L++[x])=if onL k x then yd k L+1 else yd k L:=by
 unfold yd
 rw[List.filter_append,List.length_append,List.filter_cons]
 split<;>simp
theorem XH (k:Int×Int×Int)(L:List Ent)(x:Ent):yf k (L++[x])=if on3 k x then yf k L++[x.ev]else yf k L:=by
 unfold yf
 rw[List.filter_append,List.filter_cons]
 split<;>simp
theorem Zs (k:Int×Int)(L:List Ent):yd k L≤L.length:=List.length_filter_le _ _
theorem Ug {d:Dcl}{k:Int×Int}: ∀{L:List Ent},yd k L=0→zQ d k L=Kl (xN d k.1):=by
 intro L
 induction L using Xc with
 |h0=>intro _;rfl
 |h1 L x ih=>
  intro h
  rw[ZW]at h
  rw[xI]
  split
  ·rename_i hx;rw[if_pos hx]at h;omega
  ·rename_i hx;rw[if_neg hx]at h;exact ih h
theorem xt {d:Dcl}{L:List Ent}{x:Ent}(h:x.void=true):zn d (L++[x])=zn d L∧yC (L++[x])=yC L:=by
 constructor
 ·funext k
  have:onL k x=false:=by unfold onL;rw[h];rfl
  unfold zn
  rw[ZW,xI,this]
  rfl
 ·funext k
  have:on3 k x=false:=by unfold on3;rw[h];rfl
  unfold yC
  rw[XH,this]
  rfl
theorem VX {d:Dcl}{L:List Ent}{x:Ent}(h:x.void=false):zn d (L++[x])=ZD (zn d L) (x.ev.typ,x.ev.agg) (yd (x.ev.typ,x.ev.agg) L+1,doL (xN d x.ev.typ) (zQ d (x.ev.typ,x.ev.agg) L) x.ev.field x.ev.op x.ev.arg):=by
 funext k
 unfold zn ZD
 rw[ZW,xI]
 by_cases e:(x.ev.typ,x.ev.agg)=k
 ·subst e
  have:onL (x.ev.typ,x.ev.agg) x=true:=by unfold onL;rw[h];simp
  rw[this]
  simp
 ·have:onL k x=false:=by
   unfold onL
   rw[h]
   have: ¬(x.ev.typ=k.1∧x.ev.agg=k.2):=fun h9=>e (by obtain⟨a,b⟩:=k;obtain⟨rfl,rfl⟩:=h9;rfl)
   simp[this]
  rw[this]
  simp[e]
theorem Qx {L:List Ent}{x:Ent}(h:x.void=false):yC (L++[x])=ZD (yC L) (x.ev.typ,x.ev.agg,x.ev.field) (yf (x.ev.typ,x.ev.agg,x.ev.field) L++[x.ev]):=by
 funext k
 unfold yC ZD
 rw[XH]
 by_cases e:(x.ev.typ,x.ev.agg,x.ev.field)=k
 ·subst e
  have:on3 (x.ev.typ,x.ev.agg,x.ev.field) x=true:=by unfold on3;rw[h];simp
  rw[this]
  simp
 ·have:on3 k x=false:=by
   unfold on3
   rw[h]
   have: ¬(x.ev.typ=k.1∧x.ev.agg=k.2.1∧x.ev.field=k.2.2):=fun h9=>e (by obtain⟨a,b,c⟩:=k;obtain⟨rfl,rfl,rfl⟩:=h9;rfl)
   simp[this]
  rw[this]
  simp[e]
theorem VK (t:Typ):Right t (Kl t):=UR
theorem Inv.nil (d:Dcl):Inv d []:=fun ty ag _ _=>VK _
theorem QT {d:Dcl}{L:List Ent}{e:Ev}(h:(yp d L e).1=false):xc d e.typ e.field e.op e.arg=0∧yX (xN d e.typ) (zQ d (e.typ,e.agg) L) e.field e.op e.arg=0:=by
 unfold yp at h
 split at h
 ·cases h
 rename_i h1
 split at h
 ·cases h
 split at h
 ·cases h
 rename_i h2
 exact⟨Decidable.not_not.1 h1,Decidable.not_not.1 h2⟩
theorem Inv.snoc {d:Dcl}{L:List Ent}{e:Ev}(hd:DclOk d)(h:Inv d L):Inv d (L++[yE d L e]):=by
 intro ty ag h0 h1
 rw[xI]
 split
 ·rename_i hx
  unfold onL at hx
  simp only[Bool.and_eq_true,Bool.not_eq_true',decide_eq_true_eq]at hx
  obtain⟨hv,ht,ha⟩:=hx
  obtain⟨hf,hm⟩:=QT (d:=d) (L:=L) (e:=e) hv
  obtain⟨f1,f2,hft⟩:=Yx hf
  have ht':e.typ=ty:=ht
  have ha':e.agg=ag:=ha
  subst ht' ha'
  exact KT hft (hd.typ _ (by omega)) (h e.typ e.agg h0 h1) (zai hm)
 ·exact h ty ag h0 h1
theorem Inv.run {d:Dcl}(hd:DclOk d)(l:List Ev):Inv d (zw d l):=by
 induction l using Xc with
 |h0=>exact Inv.nil d
 |h1 l e ih=>rw[xE];exact ih.snoc hd
end
section
open Go.RowKit
instance {α:Type} [Rep α]:Rep (Bool×α) where
 k:=Rep.k α
 rd w F cs x:=Rep.rd w F cs x.2
 bytes:=Rep.bytes α
 bpos:=Rep.bpos
 kpos:=Rep.kpos
 len h:=Rep.len h
 one h:=Rep.one h
 mono h hF:=Rep.mono h hF
def mix {α:Type}[Rep α](G:Nat→Prop)(W:World):Src (Bool×α):=
 ⟨fun cs x=>if x.1 then(own (α:=α)).el cs x.2 else(shr (α:=α) G W).el cs x.2,fun{w f cs x} h=>by
  split at h
  ·exact(own (α:=α)).len h
  ·exact(shr (α:=α) G W).len h,fun{w f cs x} h=>by
  split at h
  ·exact(own (α:=α)).one h
  ·exact(shr (α:=α) G W).one h⟩
def Za {α:Type}(k:Nat)(l:List α):List (Bool×α):=(l.take k).map (Prod.mk true)++(l.drop k).map (Prod.mk false)
theorem xK {α:Type}(k:Nat)(l:List α):(Za k l).length=l.length:=by unfold Za;simp;omega
theorem VI {α:Type}{k i:Nat}{l:List α}(hk:k≤i)(hi:i<l.length):(Za k l)[i]? =some (false,l[i]):=by
 unfold Za
 rw[List.getElem?_append_right (by simp;omega)]
 simp only[List.length_map,List.length_take,List.getElem?_map,List.getElem?_drop]
 rw[show k+(i-min k l.length)=i by omega,List.getElem?_eq_getElem hi];rfl
theorem QY {α:Type}{k:Nat}{l:List α}(hk:k<l.length):(Za k l).set k (true,l[k])=Za (k+1) l:=by
 unfold Za
 rw[List.take_succ_eq_append_getElem hk,List.map_append,List.append_assoc,List.set_append_right _ _ (by simp only[List.length_map,List.length_take];omega),List.drop_eq_getElem_cons hk]
 simp only[List.length_map,List.length_take,List.map_cons,List.map_nil,List.singleton_append]
 rw[show k-min k l.length=0 by omega,List.set_cons_zero]
section
variable {α:Type}[Rep α]{G:Nat→Prop}{W w:World}{As:List HP}{T:TypeId}{v:Value}{l:List α}
theorem EP.mapIn {β:Type}{q:List Value→α→Prop}{q':List Value→β→Prop}(g:α→β)(h: ∀cs x,q cs x→q' cs (g x)): ∀{css:List (List Value)} {l:List α},EP q css l→EP q' css (l.map g)
 |[],[],_=>trivial
 |_::_,_::_,hh=>⟨h _ _ hh.1,EP.mapIn g h hh.2⟩
 |[],_::_,hh=>hh.elim
 |_::_,[],hh=>hh.elim
theorem EP.mapOut {β:Type}{q:List Value→α→Prop}{q':List Value→β→Prop}(g:α→β)(h: ∀cs x,q' cs (g x)→q cs x): ∀{css:List (List Value)} {l:List α},EP q' css (l.map g)→EP q css l
 |[],[],_=>trivial
 |_::_,_::_,hh=>⟨h _ _ hh.1,EP.mapOut g h hh.2⟩
 |[],_::_,hh=>hh.elim
 |_::_,[],hh=>hh.elim
theorem Sep.toMix (h:Sep G W (RowE (shr G W) T v l::As) w):Sep G W (RowE (mix (α:=α) G W) T v (Za 0 l)::As) w:=by
 refine h.impl (i:=0) rfl (fun f hA=>?_)
 obtain⟨css,hE,hown,hrow,hsm⟩:=hA
 have e:Za 0 l=l.map (Prod.mk false):=by unfold Za;simp
 rw[e]
 exact⟨css,EP.mapIn (Prod.mk false) (fun cs x hx=>hx) hE,by rw[List.length_map];exact hown,hrow,by rw[List.length_map];exact hsm⟩
theorem Sep.ofMix {n:Nat}(h:Sep G W (RowE (mix (α:=α) G W) T v (Za n l)::As) w)(hn:l.length≤n):Sep G W (RowE (own (α:=α)) T v l::As) w:=by
 refine h.impl (i:=0) rfl (fun f hA=>?_)
 have e:Za n l=l.map (Prod.mk true):=by unfold Za;rw[List.take_of_length_le hn,List.drop_of_length_le hn];simp
 rw[e]at hA
 obtain⟨css,hE,hown,hrow,hsm⟩:=hA
 exact⟨css,EP.mapOut (Prod.mk true) (fun cs x hx=>hx) hE,by rw[List.length_map]at hown;exact hown,hrow,by rw[List.length_map]at hsm;exact hsm⟩
theorem Sep.mixAt {i k j:Nat}(h:Sep G W As w)(hi:As[i]? =some (RowE (mix (α:=α) G W) T v (Za k l)))(hk:k≤j)(hj:j<l.length): ∃cs,CellsAt w (sb v) (so v+j*Rep.k α) cs∧Rep.rd W G cs l[j]:=by
 obtain⟨cs,f,h1,h2⟩:=h.rowAt hi (j:=j) (by rw[xK];exact hj)
 have e:(Za k l)[j]'(by rw[xK];exact hj)=(false,l[j]):=by
  have:=VI hk hj
  rw[List.getElem?_eq_getElem (by rw[xK];exact hj)]at this
  exact Option.some.inj this
 rw[e]at h2
 exact⟨cs,h1,h2⟩
end
section
variable {α:Type}[Rep α]{P:Program}{d:Option Tmp}{ty:TypeId}{pos:String}{af:Array Edge}{gd:Option (Nat×Bool)}{σ:Env}{w:World}{K:Value→World→Prop}{G:Nat→Prop}{W:World}{As:List HP}{N:HP}{T:TypeId}{v:Value}{l:List α}
theorem Wd {t:TypeId}{j o:Nat}{x y:Operand}{u:Value}{us:List Value}(h:Sep G W (RowE (mix (α:=α) G W) T v (Za j l)::N::As) w)(hS: ∀w,(sizeOf t).run P w=.ok us.length w)(hj:j<l.length)
 (hx:ev σ x=.pointer (some ⟨sb v,so v+j*Rep.k α+o,none⟩)) (hy:ev σ y=u) (hu:u.cells.toList=us) (ho:o+us.length≤Rep.k α) (h1: ∀u∈us,u.oneCell'=true)
 (hq: ∀w f cs0,Rep.rd W G cs0 l[j]→N.p w f→((own (α:=α)).el (cs0.take o++us++cs0.drop (o+us.length)) l[j]).p w f)
 (hK: ∀w',Sep G W (RowE (mix (α:=α) G W) T v (Za (j+1) l)::As) w'→K undef w'):opV P ⟨d,.store t x y,ty,pos,af,gd⟩ σ w K:=by
 have e:(Za j l)[j]'(by rw[xK];exact hj)=(false,l[j]):=by
  have:=VI (Nat.le_refl j) hj
  rw[List.getElem?_eq_getElem (by rw[xK];exact hj)]at this
  exact Option.some.inj this
 refine xu (α:=Bool×α) (j:=j) (o:=o) (u:=u) (us:=us) (x1:=(true,l[j])) h hS (by rw[xK];exact hj) hx hy hu ho h1 (fun w f cs0 hel hN=>?_) (fun w' h'=>hK w' (by rw[QY hj]at h';exact h'))
 rw[e]at hel
 exact hq w f cs0 hel hN
end
end
end Go.Proofs.YtbbabhaalmkbkaaGreatDoor
