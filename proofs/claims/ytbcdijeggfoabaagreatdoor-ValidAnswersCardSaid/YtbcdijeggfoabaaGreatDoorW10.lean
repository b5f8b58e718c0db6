import Derived.Test.YtbcdijeggfoabaaGreatDoorW9
set_option linter.unusedSimpArgs false
set_option linter.unusedVariables false
set_option linter.unusedSectionVars false
set_option linter.deprecated false
open Go.Proofs.Tryz renaming sizeOf44→kT,sizeOf49→lT,isAgg49→mT,zeroValue44→nT,isAgg44→oT,call21→pT,call11→qT,sizeOf25→rT,sizeOf74→sT,results11→tT,isAgg25→uT,isAgg3→vT,underlying83→wT,sizeOf3→kR,sizeOf81→lR,underlying22→mR,isAgg74→nR,zeroValue74→oR,call42→pR,call43→qR,call41→rR,isAgg81→sR,underlying32→tR,underlying26→uR
namespace Go.Proofs.YtbcdijeggfoabaaGreatDoor
variable {G:Nat→Prop}{W w:World}{Rs:List HP}
section
set_option maxRecDepth 8000
set_option maxHeartbeats 4000000
open Go.Proofs Go.RowKit
theorem YM {P:Program}{σ:Env}{w:World}{fn:Func}{a u u2:Tmp}{t:TypeId}{R:Value→World→Prop}{b k:Nat}{cs:List Value}{v' v'':Value}(hr:fn.results=#[.cell a t,.tmp u,.tmp u2])(hA: ∀w,(isAgg t).run P w=.ok true w)(hS: ∀w,(sizeOf t).run P w=.ok k w)(hk:cs.length=k)
 (hv:σ a=.pointer (some ⟨b,0,none⟩)) (hc:CellsAt w b 0 cs) (hu:σ u=v') (hu2:σ u2=v'') (h:R (.tuple #[.agg cs.toArray,v',v'']) w):YO P fn R .ret σ w:=by
 subst hk
 refine⟨_,fun tmps ht=>?_,h⟩
 have:=yY (P:=P) (w:=w) b 0 cs 0 #[] (fun j hj=>by simpa using hc j hj)
 have e:tmps[a]?.getD undef=.pointer (some ⟨b,0,none⟩):=by rw[←hv,←ht a];simp
 have e2:tmps[u]?.getD undef=v':=by rw[←hu,←ht u];simp
 have e3:tmps[u2]?.getD undef=v'':=by rw[←hu2,←ht u2];simp
 simp[results,hr,e,e2,e3,asAddr,loadVar,hA,hS,loadCells,this,go_sem]
section
variable {d:Dcl}{n:Nat}{L:List Ev}{V:List Ent}{o start:Int}{c:Cmd}
theorem zbv (h: ¬xx d c=0):exR d n L V o start c=(ev0,false,xx d c):=if_pos h
theorem zbj (h:xx d c=0)(hk:(yO L c.ckey).isSome=true):exR d n L V o start c=((yO L c.ckey).getD default,false,0):=by
 obtain⟨e,he⟩:=Option.isSome_iff_exists.1 hk
 unfold exR
 rw[if_neg (fun h9=>h9 h),he]
 rfl
theorem zap (h:xx d c=0)(hk:(yO L c.ckey).isSome=false):exR d n L V o start c=if ¬Zb c ((yh (c.ctyp,c.cagg) V:Nat):Int)=0 then(ev0,false,Zb c ((yh (c.ctyp,c.cagg) V:Nat):Int))
 else if ¬yH (xX d c.ctyp) (zO d (c.ctyp,c.cagg) V) c.cfield c.cop c.carg=0 then(ev0,false,yH (xX d c.ctyp) (zO d (c.ctyp,c.cagg) V) c.cfield c.cop c.carg)
 else(evE c o (zu n L) (max (zK L) start),decide (evN o (zu n L) (max (zK L) start)=0),evN o (zu n L) (max (zK L) start)):=by
 have hn:yO L c.ckey=none:=Option.not_isSome_iff_eq_none.1 (by rw[hk];decide)
 unfold exR
 rw[if_neg (fun h9=>h9 h),hn]
theorem zbl (h:xx d c=0)(hk:(yO L c.ckey).isSome=false)(hx: ¬Zb c ((yh (c.ctyp,c.cagg) V:Nat):Int)=0):exR d n L V o start c=(ev0,false,Zb c ((yh (c.ctyp,c.cagg) V:Nat):Int)):=by rw[zap h hk,if_pos hx]
theorem zax (h:xx d c=0)(hk:(yO L c.ckey).isSome=false)(hx:Zb c ((yh (c.ctyp,c.cagg) V:Nat):Int)=0)(hm: ¬yH (xX d c.ctyp) (zO d (c.ctyp,c.cagg) V) c.cfield c.cop c.carg=0):exR d n L V o start c=(ev0,false,yH (xX d c.ctyp) (zO d (c.ctyp,c.cagg) V) c.cfield c.cop c.carg):=by rw[zap h hk,if_neg (fun h9=>h9 hx),if_pos hm]
theorem zbS (h:xx d c=0)(hk:(yO L c.ckey).isSome=false)(hx:Zb c ((yh (c.ctyp,c.cagg) V:Nat):Int)=0)(hm:yH (xX d c.ctyp) (zO d (c.ctyp,c.cagg) V) c.cfield c.cop c.carg=0):exR d n L V o start c=(evE c o (zu n L) (max (zK L) start),decide (evN o (zu n L) (max (zK L) start)=0),evN o (zu n L) (max (zK L) start)):=by rw[zap h hk,if_neg (fun h9=>h9 hx),if_neg (fun h9=>h9 hm)]
theorem zaa (o:Int):0≤yu (zu n L) o∧yu (zu n L) o≤L.length:=by
 unfold yu
 split
 ·omega
 ·rename_i h
  rw[Yt]at h
  rw[Xd (by omega)]
  have:=XV (L:=L) (o:=o.toNat)
  omega
theorem zcY {W:World}{G:Nat→Prop}{m:Nat}{R:List ((Int×Int)×Value)}(hr:SetR W G m R L)(hid:(L.map idE).Nodup): ∀e∈L,e.Ok:=fun e he=>by
 obtain⟨x,vd,h1,_,h3,_⟩:=hr.at_ (idE e)
 rw[Yy hid he]at h1
 have h4:x=e:=h1
 exact h4▸h3
theorem zcl {key:Int}(h: ∀e∈L,e.Ok)(hk:(yO L key).isSome=true):((yO L key).getD default).Ok:=by
 obtain⟨e,he⟩:=Option.isSome_iff_exists.1 hk
 rw[he]
 exact h e (List.mem_of_find?_eq_some he)
theorem QA (h:xx d c=0):yV d c.ctyp c.cfield c.cop c.carg=0:=by
 unfold xx at h
 split at h
 ·cases h
 ·exact h
theorem Vk {k:Int×Int}(h:(zw d V k).isSome=false):yh k V=0:=by
 unfold zw at h
 split at h
 ·assumption
 ·cases h
theorem KX {k:Int×Int}(h:(zw d V k).isSome=true):stL d k V=zO d k V:=by
 unfold zw at h
 unfold stL
 split at h
 ·cases h
 ·rename_i hn;rw[if_neg hn]
end
set_option maxHeartbeats 8000000 in
theorem Yq {d:Dcl}{dd0:Value}(hdd0:RdS W G dd0 d.types){dd1:Value}(hdd1:RdS W G dd1 d.projs)(od:d.Ok){sq:Nat}{n:Nat}{L:List Ev}(hsq:(SetO sq n L).p W G){vb:Nat}{V:List Ent}{o:Int}(ho:InR o){start:Int}(hstart:InR start){c:Cmd}(oc:c.Ok)(hKN:RdS W G (.slice (some ⟨0,0,none⟩) 6 6) kindsL)(hS0:Sep G W ((ViewO vb d V V)::Rs) w)(hd:DclOk d)(hinv:Inv d V)(hml:V.length≤1000000)(hid:(L.map idE).Nodup)(hsr:Srt L)(hL:L.length≤1000000)(htop:InR (zK L)):Ret Tryz.prog 11 [.agg (d.cells dd0 dd1).toArray,.pointer (some ⟨sq,0,none⟩),.pointer (some ⟨vb,0,none⟩),.int .i64 (o),.int .i64 (start),.agg (c.cells).toArray] w (fun r w'=> ∃(vd:Value),r=(.tuple #[.agg ((exR d n L V o start c).1.cells vd).toArray,.bool ((exR d n L V o start c).2.1),.int .i64 ((exR d n L V o start c).2.2)]:Value)∧Sep G W ((ViewO vb d V V)::(DepO vd ((exR d n L V o start c).1.deps))::Rs) w'):=by
 have hdd0s:_*24≤_:=hdd0.small
 have hdd1s:_*40≤_:=hdd1.small
 have hKNs:_*8≤_:=hKN.small
 refine zi (args:=[.agg (d.cells dd0 dd1).toArray,Ix sq 0,Ix vb 0,Iv o,Iv start,.agg (c.cells).toArray]) Tryz.func11 rfl rfl ?_
 obtain⟨vv1,m2,R3,hb4,ed,hr6⟩:=SetO.sh hsq
 have hsm7:(zu n L).length*8≤140737488355328:=ed.small
 refine za (R0 fun _=>st (zM (v:=.agg (d.cells dd0 dd1).toArray) rfl ?_))
 intro w10 b9 ee
 let el:=Blk b9 (d.cells dd0 dd1).toArray 25
 refine st (zM (v:=.agg (c.cells).toArray) rfl ?_)
 intro w14 s dk
 let eo:=Blk s (c.cells).toArray 49
 refine st (zq nT ?_)
 intro w18 F dl
 let ew:=Blk F (ev0.cells (Iz)).toArray 44
 have aJ:=((hS0.new ee).new dk).new dl
 refine st (aS (.bool false) (st (aS (Iv 0) (zb (za (za (R0 fun _=>st (zh (k:=2) uT rT rfl rfl (CellsAt.all (aJ.b2)) (st (zh (k:=7) mT lT rfl rfl (CellsAt.all (aJ.b1)) (st (cL Tryz.call34 (zaj (d:=d) (c:=c) hdd0 hdd1 od oc hKN aJ) ?_))))))))))))
 rintro _ w20 ⟨rfl,ak⟩
 refine st (aS (Iv (xx d c)) (zb (za (R0 fun _=>st (mV (Iv (xx d c)) (st (yn (k:=.i64) (a:=xx d c) (b:=0) rfl rfl (zb ?_))))))))
 cases X: !decide ((xx d c)=0)
 have hc22r:=X
 have X:=zQ X
 have hzc:xx d c=0:=by simpa using X
 obtain⟨ef,eg,eh⟩:=Yb (QA hzc)
 refine ze rfl (zl (za (za (R0 fun _=>st (mV (Ix sq 0) (st (Xm rfl (st (lD (Iv (c.ckey)) vT rfl (zd (ak.b1) rfl) (st (cL Tryz.call35 (zba (key:=c.ckey) hsq oc.ckey ak (hid) (hsr) (hL)) ?_)))))))))))
 rintro _ w24 ⟨C,rfl,dm⟩
 let p:=((yO L c.ckey).getD default).cells C
 refine st (mV (.tuple #[.agg p.toArray,.bool (yO L c.ckey).isSome]) (st (zm (vs:=[.agg p.toArray,.bool ((yO L c.ckey).isSome)]) (i:=0) (v:=.agg p.toArray) rfl rfl (st (zm (vs:=[.agg p.toArray,.bool ((yO L c.ckey).isSome)]) (i:=1) (v:=.bool ((yO L c.ckey).isSome)) rfl rfl (st (zq nT ?_)))))))
 intro w28 aj dp
 let eu:=Blk aj p.toArray 44
 have aK:=dm.new dp
 refine stn (zp (v:=.agg p.toArray) (c':=p.toArray) kT rfl rfl (aK.b0) (zX ⟨rfl,rfl,rfl,(aK.depSl (i:=1) rfl).one,rfl,rfl,rfl,rfl,rfl,rfl,trivial⟩) yqc rfl ?_)
 intro w30 dq
 have N:=aK.pt0 dq
 refine st (aS (.bool ((yO L c.ckey).isSome)) (zb (za (R0 fun _=>st (mV (.bool ((yO L c.ckey).isSome)) (zb ?_))))))
 cases aL:(yO L c.ckey).isSome
 have hc33r:=aL
 have hzk:(yO L c.ckey).isSome=false:=by simpa using aL
 refine ze rfl (zl (za (R0 fun _=>st (yC rfl (st (lD dd0 Tryz.isAgg22 rfl (zd (N.b4) rfl) (st (Yc rfl (st (lD (Iv (c.ctyp)) vT rfl (zd (N.b3) rfl) ?_))))))))))
 have hi34:c.ctyp.toNat<d.types.length:=bo
 refine st (zr (k:=1) (i:=c.ctyp) mR sT rfl hdd0.sl rfl ⟨by omega,by omega⟩ ?_)
 have bq:c.ctyp.toNat<d.types.length:=bo
 obtain⟨bF,Q,aw⟩:=hdd0.typD bq
 have hsm37:((d.types.getD c.ctyp.toNat default).fields).length*48≤140737488355328:=Q.small
 have bG:=N.cells bF (hdd0.foot (ne_of_lt bq))
 refine st (zh (k:=1) nR sT rfl rfl bG (st (zq oR ?_)))
 intro w41 D dr
 let ai:=Blk D ((d.types.getD c.ctyp.toNat default).cells (zN W (sb dd0) (so dd0+c.ctyp.toNat*1+0))).toArray 74
 have br:=N.new dr
 refine stn (zp (v:=.agg ((d.types.getD c.ctyp.toNat default).cells (zN W (sb dd0) (so dd0+c.ctyp.toNat*1+0))).toArray) (c':=((d.types.getD c.ctyp.toNat default).cells (zN W (sb dd0) (so dd0+c.ctyp.toNat*1+0))).toArray) sT rfl rfl (br.b0) (zX ⟨Q.sl.one,trivial⟩) yqc rfl ?_)
 intro w43 ds
 have aM:=br.pt0 ds
 refine zb (za (R0 fun _=>st (mV (Ix vb 0) (st (Yc rfl (st (lD (Iv (c.ctyp)) vT rfl (zd (aM.b4) rfl) (st (Xw rfl (st (lD (Iv (c.cagg)) vT rfl (zd (aM.b4) rfl) (st (cL Tryz.call36 (zcn (ty:=c.ctyp) (no:=c.cagg) oc.ctyp oc.cagg (aM.mv6)) ?_)))))))))))))
 rintro _ w48 ⟨ad,rfl,bu⟩
 let ek:=(XR d (c.ctyp,c.cagg) V).cells ad
 have bv:=bu.r1
 have hr50s:_*32≤_:=bv.2
 refine st (mV (.tuple #[.agg ek.toArray,.bool ((zw d V (c.ctyp,c.cagg)).isSome)]) (st (zm (vs:=[.agg ek.toArray,.bool ((zw d V (c.ctyp,c.cagg)).isSome)]) (i:=0) (v:=.agg ek.toArray) rfl rfl (st (zm (vs:=[.agg ek.toArray,.bool ((zw d V (c.ctyp,c.cagg)).isSome)]) (i:=1) (v:=.bool ((zw d V (c.ctyp,c.cagg)).isSome)) rfl rfl (st (zq Tryz.zeroValue77 ?_)))))))
 intro w53 y dt
 have bw:=bu.new dt
 refine stn (zp (v:=.agg ek.toArray) (c':=ek.toArray) Tryz.sizeOf77 rfl rfl (bw.b0) (zX ⟨rfl,bv.1.one,trivial⟩) yqc rfl ?_)
 intro w55 du
 have al:=bw.pt0 du
 refine st (aS (.bool ((zw d V (c.ctyp,c.cagg)).isSome)) (zb (za (za (R0 fun _=>st (mV (.bool ((zw d V (c.ctyp,c.cagg)).isSome)) (st (yB (a:=(zw d V (c.ctyp,c.cagg)).isSome) rfl (zb ?_)))))))))
 refine Ut (fun σ I=> ∃(O:Value) (ρ:Env),σ=yd ρ [(1,Ix sq 0),(2,Ix vb 0),(3,Iv o),(4,Iv start),(6,Ix b9 0),(11,Ix s 0),(12,Ix F 0),(13,.bool false),(14,Iv 0),(18,Ix D 0),(19,Ix y 0)]∧Sep G W ((Blk y ((xH d (c.ctyp,c.cagg) V).cells O).toArray 77)::(ViewO vb d V V)::(RowE (α:=Cel) own 140 O (zO d (c.ctyp,c.cagg) V))::ai::eu::(DepO C (((yO L c.ckey).getD default).deps))::(Blk F #[Iv 0,Iv 0,Iv 0,(Iz),Iv 0,Iv 0,Iv 0,Iv 0,Iv 0,Iv 0] 44)::eo::el::Rs) I) ?_ ?_
 cases am: !((zw d V (c.ctyp,c.cagg)).isSome)
 try simp only[zf]at am
 refine ze rfl (zl ?_)
 have aN:(stL d (c.ctyp,c.cagg) V)=zO d (c.ctyp,c.cagg) V:=KX (by simpa using am)
 rw[aN]at al
 exact⟨rfl,ad,_,yW ⟨(show _=(Ix sq 0:Value)from rfl),(show _=(Ix vb 0:Value)from rfl),(show _=(Iv o:Value)from rfl),(show _=(Iv start:Value)from rfl),(show _=(Ix b9 0:Value)from rfl),(show _=(Ix s 0:Value)from rfl),(show _=(Ix F 0:Value)from rfl),(show _=(.bool false:Value)from rfl),(show _=(Iv 0:Value)from rfl),(show _=(Ix D 0:Value)from rfl),(show _=(Ix y 0:Value)from rfl),trivial⟩,al⟩
 try simp only[zf]at am
 refine zg rfl (R0 fun _=>st (zh (k:=1) nR sT rfl rfl (CellsAt.all (al.b3)) (st (cL Tryz.call37 (zdm (t:=(d.types.getD c.ctyp.toNat default)) Q aw al) ?_))))
 rintro bx w60 ⟨_,rfl,aO⟩
 have bz:=aO.r0
 have hr62s:_*32≤_:=bz.2
 refine st (xO rfl (stn (ym (v:=bx) (c:=[Iv ((XR d (c.ctyp,c.cagg) V).ver),ad]) (c':=[Iv ((XR d (c.ctyp,c.cagg) V).ver),bx]) Tryz.sizeOf75 rfl rfl (aO.b1) bz.1.one rfl rfl ?_)))
 intro w63 dv
 have bA:=aO.pt1 dv
 refine zb ?_
 have aN:(List.replicate (d.types.getD c.ctyp.toNat default).fields.length (⟨0,[]⟩:Cel))=zO d (c.ctyp,c.cagg) V:=(VP (d:=d) (k:=(c.ctyp,c.cagg)) (L:=V) (Vk (by simpa using am))).symm
 rw[aN]at bA
 exact⟨rfl,bx,_,yW ⟨(show _=(Ix sq 0:Value)from rfl),(show _=(Ix vb 0:Value)from rfl),(show _=(Iv o:Value)from rfl),(show _=(Iv start:Value)from rfl),(show _=(Ix b9 0:Value)from rfl),(show _=(Ix s 0:Value)from rfl),(show _=(Ix F 0:Value)from rfl),(show _=(.bool false:Value)from rfl),(show _=(Iv 0:Value)from rfl),(show _=(Ix D 0:Value)from rfl),(show _=(Ix y 0:Value)from rfl),trivial⟩,((bA.s10_abcefghij).s9_bcadefghi)⟩
 rintro _ w68 ⟨O,ρj1,rfl,dw⟩
 let en:=Blk y ((xH d (c.ctyp,c.cagg) V).cells O).toArray 77
 refine za (R0 fun _=>st (Zw (vals:=[Ix s 0,Ix y 0]) rfl (st (Zw (vals:=[Ix D 0,Ix y 0,Ix s 0]) rfl (st (zI (k:=1) (parts':=[(0,.func (.func 38) #[] #[Ix s 0,Ix y 0]),(1,.func (.func 39) #[] #[Ix D 0,Ix y 0,Ix s 0])]) (c:=#[.func (.func 38) #[] #[Ix s 0,Ix y 0],.func (.func 39) #[] #[Ix D 0,Ix y 0,Ix s 0]]) wT lR Tryz.zeroValue81 dc rfl kr ?_))))))
 intro T Z dx
 let ej:=Blk Z #[.func (.func 38) #[] #[Ix s 0,Ix y 0],.func (.func 39) #[] #[Ix D 0,Ix y 0,Ix s 0]] 81
 refine st (aS (Iy Z 2 2) (zb (za (za ?_))))
 obtain⟨G75,dy,ag,dz,aP⟩:=((dw.new dx).mv3).lend
 have an:=RowE.rd dy
 have hrd81s:_*32≤_:=an.small
 obtain⟨G83,bB,Y,dB,aQ⟩:=(dz.mv1).lend
 obtain⟨G90,dC,J,dD,aR⟩:=(dB.mv2).lend
 obtain⟨U,P,E,bH,ao⟩:=(dD.mv5).lend
 refine R0 fun _=>st (mV (Iy Z 2 2) (st (zJ (n:=2) wT rfl (⟨_,2,rfl,Nat.le_refl _,fun _=>⟨_,_,rfl⟩⟩:IsSl _ 2) (st (mV (Iv 0) (zb (zn ?_)))))))
 refine zZ (fun mq σ I=> ∃(k:Nat) (ρ:Env),mq=2-k∧σ=yd ρ [(1,Ix sq 0),(3,Iv o),(4,Iv start),(11,Ix s 0),(12,Ix F 0),(13,.bool false),(14,Iv 0),(66,(Iy Z 2 2)),(67,Iw 2),(68,Iw k)]∧(k≤2)∧(0<k→Zb c (xH d (c.ctyp,c.cagg) V).ver=0)∧(1<k→yH (d.types.getD c.ctyp.toNat default) (xH d (c.ctyp,c.cagg) V).cls c.cfield c.cop c.carg=0)∧Sep U T ((Blk Z #[.func (.func 38) #[] #[Ix s 0,Ix y 0],.func (.func 39) #[] #[Ix D 0,Ix y 0,Ix s 0]] 81)::(ViewO vb d V V)::(Blk aj (((yO L c.ckey).getD default).cells C).toArray 44)::(DepO C (((yO L c.ckey).getD default).deps))::(Blk F #[Iv 0,Iv 0,Iv 0,(Iz),Iv 0,Iv 0,Iv 0,Iv 0,Iv 0,Iv 0] 44)::(Blk b9 (d.cells dd0 dd1).toArray 25)::Rs) I) ⟨0,_,rfl,sSf,by omega,(fun h=>absurd h om),(fun h=>absurd h om),bH⟩ ?_
 rintro m104 σ105 w103 ⟨k,ρl1,rfl,rfl,hk2,bC,ei,aa⟩
 refine za (R0 fun _=>st (zC (k:=.i64) (a:=((k:Nat):Int)) (b:=((2:Nat):Int)) rfl rfl (zb (za ?_))))
 cases ab:decide (((k:Nat):Int)<((2:Nat):Int))
 have hc107r:=ab
 have ab:=fD ab
 have dE:=bC om
 have dG:=ei om
 refine ze rfl (ya (zS (za ?_)))
 refine WD6 ((fun TT ac=>WF [fun vals I=>Sep U T (ac::TT) I,fun vals I=> ∃(g:Value),(vals 3=(g:Value))∧Sep U T ((RowE (α:=Int) own 3 g (zu n L))::ac::TT) I,fun _ _=>True,fun vals I=> ∃(g:Value),(vals 3=(g:Value))∧(vals 5=(Iv (zK L):Value))∧Sep U T ((RowE (α:=Int) own 3 g (zu n L))::ac::TT) I,fun _ _=>True,fun _ _=>True,fun _ _=>True,fun vals I=> ∃(g:Value) (e:Value),(vals 3=(g:Value))∧(vals 5=(Iv (zK L):Value))∧(vals 8=(.tuple #[.agg ((evE c o (zu n L) (max (zK L) start)).cells e).toArray,Iv ((evN o (zu n L) (max (zK L) start)))]:Value))∧Sep U T ((RowE (α:=Int) own 3 g (zu n L))::(RowE (α:=Int) own 3 e ((evE c o (zu n L) (max (zK L) start)).deps))::ac::TT) I,fun vals I=> ∃(j:Nat),(vals 12=(Ix j 0:Value))∧Sep U T ((Blk j #[Iv 0,Iv 0,Iv 0,(Iz),Iv 0,Iv 0,Iv 0,Iv 0,Iv 0,Iv 0] 44)::ac::TT) I,fun vals I=> ∃(g:Value) (j:Nat),(vals 3=(g:Value))∧(vals 12=(Ix j 0:Value))∧Sep U T ((Blk j #[Iv 0,Iv 0,Iv 0,(Iz),Iv 0,Iv 0,Iv 0,Iv 0,Iv 0,Iv 0] 44)::(RowE (α:=Int) own 3 g (zu n L))::ac::TT) I,fun _ _=>True,fun vals I=> ∃(g:Value) (j:Nat),(vals 3=(g:Value))∧(vals 5=(Iv (zK L):Value))∧(vals 12=(Ix j 0:Value))∧Sep U T ((Blk j #[Iv 0,Iv 0,Iv 0,(Iz),Iv 0,Iv 0,Iv 0,Iv 0,Iv 0,Iv 0] 44)::(RowE (α:=Int) own 3 g (zu n L))::ac::TT) I,fun _ _=>True,fun _ _=>True,fun _ _=>True,fun vals I=> ∃(g:Value) (e:Value) (j:Nat),(vals 3=(g:Value))∧(vals 5=(Iv (zK L):Value))∧(vals 8=(.tuple #[.agg ((evE c o (zu n L) (max (zK L) start)).cells e).toArray,Iv ((evN o (zu n L) (max (zK L) start)))]:Value))∧(vals 12=(Ix j 0:Value))∧Sep U T ((Blk j #[Iv 0,Iv 0,Iv 0,(Iz),Iv 0,Iv 0,Iv 0,Iv 0,Iv 0,Iv 0] 44)::(RowE (α:=Int) own 3 g (zu n L))::(RowE (α:=Int) own 3 e ((evE c o (zu n L) (max (zK L) start)).deps))::ac::TT) I,fun _ _=>True,fun _ _=>True,fun _ _=>True,fun _ _=>True,fun _ _=>True,fun _ _=>True,fun _ _=>True,fun _ _=>True,fun _ _=>True,fun _ _=>True,fun _ _=>True,fun _ _=>True,fun _ _=>True,fun _ _=>True,fun _ _=>True,fun vals I=> ∃(g:Value) (e:Value) (j:Nat),(vals 3=(g:Value))∧(vals 5=(Iv (zK L):Value))∧(vals 8=(.tuple #[.agg ((evE c o (zu n L) (max (zK L) start)).cells e).toArray,Iv ((evN o (zu n L) (max (zK L) start)))]:Value))∧(vals 12=(Ix j 0:Value))∧Sep U T ((Blk j ((evE c o (zu n L) (max (zK L) start)).cells e).toArray 44)::(RowE (α:=Int) own 3 g (zu n L))::(RowE (α:=Int) own 3 e ((evE c o (zu n L) (max (zK L) start)).deps))::ac::TT) I]) ((ViewO vb d V V)::eu::(DepO C (((yO L c.ckey).getD default).deps))::(Blk F #[Iv 0,Iv 0,Iv 0,(Iz),Iv 0,Iv 0,Iv 0,Iv 0,Iv 0,Iv 0] 44)::el::Rs) ej) (AF [Vl 0 (.agg (c.cells).toArray),Vl 1 (Iv o),Vl 2 (Ix sq 0),fun _=>True,Vl 4 (Ix sq 0),fun _=>True,Vl 6 (Iv start),Vl 7 (Iv (max (zK L) start)),fun _=>True,fun vals=> ∀(e:Value),vals 8=(.tuple #[.agg ((evE c o (zu n L) (max (zK L) start)).cells e).toArray,Iv ((evN o (zu n L) (max (zK L) start)))]:Value)→vals 9=(.tuple #[.agg ((evE c o (zu n L) (max (zK L) start)).cells e).toArray,Iv ((evN o (zu n L) (max (zK L) start)))]:Value),fun vals=> ∀(e:Value),vals 8=(.tuple #[.agg ((evE c o (zu n L) (max (zK L) start)).cells e).toArray,Iv ((evN o (zu n L) (max (zK L) start)))]:Value)→vals 10=(.agg ((evE c o (zu n L) (max (zK L) start)).cells e).toArray:Value),Vl 11 (Iv ((evN o (zu n L) (max (zK L) start)))),fun _=>True,fun _=>True,Vl 14 (Iv ((evN o (zu n L) (max (zK L) start))))]) [[],[],[],[2],[],[2,3,4],[],[2,3,4,5,6],(rg 8),(rg 9),(rg 10),(rg 10),[],[0,1,2,3,4,5,6,7,8,9,10,12],(rg 14)] [3,5,8,12,13] [[0,1,3,8,9,11],[0,1,3,8,9,11],[0,8],[0,8],[0,1,8,9],[1,9],[0,1,3,8,9,11],[3,11],[3,11],[7,15],[7,15],[7,15,31],[0,1,3,7],[15],[31]] aa ⟨?_,fun _ _ _ _ _ _=>obl rfl (mV (Iv o) dR),fun _ _ _ _ _ _=>obl rfl (mV (Ix sq 0) dR),?_,fun _ _ _ _ _ _=>obl rfl (mV (Ix sq 0) dR),?_,fun _ _ _ _ _ _=>obl rfl (mV (Iv start) dR),?_,?_,?_,?_,?_,?_,?_,fun _ _ _ _ _ bI=>obl rfl (zY (v:=Iv ((evN o (zu n L) (max (zK L) start)))) (bI 11 dc) dR),trivial⟩ ?_ (hlocA:=yX ⟨dA,dA,dA,dT,dA,dT,dA,dA,dT,fun vals A B h=>fun e H=>(B 9 (.inl rfl)).trans (h e ((B 8 (.inr dc)).symm.trans H)),fun vals A B h=>fun e H=>(B 10 (.inl rfl)).trans (h e ((B 8 (.inr dc)).symm.trans H)),dA,dT,dT,dA,trivial⟩)
 intro dH vals w239 bJ R hA240
 have ax:dH∈[0,1,3,8,9,11]:=bJ
 simp only[yt]at ax
 rcases ax with rfl|rfl|rfl|rfl|rfl|rfl
 have bK:Sep _ _ _ _:=R
 exact obl rfl (zh (k:=7) mT lT rfl rfl (CellsAt.all (bK.gblk P)) dR)
 obtain⟨g,l,bL⟩:=R
 exact obl rfl (zh (k:=7) mT lT rfl rfl (CellsAt.all (bL.gblk P)) dR)
 obtain⟨g,l,m,bM⟩:=R
 exact obl rfl (zh (k:=7) mT lT rfl rfl (CellsAt.all (bM.gblk P)) dR)
 obtain⟨j,z,bN⟩:=R
 exact obl rfl (zh (k:=7) mT lT rfl rfl (CellsAt.all (bN.gblk P)) dR)
 obtain⟨g,j,l,z,bO⟩:=R
 exact obl rfl (zh (k:=7) mT lT rfl rfl (CellsAt.all (bO.gblk P)) dR)
 obtain⟨g,j,l,m,z,bP⟩:=R
 exact obl rfl (zh (k:=7) mT lT rfl rfl (CellsAt.all (bP.gblk P)) dR)
 intro dI vals w270 bQ aT aU
 have ay:dI∈[0,8]:=bQ
 simp only[yt]at ay
 rcases ay with rfl|rfl
 have bR:Sep _ _ _ _:=aT
 refine obl rfl ((zH (f:=42) (vals:=[Ix sq 0]) (cap:=[]) rfl (yE ⟨(aU 2 dc),trivial⟩) pR (zaE (HP.base (HP.base (HP.base (HP.base hsq ag) Y) J) E) bR) ?_))
 rintro g w277 ⟨_,rfl,aV⟩
 have bS:=aV.r0
 have hr279s:_*8≤_:=bS.2
 exact fun A B u=>⟨(exiA g (zx B aV)),trivial⟩
 obtain⟨j,z,bT⟩:=aT
 refine obl rfl ((zH (f:=42) (vals:=[Ix sq 0]) (cap:=[]) rfl (yE ⟨(aU 2 dc),trivial⟩) pR (zaE (HP.base (HP.base (HP.base (HP.base hsq ag) Y) J) E) bT) ?_))
 rintro g w283 ⟨_,rfl,aW⟩
 have bU:=aW.r0
 have hr285s:_*8≤_:=bU.2
 exact fun A B u=>⟨(exiA g (exiA j (zx B (zx ((u 12 dc).trans z) (aW.mv1))))),trivial⟩
 intro dJ vals w293 bV aX aY
 have az:dJ∈[1,9]:=bV
 simp only[yt]at az
 rcases az with rfl|rfl
 obtain⟨g,l,bW⟩:=aX
 refine obl rfl ((zH (f:=43) (vals:=[Ix sq 0]) (cap:=[]) rfl (yE ⟨(aY 4 dc),trivial⟩) qR (zaD (HP.base (HP.base (HP.base (HP.base hsq ag) Y) J) E) bW) ?_))
 rintro _ w299 ⟨rfl,bX⟩
 exact fun A B u=>⟨(exiA g (zx ((u 3 dc).trans l) (zx B bX))),trivial⟩
 obtain⟨g,j,l,z,bY⟩:=aX
 refine obl rfl ((zH (f:=43) (vals:=[Ix sq 0]) (cap:=[]) rfl (yE ⟨(aY 4 dc),trivial⟩) qR (zaD (HP.base (HP.base (HP.base (HP.base hsq ag) Y) J) E) bY) ?_))
 rintro _ w303 ⟨rfl,bZ⟩
 exact fun A B u=>⟨(exiA g (exiA j (zx ((u 3 dc).trans l) (zx B (zx ((u 12 dc).trans z) bZ))))),trivial⟩
 intro dK vals w311 ca aZ ba
 have aA:dK∈[3,11]:=ca
 simp only[yt]at aA
 rcases aA with rfl|rfl
 obtain⟨g,l,m,hS315⟩:=aZ
 exact obl rfl (Yj (k:=.i64) (a:=zK L) (b:=start) m (ba 6 dc) dR)
 obtain⟨g,j,l,m,z,hS317⟩:=aZ
 exact obl rfl (Yj (k:=.i64) (a:=zK L) (b:=start) m (ba 6 dc) dR)
 intro dL vals w320 cb bb S
 have aB:dL∈[3,11]:=cb
 simp only[yt]at aB
 rcases aB with rfl|rfl
 obtain⟨g,l,m,cc⟩:=bb
 refine obl rfl ?_
 obtain⟨G328,cd,hB331,ce,cf⟩:=cc.lend
 have aC:=RowE.rd cd
 have hrd334s:_*8≤_:=aC.small
 refine(zH (f:=41) (vals:=[.agg (c.cells).toArray,Iv o,g,Iv (max (zK L) start)]) (cap:=[]) rfl (yE ⟨(S 0 dc),(S 1 dc),l,(S 7 dc),trivial⟩) rR (UZ (c:=c) (o:=o) (v:=zu n L) (vv:=g) (lam:=max (zK L) start) oc om aC (by have h1:InR (zK L):=(by omega);have h2:InR start:=(by omega);omega) ce) ?_)
 rintro _ w336 ⟨e,rfl,bd⟩
 have cg:=bd.r0
 have hr338s:_*8≤_:=cg.2
 have ch:=cf _ _ bd
 exact fun A B u=>⟨(exiA g (exiA e (zx ((u 3 dc).trans l) (zx ((u 5 dc).trans m) (zx B ch))))),trivial⟩
 obtain⟨g,j,l,m,z,ci⟩:=bb
 refine obl rfl ?_
 obtain⟨G345,cj,hB348,ck,cl⟩:=(ci.mv1).lend
 have aD:=RowE.rd cj
 have hrd351s:_*8≤_:=aD.small
 refine(zH (f:=41) (vals:=[.agg (c.cells).toArray,Iv o,g,Iv (max (zK L) start)]) (cap:=[]) rfl (yE ⟨(S 0 dc),(S 1 dc),l,(S 7 dc),trivial⟩) rR (UZ (c:=c) (o:=o) (v:=zu n L) (vv:=g) (lam:=max (zK L) start) oc om aD (by have h1:InR (zK L):=(by omega);have h2:InR start:=(by omega);omega) ck) ?_)
 rintro _ w353 ⟨e,rfl,be⟩
 have cm:=be.r0
 have hr355s:_*8≤_:=cm.2
 have cn:=cl _ _ be
 exact fun A B u=>⟨(exiA g (exiA e (exiA j (zx ((u 3 dc).trans l) (zx ((u 5 dc).trans m) (zx B (zx ((u 12 dc).trans z) (cn.mv2)))))))),trivial⟩
 intro dM vals w359 co bf hA360
 have aE:dM∈[7,15]:=co
 simp only[yt]at aE
 rcases aE with rfl|rfl
 obtain⟨g,e,l,m,q,hS363⟩:=bf
 refine obl rfl (yi (v:=.tuple #[.agg ((evE c o (zu n L) (max (zK L) start)).cells e).toArray,Iv ((evN o (zu n L) (max (zK L) start)))]) q (fun A B u=>⟨rfl,?_⟩))
 intro ah H
 rw[u 8 (by decide)]at H;cases q.symm.trans H
 exact B
 obtain⟨g,e,j,l,m,q,z,hS364⟩:=bf
 refine obl rfl (yi (v:=.tuple #[.agg ((evE c o (zu n L) (max (zK L) start)).cells e).toArray,Iv ((evN o (zu n L) (max (zK L) start)))]) q (fun A B u=>⟨rfl,?_⟩))
 intro ah H
 rw[u 8 (by decide)]at H;cases q.symm.trans H
 exact B
 intro dN vals w366 cp bg bh
 have aF:dN∈[7,15]:=cp
 simp only[yt]at aF
 rcases aF with rfl|rfl
 obtain⟨g,e,l,m,q,hS370⟩:=bg
 let er:=(evE c o (zu n L) (max (zK L) start)).cells e
 have dO:vals 9=(.tuple #[.agg er.toArray,Iv ((evN o (zu n L) (max (zK L) start)))]:Value):=bh 9 dc e q
 refine obl rfl (zm (vs:=[.agg er.toArray,Iv ((evN o (zu n L) (max (zK L) start)))]) (i:=0) (v:=.agg er.toArray) dO rfl (fun A B u=>⟨rfl,?_⟩))
 intro ah H
 rw[u 8 (by decide)]at H;cases q.symm.trans H
 exact B
 obtain⟨g,e,j,l,m,q,z,hS372⟩:=bg
 let es:=(evE c o (zu n L) (max (zK L) start)).cells e
 have dP:vals 9=(.tuple #[.agg es.toArray,Iv ((evN o (zu n L) (max (zK L) start)))]:Value):=bh 9 dc e q
 refine obl rfl (zm (vs:=[.agg es.toArray,Iv ((evN o (zu n L) (max (zK L) start)))]) (i:=0) (v:=.agg es.toArray) dP rfl (fun A B u=>⟨rfl,?_⟩))
 intro ah H
 rw[u 8 (by decide)]at H;cases q.symm.trans H
 exact B
 intro dQ vals w375 cq ap aq
 have aG:dQ∈[7,15,31]:=cq
 simp only[yt]at aG
 rcases aG with rfl|rfl|rfl
 obtain⟨g,e,l,m,q,hS379⟩:=ap
 have dS:vals 9=(.tuple #[.agg ((evE c o (zu n L) (max (zK L) start)).cells e).toArray,Iv ((evN o (zu n L) (max (zK L) start)))]:Value):=aq 9 dc e q
 exact obl rfl (zm (vs:=[.agg ((evE c o (zu n L) (max (zK L) start)).cells e).toArray,Iv ((evN o (zu n L) (max (zK L) start)))]) (i:=1) (v:=Iv ((evN o (zu n L) (max (zK L) start)))) dS rfl dR)
 obtain⟨g,e,j,l,m,q,z,hS381⟩:=ap
 have dU:vals 9=(.tuple #[.agg ((evE c o (zu n L) (max (zK L) start)).cells e).toArray,Iv ((evN o (zu n L) (max (zK L) start)))]:Value):=aq 9 dc e q
 exact obl rfl (zm (vs:=[.agg ((evE c o (zu n L) (max (zK L) start)).cells e).toArray,Iv ((evN o (zu n L) (max (zK L) start)))]) (i:=1) (v:=Iv ((evN o (zu n L) (max (zK L) start)))) dU rfl dR)
 obtain⟨g,e,j,l,m,q,z,hS383⟩:=ap
 have dV:vals 9=(.tuple #[.agg ((evE c o (zu n L) (max (zK L) start)).cells e).toArray,Iv ((evN o (zu n L) (max (zK L) start)))]:Value):=aq 9 dc e q
 exact obl rfl (zm (vs:=[.agg ((evE c o (zu n L) (max (zK L) start)).cells e).toArray,Iv ((evN o (zu n L) (max (zK L) start)))]) (i:=1) (v:=Iv ((evN o (zu n L) (max (zK L) start)))) dV rfl dR)
 intro dW vals w386 cr ae hA387
 have aH:dW∈[0,1,3,7]:=cr
 simp only[yt]at aH
 rcases aH with rfl|rfl|rfl|rfl
 have cs:Sep _ _ _ _:=ae
 refine obl rfl ((zq nT ?_))
 intro w393 j ct
 exact fun A B u=>⟨(exiA j (zx B (cs.new ct))),trivial⟩
 obtain⟨g,l,cu⟩:=ae
 refine obl rfl ((zq nT ?_))
 intro w398 j cv
 exact fun A B u=>⟨(exiA g (exiA j (zx ((u 3 dc).trans l) (zx B (cu.new cv))))),trivial⟩
 obtain⟨g,l,m,cw⟩:=ae
 refine obl rfl ((zq nT ?_))
 intro w403 j cx
 exact fun A B u=>⟨(exiA g (exiA j (zx ((u 3 dc).trans l) (zx ((u 5 dc).trans m) (zx B (cw.new cx)))))),trivial⟩
 obtain⟨g,e,l,m,q,cy⟩:=ae
 refine obl rfl ((zq nT ?_))
 intro w408 j cz
 exact fun A B u=>⟨(exiA g (exiA e (exiA j (zx ((u 3 dc).trans l) (zx ((u 5 dc).trans m) (zx ((u 8 dc).trans q) (zx B (cy.new cz)))))))),trivial⟩
 intro dX vals w411 cC cD cE
 have aI:dX∈[15]:=cC
 simp only[yt]at aI
 subst aI
 obtain⟨g,e,j,l,m,q,z,ar⟩:=cD
 let et:=(evE c o (zu n L) (max (zK L) start)).cells e
 refine obl rfl ?_
 have dY:vals 10=(.agg et.toArray:Value):=cE 10 dc e q
 have bi:=ar.r2
 have hr419s:_*8≤_:=bi.2
 refine(zp (v:=.agg et.toArray) (c':=et.toArray) kT z dY (ar.b0) (zX ⟨rfl,rfl,rfl,bi.1.one,rfl,rfl,rfl,rfl,rfl,rfl,trivial⟩) yqc rfl ?_)
 intro w417 cF
 exact fun A B u=>⟨(exiA g (exiA e (exiA j (zx ((u 3 dc).trans l) (zx ((u 5 dc).trans m) (zx ((u 8 dc).trans q) (zx ((u 12 dc).trans z) (ar.pt0 cF)))))))),trivial⟩
 intro vals w427 cG cH
 obtain⟨g,e,j,l,m,q,z,af⟩:=cG
 let em:=(evE c o (zu n L) (max (zK L) start)).cells e
 have dZ:=cH 14 dc
 refine zT (kv:=[(1,Ix sq 0),(3,Iv o),(4,Iv start),(11,Ix s 0),(12,Ix F 0),(13,.bool false),(14,Iv 0),(66,(Iy Z 2 2)),(67,Iw 2),(68,Iw k),(69,.bool false),(25,Ix j 0),(26,Iv ((evN o (zu n L) (max (zK L) start))))]) ⟨rfl,rfl,rfl,rfl,rfl,rfl,rfl,rfl,rfl,rfl,rfl,(by exact z),(by exact dZ),trivial⟩ (fun ρw427=>(zb (za (R0 fun _=>st (zh (k:=10) oT kT rfl rfl (CellsAt.all (af.b0)) (st (mV (Iv ((evN o (zu n L) (max (zK L) start)))) (st (zR (k:=.i64) (a:=(evN o (zu n L) (max (zK L) start))) (b:=0) rfl rfl (st (mV (Iv ((evN o (zu n L) (max (zK L) start)))) ?_)))))))))))
 have bj:=af.r2
 have hr434s:_*8≤_:=bj.2
 refine stn (zp (v:=.agg em.toArray) (c':=em.toArray) kT rfl rfl (af.b7) (zX ⟨rfl,rfl,rfl,bj.1.one,rfl,rfl,rfl,rfl,rfl,rfl,trivial⟩) yqc rfl ?_)
 intro bD cI
 have bk:=af.pt7 cI
 refine st (aS (.bool (decide ((evN o (zu n L) (max (zK L) start))=0))) (st (aS (Iv ((evN o (zu n L) (max (zK L) start)))) (zb (zk (YM (b:=F) tT oT kT rfl rfl (CellsAt.all (bk.b7)) (show _=(.bool (decide ((evN o (zu n L) (max (zK L) start))=0)):Value)from rfl) (show _=(Iv ((evN o (zu n L) (max (zK L) start))):Value)from rfl) ?_))))))
 have cJ:=ao _ _ bk
 have cK:=aR _ _ cJ
 have cM:=aQ _ _ cK
 have cN:=aP _ _ cM
 have cO:Sep G W ((DepO e ((evE c o (zu n L) (max (zK L) start)).deps))::(RowE (α:=Cel) own 140 O (zO d (c.ctyp,c.cagg) V))::en::ai::eo::(Blk j em.toArray 44)::(RowE (α:=Int) own 3 g (zu n L))::ej::(ViewO vb d V V)::eu::(DepO C (((yO L c.ckey).getD default).deps))::(Blk F em.toArray 44)::el::Rs) bD:=JU (cN.mv6)
 have cP:Sep G W ((ViewO vb d V V)::(DepO e ((evE c o (zu n L) (max (zK L) start)).deps))::Rs) bD:=cO.sel 13 [8,0] (Nat.le_add_left _ _) rfl rfl
 rw[show exR d n L V o start c=((evE c o (zu n L) (max (zK L) start)),decide ((evN o (zu n L) (max (zK L) start))=0),(evN o (zu n L) (max (zK L) start)))from zbS hzc hzk dE dG]
 refine⟨e,rfl,cP⟩
 have ab:=tD ab
 refine zg rfl (zl (za (zn (za ?_))))
 rcases(show k=0∨k=1 by omega)with rfl|rfl
 refine R0 fun _=>st (zj (k:=1) (i:=0) wT lR rfl (⟨_,2,rfl,Nat.le_refl _,fun _=>⟨_,_,rfl⟩⟩:IsSl _ 2) rfl dc (st (lD (.func (.func 38) #[] #[Ix s 0,Ix y 0]) sR rfl (zd (aa.b0) rfl) (st (aS (.func (.func 38) #[] #[Ix s 0,Ix y 0]) (zb (za (R0 fun _=>st (mV (.func (.func 38) #[] #[Ix s 0,Ix y 0]) ?_)))))))))
 refine st (zH (f:=38) (vals:=[]) (cap:=[Ix s 0,Ix y 0]) (show _=(.func (.func 38) #[] #[Ix s 0,Ix y 0]:Value)from rfl) rfl Tryz.call38 (D_ex1 (bc:=s) (c:=c) (bs:=y) (x:=(xH d (c.ctyp,c.cagg) V)) (vx:=O) P oc (Blk.base (Blk.base bB J) E) (RdS.base (RdS.base (RdS.base an Y) J) E) (⟨show InR ((yh (c.ctyp,c.cagg) V:Nat):Int) by have:=Xa (c.ctyp,c.cagg) V;omega⟩:Sta.Ok (xH d (c.ctyp,c.cagg) V)) aa) ?_)
 rintro _ w443 ⟨rfl,au⟩
 refine st (aS (Iv ((Zb c (xH d (c.ctyp,c.cagg) V).ver))) (zb (za (R0 fun _=>st (mV (Iv ((Zb c (xH d (c.ctyp,c.cagg) V).ver))) (st (yn (k:=.i64) (a:=(Zb c (xH d (c.ctyp,c.cagg) V).ver)) (b:=0) rfl rfl (zb ?_))))))))
 cases K: !decide ((Zb c (xH d (c.ctyp,c.cagg) V).ver)=0)
 have hc445r:=K
 have K:=zQ K
 refine ze rfl (zl (R0 fun _=>?_))
 have cQ:InR (0+1):=by omega
 refine st (zP (r:=0+1) (k:=.i64) (a:=0) (b:=1) rfl rfl (zF cQ) (st (mV (Iv (0+1)) (zb ?_))))
 exact⟨_,by omega,1,_,rfl,sSf,by omega,(fun _=>K),(fun h=>absurd h om),au⟩
 have K:=zz K
 have hzn:=K
 refine zg rfl (za (yq (by kernel_rfl) (fun _=>(st (zL (parts':=[]) (v:=.agg (ev0.cells (Iz)).toArray) rfl (by simp+zetaDelta [Instr.build,Instr.fill,go_sem,Ev.cells,ev0]) (st (mV (Iv ((Zb c (xH d (c.ctyp,c.cagg) V).ver))) (stn (zp (v:=.agg (ev0.cells (Iz)).toArray) (c':=(ev0.cells (Iz)).toArray) kT rfl rfl (au.b4) (zX ⟨rfl,rfl,rfl,rfl,rfl,rfl,rfl,rfl,rfl,rfl,trivial⟩) yqc rfl ?_)))))))))
 intro ea cR
 have bl:=au.pt4 cR
 refine st (aS (.bool false) (st (aS (Iv ((Zb c (xH d (c.ctyp,c.cagg) V).ver))) (zb (zk (YM (b:=F) tT oT kT rfl rfl (CellsAt.all (bl.b4)) (show _=(.bool false:Value)from rfl) (show _=(Iv ((Zb c (xH d (c.ctyp,c.cagg) V).ver)):Value)from rfl) ?_))))))
 have cS:=ao _ _ bl
 have cT:=aR _ _ cS
 have cU:=aQ _ _ cT
 have cV:=aP _ _ cU
 have cW:Sep G W ((DepO (Iz) [])::(RowE (α:=Cel) own 140 O (zO d (c.ctyp,c.cagg) V))::en::ai::eo::ej::(ViewO vb d V V)::eu::(DepO C (((yO L c.ckey).getD default).deps))::ew::el::Rs) ea:=cV.depoNil
 rw[show exR d n L V o start c=(ev0,false,(Zb c (xH d (c.ctyp,c.cagg) V).ver))from zbl hzc hzk hzn]
 refine⟨(Iz),rfl,(cW.s11_ga)⟩
 refine R0 fun _=>st (zj (k:=1) (i:=1) wT lR rfl (⟨_,2,rfl,Nat.le_refl _,fun _=>⟨_,_,rfl⟩⟩:IsSl _ 2) rfl dc (st (lD (.func (.func 39) #[] #[Ix D 0,Ix y 0,Ix s 0]) sR rfl (zd (aa.b0) rfl) (st (aS (.func (.func 39) #[] #[Ix D 0,Ix y 0,Ix s 0]) (zb (za (R0 fun _=>st (mV (.func (.func 39) #[] #[Ix D 0,Ix y 0,Ix s 0]) ?_)))))))))
 refine st (zH (f:=39) (vals:=[]) (cap:=[Ix D 0,Ix y 0,Ix s 0]) (show _=(.func (.func 39) #[] #[Ix D 0,Ix y 0,Ix s 0]:Value)from rfl) rfl Tryz.call39 (D_ex2 (bt:=D) (t:=(d.types.getD c.ctyp.toNat default)) (vt:=(zN W (sb dd0) (so dd0+c.ctyp.toNat*1+0))) (bs:=y) (x:=(xH d (c.ctyp,c.cagg) V)) (vx:=O) (bc:=s) (c:=c) (Blk.base dC E) (RdS.base (RdS.base (RdS.base (RdS.base Q ag) Y) J) E) aw (Blk.base (Blk.base bB J) E) (RdS.base (RdS.base (RdS.base an Y) J) E) (⟨show InR ((yh (c.ctyp,c.cagg) V:Nat):Int) by have:=Xa (c.ctyp,c.cagg) V;omega⟩:Sta.Ok (xH d (c.ctyp,c.cagg) V)) P oc aa ((show Yw _ _ _ _ _ from eh.ask (hd.typ _ om) (hinv c.ctyp c.cagg ef eg)))) ?_)
 rintro _ w456 ⟨rfl,av⟩
 refine st (aS (Iv (yH (d.types.getD c.ctyp.toNat default) (xH d (c.ctyp,c.cagg) V).cls c.cfield c.cop c.carg)) (zb (za (R0 fun _=>st (mV (Iv (yH (d.types.getD c.ctyp.toNat default) (xH d (c.ctyp,c.cagg) V).cls c.cfield c.cop c.carg)) (st (yn (k:=.i64) (a:=yH (d.types.getD c.ctyp.toNat default) (xH d (c.ctyp,c.cagg) V).cls c.cfield c.cop c.carg) (b:=0) rfl rfl (zb ?_))))))))
 cases M: !decide ((yH (d.types.getD c.ctyp.toNat default) (xH d (c.ctyp,c.cagg) V).cls c.cfield c.cop c.carg)=0)
 have hc458r:=M
 have M:=zQ M
 refine ze rfl (zl (R0 fun _=>?_))
 have cX:InR (1+1):=by omega
 refine st (zP (r:=1+1) (k:=.i64) (a:=1) (b:=1) rfl rfl (zF cX) (st (mV (Iv (1+1)) (zb ?_))))
 exact⟨_,by omega,2,_,rfl,sSf,by omega,(fun _=>bC om),(fun _=>M),av⟩
 have M:=zz M
 have hzn:=M
 refine zg rfl (za (yq (by kernel_rfl) (fun _=>(st (zL (parts':=[]) (v:=.agg (ev0.cells (Iz)).toArray) rfl (by simp+zetaDelta [Instr.build,Instr.fill,go_sem,Ev.cells,ev0]) (st (mV (Iv (yH (d.types.getD c.ctyp.toNat default) (xH d (c.ctyp,c.cagg) V).cls c.cfield c.cop c.carg)) (stn (zp (v:=.agg (ev0.cells (Iz)).toArray) (c':=(ev0.cells (Iz)).toArray) kT rfl rfl (av.b4) (zX ⟨rfl,rfl,rfl,rfl,rfl,rfl,rfl,rfl,rfl,rfl,trivial⟩) yqc rfl ?_)))))))))
 intro eb cY
 have bm:=av.pt4 cY
 refine st (aS (.bool false) (st (aS (Iv (yH (d.types.getD c.ctyp.toNat default) (xH d (c.ctyp,c.cagg) V).cls c.cfield c.cop c.carg)) (zb (zk (YM (b:=F) tT oT kT rfl rfl (CellsAt.all (bm.b4)) (show _=(.bool false:Value)from rfl) (show _=(Iv (yH (d.types.getD c.ctyp.toNat default) (xH d (c.ctyp,c.cagg) V).cls c.cfield c.cop c.carg):Value)from rfl) ?_))))))
 have cZ:=ao _ _ bm
 have da:=aR _ _ cZ
 have db:=aQ _ _ da
 have dd:=aP _ _ db
 have de:Sep G W ((DepO (Iz) [])::(RowE (α:=Cel) own 140 O (zO d (c.ctyp,c.cagg) V))::en::ai::eo::ej::(ViewO vb d V V)::eu::(DepO C (((yO L c.ckey).getD default).deps))::ew::el::Rs) eb:=dd.depoNil
 rw[show exR d n L V o start c=(ev0,false,yH (d.types.getD c.ctyp.toNat default) (xH d (c.ctyp,c.cagg) V).cls c.cfield c.cop c.carg)from zax hzc hzk (bC (by omega)) hzn]
 refine⟨(Iz),rfl,(de.s11_ga)⟩
 have hzk:(yO L c.ckey).isSome=true:=by simpa using aL
 refine zg rfl (za (R0 fun _=>st (zh (k:=10) oT kT rfl rfl (CellsAt.all (N.b0)) (stn (zp (v:=.agg p.toArray) (c':=p.toArray) kT rfl rfl (N.b2) (zX ⟨rfl,rfl,rfl,(N.depSl (i:=1) rfl).one,rfl,rfl,rfl,rfl,rfl,rfl,trivial⟩) yqc rfl ?_)))))
 intro ec df
 have bn:=N.pt2 df
 refine st (aS (.bool false) (st (aS (Iv 0) (zb (zk (YM (b:=F) tT oT kT rfl rfl (CellsAt.all (bn.b2)) (show _=(.bool false:Value)from rfl) (show _=(Iv 0:Value)from rfl) ?_))))))
 have dg:Sep G W ((ViewO vb d V V)::(DepO C (((yO L c.ckey).getD default).deps))::Rs) ec:=bn.sel 6 [5,1] (Nat.le_add_left _ _) rfl rfl
 rw[show exR d n L V o start c=(((yO L c.ckey).getD default),false,0)from zbj hzc hzk]
 refine⟨C,rfl,dg⟩
 have X:=zz X
 have hzc: ¬xx d c=0:=by simpa using X
 refine zg rfl (za (yq (by kernel_rfl) (fun _=>(st (zL (parts':=[]) (v:=.agg (ev0.cells (Iz)).toArray) rfl (by simp+zetaDelta [Instr.build,Instr.fill,go_sem,Ev.cells,ev0]) (st (mV (Iv (xx d c)) (stn (zp (v:=.agg (ev0.cells (Iz)).toArray) (c':=(ev0.cells (Iz)).toArray) kT rfl rfl (ak.b0) (zX ⟨rfl,rfl,rfl,rfl,rfl,rfl,rfl,rfl,rfl,rfl,trivial⟩) yqc rfl ?_)))))))))
 intro bE dh
 have bp:=ak.pt0 dh
 refine st (aS (.bool false) (st (aS (Iv (xx d c)) (zb (zk (YM (b:=F) tT oT kT rfl rfl (CellsAt.all (bp.b0)) (show _=(.bool false:Value)from rfl) (show _=(Iv (xx d c):Value)from rfl) ?_))))))
 have di:Sep G W ((DepO (Iz) [])::ew::eo::el::(ViewO vb d V V)::Rs) bE:=bp.depoNil
 have dj:Sep G W ((ViewO vb d V V)::(DepO (Iz) [])::Rs) bE:=di.sel 5 [4,0] (Nat.le_add_left _ _) rfl rfl
 rw[show exR d n L V o start c=(ev0,false,xx d c)from zbv hzc]
 refine⟨(Iz),rfl,dj⟩
end
section
set_option maxRecDepth 8000
set_option maxHeartbeats 4000000
open Go.Proofs Go.RowKit
section
variable {n:Nat}{L l:List Ev}{e:Ev}{k:Nat}
theorem Vv (hk:k<l.length):addL n (xb n (l.take k)) (l.getD k default)=xb n (l.take (k+1)):=by
 rw[List.take_succ_eq_append_getElem hk,QG,zB _ hk]
theorem Vz:(xb n (l.take k)).length≤l.length:=Nat.le_trans ZF (List.length_take_le' ..)
theorem JW {L:List Ev}(h: ∀e∈L,e.Ok):0≤zK L∧zK L≤9223372036854775807:=by
 induction L with
 |nil=>exact⟨by decide,by decide⟩
 |cons e L ih=>
  have h1:=ih (fun x hx=>h x (List.mem_cons_of_mem _ hx))
  have h2:=(h e (List.mem_cons_self ..)).lam
  show 0≤max (zK L) e.lam∧max (zK L) e.lam≤_
  omega
end
theorem KM {d:Dcl}{dd0:Value}(hdd0:RdS W G dd0 d.types){dd1:Value}(hdd1:RdS W G dd1 d.projs)(od:d.Ok){n:Nat}(hn:n≤1000){vl:Value}{l:List Ev}(hl:RdS W G vl l)(hKN:RdS W G (.slice (some ⟨0,0,none⟩) 6 6) kindsL)(hS0:Sep G W Rs w)(hd:DclOk d)(hl9:l.length≤1000):Ret Tryz.prog 9 [.agg (d.cells dd0 dd1).toArray,.int .i64 ((n:Nat):Int),vl] w (fun r w'=> ∃(bs:Nat) (bv:Nat),r=(.tuple #[.pointer (some ⟨bs,0,none⟩),.pointer (some ⟨bv,0,none⟩)]:Value)∧Sep G W ((SetO bs n (xb n l))::(ViewO bv d (zD d (xb n l)) (zD d (xb n l)))::Rs) w'):=by
 have hdd0s:_*24≤_:=hdd0.small
 have hdd1s:_*40≤_:=hdd1.small
 have hls:_*96≤_:=hl.small
 have hKNs:_*8≤_:=hKN.small
 refine zi (args:=[.agg (d.cells dd0 dd1).toArray,Iw n,vl]) Tryz.func9 rfl rfl ?_
 refine za (R0 fun _=>st (zM (v:=.agg (d.cells dd0 dd1).toArray) rfl ?_))
 intro w3 b2 aA
 refine st (aS (.pointer none) (st (aS (.pointer none) (zb (za (R0 fun _=>st (mV (Iw n) ?_)))))))
 refine st (cL Tryz.call28 (Jh (n:=n) yqe (hS0.new aA)) ?_)
 rintro _ w6 ⟨j,rfl,aB⟩
 refine st (aS (Ix j 0) (zb (za (za (R0 fun _=>st (mV (Ix j 0) (st (ZH (b:=j) (o:=0) tR rfl (zb (ze rfl (zl (za (za (R0 fun _=>st (aS (Iv 0) (zb (zn (zZ (fun mq σ y=> ∃(k:Nat) (ρ:Env),mq=l.length-k∧σ=yd ρ [(1,Iw n),(2,vl),(3,Ix b2 0),(6,.pointer none),(7,.pointer none),(8,Ix j 0),(9,Iw k)]∧(k≤l.length)∧Sep G W ((SetO j n (xb n (l.take k)))::(Blk b2 (d.cells dd0 dd1).toArray 25)::Rs) y) ⟨0,_,rfl,sSf,Nat.zero_le _,aB⟩ ?_))))))))))))))))))
 rintro m9 σ10 S ⟨k,ρl1,rfl,rfl,hkk,q⟩
 refine za (za (R0 fun _=>st (mV (Iw k) (st (mV vl (st (zJ (n:=l.length) uR rfl hl.sl (st (zC (k:=.i64) (a:=((k:Nat):Int)) (b:=((l.length:Nat):Int)) rfl rfl (zb ?_))))))))))
 cases s:decide (((k:Nat):Int)<((l.length:Nat):Int))
 have s:=fD s
 refine ze rfl (ya (zS (za ?_)))
 have aC:k=l.length:=by omega
 rw[aC,List.take_length]at q
 have af:Sep G W ((SetO j n (xb n l))::(Blk b2 (d.cells dd0 dd1).toArray 25)::Rs) S:=q
 obtain⟨L,M,z,ag,ah⟩:=af.lend
 obtain⟨vv20,m21,R22,hb23,ai,hr25⟩:=SetO.sh M
 have hsm26:(zu n (xb n l)).length*8≤140737488355328:=ai.small
 refine WD4 ((fun N=>WF [fun vals y=>Sep L S (N::Rs) y,fun vals y=> ∃(g:Value),(vals 3=(g:Value))∧Sep L S ((RowE (α:=Ev) own 44 g (xb n l))::N::Rs) y,fun vals y=> ∃(g:Value) (c:Nat),(vals 3=(g:Value))∧(vals 4=(Ix c 0:Value))∧Sep L S ((RowE (α:=Ev) own 44 g (xb n l))::(ViewO c d (zD d (xb n l)) (zD d (xb n l)))::N::Rs) y]) (Blk b2 (d.cells dd0 dd1).toArray 25)) (AF [Vl 0 (Ix j 0),Vl 1 (.agg (d.cells dd0 dd1).toArray),Vl 2 (Ix j 0),fun _=>True,fun _=>True,Vl 5 (Ix j 0),fun vals=> ∀(c:Nat),vals 4=(Ix c 0:Value)→vals 6=(Ix c 0:Value)]) [[],[],[],[2],[1,2,3],(rg 5),(rg 6)] [3,4] [(0,2),(0,1),(0,0),(0,0),(1,1),(2,2),(2,2)] ag ⟨fun _ _ _ _ _ _ _=>obl rfl (mV (Ix j 0) dR),?_,fun _ _ _ _ _ _ _=>obl rfl (mV (Ix j 0) dR),?_,?_,fun _ _ _ _ _ _ T=>obl rfl (zY (v:=Ix j 0) (T 0 dc) dR),?_,trivial⟩ ?_ (hlocA:=yX ⟨dA,dA,dA,dT,dT,dA,fun vals t x h=>fun c B=>(x 6 (.inl rfl)).trans (h c ((x 4 (.inr dc)).symm.trans B)),trivial⟩)
 refine fun C _ _ aj ak D _=>?_
 have hkk:=xk aj ak
 rcases hkk with rfl|rfl
 have U:Sep _ _ _ _:=D
 exact obl rfl (zh (k:=2) uT rT rfl rfl (CellsAt.all (U.b0)) dR)
 obtain⟨g,m,V⟩:=D
 exact obl rfl (zh (k:=2) uT rT rfl rfl (CellsAt.all (V.b1)) dR)
 refine ob1 0 fun vals _ (al:Sep _ _ _ _) am=>(obl rfl ((zH (f:=16) (vals:=[Ix j 0]) (cap:=[]) rfl (yE ⟨(am 2 dc),trivial⟩) Tryz.call16 (zbz M al (laidL_good.ids) (laidL_good.srt) ((Nat.le_trans ZF om))) ?_)))
 rintro g w55 ⟨_,rfl,O⟩
 have an:=O.r0
 have hr57s:_*96≤_:=an.2
 exact fun t x E=>⟨(exiA g (zx x O)),trivial⟩
 refine ob1 1 fun vals _ ao ap=>?_
 obtain⟨g,m,aq⟩:=ao
 refine obl rfl ?_
 obtain⟨G67,ar,A,au,av⟩:=aq.lend
 have F:=RowE.rd ar
 have hrd73s:_*96≤_:=F.small
 refine(zH (f:=30) (vals:=[.agg (d.cells dd0 dd1).toArray,g]) (cap:=[]) rfl (yE ⟨(ap 1 dc),m,trivial⟩) Tryz.call30 (D_All (d:=d) (l:=(xb n l)) (vl:=g) (RdS.base (RdS.base hdd0 z) A) (RdS.base (RdS.base hdd1 z) A) od F (RdS.base (RdS.base hKN z) A) au (hd) ((Nat.le_trans ZF om))) ?_)
 rintro _ w75 ⟨c,rfl,aw⟩
 have ax:=av _ _ aw
 exact fun t x E=>⟨(exiA g (exiA c (zx ((E 3 dc).trans m) (zx x ax)))),trivial⟩
 refine ob1 2 fun _ _ X _=>?_
 obtain⟨g,c,m,u,hS126⟩:=X
 refine obl rfl (zY (v:=Ix c 0) u (fun t x E=>⟨rfl,?_⟩))
 intro b74q B
 rw[E 4 (by decide)]at B;cases u.symm.trans B
 exact x
 intro vals w127 Y H
 obtain⟨g,c,m,u,Z⟩:=Y
 have ay:=H 5 dc
 have az:vals 6=(Ix c 0:Value):=H 6 dc c u
 refine zT (kv:=[(1,Iw n),(2,vl),(3,Ix b2 0),(6,Ix j 0),(7,Ix c 0),(8,Ix j 0),(9,Iw k),(14,Iw k),(15,vl),(16,Iw l.length),(17,.bool false)]) ⟨rfl,rfl,rfl,(by exact ay),(by exact az),rfl,rfl,rfl,rfl,rfl,rfl,trivial⟩ (fun ρw127=>(zb (zk (zbm Tryz.results9 (show _=(Ix j 0:Value)from rfl) (show _=(Ix c 0:Value)from rfl) ?_))))
 have aa:=ah _ _ Z
 refine⟨j,c,rfl,(aa.s4_ac)⟩
 have s:=tD s
 refine zg rfl (zl (za (zn (R0 fun _=>st (mV (Ix j 0) (st (mV vl (st (mV (Iw k) ?_)))))))))
 have ab:k<l.length:=bo
 refine st (zj (k:=10) (i:=k) uR kT rfl hl.sl rfl ab ?_)
 have I:k<l.length:=bo
 obtain⟨P,p,K⟩:=hl.evD I
 have hsm138:((l.getD k default).deps).length*8≤140737488355328:=p.small
 have Q:=q.cells P (hl.foot (ne_of_lt I))
 refine st (zh (k:=10) oT kT rfl rfl Q (st (cL Tryz.call29 (zdJ (e:=(l.getD k default)) p K q ((Nat.le_trans Vz om)) (laidL_good.len)) ?_)))
 rintro _ w142 ⟨ac,rfl,R,J⟩
 refine zb (R0 fun _=>st (mV (Iw k) ?_))
 have ad:InR ((k+1:Nat):Int):=bo
 refine st (zP (r:=((k+1:Nat):Int)) (k:=.i64) (a:=((k:Nat):Int)) (b:=1) rfl rfl (by rw[show(((k:Nat):Int)+1:Int)=((k+1:Nat):Int)from bo];exact zF ad) (st (aS (Iw (k+1)) (zb ?_))))
 have ae:(xb n (l.take (k+1)))=ac:=(by rw[R];exact(Vv (by omega)).symm)
 rw[←ae]at J
 exact⟨_,by omega,k+1,_,rfl,sSf,by omega,J⟩
end
section
set_option maxRecDepth 8000
set_option maxHeartbeats 4000000
open Go.Proofs Go.RowKit
theorem yqf {p:Prop}(h:p:=by decide+kernel):p:=h
theorem Ki {d:Dcl}{n:Nat}{L:List Ev}{V:List Ent}{o start:Int}{c:Cmd}(oc:c.Ok)(ho:InR o)(hs:InR start)(hL: ∀e∈L,e.Ok)(hl:L.length≤1000000):(exR d n L V o start c).1.Ok:=by
 by_cases h:xx d c=0
 ·cases hk:(yO L c.ckey).isSome with
  |true=>rw[zbj h hk];exact zcl hL hk
  |false=>
   by_cases hx:Zb c ((yh (c.ctyp,c.cagg) V:Nat):Int)=0
   ·by_cases hm:yH (xX d c.ctyp) (zO d (c.ctyp,c.cagg) V) c.cfield c.cop c.carg=0
    ·rw[zbS h hk hx hm]
     have h9:=zaa (n:=n) (L:=L) o
     have h8:=JW hL
     exact zdw oc ho (by omega) (by omega)
    ·rw[zax h hk hx hm];exact Ui
   ·rw[zbl h hk hx];exact Ui
 ·rw[zbv h];exact Ui
def dF:Dcl:=⟨[⟨[⟨1,1,true,[]⟩]⟩],[]⟩
theorem Ws:DclOk dF:=by
 have one: ∀{P:Nat→Prop},P 0→ ∀i,i<1→P i:=fun{P} h i hi=>(show i=0 by omega)▸h
 refine⟨Nat.le_refl 1,(by show 1≤8;decide),one (P:=fun i=>TypOk (dF.types.getD i default)) ?_⟩
 refine⟨Nat.le_refl 1,(by show 1≤8;decide),?_,?_,?_,?_⟩
 ·intro i hi;obtain rfl:i=0:=by have:i<1:=hi;omega
  exact⟨(by decide:(1:Int)≤1),(by decide:(1:Int)≤4)⟩
 ·intro i hi h;obtain rfl:i=0:=by have:i<1:=hi;omega
  rfl
 ·intro i hi;obtain rfl:i=0:=by have:i<1:=hi;omega
  exact⟨fun h=>absurd h (by show ¬(1:Int)=4;decide),Nat.zero_le _⟩
 ·intro i hi j hj;obtain rfl:i=0:=by have:i<1:=hi;omega
  exact absurd hj (Nat.not_lt_zero j)
theorem xP (hS0:Sep G W Rs w):Ret Tryz.prog 21 [] w (fun r w'=> ∃(bt:Nat) (bf:Nat),r=(.agg #[(.slice (some ⟨bt,0,none⟩) 1 1),.slice none 0 0]:Value)∧Sep G W ((Blk bt #[(.slice (some ⟨bf,0,none⟩) 1 1)] 74)::(Blk bf #[.int .i64 (1),.int .i64 (1),.bool true,.slice none 0 0] 106)::Rs) w'):=by
 refine zi (args:=[]) Tryz.func21 rfl rfl ?_
 refine za (R0 fun _=>st (zq Tryz.zeroValue25 ?_))
 intro w3 b2 h
 refine zb (za (yq (by kernel_rfl) (fun _=>(st (zL (parts':=[(0,Iv 1),(1,Iv 1),(2,.bool true)]) (v:=.agg #[Iv 1,Iv 1,.bool true,(Iz)]) rfl (by simp+zetaDelta [Instr.build,Instr.fill,Ev.cells,go_sem,Mv.cells,Fld.cells,Typ.cells,Prj.cells,Dcl.cells,Cel.cells,AskR.cells,CelS.cells,Ev.cells,Ent.cells,Sta.cells,Cmd.cells]) (st (zI (k:=4) (parts':=[(0,.agg #[Iv 1,Iv 1,.bool true,(Iz)])]) (c:=#[Iv 1,Iv 1,.bool true,(Iz)]) Tryz.underlying72 Tryz.sizeOf106 Tryz.zeroValue106 (by decide) rfl (by kernel_rfl) ?_)))))))
 intro w7 d i
 refine st (zL (parts':=[(0,(Iy d 1 1))]) (v:=.agg #[(Iy d 1 1)]) rfl (by simp+zetaDelta [Instr.build,Instr.fill,Ev.cells,go_sem,Mv.cells,Fld.cells,Typ.cells,Prj.cells,Dcl.cells,Cel.cells,AskR.cells,CelS.cells,Ev.cells,Ent.cells,Sta.cells,Cmd.cells]) (st (zI (k:=1) (parts':=[(0,.agg #[(Iy d 1 1)])]) (c:=#[(Iy d 1 1)]) mR sT oR (by decide) rfl (by kernel_rfl) ?_)))
 intro w11 a j
 have e:=((hS0.new h).new i).new j
 refine st (zL (parts':=[(0,(Iy a 1 1))]) (v:=.agg #[(Iy a 1 1),(Iz)]) rfl (by simp+zetaDelta [Instr.build,Instr.fill,Ev.cells,go_sem,Mv.cells,Fld.cells,Typ.cells,Prj.cells,Dcl.cells,Cel.cells,AskR.cells,CelS.cells,Ev.cells,Ent.cells,Sta.cells,Cmd.cells]) (stn (zp (v:=.agg #[(Iy a 1 1),(Iz)]) (c':=#[(Iy a 1 1),(Iz)]) rT rfl rfl (e.b2) (zX ⟨rfl,rfl,trivial⟩) yqc rfl ?_)))
 intro w13 g
 have f:=e.pt2 g
 refine zb (zk (Ve (b:=b2) Tryz.results21 uT rT rfl rfl (CellsAt.all (f.b2)) ?_))
 refine⟨a,d,rfl,(f.s3_ab)⟩
abbrev zV:=exR dF 2 ([]:List Ev) ([]:List Ent) 1 10 (⟨0,0,0,1,3,0,7⟩:Cmd)
abbrev ye:=exR dF 2 ([]:List Ev) ([]:List Ent) 1 10 (⟨0,0,0,1,3,1,7⟩:Cmd)
abbrev yf:=exR dF 2 ([]:List Ev) ([]:List Ent) 1 10 (⟨0,0,0,1, -1, -1,7⟩:Cmd)
abbrev kX154:=(⟨0,0,0,1,3,0,7⟩:Cmd)
abbrev kX155:=(⟨0,0,0,1,3,1,7⟩:Cmd)
abbrev kX156:=(⟨0,0,0,1, -1, -1,7⟩:Cmd)
set_option maxHeartbeats 8000000 in
set_option maxRecDepth 20000 in
theorem VO (hKN:RdS W G (.slice (some ⟨0,0,none⟩) 6 6) kindsL)(hS0:Sep G W Rs w):Ret Tryz.prog 6 [] w (fun r w'=>r=(.bool true:Value)∧Sep G W Rs w'):=by
 have hKNs:_*8≤_:=hKN.small
 refine zi (args:=[]) Tryz.func6 rfl rfl ?_
 refine za (R0 fun _=>st (aS (.bool false) (zb (za (R0 fun _=>st (cL pT (xP hS0) ?_))))))
 rintro _ w3 ⟨bJ,ao,rfl,iL⟩
 have hD:Sep _ _ ((RowE (α:=Fld) (shr G W) 106 (Iy ao 1 1) [(⟨1,1,true,[]⟩:Fld)])::_) _:=Sep.blkRow (src:=(shr G W)) (l:=[(⟨1,1,true,[]⟩:Fld)]) (css:=[(⟨1,1,true,[]⟩:Fld).cells (Iz)]) (iL.mv1) rfl ⟨fun _ _=>⟨_,rfl,(RdS.nil _ _),(show Fld.Ok (⟨1,1,true,[]⟩:Fld)from⟨by decide,by decide⟩)⟩,trivial⟩ yqa (show 1≤maxLen by decide)
 have iM:=hD.r0
 have hr7s:_*48≤_:=iM.2
 obtain⟨G8,hF,cR,hG,hH⟩:=hD.lend
 have bK:=RowE.rdB hF cR
 have hrd14s:_*48≤_:=bK.small
 have cS:Sep G8 w3 ((RowE (α:=Typ) (shr G8 w3) 74 (Iy bJ 1 1) [(⟨[(⟨1,1,true,[]⟩:Fld)]⟩:Typ)])::Rs) w3:=Sep.blkRow (src:=(shr G8 w3)) (l:=[(⟨[(⟨1,1,true,[]⟩:Fld)]⟩:Typ)]) (css:=[(⟨[(⟨1,1,true,[]⟩:Fld)]⟩:Typ).cells (Iy ao 1 1)]) hG rfl ⟨fun _ _=>⟨_,rfl,bK,(show Typ.Ok (⟨[(⟨1,1,true,[]⟩:Fld)]⟩:Typ)from⟨⟩)⟩,trivial⟩ yqa (show 1≤maxLen by decide)
 have hI:=cS.r0
 have hr16s:_*24≤_:=hI.2
 obtain⟨G17,hJ,cT,hK,hL⟩:=cS.lend
 have bL:=RowE.rdB hJ cT
 have hrd23s:_*24≤_:=bL.small
 refine st (cL Tryz.call9 (KM (d:=dF) (n:=2) (l:=([]:List Ev)) (vl:=(Iz)) bL (RdS.nil _ _) (⟨⟩:Dcl.Ok dF) yqe (RdS.nil _ _) (RdS.base (RdS.base hKN cR) cT) hK (Ws) ((Nat.zero_le _))) ?_)
 rintro _ iN ⟨A,B,rfl,hM⟩
 let iT:=(ViewO B dF ([]:List Ent) ([]:List Ent))
 have hN:=hL _ _ hM
 have hO:=hH _ _ hN
 refine st (mV (.tuple #[Ix A 0,Ix B 0]) (st (zm (vs:=[Ix A 0,Ix B 0]) (i:=0) (v:=Ix A 0) rfl rfl (st (zm (vs:=[Ix A 0,Ix B 0]) (i:=1) (v:=Ix B 0) rfl rfl (st (aS (Ix A 0) (st (aS (Ix B 0) (zb (za (za ?_))))))))))))
 have hP:Sep G W ((RowE (α:=Fld) (shr G W) 106 (Iy ao 1 1) [(⟨1,1,true,[]⟩:Fld)])::(SetO A 2 ([]:List Ev))::iT::Rs) iN:=(hO.s4_acd)
 refine zA kr (st (mV (Ix A 0) (st (ZH (b:=A) (o:=0) tR rfl (st (mV (.bool false) (sty rfl rfl (mV (Ix B 0) (sty rfl rfl (ZH (b:=B) (o:=0) Tryz.underlying33 rfl (st (yw (v:=.bool false) rfl rfl (zb (ze rfl (zl (za (R0 fun _=>?_)))))))))))))))))
 have cU:Cmd.Ok kX154:=⟨(show InR (0)from dc),(show InR (0)from dc),(show InR (0)from dc),(show InR (1)from dc),(show InR (3)from dc),(show InR (0)from dc),(show InR (7)from dc)⟩
 refine st (zL (parts':=[(3,Iv 1),(4,Iv 3),(6,Iv 7)]) (v:=.agg (kX154.cells).toArray) rfl (by simp+zetaDelta [Instr.build,Instr.fill,Ev.cells,go_sem,Mv.cells,Fld.cells,Typ.cells,Prj.cells,Dcl.cells,Cel.cells,AskR.cells,CelS.cells,Ev.cells,Ent.cells,Sta.cells,Cmd.cells]) (st (zq Tryz.zeroValue49 ?_)))
 intro w35 Z hQ
 have cV:=hP.new hQ
 refine stn (zp (v:=.agg (kX154.cells).toArray) (c':=(kX154.cells).toArray) lT rfl rfl (cV.b0) (zX ⟨rfl,rfl,rfl,rfl,rfl,rfl,rfl,trivial⟩) yqc rfl ?_)
 intro w37 hR
 refine zb (za ?_)
 refine WD6 ((fun R S T U=>WF [fun vals O=>Sep G W (R::S::T::U::Rs) O,fun vals O=> ∃(z:Nat) (x:Nat),(vals 0=(.agg #[(Iy z 1 1),Iz]:Value))∧Sep G W ((Blk z #[(Iy x 1 1)] 74)::(Blk x #[Iv 1,Iv 1,.bool true,Iz] 106)::R::S::T::U::Rs) O,fun _ _=>True,fun vals O=> ∃(z:Nat) (x:Nat) (e:Value),(vals 0=(.agg #[(Iy z 1 1),Iz]:Value))∧(vals 4=(.tuple #[.agg (zV.1.cells e).toArray,.bool (zV.2.1),Iv (zV.2.2)]:Value))∧Sep G W ((RowE (α:=Fld) (shr G W) 106 (Iy x 1 1) [(⟨1,1,true,[]⟩:Fld)])::T::U::(DepO e (zV.1.deps))::R::S::Rs) O,fun vals O=> ∃(C:Nat),(vals 9=(Ix C 0:Value))∧Sep G W ((Blk C #[Iv 0,Iv 0,Iv 0,(Iz),Iv 0,Iv 0,Iv 0,Iv 0,Iv 0,Iv 0] 44)::R::S::T::U::Rs) O,fun vals O=> ∃(z:Nat) (x:Nat) (C:Nat),(vals 0=(.agg #[(Iy z 1 1),Iz]:Value))∧(vals 9=(Ix C 0:Value))∧Sep G W ((Blk z #[(Iy x 1 1)] 74)::(Blk x #[Iv 1,Iv 1,.bool true,Iz] 106)::(Blk C #[Iv 0,Iv 0,Iv 0,(Iz),Iv 0,Iv 0,Iv 0,Iv 0,Iv 0,Iv 0] 44)::R::S::T::U::Rs) O,fun _ _=>True,fun vals O=> ∃(z:Nat) (x:Nat) (e:Value) (C:Nat),(vals 0=(.agg #[(Iy z 1 1),Iz]:Value))∧(vals 4=(.tuple #[.agg (zV.1.cells e).toArray,.bool (zV.2.1),Iv (zV.2.2)]:Value))∧(vals 9=(Ix C 0:Value))∧Sep G W ((Blk C #[Iv 0,Iv 0,Iv 0,(Iz),Iv 0,Iv 0,Iv 0,Iv 0,Iv 0,Iv 0] 44)::(RowE (α:=Fld) (shr G W) 106 (Iy x 1 1) [(⟨1,1,true,[]⟩:Fld)])::T::U::(DepO e (zV.1.deps))::R::S::Rs) O,fun _ _=>True,fun _ _=>True,fun _ _=>True,fun _ _=>True,fun _ _=>True,fun _ _=>True,fun _ _=>True,fun vals O=> ∃(z:Nat) (x:Nat) (e:Value) (C:Nat),(vals 0=(.agg #[(Iy z 1 1),Iz]:Value))∧(vals 4=(.tuple #[.agg (zV.1.cells e).toArray,.bool (zV.2.1),Iv (zV.2.2)]:Value))∧(vals 9=(Ix C 0:Value))∧Sep G W ((Blk C (zV.1.cells e).toArray 44)::(RowE (α:=Fld) (shr G W) 106 (Iy x 1 1) [(⟨1,1,true,[]⟩:Fld)])::T::U::(DepO e (zV.1.deps))::R::S::Rs) O]) (Blk Z (kX154.cells).toArray 49) (RowE (α:=Fld) (shr G W) 106 (Iy ao 1 1) [(⟨1,1,true,[]⟩:Fld)]) (SetO A 2 ([]:List Ev)) iT) (AF [fun _=>True,Vl 1 (Ix A 0),Vl 2 (Ix B 0),Vl 3 (.agg (kX154.cells).toArray),fun _=>True,fun vals=> ∀(e:Value),vals 4=(.tuple #[.agg (zV.1.cells e).toArray,.bool (zV.2.1),Iv (zV.2.2)]:Value)→vals 5=(.tuple #[.agg (zV.1.cells e).toArray,.bool (zV.2.1),Iv (zV.2.2)]:Value),fun vals=> ∀(e:Value),vals 4=(.tuple #[.agg (zV.1.cells e).toArray,.bool (zV.2.1),Iv (zV.2.2)]:Value)→vals 6=(.agg (zV.1.cells e).toArray:Value),Vl 7 (.bool (zV.2.1)),Vl 8 (Iv (zV.2.2)),fun _=>True,fun _=>True,Vl 11 (.bool (zV.2.1)),Vl 12 (Iv (zV.2.2))]) [[],[],[],[],(rg 4),(rg 5),(rg 6),(rg 6),(rg 6),[],[0,1,2,3,4,5,6,9],[0,1,2,3,4,5,6,7,9,10],(rg 12)] [0,4,9,10] [[0,4],[0,1,4,5],[0,1,4,5],[0,1,4,5],[1,5],[3,7],[3,7],[3,7,15],[3,7,15],[0,1,3],[7],[15],[15]] (cV.pt0 hR) ⟨?_,fun _ _ _ _ _ _=>obl rfl (mV (Ix A 0) dR),fun _ _ _ _ _ _=>obl rfl (mV (Ix B 0) dR),?_,?_,?_,?_,?_,?_,?_,?_,fun _ _ _ _ _ ei=>obl rfl (zY (v:=.bool (zV.2.1)) (ei 7 dc) dR),fun _ _ _ _ _ ej=>obl rfl (zY (v:=Iv (zV.2.2)) (ej 8 dc) dR),trivial⟩ ?_ (hlocA:=yX ⟨dT,dA,dA,dA,dT,fun vals u y h=>fun e H=>(y 5 (.inl rfl)).trans (h e ((y 4 (.inr dc)).symm.trans H)),fun vals u y h=>fun e H=>(y 6 (.inl rfl)).trans (h e ((y 4 (.inr dc)).symm.trans H)),dA,dA,dT,dT,dA,dA,trivial⟩)
 intro hS vals w184 ek bM hA185
 have aP:hS∈[0,4]:=ek
 simp only[yt]at aP
 rcases aP with rfl|rfl
 have el:Sep _ _ _ _:=bM
 refine obl rfl ((cL pT (xP el) ?_))
 rintro _ w191 ⟨z,x,rfl,em⟩
 exact fun u y m=>⟨(exiA z (exiA x (zx y em))),trivial⟩
 obtain⟨C,N,en⟩:=bM
 refine obl rfl ((cL pT (xP en) ?_))
 rintro _ w196 ⟨z,x,rfl,eo⟩
 exact fun u y m=>⟨(exiA z (exiA x (exiA C (zx y (zx ((m 9 dc).trans N) eo))))),trivial⟩
 intro hT vals w209 er ab hA210
 have aQ:hT∈[0,1,4,5]:=er
 simp only[yt]at aQ
 rcases aQ with rfl|rfl|rfl|rfl
 have es:Sep _ _ _ _:=ab
 exact obl rfl (zh (k:=7) mT lT rfl rfl (CellsAt.all (es.b0)) dR)
 obtain⟨z,x,M,et⟩:=ab
 exact obl rfl (zh (k:=7) mT lT rfl rfl (CellsAt.all (et.b2)) dR)
 obtain⟨C,N,eu⟩:=ab
 exact obl rfl (zh (k:=7) mT lT rfl rfl (CellsAt.all (eu.b1)) dR)
 obtain⟨z,x,C,M,N,ew⟩:=ab
 exact obl rfl (zh (k:=7) mT lT rfl rfl (CellsAt.all (ew.b3)) dR)
 intro hU vals aA ex bN V
 have aR:hU∈[1,5]:=ex
 simp only[yt]at aR
 rcases aR with rfl|rfl
 obtain⟨z,x,M,ey⟩:=bN
 refine obl rfl ?_
 have bO:Sep _ _ ((RowE (α:=Fld) (shr G W) 106 (Iy x 1 1) [(⟨1,1,true,[]⟩:Fld)])::_) _:=Sep.blkRow (src:=(shr G W)) (l:=[(⟨1,1,true,[]⟩:Fld)]) (css:=[(⟨1,1,true,[]⟩:Fld).cells (Iz)]) (ey.mv1) rfl ⟨fun _ _=>⟨_,rfl,(RdS.nil _ _),(show Fld.Ok (⟨1,1,true,[]⟩:Fld)from⟨by decide,by decide⟩)⟩,trivial⟩ yqa (show 1≤maxLen by decide)
 have ez:=bO.r0
 have hr228s:_*48≤_:=ez.2
 obtain⟨cW,eA,bP,eB,eC⟩:=bO.lend
 have aT:=RowE.rdB eA bP
 have hrd235s:_*48≤_:=aT.small
 have bQ:Sep _ _ ((RowE (α:=Typ) (shr cW aA) 74 (Iy z 1 1) [(⟨[(⟨1,1,true,[]⟩:Fld)]⟩:Typ)])::_) _:=Sep.blkRow (src:=(shr cW aA)) (l:=[(⟨[(⟨1,1,true,[]⟩:Fld)]⟩:Typ)]) (css:=[(⟨[(⟨1,1,true,[]⟩:Fld)]⟩:Typ).cells (Iy x 1 1)]) eB rfl ⟨fun _ _=>⟨_,rfl,aT,(show Typ.Ok (⟨[(⟨1,1,true,[]⟩:Fld)]⟩:Typ)from⟨⟩)⟩,trivial⟩ yqa (show 1≤maxLen by decide)
 have eD:=bQ.r0
 have hr237s:_*24≤_:=eD.2
 obtain⟨G238,eE,bR,eF,eG⟩:=bQ.lend
 have aU:=RowE.rdB eE bR
 have hrd244s:_*24≤_:=aU.small
 obtain⟨G246,bS,bT,eH,eI⟩:=(eF.mv2).lend
 obtain⟨vv252,m253,R254,hb255,eJ,hr257⟩:=SetO.sh bS
 have hsm258:(zu 2 ([]:List Ev)).length*8≤140737488355328:=eJ.small
 refine(zH (f:=11) (vals:=[.agg (dF.cells (Iy z 1 1) (Iz)).toArray,Ix A 0,Ix B 0,Iv 1,Iv 10,.agg (kX154.cells).toArray]) (cap:=[]) rfl (yE ⟨M,(V 1 dc),(V 2 dc),rfl,rfl,(V 3 dc),trivial⟩) qT (Yq (d:=dF) (o:=1) (start:=10) (c:=kX154) (RdS.base aU bT) (RdS.nil _ _) (⟨⟩:Dcl.Ok dF) bS dc dc cU (RdS.base (RdS.base (RdS.base hKN bP) bR) bT) (eH.mv2) (Ws) ((Inv.nil dF)) ((Nat.zero_le _)) (List.Pairwise.nil) ((Good.nil (n:=2)).srt) ((Nat.zero_le _)) (dc)) ?_)
 rintro _ w261 ⟨e,rfl,eK⟩
 have eL:=eI _ _ eK
 have eM:=eG _ _ eL
 have eN:=eC _ _ eM
 exact fun u y m=>⟨(exiA z (exiA x (exiA e (zx ((m 0 dc).trans M) (zx y (eN.s7_acdefg)))))),trivial⟩
 obtain⟨z,x,C,M,N,eO⟩:=bN
 refine obl rfl ?_
 have bU:Sep _ _ ((RowE (α:=Fld) (shr G W) 106 (Iy x 1 1) [(⟨1,1,true,[]⟩:Fld)])::_) _:=Sep.blkRow (src:=(shr G W)) (l:=[(⟨1,1,true,[]⟩:Fld)]) (css:=[(⟨1,1,true,[]⟩:Fld).cells (Iz)]) (eO.mv1) rfl ⟨fun _ _=>⟨_,rfl,(RdS.nil _ _),(show Fld.Ok (⟨1,1,true,[]⟩:Fld)from⟨by decide,by decide⟩)⟩,trivial⟩ yqa (show 1≤maxLen by decide)
 have eP:=bU.r0
 have hr273s:_*48≤_:=eP.2
 obtain⟨cX,eQ,bV,eR,eS⟩:=bU.lend
 have aV:=RowE.rdB eQ bV
 have hrd280s:_*48≤_:=aV.small
 have bW:Sep _ _ ((RowE (α:=Typ) (shr cX aA) 74 (Iy z 1 1) [(⟨[(⟨1,1,true,[]⟩:Fld)]⟩:Typ)])::_) _:=Sep.blkRow (src:=(shr cX aA)) (l:=[(⟨[(⟨1,1,true,[]⟩:Fld)]⟩:Typ)]) (css:=[(⟨[(⟨1,1,true,[]⟩:Fld)]⟩:Typ).cells (Iy x 1 1)]) eR rfl ⟨fun _ _=>⟨_,rfl,aV,(show Typ.Ok (⟨[(⟨1,1,true,[]⟩:Fld)]⟩:Typ)from⟨⟩)⟩,trivial⟩ yqa (show 1≤maxLen by decide)
 have eT:=bW.r0
 have hr282s:_*24≤_:=eT.2
 obtain⟨G283,eU,bX,eV,eW⟩:=bW.lend
 have aW:=RowE.rdB eU bX
 have hrd289s:_*24≤_:=aW.small
 obtain⟨G291,bY,bZ,eX,eY⟩:=(eV.mv3).lend
 obtain⟨vv297,m298,R299,hb300,eZ,hr302⟩:=SetO.sh bY
 have hsm303:(zu 2 ([]:List Ev)).length*8≤140737488355328:=eZ.small
 refine(zH (f:=11) (vals:=[.agg (dF.cells (Iy z 1 1) (Iz)).toArray,Ix A 0,Ix B 0,Iv 1,Iv 10,.agg (kX154.cells).toArray]) (cap:=[]) rfl (yE ⟨M,(V 1 dc),(V 2 dc),rfl,rfl,(V 3 dc),trivial⟩) qT (Yq (d:=dF) (o:=1) (start:=10) (c:=kX154) (RdS.base aW bZ) (RdS.nil _ _) (⟨⟩:Dcl.Ok dF) bY dc dc cU (RdS.base (RdS.base (RdS.base hKN bV) bX) bZ) (eX.mv3) (Ws) ((Inv.nil dF)) ((Nat.zero_le _)) (List.Pairwise.nil) ((Good.nil (n:=2)).srt) ((Nat.zero_le _)) (dc)) ?_)
 rintro _ w306 ⟨e,rfl,fa⟩
 have fb:=eY _ _ fa
 have fc:=eW _ _ fb
 have fd:=eS _ _ fc
 exact fun u y m=>⟨(exiA z (exiA x (exiA e (exiA C (zx ((m 0 dc).trans M) (zx y (zx ((m 9 dc).trans N) ((fd.s8_acdefgh).mv4)))))))),trivial⟩
 intro hV vals w314 fe ca hA315
 have aX:hV∈[3,7]:=fe
 simp only[yt]at aX
 rcases aX with rfl|rfl
 obtain⟨z,x,e,M,D,hS318⟩:=ca
 refine obl rfl (yi (v:=.tuple #[.agg (zV.1.cells e).toArray,.bool (zV.2.1),Iv (zV.2.2)]) D (fun u y m=>⟨rfl,?_⟩))
 intro ae H
 rw[m 4 (by decide)]at H;cases D.symm.trans H
 exact y
 obtain⟨z,x,e,C,M,D,N,hS319⟩:=ca
 refine obl rfl (yi (v:=.tuple #[.agg (zV.1.cells e).toArray,.bool (zV.2.1),Iv (zV.2.2)]) D (fun u y m=>⟨rfl,?_⟩))
 intro ae H
 rw[m 4 (by decide)]at H;cases D.symm.trans H
 exact y
 intro hW vals w321 ff cb cc
 have aY:hW∈[3,7]:=ff
 simp only[yt]at aY
 rcases aY with rfl|rfl
 obtain⟨z,x,e,M,D,hS325⟩:=cb
 let hv:=(zV.1.cells e)
 have hX:vals 5=(.tuple #[.agg hv.toArray,.bool (zV.2.1),Iv (zV.2.2)]:Value):=cc 5 dc e D
 refine obl rfl (zm (vs:=[.agg hv.toArray,.bool (zV.2.1),Iv (zV.2.2)]) (i:=0) (v:=.agg hv.toArray) hX rfl (fun u y m=>⟨rfl,?_⟩))
 intro ae H
 rw[m 4 (by decide)]at H;cases D.symm.trans H
 exact y
 obtain⟨z,x,e,C,M,D,N,hS327⟩:=cb
 let hE:=(zV.1.cells e)
 have hY:vals 5=(.tuple #[.agg hE.toArray,.bool (zV.2.1),Iv (zV.2.2)]:Value):=cc 5 dc e D
 refine obl rfl (zm (vs:=[.agg hE.toArray,.bool (zV.2.1),Iv (zV.2.2)]) (i:=0) (v:=.agg hE.toArray) hY rfl (fun u y m=>⟨rfl,?_⟩))
 intro ae H
 rw[m 4 (by decide)]at H;cases D.symm.trans H
 exact y
 intro hZ vals w330 fg aB aC
 have aZ:hZ∈[3,7,15]:=fg
 simp only[yt]at aZ
 rcases aZ with rfl|rfl|rfl
 obtain⟨z,x,e,M,D,hS334⟩:=aB
 let jb:=(zV.1.cells e)
 have ia:vals 5=(.tuple #[.agg jb.toArray,.bool (zV.2.1),Iv (zV.2.2)]:Value):=aC 5 dc e D
 exact obl rfl (zm (vs:=[.agg jb.toArray,.bool (zV.2.1),Iv (zV.2.2)]) (i:=1) (v:=.bool (zV.2.1)) ia rfl dR)
 obtain⟨z,x,e,C,M,D,N,hS336⟩:=aB
 let jc:=(zV.1.cells e)
 have ib:vals 5=(.tuple #[.agg jc.toArray,.bool (zV.2.1),Iv (zV.2.2)]:Value):=aC 5 dc e D
 exact obl rfl (zm (vs:=[.agg jc.toArray,.bool (zV.2.1),Iv (zV.2.2)]) (i:=1) (v:=.bool (zV.2.1)) ib rfl dR)
 obtain⟨z,x,e,C,M,D,N,hS338⟩:=aB
 let jd:=(zV.1.cells e)
 have ic:vals 5=(.tuple #[.agg jd.toArray,.bool (zV.2.1),Iv (zV.2.2)]:Value):=aC 5 dc e D
 exact obl rfl (zm (vs:=[.agg jd.toArray,.bool (zV.2.1),Iv (zV.2.2)]) (i:=1) (v:=.bool (zV.2.1)) ic rfl dR)
 intro id vals w341 fh aD aE
 have ba:id∈[3,7,15]:=fh
 simp only[yt]at ba
 rcases ba with rfl|rfl|rfl
 obtain⟨z,x,e,M,D,hS345⟩:=aD
 let je:=(zV.1.cells e)
 have ie:vals 5=(.tuple #[.agg je.toArray,.bool (zV.2.1),Iv (zV.2.2)]:Value):=aE 5 dc e D
 exact obl rfl (zm (vs:=[.agg je.toArray,.bool (zV.2.1),Iv (zV.2.2)]) (i:=2) (v:=Iv (zV.2.2)) ie rfl dR)
 obtain⟨z,x,e,C,M,D,N,hS347⟩:=aD
 let jf:=(zV.1.cells e)
 have ig:vals 5=(.tuple #[.agg jf.toArray,.bool (zV.2.1),Iv (zV.2.2)]:Value):=aE 5 dc e D
 exact obl rfl (zm (vs:=[.agg jf.toArray,.bool (zV.2.1),Iv (zV.2.2)]) (i:=2) (v:=Iv (zV.2.2)) ig rfl dR)
 obtain⟨z,x,e,C,M,D,N,hS349⟩:=aD
 let jg:=(zV.1.cells e)
 have ih:vals 5=(.tuple #[.agg jg.toArray,.bool (zV.2.1),Iv (zV.2.2)]:Value):=aE 5 dc e D
 exact obl rfl (zm (vs:=[.agg jg.toArray,.bool (zV.2.1),Iv (zV.2.2)]) (i:=2) (v:=Iv (zV.2.2)) ih rfl dR)
 intro ii vals w352 fi aF hA353
 have bb:ii∈[0,1,3]:=fi
 simp only[yt]at bb
 rcases bb with rfl|rfl|rfl
 have fj:Sep _ _ _ _:=aF
 refine obl rfl ((zq nT ?_))
 intro w359 C fk
 exact fun u y m=>⟨(exiA C (zx y (fj.new fk))),trivial⟩
 obtain⟨z,x,M,fl⟩:=aF
 refine obl rfl ((zq nT ?_))
 intro w364 C fm
 exact fun u y m=>⟨(exiA z (exiA x (exiA C (zx ((m 0 dc).trans M) (zx y ((fl.new fm).s7_bcadefg)))))),trivial⟩
 obtain⟨z,x,e,M,D,fn⟩:=aF
 refine obl rfl ((zq nT ?_))
 intro w370 C fo
 exact fun u y m=>⟨(exiA z (exiA x (exiA e (exiA C (zx ((m 0 dc).trans M) (zx ((m 4 dc).trans D) (zx y (fn.new fo)))))))),trivial⟩
 intro ij vals w373 fp fq fr
 have bc:ij∈[7]:=fp
 simp only[yt]at bc
 subst bc
 obtain⟨z,x,e,C,M,D,N,aG⟩:=fq
 let iO:=(zV.1.cells e)
 refine obl rfl ?_
 have ik:vals 6=(.agg iO.toArray:Value):=fr 6 dc e D
 refine(zp (v:=.agg iO.toArray) (c':=iO.toArray) kT N ik (aG.b0) (zX ⟨rfl,rfl,rfl,(aG.depSl (i:=4) rfl).one,rfl,rfl,rfl,rfl,rfl,rfl,trivial⟩) yqc rfl ?_)
 intro w379 fs
 exact fun u y m=>⟨(exiA z (exiA x (exiA e (exiA C (zx ((m 0 dc).trans M) (zx ((m 4 dc).trans D) (zx ((m 9 dc).trans N) (aG.pt0 fs)))))))),trivial⟩
 intro vals w394 ft cd
 obtain⟨z,x,e,C,M,D,N,ce⟩:=ft
 let iU:=(Blk C (zV.1.cells e).toArray 44)
 have il:=cd 11 dc
 have im:=cd 12 dc
 refine zT (kv:=[(0,.bool false),(15,.agg #[(Iy bJ 1 1),Iz]),(16,.tuple #[Ix A 0,Ix B 0]),(14,.tuple #[Ix A 0,Ix B 0]),(17,Ix A 0),(18,Ix B 0),(1,Ix A 0),(2,Ix B 0),(19,Ix A 0),(20,.bool false),(21,.bool false),(22,Ix B 0),(23,.bool false),(24,.bool false),(25,.agg (kX154.cells).toArray),(3,Ix Z 0),(4,Ix C 0),(5,.bool (zV.2.1)),(6,Iv (zV.2.2))]) ⟨rfl,rfl,rfl,rfl,rfl,rfl,rfl,rfl,rfl,rfl,rfl,rfl,rfl,rfl,rfl,rfl,(by exact N),(by exact il),(by exact im),trivial⟩ (fun ρw394=>(zb (za (R0 fun _=>st (Yo rfl ?_)))))
 refine stn (ym (v:=Iv 1) (c:=[Iv 0,Iv 0,Iv 0,Iv 1,Iv 3,Iv 0,Iv 7]) (c':=[Iv 0,Iv 0,Iv 0,Iv 1,Iv 3,Iv 1,Iv 7]) kR rfl rfl (ce.b5) rfl rfl rfl ?_)
 intro w400 fu
 have cf:Cmd.Ok kX155:=⟨(show InR (0)from dc),(show InR (0)from dc),(show InR (0)from dc),(show InR (1)from dc),(show InR (3)from dc),(show InR (1)from dc),(show InR (7)from dc)⟩
 refine zb (za ?_)
 refine WD6 ((fun TT R S T U=>WF [fun vals O=>Sep G W (R::S::T::U::TT) O,fun vals O=> ∃(q:Nat) (p:Nat),(vals 0=(.agg #[(Iy q 1 1),Iz]:Value))∧Sep G W ((Blk q #[(Iy p 1 1)] 74)::(Blk p #[Iv 1,Iv 1,.bool true,Iz] 106)::R::S::T::U::TT) O,fun _ _=>True,fun vals O=> ∃(q:Nat) (p:Nat) (g:Value),(vals 0=(.agg #[(Iy q 1 1),Iz]:Value))∧(vals 4=(.tuple #[.agg (ye.1.cells g).toArray,.bool (ye.2.1),Iv (ye.2.2)]:Value))∧Sep G W ((RowE (α:=Fld) (shr G W) 106 (Iy p 1 1) [(⟨1,1,true,[]⟩:Fld)])::T::U::(DepO g (ye.1.deps))::R::S::TT) O,fun vals O=> ∃(I:Nat),(vals 9=(Ix I 0:Value))∧Sep G W ((Blk I #[Iv 0,Iv 0,Iv 0,(Iz),Iv 0,Iv 0,Iv 0,Iv 0,Iv 0,Iv 0] 44)::R::S::T::U::TT) O,fun vals O=> ∃(q:Nat) (p:Nat) (I:Nat),(vals 0=(.agg #[(Iy q 1 1),Iz]:Value))∧(vals 9=(Ix I 0:Value))∧Sep G W ((Blk q #[(Iy p 1 1)] 74)::(Blk p #[Iv 1,Iv 1,.bool true,Iz] 106)::(Blk I #[Iv 0,Iv 0,Iv 0,(Iz),Iv 0,Iv 0,Iv 0,Iv 0,Iv 0,Iv 0] 44)::R::S::T::U::TT) O,fun _ _=>True,fun vals O=> ∃(q:Nat) (p:Nat) (g:Value) (I:Nat),(vals 0=(.agg #[(Iy q 1 1),Iz]:Value))∧(vals 4=(.tuple #[.agg (ye.1.cells g).toArray,.bool (ye.2.1),Iv (ye.2.2)]:Value))∧(vals 9=(Ix I 0:Value))∧Sep G W ((Blk I #[Iv 0,Iv 0,Iv 0,(Iz),Iv 0,Iv 0,Iv 0,Iv 0,Iv 0,Iv 0] 44)::(RowE (α:=Fld) (shr G W) 106 (Iy p 1 1) [(⟨1,1,true,[]⟩:Fld)])::T::U::(DepO g (ye.1.deps))::R::S::TT) O,fun _ _=>True,fun _ _=>True,fun _ _=>True,fun _ _=>True,fun _ _=>True,fun _ _=>True,fun _ _=>True,fun vals O=> ∃(q:Nat) (p:Nat) (g:Value) (I:Nat),(vals 0=(.agg #[(Iy q 1 1),Iz]:Value))∧(vals 4=(.tuple #[.agg (ye.1.cells g).toArray,.bool (ye.2.1),Iv (ye.2.2)]:Value))∧(vals 9=(Ix I 0:Value))∧Sep G W ((Blk I (ye.1.cells g).toArray 44)::(RowE (α:=Fld) (shr G W) 106 (Iy p 1 1) [(⟨1,1,true,[]⟩:Fld)])::T::U::(DepO g (ye.1.deps))::R::S::TT) O]) ((DepO e (zV.1.deps))::(Blk Z (kX155.cells).toArray 49)::(RowE (α:=Fld) (shr G W) 106 (Iy ao 1 1) [(⟨1,1,true,[]⟩:Fld)])::Rs) iU (RowE (α:=Fld) (shr G W) 106 (Iy x 1 1) [(⟨1,1,true,[]⟩:Fld)]) (SetO A 2 ([]:List Ev)) iT) (AF [fun _=>True,Vl 1 (Ix A 0),Vl 2 (Ix B 0),Vl 3 (.agg (kX155.cells).toArray),fun _=>True,fun vals=> ∀(g:Value),vals 4=(.tuple #[.agg (ye.1.cells g).toArray,.bool (ye.2.1),Iv (ye.2.2)]:Value)→vals 5=(.tuple #[.agg (ye.1.cells g).toArray,.bool (ye.2.1),Iv (ye.2.2)]:Value),fun vals=> ∀(g:Value),vals 4=(.tuple #[.agg (ye.1.cells g).toArray,.bool (ye.2.1),Iv (ye.2.2)]:Value)→vals 6=(.agg (ye.1.cells g).toArray:Value),Vl 7 (.bool (ye.2.1)),Vl 8 (Iv (ye.2.2)),fun _=>True,fun _=>True,Vl 11 (.bool (ye.2.1)),Vl 12 (Iv (ye.2.2))]) [[],[],[],[],(rg 4),(rg 5),(rg 6),(rg 6),(rg 6),[],[0,1,2,3,4,5,6,9],[0,1,2,3,4,5,6,7,9,10],(rg 12)] [0,4,9,10] [[0,4],[0,1,4,5],[0,1,4,5],[0,1,4,5],[1,5],[3,7],[3,7],[3,7,15],[3,7,15],[0,1,3],[7],[15],[15]] (ce.pt5 fu) ⟨?_,fun _ _ _ _ _ _=>obl rfl (mV (Ix A 0) dR),fun _ _ _ _ _ _=>obl rfl (mV (Ix B 0) dR),?_,?_,?_,?_,?_,?_,?_,?_,fun _ _ _ _ _ fv=>obl rfl (zY (v:=.bool (ye.2.1)) (fv 7 dc) dR),fun _ _ _ _ _ fw=>obl rfl (zY (v:=Iv (ye.2.2)) (fw 8 dc) dR),trivial⟩ ?_ (hlocA:=yX ⟨dT,dA,dA,dA,dT,fun vals u y h=>fun g H=>(y 5 (.inl rfl)).trans (h g ((y 4 (.inr dc)).symm.trans H)),fun vals u y h=>fun g H=>(y 6 (.inl rfl)).trans (h g ((y 4 (.inr dc)).symm.trans H)),dA,dA,dT,dT,dA,dA,trivial⟩)
 intro io vals w548 fx cg hA549
 have bd:io∈[0,4]:=fx
 simp only[yt]at bd
 rcases bd with rfl|rfl
 have fy:Sep _ _ _ _:=cg
 refine obl rfl ((cL pT (xP fy) ?_))
 rintro _ w555 ⟨q,p,rfl,fz⟩
 exact fun u y m=>⟨(exiA q (exiA p (zx y fz))),trivial⟩
 obtain⟨I,P,fA⟩:=cg
 refine obl rfl ((cL pT (xP fA) ?_))
 rintro _ w560 ⟨q,p,rfl,fB⟩
 exact fun u y m=>⟨(exiA q (exiA p (exiA I (zx y (zx ((m 9 dc).trans P) fB))))),trivial⟩
 intro ip vals w573 fC ac hA574
 have be:ip∈[0,1,4,5]:=fC
 simp only[yt]at be
 rcases be with rfl|rfl|rfl|rfl
 have fE:Sep _ _ _ _:=ac
 exact obl rfl (zh (k:=7) mT lT rfl rfl (CellsAt.all (fE.b5)) dR)
 obtain⟨q,p,K,fF⟩:=ac
 exact obl rfl (zh (k:=7) mT lT rfl rfl (CellsAt.all (fF.b7)) dR)
 obtain⟨I,P,fG⟩:=ac
 exact obl rfl (zh (k:=7) mT lT rfl rfl (CellsAt.all (fG.b6)) dR)
 obtain⟨q,p,I,K,P,fH⟩:=ac
 exact obl rfl (zh (k:=7) mT lT rfl rfl (CellsAt.all (fH.b8)) dR)
 intro iq vals aH fI ch X
 have bf:iq∈[1,5]:=fI
 simp only[yt]at bf
 rcases bf with rfl|rfl
 obtain⟨q,p,K,fJ⟩:=ch
 refine obl rfl ?_
 have ci:Sep _ _ ((RowE (α:=Fld) (shr G W) 106 (Iy p 1 1) [(⟨1,1,true,[]⟩:Fld)])::_) _:=Sep.blkRow (src:=(shr G W)) (l:=[(⟨1,1,true,[]⟩:Fld)]) (css:=[(⟨1,1,true,[]⟩:Fld).cells (Iz)]) (fJ.mv1) rfl ⟨fun _ _=>⟨_,rfl,(RdS.nil _ _),(show Fld.Ok (⟨1,1,true,[]⟩:Fld)from⟨by decide,by decide⟩)⟩,trivial⟩ yqa (show 1≤maxLen by decide)
 have fK:=ci.r0
 have hr592s:_*48≤_:=fK.2
 obtain⟨cY,fL,cj,fM,fN⟩:=ci.lend
 have bg:=RowE.rdB fL cj
 have hrd599s:_*48≤_:=bg.small
 have ck:Sep _ _ ((RowE (α:=Typ) (shr cY aH) 74 (Iy q 1 1) [(⟨[(⟨1,1,true,[]⟩:Fld)]⟩:Typ)])::_) _:=Sep.blkRow (src:=(shr cY aH)) (l:=[(⟨[(⟨1,1,true,[]⟩:Fld)]⟩:Typ)]) (css:=[(⟨[(⟨1,1,true,[]⟩:Fld)]⟩:Typ).cells (Iy p 1 1)]) fM rfl ⟨fun _ _=>⟨_,rfl,bg,(show Typ.Ok (⟨[(⟨1,1,true,[]⟩:Fld)]⟩:Typ)from⟨⟩)⟩,trivial⟩ yqa (show 1≤maxLen by decide)
 have fO:=ck.r0
 have hr601s:_*24≤_:=fO.2
 obtain⟨G602,fP,cl,fQ,fR⟩:=ck.lend
 have bh:=RowE.rdB fP cl
 have hrd608s:_*24≤_:=bh.small
 obtain⟨G610,cm,cn,fS,fT⟩:=(fQ.mv2).lend
 obtain⟨vv616,m617,R618,hb619,fU,hr621⟩:=SetO.sh cm
 have hsm622:(zu 2 ([]:List Ev)).length*8≤140737488355328:=fU.small
 refine(zH (f:=11) (vals:=[.agg (dF.cells (Iy q 1 1) (Iz)).toArray,Ix A 0,Ix B 0,Iv 1,Iv 10,.agg (kX155.cells).toArray]) (cap:=[]) rfl (yE ⟨K,(X 1 dc),(X 2 dc),rfl,rfl,(X 3 dc),trivial⟩) qT (Yq (d:=dF) (o:=1) (start:=10) (c:=kX155) (RdS.base bh cn) (RdS.nil _ _) (⟨⟩:Dcl.Ok dF) cm dc dc cf (RdS.base (RdS.base (RdS.base hKN cj) cl) cn) (fS.mv2) (Ws) ((Inv.nil dF)) ((Nat.zero_le _)) (List.Pairwise.nil) ((Good.nil (n:=2)).srt) ((Nat.zero_le _)) (dc)) ?_)
 rintro _ w625 ⟨g,rfl,fV⟩
 have fW:=fT _ _ fV
 have fX:=fR _ _ fW
 have fY:=fN _ _ fX
 exact fun u y m=>⟨(exiA q (exiA p (exiA g (zx ((m 0 dc).trans K) (zx y (fY.s10_acdefghij)))))),trivial⟩
 obtain⟨q,p,I,K,P,fZ⟩:=ch
 refine obl rfl ?_
 have co:Sep _ _ ((RowE (α:=Fld) (shr G W) 106 (Iy p 1 1) [(⟨1,1,true,[]⟩:Fld)])::_) _:=Sep.blkRow (src:=(shr G W)) (l:=[(⟨1,1,true,[]⟩:Fld)]) (css:=[(⟨1,1,true,[]⟩:Fld).cells (Iz)]) (fZ.mv1) rfl ⟨fun _ _=>⟨_,rfl,(RdS.nil _ _),(show Fld.Ok (⟨1,1,true,[]⟩:Fld)from⟨by decide,by decide⟩)⟩,trivial⟩ yqa (show 1≤maxLen by decide)
 have ga:=co.r0
 have hr637s:_*48≤_:=ga.2
 obtain⟨cZ,gc,cp,gd,ge⟩:=co.lend
 have bi:=RowE.rdB gc cp
 have hrd644s:_*48≤_:=bi.small
 have cq:Sep _ _ ((RowE (α:=Typ) (shr cZ aH) 74 (Iy q 1 1) [(⟨[(⟨1,1,true,[]⟩:Fld)]⟩:Typ)])::_) _:=Sep.blkRow (src:=(shr cZ aH)) (l:=[(⟨[(⟨1,1,true,[]⟩:Fld)]⟩:Typ)]) (css:=[(⟨[(⟨1,1,true,[]⟩:Fld)]⟩:Typ).cells (Iy p 1 1)]) gd rfl ⟨fun _ _=>⟨_,rfl,bi,(show Typ.Ok (⟨[(⟨1,1,true,[]⟩:Fld)]⟩:Typ)from⟨⟩)⟩,trivial⟩ yqa (show 1≤maxLen by decide)
 have gf:=cq.r0
 have hr646s:_*24≤_:=gf.2
 obtain⟨G647,gg,cr,gh,gi⟩:=cq.lend
 have bj:=RowE.rdB gg cr
 have hrd653s:_*24≤_:=bj.small
 obtain⟨G655,cs,ct,gj,gk⟩:=(gh.mv3).lend
 obtain⟨vv661,m662,R663,hb664,gl,hr666⟩:=SetO.sh cs
 have hsm667:(zu 2 ([]:List Ev)).length*8≤140737488355328:=gl.small
 refine(zH (f:=11) (vals:=[.agg (dF.cells (Iy q 1 1) (Iz)).toArray,Ix A 0,Ix B 0,Iv 1,Iv 10,.agg (kX155.cells).toArray]) (cap:=[]) rfl (yE ⟨K,(X 1 dc),(X 2 dc),rfl,rfl,(X 3 dc),trivial⟩) qT (Yq (d:=dF) (o:=1) (start:=10) (c:=kX155) (RdS.base bj ct) (RdS.nil _ _) (⟨⟩:Dcl.Ok dF) cs dc dc cf (RdS.base (RdS.base (RdS.base hKN cp) cr) ct) (gj.mv3) (Ws) ((Inv.nil dF)) ((Nat.zero_le _)) (List.Pairwise.nil) ((Good.nil (n:=2)).srt) ((Nat.zero_le _)) (dc)) ?_)
 rintro _ w670 ⟨g,rfl,gm⟩
 have gn:=gk _ _ gm
 have go:=gi _ _ gn
 have gp:=ge _ _ go
 exact fun u y m=>⟨(exiA q (exiA p (exiA g (exiA I (zx ((m 0 dc).trans K) (zx y (zx ((m 9 dc).trans P) ((gp.s11_acdefghijk).mv4)))))))),trivial⟩
 intro ir vals w678 gq cu hA679
 have bk:ir∈[3,7]:=gq
 simp only[yt]at bk
 rcases bk with rfl|rfl
 obtain⟨q,p,g,K,E,hS682⟩:=cu
 refine obl rfl (yi (v:=.tuple #[.agg (ye.1.cells g).toArray,.bool (ye.2.1),Iv (ye.2.2)]) E (fun u y m=>⟨rfl,?_⟩))
 intro af H
 rw[m 4 (by decide)]at H;cases E.symm.trans H
 exact y
 obtain⟨q,p,g,I,K,E,P,hS683⟩:=cu
 refine obl rfl (yi (v:=.tuple #[.agg (ye.1.cells g).toArray,.bool (ye.2.1),Iv (ye.2.2)]) E (fun u y m=>⟨rfl,?_⟩))
 intro af H
 rw[m 4 (by decide)]at H;cases E.symm.trans H
 exact y
 intro it vals w685 gr cv cw
 have bl:it∈[3,7]:=gr
 simp only[yt]at bl
 rcases bl with rfl|rfl
 obtain⟨q,p,g,K,E,hS689⟩:=cv
 let iP:=(ye.1.cells g)
 have iu:vals 5=(.tuple #[.agg iP.toArray,.bool (ye.2.1),Iv (ye.2.2)]:Value):=cw 5 dc g E
 refine obl rfl (zm (vs:=[.agg iP.toArray,.bool (ye.2.1),Iv (ye.2.2)]) (i:=0) (v:=.agg iP.toArray) iu rfl (fun u y m=>⟨rfl,?_⟩))
 intro af H
 rw[m 4 (by decide)]at H;cases E.symm.trans H
 exact y
 obtain⟨q,p,g,I,K,E,P,hS691⟩:=cv
 let iQ:=(ye.1.cells g)
 have iv:vals 5=(.tuple #[.agg iQ.toArray,.bool (ye.2.1),Iv (ye.2.2)]:Value):=cw 5 dc g E
 refine obl rfl (zm (vs:=[.agg iQ.toArray,.bool (ye.2.1),Iv (ye.2.2)]) (i:=0) (v:=.agg iQ.toArray) iv rfl (fun u y m=>⟨rfl,?_⟩))
 intro af H
 rw[m 4 (by decide)]at H;cases E.symm.trans H
 exact y
 intro iw vals w694 gs aI aJ
 have bm:iw∈[3,7,15]:=gs
 simp only[yt]at bm
 rcases bm with rfl|rfl|rfl
 obtain⟨q,p,g,K,E,hS698⟩:=aI
 let jh:=(ye.1.cells g)
 have ix:vals 5=(.tuple #[.agg jh.toArray,.bool (ye.2.1),Iv (ye.2.2)]:Value):=aJ 5 dc g E
 exact obl rfl (zm (vs:=[.agg jh.toArray,.bool (ye.2.1),Iv (ye.2.2)]) (i:=1) (v:=.bool (ye.2.1)) ix rfl dR)
 obtain⟨q,p,g,I,K,E,P,hS700⟩:=aI
 let ji:=(ye.1.cells g)
 have iy:vals 5=(.tuple #[.agg ji.toArray,.bool (ye.2.1),Iv (ye.2.2)]:Value):=aJ 5 dc g E
 exact obl rfl (zm (vs:=[.agg ji.toArray,.bool (ye.2.1),Iv (ye.2.2)]) (i:=1) (v:=.bool (ye.2.1)) iy rfl dR)
 obtain⟨q,p,g,I,K,E,P,hS702⟩:=aI
 let jj:=(ye.1.cells g)
 have iz:vals 5=(.tuple #[.agg jj.toArray,.bool (ye.2.1),Iv (ye.2.2)]:Value):=aJ 5 dc g E
 exact obl rfl (zm (vs:=[.agg jj.toArray,.bool (ye.2.1),Iv (ye.2.2)]) (i:=1) (v:=.bool (ye.2.1)) iz rfl dR)
 intro iA vals w705 gt aK aL
 have bn:iA∈[3,7,15]:=gt
 simp only[yt]at bn
 rcases bn with rfl|rfl|rfl
 obtain⟨q,p,g,K,E,hS709⟩:=aK
 let jk:=(ye.1.cells g)
 have iB:vals 5=(.tuple #[.agg jk.toArray,.bool (ye.2.1),Iv (ye.2.2)]:Value):=aL 5 dc g E
 exact obl rfl (zm (vs:=[.agg jk.toArray,.bool (ye.2.1),Iv (ye.2.2)]) (i:=2) (v:=Iv (ye.2.2)) iB rfl dR)
 obtain⟨q,p,g,I,K,E,P,hS711⟩:=aK
 let jl:=(ye.1.cells g)
 have iC:vals 5=(.tuple #[.agg jl.toArray,.bool (ye.2.1),Iv (ye.2.2)]:Value):=aL 5 dc g E
 exact obl rfl (zm (vs:=[.agg jl.toArray,.bool (ye.2.1),Iv (ye.2.2)]) (i:=2) (v:=Iv (ye.2.2)) iC rfl dR)
 obtain⟨q,p,g,I,K,E,P,hS713⟩:=aK
 let jm:=(ye.1.cells g)
 have iD:vals 5=(.tuple #[.agg jm.toArray,.bool (ye.2.1),Iv (ye.2.2)]:Value):=aL 5 dc g E
 exact obl rfl (zm (vs:=[.agg jm.toArray,.bool (ye.2.1),Iv (ye.2.2)]) (i:=2) (v:=Iv (ye.2.2)) iD rfl dR)
 intro iE vals w716 gu aM hA717
 have bp:iE∈[0,1,3]:=gu
 simp only[yt]at bp
 rcases bp with rfl|rfl|rfl
 have gv:Sep _ _ _ _:=aM
 refine obl rfl ((zq nT ?_))
 intro w723 I gw
 exact fun u y m=>⟨(exiA I (zx y (gv.new gw))),trivial⟩
 obtain⟨q,p,K,gx⟩:=aM
 refine obl rfl ((zq nT ?_))
 intro w728 I gy
 exact fun u y m=>⟨(exiA q (exiA p (exiA I (zx ((m 0 dc).trans K) (zx y ((gx.new gy).s10_bcadefghij)))))),trivial⟩
 obtain⟨q,p,g,K,E,gz⟩:=aM
 refine obl rfl ((zq nT ?_))
 intro w734 I gA
 exact fun u y m=>⟨(exiA q (exiA p (exiA g (exiA I (zx ((m 0 dc).trans K) (zx ((m 4 dc).trans E) (zx y (gz.new gA)))))))),trivial⟩
 intro iF vals w737 gB gC gD
 have bq:iF∈[7]:=gB
 simp only[yt]at bq
 subst bq
 obtain⟨q,p,g,I,K,E,P,aN⟩:=gC
 let iR:=(ye.1.cells g)
 refine obl rfl ?_
 have iG:vals 6=(.agg iR.toArray:Value):=gD 6 dc g E
 refine(zp (v:=.agg iR.toArray) (c':=iR.toArray) kT P iG (aN.b0) (zX ⟨rfl,rfl,rfl,(aN.depSl (i:=4) rfl).one,rfl,rfl,rfl,rfl,rfl,rfl,trivial⟩) yqc rfl ?_)
 intro w743 gE
 exact fun u y m=>⟨(exiA q (exiA p (exiA g (exiA I (zx ((m 0 dc).trans K) (zx ((m 4 dc).trans E) (zx ((m 9 dc).trans P) (aN.pt0 gE)))))))),trivial⟩
 intro vals w758 gF gG
 obtain⟨q,p,g,I,K,E,P,cx⟩:=gF
 have iH:=gG 12 dc
 refine zT (kv:=[(0,.bool false),(15,.agg #[(Iy bJ 1 1),Iz]),(16,.tuple #[Ix A 0,Ix B 0]),(14,.tuple #[Ix A 0,Ix B 0]),(17,Ix A 0),(18,Ix B 0),(1,Ix A 0),(2,Ix B 0),(19,Ix A 0),(20,.bool false),(21,.bool false),(22,Ix B 0),(23,.bool false),(24,.bool false),(25,.agg (kX154.cells).toArray),(3,Ix Z 0),(4,Ix C 0),(5,.bool (zV.2.1)),(6,Iv (zV.2.2)),(35,Ix Z 5),(9,Iv (ye.2.2))]) ⟨rfl,rfl,rfl,rfl,rfl,rfl,rfl,rfl,rfl,rfl,rfl,rfl,rfl,rfl,rfl,rfl,rfl,rfl,rfl,rfl,(by exact iH),trivial⟩ (fun ρw758=>?_)
 refine zb (za (R0 fun _=>st (Yo rfl (stn (ym (v:=Iv (-1)) (c:=[Iv 0,Iv 0,Iv 0,Iv 1,Iv 3,Iv 1,Iv 7]) (c':=[Iv 0,Iv 0,Iv 0,Iv 1,Iv 3,Iv (-1),Iv 7]) kR rfl rfl (cx.b8) rfl rfl rfl ?_)))))
 intro w763 gH
 have ok765:Cmd.Ok (⟨0,0,0,1,3, -1,7⟩:Cmd):=⟨(show InR (0)from dc),(show InR (0)from dc),(show InR (0)from dc),(show InR (1)from dc),(show InR (3)from dc),(show InR (-1)from dc),(show InR (7)from dc)⟩
 have cy:=cx.pt8 gH
 refine zb (za (R0 fun _=>st (YS rfl (stn (ym (v:=Iv (-1)) (c:=[Iv 0,Iv 0,Iv 0,Iv 1,Iv 3,Iv (-1),Iv 7]) (c':=[Iv 0,Iv 0,Iv 0,Iv 1,Iv (-1),Iv (-1),Iv 7]) kR rfl rfl (cy.b8) rfl rfl rfl ?_)))))
 intro w767 gI
 have cz:Cmd.Ok kX156:=⟨(show InR (0)from dc),(show InR (0)from dc),(show InR (0)from dc),(show InR (1)from dc),(show InR (-1)from dc),(show InR (-1)from dc),(show InR (7)from dc)⟩
 refine zb (za ?_)
 refine WD6 ((fun TT R S T U=>WF [fun vals O=>Sep G W (R::S::T::U::TT) O,fun vals O=> ∃(s:Nat) (t:Nat),(vals 0=(.agg #[(Iy s 1 1),Iz]:Value))∧Sep G W ((Blk s #[(Iy t 1 1)] 74)::(Blk t #[Iv 1,Iv 1,.bool true,Iz] 106)::R::S::T::U::TT) O,fun _ _=>True,fun vals O=> ∃(s:Nat) (t:Nat) (j:Value),(vals 0=(.agg #[(Iy s 1 1),Iz]:Value))∧(vals 4=(.tuple #[.agg (yf.1.cells j).toArray,.bool (yf.2.1),Iv (yf.2.2)]:Value))∧Sep G W ((RowE (α:=Fld) (shr G W) 106 (Iy t 1 1) [(⟨1,1,true,[]⟩:Fld)])::T::U::(DepO j (yf.1.deps))::R::S::TT) O,fun vals O=> ∃(J:Nat),(vals 9=(Ix J 0:Value))∧Sep G W ((Blk J #[Iv 0,Iv 0,Iv 0,(Iz),Iv 0,Iv 0,Iv 0,Iv 0,Iv 0,Iv 0] 44)::R::S::T::U::TT) O,fun vals O=> ∃(s:Nat) (t:Nat) (J:Nat),(vals 0=(.agg #[(Iy s 1 1),Iz]:Value))∧(vals 9=(Ix J 0:Value))∧Sep G W ((Blk s #[(Iy t 1 1)] 74)::(Blk t #[Iv 1,Iv 1,.bool true,Iz] 106)::(Blk J #[Iv 0,Iv 0,Iv 0,(Iz),Iv 0,Iv 0,Iv 0,Iv 0,Iv 0,Iv 0] 44)::R::S::T::U::TT) O,fun _ _=>True,fun vals O=> ∃(s:Nat) (t:Nat) (j:Value) (J:Nat),(vals 0=(.agg #[(Iy s 1 1),Iz]:Value))∧(vals 4=(.tuple #[.agg (yf.1.cells j).toArray,.bool (yf.2.1),Iv (yf.2.2)]:Value))∧(vals 9=(Ix J 0:Value))∧Sep G W ((Blk J #[Iv 0,Iv 0,Iv 0,(Iz),Iv 0,Iv 0,Iv 0,Iv 0,Iv 0,Iv 0] 44)::(RowE (α:=Fld) (shr G W) 106 (Iy t 1 1) [(⟨1,1,true,[]⟩:Fld)])::T::U::(DepO j (yf.1.deps))::R::S::TT) O,fun _ _=>True,fun _ _=>True,fun _ _=>True,fun _ _=>True,fun _ _=>True,fun _ _=>True,fun _ _=>True,fun vals O=> ∃(s:Nat) (t:Nat) (j:Value) (J:Nat),(vals 0=(.agg #[(Iy s 1 1),Iz]:Value))∧(vals 4=(.tuple #[.agg (yf.1.cells j).toArray,.bool (yf.2.1),Iv (yf.2.2)]:Value))∧(vals 9=(Ix J 0:Value))∧Sep G W ((Blk J (yf.1.cells j).toArray 44)::(RowE (α:=Fld) (shr G W) 106 (Iy t 1 1) [(⟨1,1,true,[]⟩:Fld)])::T::U::(DepO j (yf.1.deps))::R::S::TT) O]) ((DepO g (ye.1.deps))::iU::(RowE (α:=Fld) (shr G W) 106 (Iy x 1 1) [(⟨1,1,true,[]⟩:Fld)])::(DepO e (zV.1.deps))::(Blk Z (kX156.cells).toArray 49)::(RowE (α:=Fld) (shr G W) 106 (Iy ao 1 1) [(⟨1,1,true,[]⟩:Fld)])::Rs) (Blk I (ye.1.cells g).toArray 44) (RowE (α:=Fld) (shr G W) 106 (Iy p 1 1) [(⟨1,1,true,[]⟩:Fld)]) (SetO A 2 ([]:List Ev)) iT) (AF [fun _=>True,Vl 1 (Ix A 0),Vl 2 (Ix B 0),Vl 3 (.agg (kX156.cells).toArray),fun _=>True,fun vals=> ∀(j:Value),vals 4=(.tuple #[.agg (yf.1.cells j).toArray,.bool (yf.2.1),Iv (yf.2.2)]:Value)→vals 5=(.tuple #[.agg (yf.1.cells j).toArray,.bool (yf.2.1),Iv (yf.2.2)]:Value),fun vals=> ∀(j:Value),vals 4=(.tuple #[.agg (yf.1.cells j).toArray,.bool (yf.2.1),Iv (yf.2.2)]:Value)→vals 6=(.agg (yf.1.cells j).toArray:Value),Vl 7 (.bool (yf.2.1)),Vl 8 (Iv (yf.2.2)),fun _=>True,fun _=>True,Vl 11 (.bool (yf.2.1)),Vl 12 (Iv (yf.2.2))]) [[],[],[],[],(rg 4),(rg 5),(rg 6),(rg 6),(rg 6),[],[0,1,2,3,4,5,6,9],[0,1,2,3,4,5,6,7,9,10],(rg 12)] [0,4,9,10] [[0,4],[0,1,4,5],[0,1,4,5],[0,1,4,5],[1,5],[3,7],[3,7],[3,7,15],[3,7,15],[0,1,3],[7],[15],[15]] (cy.pt8 gI) ⟨?_,fun _ _ _ _ _ _=>obl rfl (mV (Ix A 0) dR),fun _ _ _ _ _ _=>obl rfl (mV (Ix B 0) dR),?_,?_,?_,?_,?_,?_,?_,?_,fun _ _ _ _ _ da=>obl rfl (zY (v:=.bool (yf.2.1)) (da 7 dc) dR),fun _ _ _ _ _ db=>obl rfl (zY (v:=Iv (yf.2.2)) (db 8 dc) dR),trivial⟩ ?_ (hlocA:=yX ⟨dT,dA,dA,dA,dT,fun vals u y h=>fun j H=>(y 5 (.inl rfl)).trans (h j ((y 4 (.inr dc)).symm.trans H)),fun vals u y h=>fun j H=>(y 6 (.inl rfl)).trans (h j ((y 4 (.inr dc)).symm.trans H)),dA,dA,dT,dT,dA,dA,trivial⟩)
 intro iI vals w915 gJ cC hA916
 have br:iI∈[0,4]:=gJ
 simp only[yt]at br
 rcases br with rfl|rfl
 have gK:Sep _ _ _ _:=cC
 refine obl rfl ((cL pT (xP gK) ?_))
 rintro _ w922 ⟨s,t,rfl,gL⟩
 exact fun u y m=>⟨(exiA s (exiA t (zx y gL))),trivial⟩
 obtain⟨J,Q,gM⟩:=cC
 refine obl rfl ((cL pT (xP gM) ?_))
 rintro _ w927 ⟨s,t,rfl,gN⟩
 exact fun u y m=>⟨(exiA s (exiA t (exiA J (zx y (zx ((m 9 dc).trans Q) gN))))),trivial⟩
 intro iJ vals w940 gO ad hA941
 have bs:iJ∈[0,1,4,5]:=gO
 simp only[yt]at bs
 rcases bs with rfl|rfl|rfl|rfl
 have gP:Sep _ _ _ _:=ad
 exact obl rfl (zh (k:=7) mT lT rfl rfl (CellsAt.all (gP.b8)) dR)
 obtain⟨s,t,L,gQ⟩:=ad
 exact obl rfl (zh (k:=7) mT lT rfl rfl (CellsAt.all (gQ.b10)) dR)
 obtain⟨J,Q,gR⟩:=ad
 exact obl rfl (zh (k:=7) mT lT rfl rfl (CellsAt.all (gR.b9)) dR)
 obtain⟨s,t,J,L,Q,gS⟩:=ad
 exact obl rfl (zh (k:=7) mT lT rfl rfl (CellsAt.all (gS.b11)) dR)
 intro iK vals aO gT cD Y
 have bt:iK∈[1,5]:=gT
 simp only[yt]at bt
 rcases bt with rfl|rfl
 obtain⟨s,t,L,gU⟩:=cD
 refine obl rfl ?_
 have cE:Sep _ _ ((RowE (α:=Fld) (shr G W) 106 (Iy t 1 1) [(⟨1,1,true,[]⟩:Fld)])::_) _:=Sep.blkRow (src:=(shr G W)) (l:=[(⟨1,1,true,[]⟩:Fld)]) (css:=[(⟨1,1,true,[]⟩:Fld).cells (Iz)]) (gU.mv1) rfl ⟨fun _ _=>⟨_,rfl,(RdS.nil _ _),(show Fld.Ok (⟨1,1,true,[]⟩:Fld)from⟨by decide,by decide⟩)⟩,trivial⟩ yqa (show 1≤maxLen by decide)
 have gV:=cE.r0
 have hr959s:_*48≤_:=gV.2
 obtain⟨dd,gW,cF,gX,gY⟩:=cE.lend
 have bu:=RowE.rdB gW cF
 have hrd966s:_*48≤_:=bu.small
 have cG:Sep _ _ ((RowE (α:=Typ) (shr dd aO) 74 (Iy s 1 1) [(⟨[(⟨1,1,true,[]⟩:Fld)]⟩:Typ)])::_) _:=Sep.blkRow (src:=(shr dd aO)) (l:=[(⟨[(⟨1,1,true,[]⟩:Fld)]⟩:Typ)]) (css:=[(⟨[(⟨1,1,true,[]⟩:Fld)]⟩:Typ).cells (Iy t 1 1)]) gX rfl ⟨fun _ _=>⟨_,rfl,bu,(show Typ.Ok (⟨[(⟨1,1,true,[]⟩:Fld)]⟩:Typ)from⟨⟩)⟩,trivial⟩ yqa (show 1≤maxLen by decide)
 have gZ:=cG.r0
 have hr968s:_*24≤_:=gZ.2
 obtain⟨G969,ha,cH,hb,hc⟩:=cG.lend
 have bv:=RowE.rdB ha cH
 have hrd975s:_*24≤_:=bv.small
 obtain⟨G977,cI,cJ,hd,he⟩:=(hb.mv2).lend
 obtain⟨vv983,m984,R985,hb986,hf,hr988⟩:=SetO.sh cI
 have hsm989:(zu 2 ([]:List Ev)).length*8≤140737488355328:=hf.small
 refine(zH (f:=11) (vals:=[.agg (dF.cells (Iy s 1 1) (Iz)).toArray,Ix A 0,Ix B 0,Iv 1,Iv 10,.agg (kX156.cells).toArray]) (cap:=[]) rfl (yE ⟨L,(Y 1 dc),(Y 2 dc),rfl,rfl,(Y 3 dc),trivial⟩) qT (Yq (d:=dF) (o:=1) (start:=10) (c:=kX156) (RdS.base bv cJ) (RdS.nil _ _) (⟨⟩:Dcl.Ok dF) cI dc dc cz (RdS.base (RdS.base (RdS.base hKN cF) cH) cJ) (hd.mv2) (Ws) ((Inv.nil dF)) ((Nat.zero_le _)) (List.Pairwise.nil) ((Good.nil (n:=2)).srt) ((Nat.zero_le _)) (dc)) ?_)
 rintro _ w992 ⟨j,rfl,hg⟩
 have hh:=he _ _ hg
 have hi:=hc _ _ hh
 have hj:=gY _ _ hi
 exact fun u y m=>⟨(exiA s (exiA t (exiA j (zx ((m 0 dc).trans L) (zx y (hj.s13_acdefghijklm)))))),trivial⟩
 obtain⟨s,t,J,L,Q,hk⟩:=cD
 refine obl rfl ?_
 have bw:Sep _ _ ((RowE (α:=Fld) (shr G W) 106 (Iy t 1 1) [(⟨1,1,true,[]⟩:Fld)])::_) _:=Sep.blkRow (src:=(shr G W)) (l:=[(⟨1,1,true,[]⟩:Fld)]) (css:=[(⟨1,1,true,[]⟩:Fld).cells (Iz)]) (hk.mv1) rfl ⟨fun _ _=>⟨_,rfl,(RdS.nil _ _),(show Fld.Ok (⟨1,1,true,[]⟩:Fld)from⟨by decide,by decide⟩)⟩,trivial⟩ yqa (show 1≤maxLen by decide)
 have de:=bw.r0
 have hr1004s:_*48≤_:=de.2
 obtain⟨cK,df,bx,dg,dh⟩:=bw.lend
 have ap:=RowE.rdB df bx
 have hrd1011s:_*48≤_:=ap.small
 have bz:Sep _ _ ((RowE (α:=Typ) (shr cK aO) 74 (Iy s 1 1) [(⟨[(⟨1,1,true,[]⟩:Fld)]⟩:Typ)])::_) _:=Sep.blkRow (src:=(shr cK aO)) (l:=[(⟨[(⟨1,1,true,[]⟩:Fld)]⟩:Typ)]) (css:=[(⟨[(⟨1,1,true,[]⟩:Fld)]⟩:Typ).cells (Iy t 1 1)]) dg rfl ⟨fun _ _=>⟨_,rfl,ap,(show Typ.Ok (⟨[(⟨1,1,true,[]⟩:Fld)]⟩:Typ)from⟨⟩)⟩,trivial⟩ yqa (show 1≤maxLen by decide)
 have di:=bz.r0
 have hr1013s:_*24≤_:=di.2
 obtain⟨G1014,dj,bA,dk,dl⟩:=bz.lend
 have aq:=RowE.rdB dj bA
 have hrd1020s:_*24≤_:=aq.small
 obtain⟨G1022,bB,bC,dm,dp⟩:=(dk.mv3).lend
 obtain⟨vv1028,m1029,R1030,hb1031,dq,hr1033⟩:=SetO.sh bB
 have hsm1034:(zu 2 ([]:List Ev)).length*8≤140737488355328:=dq.small
 refine(zH (f:=11) (vals:=[.agg (dF.cells (Iy s 1 1) (Iz)).toArray,Ix A 0,Ix B 0,Iv 1,Iv 10,.agg (kX156.cells).toArray]) (cap:=[]) rfl (yE ⟨L,(Y 1 dc),(Y 2 dc),rfl,rfl,(Y 3 dc),trivial⟩) qT (Yq (d:=dF) (o:=1) (start:=10) (c:=kX156) (RdS.base aq bC) (RdS.nil _ _) (⟨⟩:Dcl.Ok dF) bB dc dc cz (RdS.base (RdS.base (RdS.base hKN bx) bA) bC) (dm.mv3) (Ws) ((Inv.nil dF)) ((Nat.zero_le _)) (List.Pairwise.nil) ((Good.nil (n:=2)).srt) ((Nat.zero_le _)) (dc)) ?_)
 rintro _ w1037 ⟨j,rfl,dr⟩
 have ds:=dp _ _ dr
 have dt:=dl _ _ ds
 have du:=dh _ _ dt
 exact fun u y m=>⟨(exiA s (exiA t (exiA j (exiA J (zx ((m 0 dc).trans L) (zx y (zx ((m 9 dc).trans Q) ((du.s14_acdefghijklmn).mv4)))))))),trivial⟩
 intro hl vals w1045 dv bD hA1046
 have ar:hl∈[3,7]:=dv
 simp only[yt]at ar
 rcases ar with rfl|rfl
 obtain⟨s,t,j,L,F,hS1049⟩:=bD
 refine obl rfl (yi (v:=.tuple #[.agg (yf.1.cells j).toArray,.bool (yf.2.1),Iv (yf.2.2)]) F (fun u y m=>⟨rfl,?_⟩))
 intro ag H
 rw[m 4 (by decide)]at H;cases F.symm.trans H
 exact y
 obtain⟨s,t,j,J,L,F,Q,hS1050⟩:=bD
 refine obl rfl (yi (v:=.tuple #[.agg (yf.1.cells j).toArray,.bool (yf.2.1),Iv (yf.2.2)]) F (fun u y m=>⟨rfl,?_⟩))
 intro ag H
 rw[m 4 (by decide)]at H;cases F.symm.trans H
 exact y
 intro hm vals w1052 dw bE bF
 have au:hm∈[3,7]:=dw
 simp only[yt]at au
 rcases au with rfl|rfl
 obtain⟨s,t,j,L,F,hS1056⟩:=bE
 let bo:=(yf.1.cells j)
 have hn:vals 5=(.tuple #[.agg bo.toArray,.bool (yf.2.1),Iv (yf.2.2)]:Value):=bF 5 dc j F
 refine obl rfl (zm (vs:=[.agg bo.toArray,.bool (yf.2.1),Iv (yf.2.2)]) (i:=0) (v:=.agg bo.toArray) hn rfl (fun u y m=>⟨rfl,?_⟩))
 intro ag H
 rw[m 4 (by decide)]at H;cases F.symm.trans H
 exact y
 obtain⟨s,t,j,J,L,F,Q,hS1058⟩:=bE
 let eh:=(yf.1.cells j)
 have ho:vals 5=(.tuple #[.agg eh.toArray,.bool (yf.2.1),Iv (yf.2.2)]:Value):=bF 5 dc j F
 refine obl rfl (zm (vs:=[.agg eh.toArray,.bool (yf.2.1),Iv (yf.2.2)]) (i:=0) (v:=.agg eh.toArray) ho rfl (fun u y m=>⟨rfl,?_⟩))
 intro ag H
 rw[m 4 (by decide)]at H;cases F.symm.trans H
 exact y
 intro hp vals w1061 dx ah ai
 have av:hp∈[3,7,15]:=dx
 simp only[yt]at av
 rcases av with rfl|rfl|rfl
 obtain⟨s,t,j,L,F,hS1065⟩:=ah
 let iV:=(yf.1.cells j)
 have hq:vals 5=(.tuple #[.agg iV.toArray,.bool (yf.2.1),Iv (yf.2.2)]:Value):=ai 5 dc j F
 exact obl rfl (zm (vs:=[.agg iV.toArray,.bool (yf.2.1),Iv (yf.2.2)]) (i:=1) (v:=.bool (yf.2.1)) hq rfl dR)
 obtain⟨s,t,j,J,L,F,Q,hS1067⟩:=ah
 let iW:=(yf.1.cells j)
 have hr:vals 5=(.tuple #[.agg iW.toArray,.bool (yf.2.1),Iv (yf.2.2)]:Value):=ai 5 dc j F
 exact obl rfl (zm (vs:=[.agg iW.toArray,.bool (yf.2.1),Iv (yf.2.2)]) (i:=1) (v:=.bool (yf.2.1)) hr rfl dR)
 obtain⟨s,t,j,J,L,F,Q,hS1069⟩:=ah
 let iX:=(yf.1.cells j)
 have hs:vals 5=(.tuple #[.agg iX.toArray,.bool (yf.2.1),Iv (yf.2.2)]:Value):=ai 5 dc j F
 exact obl rfl (zm (vs:=[.agg iX.toArray,.bool (yf.2.1),Iv (yf.2.2)]) (i:=1) (v:=.bool (yf.2.1)) hs rfl dR)
 intro ht vals w1072 dy aj ak
 have aw:ht∈[3,7,15]:=dy
 simp only[yt]at aw
 rcases aw with rfl|rfl|rfl
 obtain⟨s,t,j,L,F,hS1076⟩:=aj
 let iY:=(yf.1.cells j)
 have hu:vals 5=(.tuple #[.agg iY.toArray,.bool (yf.2.1),Iv (yf.2.2)]:Value):=ak 5 dc j F
 exact obl rfl (zm (vs:=[.agg iY.toArray,.bool (yf.2.1),Iv (yf.2.2)]) (i:=2) (v:=Iv (yf.2.2)) hu rfl dR)
 obtain⟨s,t,j,J,L,F,Q,hS1078⟩:=aj
 let iZ:=(yf.1.cells j)
 have hw:vals 5=(.tuple #[.agg iZ.toArray,.bool (yf.2.1),Iv (yf.2.2)]:Value):=ak 5 dc j F
 exact obl rfl (zm (vs:=[.agg iZ.toArray,.bool (yf.2.1),Iv (yf.2.2)]) (i:=2) (v:=Iv (yf.2.2)) hw rfl dR)
 obtain⟨s,t,j,J,L,F,Q,hS1080⟩:=aj
 let ja:=(yf.1.cells j)
 have hx:vals 5=(.tuple #[.agg ja.toArray,.bool (yf.2.1),Iv (yf.2.2)]:Value):=ak 5 dc j F
 exact obl rfl (zm (vs:=[.agg ja.toArray,.bool (yf.2.1),Iv (yf.2.2)]) (i:=2) (v:=Iv (yf.2.2)) hx rfl dR)
 intro hy vals w1083 dz al hA1084
 have ax:hy∈[0,1,3]:=dz
 simp only[yt]at ax
 rcases ax with rfl|rfl|rfl
 have dB:Sep _ _ _ _:=al
 refine obl rfl ((zq nT ?_))
 intro w1090 J dC
 exact fun u y m=>⟨(exiA J (zx y (dB.new dC))),trivial⟩
 obtain⟨s,t,L,dD⟩:=al
 refine obl rfl ((zq nT ?_))
 intro w1095 J dE
 exact fun u y m=>⟨(exiA s (exiA t (exiA J (zx ((m 0 dc).trans L) (zx y ((dD.new dE).s13_bcadefghijklm)))))),trivial⟩
 obtain⟨s,t,j,L,F,dG⟩:=al
 refine obl rfl ((zq nT ?_))
 intro w1101 J dH
 exact fun u y m=>⟨(exiA s (exiA t (exiA j (exiA J (zx ((m 0 dc).trans L) (zx ((m 4 dc).trans F) (zx y (dG.new dH)))))))),trivial⟩
 intro hz vals w1104 dI dJ dK
 have ay:hz∈[7]:=dI
 simp only[yt]at ay
 subst ay
 obtain⟨s,t,j,J,L,F,Q,am⟩:=dJ
 let fD:=(yf.1.cells j)
 refine obl rfl ?_
 have hA:vals 6=(.agg fD.toArray:Value):=dK 6 dc j F
 refine(zp (v:=.agg fD.toArray) (c':=fD.toArray) kT Q hA (am.b0) (zX ⟨rfl,rfl,rfl,(am.depSl (i:=4) rfl).one,rfl,rfl,rfl,rfl,rfl,rfl,trivial⟩) yqc rfl ?_)
 intro w1110 dL
 exact fun u y m=>⟨(exiA s (exiA t (exiA j (exiA J (zx ((m 0 dc).trans L) (zx ((m 4 dc).trans F) (zx ((m 9 dc).trans Q) (am.pt0 dL)))))))),trivial⟩
 intro vals w1125 dM dN
 obtain⟨s,t,j,J,L,F,Q,dO⟩:=dM
 have hB:=dN 12 dc
 refine zT (kv:=[(0,.bool false),(15,.agg #[(Iy bJ 1 1),Iz]),(16,.tuple #[Ix A 0,Ix B 0]),(14,.tuple #[Ix A 0,Ix B 0]),(17,Ix A 0),(18,Ix B 0),(1,Ix A 0),(2,Ix B 0),(19,Ix A 0),(20,.bool false),(21,.bool false),(22,Ix B 0),(23,.bool false),(24,.bool false),(25,.agg (kX154.cells).toArray),(3,Ix Z 0),(4,Ix C 0),(5,.bool (zV.2.1)),(6,Iv (zV.2.2)),(35,Ix Z 5),(9,Iv (ye.2.2)),(45,Ix Z 5),(46,Ix Z 4),(12,Iv (yf.2.2))]) ⟨rfl,rfl,rfl,rfl,rfl,rfl,rfl,rfl,rfl,rfl,rfl,rfl,rfl,rfl,rfl,rfl,rfl,rfl,rfl,rfl,rfl,rfl,rfl,(by exact hB),trivial⟩ (fun ρw1125=>?_)
 refine zb (za (yq (by kernel_rfl) (fun _=>(st (zL (parts':=[(0,Iv 1),(1,Iv 1)]) (v:=.agg #[Iv 1,Iv 1]) rfl (by simp+zetaDelta [Instr.build,Instr.fill,Ev.cells,go_sem,Mv.cells,Fld.cells,Typ.cells,Prj.cells,Dcl.cells,Cel.cells,AskR.cells,CelS.cells,Ev.cells,Ent.cells,Sta.cells,Cmd.cells]) (st (zI (k:=1) (parts':=[(0,Iv 0),(1,Iv 0)]) (c:=#[Iv 0,Iv 0]) Tryz.underlying42 kR Tryz.zeroValue3 (by decide) rfl (by kernel_rfl) ?_)))))))
 intro w1132 aa dP
 let iS:=((⟨1,1,11,[0,0],0,0,0,1,3,7⟩:Ev).cells (Iy aa 2 2))
 have bG:Sep _ _ ((RowE (α:=Int) own 3 (Iy aa 2 2) [0,0])::_) _:=Sep.blkRow (src:=own) (l:=[0,0]) (css:=[[Iv 0],[Iv 0]]) (dO.new dP) rfl ⟨fun _ _=>⟨rfl,(by decide)⟩,fun _ _=>⟨rfl,(by decide)⟩,trivial⟩ yqa (show 2≤maxLen by decide)
 have dQ:=bG.r0
 have hr1135s:_*8≤_:=dQ.2
 have dS:Ev.Ok (⟨1,1,11,[0,0],0,0,0,1,3,7⟩:Ev):=⟨(show InR (1)from dc),(show InR (1)from dc),(show InR (11)from dc),(show InR (0)from dc),(show InR (0)from dc),(show InR (0)from dc),(show InR (1)from dc),(show InR (3)from dc),(show InR (7)from dc)⟩
 refine st (zL (parts':=[(0,.agg #[Iv 1,Iv 1]),(1,Iv 11),(2,(Iy aa 2 2)),(6,Iv 1),(7,Iv 3),(8,Iv 7)]) (v:=.agg iS.toArray) rfl (by simp+zetaDelta [Instr.build,Instr.fill,Ev.cells,go_sem,Mv.cells,Fld.cells,Typ.cells,Prj.cells,Dcl.cells,Cel.cells,AskR.cells,CelS.cells,Ev.cells,Ent.cells,Sta.cells,Cmd.cells]) (st (zq nT ?_)))
 intro w1139 b1138 dU
 have bH:=bG.new dU
 refine stn (zp (v:=.agg iS.toArray) (c':=iS.toArray) kT rfl rfl (bH.b0) (zX ⟨rfl,rfl,rfl,rfl,rfl,rfl,rfl,rfl,rfl,rfl,trivial⟩) yqc rfl ?_)
 intro w1141 dV
 have an:=bH.pt0 dV
 refine zb (za (zA kr (st (mV (.bool (zV.2.1)) (st (mV (.bool (zV.2.1)) ?_))))))
 have cM:(zV.2.1)=true:=yqf
 rw[cM]
 refine sty rfl rfl (mV (Iv (zV.2.2)) (sty rfl rfl (zR (k:=.i64) (a:=zV.2.2) (b:=0) rfl rfl ?_)))
 have cN:(decide ((zV.2.2)=0))=true:=yqf
 rw[cN]
 refine st (yz (v:=.bool true) rfl rfl (st (mV (.bool true) (sty rfl rfl (zh (k:=10) oT kT rfl rfl (CellsAt.all (an.b10)) (sty rfl rfl (zh (k:=10) oT kT rfl rfl (CellsAt.all (an.b0)) ?_)))))))
 obtain⟨G1147,dW,hB1150,dX,dY⟩:=(an.mv12).lend
 have bI:=DepO.rd dW
 have hsm1154:(zV.1.deps).length*8≤140737488355328:=bI.small
 obtain⟨G1156,dZ,ea,eb,ec⟩:=(dX.mv1).lend
 have az:=RowE.rd dZ
 have hrd1162s:_*8≤_:=az.small
 refine sty rfl rfl (cL Tryz.call13 (Zx (a:=zV.1) (b:=(⟨1,1,11,[0,0],0,0,0,1,3,7⟩:Ev)) (RdS.base bI ea) (Ki (by constructor<;>decide) dc dc (fun _ h=>absurd h List.not_mem_nil) dc) az dS eb) ?_)
 rintro _ hC ⟨rfl,ed⟩
 have ee:=ec _ _ ed
 have ef:=dY _ _ ee
 have cO:(decide ((zV.1)=(⟨1,1,11,[0,0],0,0,0,1,3,7⟩:Ev)))=true:=yqf
 rw[cO]
 refine st (yz (v:=.bool true) rfl rfl (st (mV (.bool true) (sty rfl rfl (mV (Iv (ye.2.2)) (sty rfl rfl (zR (k:=.i64) (a:=ye.2.2) (b:=11) rfl rfl ?_)))))))
 have cP:(decide ((ye.2.2)=11))=true:=yqf
 rw[cP]
 refine st (yz (v:=.bool true) rfl rfl (st (mV (.bool true) (sty rfl rfl (mV (Iv (yf.2.2)) (sty rfl rfl (zR (k:=.i64) (a:=yf.2.2) (b:=10) rfl rfl ?_)))))))
 have cQ:(decide ((yf.2.2)=10))=true:=yqf
 rw[cQ]
 refine st (yz (v:=.bool true) rfl rfl (st (aS (.bool true) (zb (zk (zG Tryz.results6 (show _=(.bool true:Value)from rfl) ?_))))))
 have eg:Sep G W Rs hC:=ef.sel 15 [] (Nat.le_add_left _ _) rfl rfl
 refine⟨rfl,eg⟩
section
variable {d:Dcl}{n:Nat}{L:List Ev}{V:List Ent}{o start lam:Int}{c:Cmd}
theorem mayL_two {t:Typ}{cs:List Cel}{f op arg:Int}:yH t cs f op arg=0∨yH t cs f op arg=10:=by unfold yH;split<;>simp
end
theorem Sep.setOks {G:Nat→Prop}{W w:World}{As:List HP}{b n:Nat}{L:List Ev}(h:Sep G W As w){i:Nat}(hi:As[i]? =some (SetO b n L))(hid:(L.map idE).Nodup): ∀e∈L,e.Ok:=by
 obtain⟨f,hA,_⟩:=h.get hi
 obtain⟨vv,m,R,_,_,hr⟩:=SetO.sh hA
 exact zcY hr hid
end
end Go.Proofs.YtbcdijeggfoabaaGreatDoor
